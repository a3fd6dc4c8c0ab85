/- Walks and plain laws, part 4: what functions compute, proved once each (Rng2, Rng3, MergeE, MergeE2, TreeE14, TreeL, MergeE3, MergeE4, MergeE5, LayP, Bld, Grow, Lay, PathP, BldE, PathE). -/
import Derived.Test.YtejkmomfpidnbacGreatPart3
import Derived.RangeFuncBound
import Derived.Test.YtejkmomfpidnbacGreatPart2
import Derived.Lib.Builder
import Derived.Lib.UnsafeStr
import Derived.Lib.MakeNoZero
import Derived.Lib.Bytealg
import Derived.Laws.Externs
import Derived.Test.YtejkmomfpidnbacGreatPart1
set_option linter.unusedSimpArgs false
set_option linter.unusedVariables false
namespace Go.Proofs.YtejkmomfpidnbacGreat
open Go.RowKit
section
def GoI (P : Program) (B : Base) (N : Nat) (ops : Array Oper) (Q : Exit → Act → World → Prop) (rest : List Oper) (F : List (Nat × Value)) (V : View) (L : List Box) : Prop := ∀ a w, Kn N F a → St B V L w → wpListIn Fence.wide 2 P ops Q rest a w
section
variable {P : Program} {B : Base} {N : Nat} {Q : Exit → Act → World → Prop} {ops : Array Oper} {rest : List Oper} {F : List (Nat × Value)} {V : View} {L : List Box} {k : List Cont}
variable {op : Op} {ty : TypeId} {pos : String} {af : Array Edge}
theorem gc_regionI {id : Nat} {l : List Oper} (h : GoI P B N l.toArray (evalQ P Q k) l F V L) : GoC P B N (.region id l.toArray false) Q k F V L := fun a w ha hs => wpIn_wide.1 (wpIn_region_lit (h a w ha hs))
theorem gi_nil (h : AtQ P B N Q k .normal F V L) : GoI P B N ops (evalQ P Q k) [] F V L := fun a w ha hs => h a w ha hs
theorem gi_q {t : Nat} {v : Value} (hd : okD N (some t) = true) (hq : QP P B N V L ⟨some t, op, ty, pos, af, none⟩ F v) (h : GoI P B N ops Q rest ((t, v) :: F) V L) : GoI P B N ops Q (⟨some t, op, ty, pos, af, none⟩ :: rest) F V L := fun a w ha hs => by
  unfold wpListIn
  rw [if_pos (by simp [Region.wanted])]
  refine ⟨fun _ _ => trivial, ?_⟩
  show Oper.uponIn _ _ _ _ _ _ _ ((execOp a.eval _).run P w)
  rw [hq a w ha hs]
  exact h _ w (ha.put hd v) hs
theorem exec_yield {F : List (Nat × Value)} {a : Act} (ha : Kn N F a) {d : Option Tmp} {gd : Option (Nat × Bool)} {fo : Operand} {args : List Operand} {ats : Array TypeId} {vs : List Value} {l : Nat} (hf : evF F fo = some (.func (.yield l) #[] #[])) (hv : evL F args = some vs) (w : World) :
    (execOp a.eval ⟨d, .call ⟨.value fo, args.toArray, ats⟩, ty, pos, af, gd⟩).run P w = (Instr.yield l vs.toArray).run P w := by
  have h1 := ha.ev hf
  have h2 := ha.evL hv
  simp [execOp, resolve, h1, h2, Deferred.ofValue, invoke]
/-- A round. -/
theorem gi_yield {t l : Nat} {fo : Operand} {args : List Operand} {ats : Array TypeId} {vs : List Value} {Rb : Bool → World → Prop} (Vb : Bool → View) (hd : okD N (some t) = true) (hf : evF F fo = some (.func (.yield l) #[] #[])) (hv : evL F args = some vs)
    (hY : ∀ w, St B V L w → YieldAt Fence.wide 1 P l vs.toArray w fun e w' => ∃ b, e = .returned (.bool b) ∧ Rb b w') (hV : ∀ b w', Rb b w' → VIn (Vb b) w')
    (h : ∀ b w', Rb b w' → GoI P ⟨Vb b, w', []⟩ N ops Q rest ((t, .bool b) :: F) (Vb b) []) : GoI P B N ops Q (⟨some t, .call ⟨.value fo, args.toArray, ats⟩, ty, pos, af, none⟩ :: rest) F V L := fun a w ha hs => by
  unfold wpListIn
  rw [if_pos (by simp [Region.wanted])]
  refine ⟨fun _ _ => trivial, ?_⟩
  have hsem : ∀ o : Oper, Oper.semAt Fence.wide.round a.eval o = execOp a.eval o := fun _ => rfl
  rw [hsem]
  obtain ⟨fn, tmps, assign, body, hy, hR⟩ := hY w hs
  rw [exec_yield ha hf hv w, hy]
  refine ⟨fun hh => (by cases hh), hR.mono ?_⟩
  rintro e w' ⟨b, rfl, hb⟩
  exact h b w' hb _ w' (ha.put hd _) ⟨Exc.refl _ w', fun p x hp => ⟨hV b w' hb p x hp, by simp⟩, fun p x hp _ => hp, VLe.refl (Vb b), by simp, by simp⟩
/-- A loop in which the base may be laid anew. -/
theorem gc_loopB {c : Code} (J : Base → List (Nat × Value) → View → List Box → Nat → Prop) {F' : List (Nat × Value)} {L' : List Box} {m : Nat} (h0 : J B F' V L' m) (hF : ∀ p ∈ F', look F p.1 = some p.2) (hL : L'.Sublist L)
    (round : ∀ B F V L m, J B F V L m → GoC P B N c Q (.thn (fun a w => ∃ B' F' V' L' m', m' < m ∧ J B' F' V' L' m' ∧ Kn N F' a ∧ St B' V' L' w) :: k) F V L) : GoC P B N (.loop c) Q k F V L := by
  intro a w ha hs
  have key : ∀ n B F V L a w, J B F V L n → Kn N F a → St B V L w → (Code.loop c).wp P (evalQ P Q k) a w := by
    intro n B F V L a w hJ ha hs
    let I : Act → World → Nat → Prop := fun a w n => ∃ B F V L, J B F V L n ∧ Kn N F a ∧ St B V L w
    classical
    have hex : ∀ a w, (∃ n, I a w n) → ∃ n, I a w n ∧ ∀ k, k < n → ¬ I a w k := fun a w ⟨n, hn⟩ => by
      induction n using Nat.strongRecOn with
      | _ n ih =>
        by_cases h : ∃ k, k < n ∧ I a w k
        · obtain ⟨k, hk, hI⟩ := h; exact ih k hk hI
        · exact ⟨n, hn, fun k hk hI => h ⟨k, hk, hI⟩⟩
    let μ : Act → World → Nat := fun a w => if h : ∃ n, I a w n then Classical.choose (hex a w h) else 0
    refine wp_loop (fun a w => ∃ n, I a w n) μ ⟨n, B, F, V, L, hJ, ha, hs⟩ fun a w h => ?_
    have hμ := Classical.choose_spec (hex a w h)
    have hμe : μ a w = Classical.choose (hex a w h) := dif_pos h
    obtain ⟨⟨B, F, V, L, hJ, ha, hs⟩, _⟩ := hμ
    refine Code.wp_mono (fun e a' w' q => ?_) (round B F V L _ hJ a w ha hs)
    cases e with
    | normal =>
      obtain ⟨B', F', V', L', m', hlt, hJ', ha', hs'⟩ := q
      have h' : ∃ n, I a' w' n := ⟨m', B', F', V', L', hJ', ha', hs'⟩
      refine ⟨h', ?_⟩
      have hμe' : μ a' w' = Classical.choose (hex a' w' h') := dif_pos h'
      have hmin := (Classical.choose_spec (hex a' w' h')).2 m'
      rw [hμe, hμe']
      rcases Nat.lt_or_ge m' (Classical.choose (hex a' w' h')) with hl | hl
      · exact absurd ⟨B', F', V', L', hJ', ha', hs'⟩ (hmin hl)
      · omega
    | exit i => exact q
    | goto l => exact q
    | ret => exact q
    | panic ch => exact q
    | outgrown => exact q
  exact key m B F' V L' a w h0 (ha.less hF) (hs.drop hL)
theorem at_roundB {J : Base → List (Nat × Value) → View → List Box → Nat → Prop} {m : Nat} (F' : List (Nat × Value)) {L' : List Box} (m' : Nat) (hJ : J B F' V L' m') (hm : m' < m) (hF : ∀ p ∈ F', look F p.1 = some p.2) (hL : L'.Sublist L) :
    AtQ P B N Q (.thn (fun a w => ∃ B' F' V' L' m', m' < m ∧ J B' F' V' L' m' ∧ Kn N F' a ∧ St B' V' L' w) :: k) .normal F V L := fun a w ha hs => ⟨B, F', V, L', m', hm, hJ, ha.less hF, hs.drop hL⟩
end
/-- What an iterator hands back. -/
def ItEnd {α : Type} (J Jx : List α → World → Prop) (S Sp : List α → Prop) (e : Ending) (W' : World) : Prop := (∃ v, e = .returned v) ∧ ((∃ xs, S xs ∧ J xs W') ∨ (∃ pre, Sp pre ∧ Jx pre W'))
theorem at_endI {P : Program} {B : Base} {N : Nat} {F : List (Nat × Value)} {V : View} {L : List Box} {fn : Func} {α : Type} {J Jx : List α → World → Prop} {S Sp : List α → Prop} {e : Exit} (he : e = .normal ∨ e = .ret) (hr : fn.results = #[]) (h : ∀ w, St B V L w → (∃ xs, S xs ∧ J xs w) ∨ (∃ pre, Sp pre ∧ Jx pre w)) : AtQ P B N (bodyPost P fn (ItEnd J Jx S Sp)) [] e F V L := fun a w ha hs => by
  have key : a.defers = [] ∧ ∃ v, (results fn a.tmps).run P w = .ok v w ∧ ItEnd J Jx S Sp (.returned v) w := ⟨ha.1, .tuple #[], by simp [results, hr], ⟨_, rfl⟩, h w hs⟩
  rcases he with rfl | rfl <;> exact key
theorem seq_of {α : Type} {P : Program} {gf NN Nm : Nat} {fn : Func} {c : Code} {lb : List Value} {encs : α → Array Value} {V : View} {S Sp : List α → Prop} (hf : P.funcs[gf]? = some fn) (hb : fn.body = some c) (hN : fn.ntmps = NN) (hsz : Nat.ble (1 + lb.length) NN = true)
    (h : ∀ (l : Nat) (J Jx : List α → World → Prop) (W : World), (∀ s W1 W', J s W1 → Exc [] W1 W' → J s W') → (∀ s W1 W', Jx s W1 → Exc [] W1 W' → Jx s W') →
      (∀ pre x W1, J pre W1 → VIn V W1 → pre.length < Nm → YieldAt Fence.wide 1 P l (encs x) W1 fun e W' => ∃ b, e = .returned (.bool b) ∧ ((b = true ∧ J (pre ++ [x]) W' ∧ VIn V W') ∨ (b = false ∧ Jx (pre ++ [x]) W'))) → J [] W →
      GoC P ⟨V, W, []⟩ NN c (bodyPost P fn (ItEnd J Jx S Sp)) [] (argsF (.func (.yield l) #[] #[] :: lb) 0) V []) :
    ∀ w, VIn V w → SeqStopsK Fence.wide 2 P gf lb.toArray encs (KeepV V) S Sp Nm w := fun w hV l J Jx W hW hJ hJx hY h0 => by
  have hVW : VIn V W := fun p x hp => by
    have h1 := hV p x hp
    obtain ⟨o, ho, _⟩ := cells_of_cell h1
    have h2 : p.block < w.heap.size := (Array.getElem?_eq_some_iff.1 ho).1
    exact (World.cell?_of_block (hW.block _ h2)).trans h1
  have hgr : ∀ {X Y : World}, Exc [] X Y → X.grownBy Y none := fun h => ⟨h.os, h.tape, h.output, h.sz, fun k hk _ => h.block k hk (by simp)⟩
  have hg := h l J Jx W (fun s X Y hs hx => hJ s X Y none hs (hgr hx) (fun r e => by cases e)) (fun s X Y hs hx => hJx s X Y none hs (hgr hx) (fun r e => by cases e))
    (fun pre x W1 hj hv hl => YieldAt.mono (hY pre x W1 hj hl) fun e W' hr => by
      rcases hr with ⟨rfl, h1, h2⟩ | ⟨rfl, h1⟩
      · exact ⟨true, rfl, .inl ⟨rfl, h1, fun p y hp => h2.cell p y hp (hv p y hp)⟩⟩
      · exact ⟨false, rfl, .inr ⟨rfl, h1⟩⟩) h0
  refine callsIn_wide.2 (calls_of_wp hf hb ?_)
  have hargs : (#[.func (.yield l) #[] #[]] ++ lb.toArray : Array Value) = (.func (.yield l) #[] #[] :: lb : List Value).toArray := by simp
  rw [hargs]
  refine hg _ W ⟨rfl, ?_, fun t v hv => ?_⟩ ⟨Exc.refl _ W, fun p x hp => ⟨hVW p x hp, by simp⟩, fun p x hp _ => hp, VLe.refl V, by simp, by simp⟩
  · have := Nat.le_of_ble_eq_true hsz
    simp [hN]; omega
  · obtain ⟨_, h2⟩ := look_args _ 0 t v hv
    generalize (.func (.yield l) #[] #[] :: lb : List Value) = args at *
    have hlt : t < args.length := by
      rcases Nat.lt_or_ge t args.length with hl | hl
      · exact hl
      · rw [List.getElem?_eq_none (by omega)] at h2; cases h2
    rw [List.getElem?_eq_getElem (by omega)] at h2
    simp only [Nat.sub_zero] at h2
    injection h2 with h2
    simp [Array.getElem?_append, hlt, h2]
end
section
theorem fn_enterM {P : Program} {N : Nat} {V : View} {f : FuncId} {fn : Func} {c : Code} {args : List Value} {R : Value → View → Prop} (hf : P.funcs[f]? = some fn) (hb : fn.body = some c) (hN : fn.ntmps = N) (hsz : Nat.ble args.length N = true)
    (h : ∀ w, GoC P ⟨V, w, []⟩ N c (bodyPostM Fence.wide 3 P fn (FnEnd V w R)) [] (argsF args 0) V []) : Fn P f args V R := fun w hV => by
  refine callsIn_wide.1 (callsIn_of_wp_marks (n := 3) hf hb trivial (wpIn_wide.2 (h w _ w ⟨rfl, ?_, fun t v hv => ?_⟩ ⟨Exc.refl _ w, fun p x hp => ⟨hV p x hp, by simp⟩, fun p x hp _ => hp, VLe.refl V, by simp, by simp⟩)))
  · have := Nat.le_of_ble_eq_true hsz
    simp [hN]; omega
  · obtain ⟨_, h2⟩ := look_args args 0 t v hv
    have hlt : t < args.length := by
      rcases Nat.lt_or_ge t args.length with hl | hl
      · exact hl
      · rw [List.getElem?_eq_none (by omega)] at h2; cases h2
    rw [List.getElem?_eq_getElem (by omega)] at h2
    simp only [Nat.sub_zero] at h2
    injection h2 with h2
    simp [Array.getElem?_append, hlt, h2]
/-- Load, call, hand back. -/
theorem tail_call {P : Program} {V0 V' : View} {w0 W : World} {N D id f t1 t2 t3 : Nat} {F : List (Nat × Value)} {L : List Box} {a : Act} {fn : Func} {Rf R' : Value → View → Prop} {op1 : Op} {v1 : Value} {ty1 ty2 ty3 : TypeId} {p1 p2 p3 : String} {af1 af2 af3 : Array Edge} {ats : Array TypeId}
    (hres : fn.results = #[.tmp t3]) (ha : Kn N F a) (hs : St ⟨V0, w0, []⟩ V' L W) (hD : W.heap[D]? = some (.deferred (some []))) (hDw : w0.heap.size ≤ D) (hcl : ∀ b ∈ L, ∃ E, b.t = .cells E) (he : Enters P f)
    (hd1 : okD N (some t1) = true) (hd2 : okD N (some t2) = true) (hd3 : okD N (some t3) = true)
    (h1 : QP P ⟨V0, w0, []⟩ N V' L ⟨some t1, op1, ty1, p1, af1, none⟩ F v1) (hc : Fn P f [v1] V' R') (hR : ∀ v V'', VLe V' V'' → R' v V'' → Rf v V'') :
    ((Code.region id #[⟨some t1, op1, ty1, p1, af1, none⟩, ⟨some t2, .call ⟨.value (.func f), #[.tmp t1], ats⟩, ty2, p2, af2, none⟩, ⟨some t3, .assign (.tmp t2), ty3, p3, af3, none⟩] false).seq .ret).wp P (bodyPostM Fence.wide 3 P fn (FnEnd V0 w0 Rf)) { a with defers := { target := .collected D, args := #[] } :: a.defers } W := by
  have hev : ∀ b : Act, ∀ ds, ({ b with defers := ds } : Act).eval = b.eval := fun b ds => by funext x; cases x <;> rfl
  have hput : ∀ (b : Act) ds d v, ({ b with defers := ds } : Act).put d v = { b.put d v with defers := ds } := fun b ds d v => by cases d <;> rfl
  refine wp_seq (wp_region_lit (l := [_, _, _]) ?_)
  unfold wpList
  rw [if_pos (by simp [Region.wanted])]
  left
  unfold Oper.wp
  rw [hev, h1 a W ha hs]
  show wpList P _ _ _ (({ a with defers := _ } : Act).put (some t1) v1) W
  rw [hput]
  have ha1 := ha.put hd1 v1
  unfold wpList
  rw [if_pos (by simp [Region.wanted])]
  left
  unfold Oper.wp
  rw [hev]
  have hx := exec_call (d := some t2) (ty := ty2) (pos := p2) (af := af2) (gd := none) (ats := ats) (w := W) he ha1 (args := [.tmp t1]) (vs := [v1]) (by simp [evL, evF, putF, look_cons])
  have hx' : (execOp (a.put (some t1) v1).eval ⟨some t2, .call ⟨.value (.func f), #[.tmp t1], ats⟩, ty2, p2, af2, none⟩).run P W = .ok (.enter f [v1].toArray) W := hx
  rw [hx', Oper.upon_enter]
  refine (hc W fun p x hp => (hs.view p x hp).1).mono ?_
  rintro e W2 ⟨v2, rfl, hext, V2, g1, g2, g3, g4⟩
  have hs2 := hs.call hext g1 g2 g3
  show wpList P _ _ _ (({ a.put (some t1) v1 with defers := _ } : Act).put (some t2) v2) W2
  rw [hput]
  have ha2 := ha1.put hd2 v2
  unfold wpList
  rw [if_pos (by simp [Region.wanted])]
  left
  unfold Oper.wp
  rw [hev]
  have e3 : (execOp ((a.put (some t1) v1).put (some t2) v2).eval ⟨some t3, .assign (.tmp t2), ty3, p3, af3, none⟩).run P W2 = .ok (.value v2) W2 := by
    have := ha2.ev (x := .tmp t2) (v := v2) (by simp [evF, putF, look_cons])
    simp [execOp, this]
  rw [e3]
  rw [Oper.upon_value]
  show Code.wp P .ret _ (({ (a.put (some t1) v1).put (some t2) v2 with defers := _ } : Act).put (some t3) v2) W2
  rw [hput]
  have ha3 := ha2.put hd3 v2
  refine wp_ret ?_
  have hD2 : W2.heap[D]? = some (.deferred (some [])) := (hext.block D (Array.getElem?_eq_some_iff.1 hD).1).trans hD
  have hs3 : St ⟨V0, w0, []⟩ V2 L (W2.putObj D (.deferred none)) := hs2.ownFrom (b0 := w0.heap.size) (grownBy_putObj' W2 D _) (fun r e => by cases e; exact ⟨hDw, _, hD2, rfl⟩) (Nat.le_refl _) hcl
  have hdef : (((a.put (some t1) v1).put (some t2) v2).put (some t3) v2).defers = [] := ha3.1
  show LeavesInM Fence.wide 3 P fn _ _ ({ target := .collected D, args := #[] } :: a.defers) .returning W2
  rw [ha.1]
  refine ⟨by simp, .inl ⟨D, _, rfl, run_takeDeferred hD2, v2, ?_, fnEnd_of hs3 (hR v2 V2 g1 g4)⟩⟩
  have hv := ha3.2.2 t3 v2 (by simp [putF, look_cons])
  have hv' : (((a.put (some t1) v1).put (some t2) v2).put (some t3) v2).tmps[t3]?.getD undef = v2 := by rw [← Array.getD_eq_getD_getElem?]; exact hv
  simp [results, hres, hv']
end
section
structure LF where
  x : LN
  lay : Int
abbrev flC (f : LF) : List Value := [.int .i64 f.x.h.kind, .int .i64 f.x.h.mode, .int .i64 f.x.h.user, .int .i64 f.x.h.group, .bool f.x.h.opq, .slice f.x.A f.x.na f.x.ca, .string f.x.h.data, .slice f.x.K f.x.nk f.x.ck, .int .i64 f.lay]
abbrev flV (f : LF) : Value := .agg #[.int .i64 f.x.h.kind, .int .i64 f.x.h.mode, .int .i64 f.x.h.user, .int .i64 f.x.h.group, .bool f.x.h.opq, .slice f.x.A f.x.na f.x.ca, .string f.x.h.data, .slice f.x.K f.x.nk f.x.ck, .int .i64 f.lay]
def fz (f : LF) : PF := (f.x.n, f.lay)
theorem ones_fl (l : List LF) : ∀ u ∈ l.flatMap flC, isOne u = true := fun u hu => by
  obtain ⟨r, _, hr⟩ := List.mem_flatMap.1 hu
  simp only [List.mem_cons, List.not_mem_nil, or_false] at hr
  rcases hr with rfl | rfl | rfl | rfl | rfl | rfl | rfl | rfl | rfl <;> rfl
theorem ones_f1 (f : LF) : ∀ u ∈ flC f, isOne u = true := fun u hu => ones_fl [f] u (by simpa using hu)
theorem fl_len (f : LF) : (flC f).length = 9 := rfl
def FloorsV (V : View) (A : Option Addr) (n : Nat) (fs : List LF) : Prop := ElsV V 9 flC A n fs ∧ ∀ f ∈ fs, NodeV V f.x
theorem FloorsV.le {V V' : View} (hv : VLe V V') {A : Option Addr} {n : Nat} {fs : List LF} (h : FloorsV V A n fs) : FloorsV V' A n fs := ⟨h.1.le hv, fun f hf => (h.2 f hf).le hv⟩
theorem FloorsV.nil {V : View} {A : Option Addr} : FloorsV V A 0 [] := ⟨ElsV.nil, by simp⟩
theorem FloorsV.of {V : View} {A : Option Addr} {n : Nat} {fs : List LF} (hc : CellsV V 9 A n (fs.flatMap flC)) (hl : fs.length = n) (hm : n ≤ maxLen) (hg : ∀ f ∈ fs, NodeV V f.x) : FloorsV V A n fs := ⟨ElsV.of_cells hc fl_len hl hm, hg⟩
theorem FloorsV.at_ {V : View} {A : Option Addr} {n : Nat} {fs : List LF} (h : FloorsV V A n fs) {k : Nat} (hk : k < n) : ∃ b off f, A = some ⟨b, off, none⟩ ∧ fs[k]? = some f ∧ CellsFrom V b (off + k * 9) (flC f) ∧ NodeV V f.x := by
  obtain ⟨b, off, r, ha, hx, hc⟩ := h.1.at_ hk
  exact ⟨b, off, r, ha, hx, hc, h.2 r (List.mem_of_getElem? hx)⟩
/-- What a function that hands floors back hands back. -/
def FloorsR (ps : List PF) (v : Value) (V' : View) : Prop := ∃ (A : Option Addr) (n c : Nat) (fs : List LF), v = .slice A n c ∧ FloorsV V' A n fs ∧ n ≤ c ∧ fs.map fz = ps
theorem fz_at {fs : List LF} {k : Nat} {f : LF} (h : fs[k]? = some f) : (fs.map fz)[k]? = some (fz f) := by rw [List.getElem?_map, h]; rfl
theorem dirs_end {l : List PF} {i : Nat} {f : PF} (h : l[i]? = some f) (hk : ¬ f.1.h.kind = 2) : dirsP (l.drop i) = [] := by
  obtain ⟨hi, rfl⟩ := List.getElem?_eq_some_iff.1 h
  rw [List.drop_eq_getElem_cons hi, dirsP, if_neg hk]
theorem dirs_opq {l : List PF} {i : Nat} {f : PF} (h : l[i]? = some f) (hk : f.1.h.kind = 2) (ho : f.1.h.opq = true) : dirsP (l.drop i) = [f] := by
  obtain ⟨hi, rfl⟩ := List.getElem?_eq_some_iff.1 h
  rw [List.drop_eq_getElem_cons hi, dirsP, if_pos hk, if_pos ho]
theorem dirs_done {l : List PF} {i : Nat} (h : l.length ≤ i) : dirsP (l.drop i) = [] := by rw [List.drop_eq_nil_of_le h]; rfl
theorem shown_file {l : List PF} {f : PF} (h : l[0]? = some f) (hk : f.1.h.kind = 1) : shownP l = [f] := by
  cases l with
  | nil => cases h
  | cons g l => simp at h; subst h; rw [shownP, if_pos hk]
theorem shown_dirs {l : List PF} {f : PF} (h : l[0]? = some f) (hk : ¬ f.1.h.kind = 1) : shownP l = dirsP l := by
  cases l with
  | nil => cases h
  | cons g l => simp at h; subst h; rw [shownP, if_neg hk]
theorem take_map_snoc {fs : List LF} {k : Nat} {f : LF} (h : fs[k]? = some f) : (fs.take (k + 1)).map fz = (fs.take k).map fz ++ [fz f] := by rw [List.take_add_one, h, List.map_append]; rfl
theorem cell0 {V : View} {g : Nat} {v : Value} (h : CellsFrom V g 0 [v]) : V ⟨g, 0, none⟩ = some v := h 0 v rfl
theorem vin_st {B : Base} {V : View} {L : List Box} {w : World} (h : St B V L w) : VIn V w := fun p x hp => (h.view p x hp).1
theorem FloorsV.one {V : View} {g : Nat} {f : LF} {cs : List Value} (h : CellsFrom V g 0 cs) (hcs : cs = flC f) (hN : NodeV V f.x) : FloorsV V (some ⟨g, 0, none⟩) 1 [f] := by
  subst hcs
  exact FloorsV.of ⟨rfl, fun _ => ⟨g, 0, rfl, by simpa using h⟩⟩ rfl (by unfold maxLen; omega) (by simpa using hN)
theorem FloorsV.part {V V' : View} {A A' : Option Addr} {n k : Nat} {fs : List LF} (h : FloorsV V A n fs) (hV : VLe V V') (hk : k ≤ n) (hn : n ≤ 1000) (hc : CellsV V' 9 A' k ((fs.take k).flatMap flC)) : FloorsV V' A' k (fs.take k) :=
  FloorsV.of hc (by have := h.1.1; rw [List.length_take]; omega) (by unfold maxLen; omega) fun f hf => (h.2 f (List.mem_of_mem_take hf)).le hV
theorem find_first {α : Type} {p : α → Bool} : ∀ {l : List α} {k : Nat} {x : α}, l[k]? = some x → p x = true → (∀ j, j < k → ∀ y, l[j]? = some y → ¬ p y = true) → l.find? p = some x
  | [], k, x, h, _, _ => by simp at h
  | a :: l, 0, x, h, hp, _ => by simp at h; subst h; rw [List.find?_cons, hp]
  | a :: l, k + 1, x, h, hp, hn => by
    have h0 : p a = false := by simpa using hn 0 (by omega) a rfl
    rw [List.find?_cons, h0]
    exact find_first (by simpa using h) hp fun j hj y hy => hn (j + 1) (by omega) y (by simpa using hy)
theorem find_nothing {α : Type} {p : α → Bool} {l : List α} (h : ∀ (j : Nat) (y : α), l[j]? = some y → ¬ p y = true) : l.find? p = none := by
  rw [List.find?_eq_none]
  intro x hx
  obtain ⟨j, hj, rfl⟩ := List.getElem_of_mem hx
  exact h j _ (List.getElem?_eq_getElem hj)
theorem fm_take_len {α β : Type} {f : α → Option β} {l : List α} {i : Nat} {x : α} {y : β} (h : l[i]? = some x) (hf : f x = some y) : ((l.take i).filterMap f).length < (l.filterMap f).length := by
  have e : l.filterMap f = (l.take i).filterMap f ++ (l.drop i).filterMap f := by rw [← List.filterMap_append, List.take_append_drop]
  obtain ⟨hi, rfl⟩ := List.getElem?_eq_some_iff.1 h
  rw [e, List.length_append, List.drop_eq_getElem_cons hi, List.filterMap_cons, hf]
  simp
attribute [local irreducible] AtQ GoC GoL GoW QO QP Fn RV OwnAt CellsFrom VLe SrcIs errV
set_option maxRecDepth 100000
set_option maxRecDepth 100000 in
set_option maxHeartbeats 4000000 in
theorem Shown_c (V : View) (A : Option Addr) (n c : Nat) (fs : List LF) (h : FloorsV V A n fs) (hn : n ≤ 1000) : Fn Tryz.prog 160 [.slice A n c] V (FloorsR (shownP (fs.map fz))) := by
  have hl := h.1.1
  (refine fn_enter Tryz.func160 rfl Tryz.ntmps160 rfl ?_; intro w0)
  repeat' (first | (refine k_gw ?_; (first | refine gwg9 ?_ | (refine k_call ?_; (first | refine gwq9 (q_len rfl und_183 rfl) ?_)))) | (refine k_gl ?_; (first | refine gl_nil rfl ?_ | refine gl_go rfl rfl ?_)) | (refine k_gc ?_; (first | refine gc_seq ?_ | refine gc_region ?_ | refine gc_block ?_)) | (refine k_at ?_; (first | refine at_seq ?_ | refine ats9 rfl ?_)))
  have hlz : (fs.map fz).length = n := by rw [List.length_map, hl]
  refine gc_loop (fun F V' L' m => ∃ (k : Nat) (A' : Option Addr) (c' : Nat) (LA : List Box), V = V' ∧ LA = L' ∧ k ≤ n ∧ RowL A' k c' 186 9 ((fs.take k).flatMap flC) LA ∧ dirsP (fs.map fz) = (fs.take k).map fz ++ dirsP ((fs.map fz).drop k) ∧ (0 < k → shownP (fs.map fz) = dirsP (fs.map fz)) ∧ m = n - k ∧ F = [(3, .slice A' k c'), (6, .slice A n c), (7, .int .i64 n), (8, .int .i64 (k : Int))]) (m := n) ⟨0, none, 0, [], rfl, rfl, Nat.zero_le _, RowL.nil, by simp, by simp, by omega, rfl⟩ sub9 rfl sl9 ?_
  rintro F V' L' m ⟨k, A', c', LA, rfl, rfl, hkn, hr, hd, hsh, rfl, rfl⟩
  have hcap := hr.cap
  by_cases hlt : k < n
  · obtain ⟨b, off, f, rfl, hf, hc, hN⟩ := h.at_ hlt
    have hfz := fz_at hf
    have ho1 := ones_f1 f
    have htm := take_map_snoc hf
    have hfl : (fs.take (k + 1)).flatMap flC = (fs.take k).flatMap flC ++ flC f := by rw [List.take_add_one, hf, List.flatMap_append]; simp
    have hsd : ¬ (f.x.h.kind = 1 ∧ k = 0) → shownP (fs.map fz) = dirsP (fs.map fz) := fun hh => by
      rcases Nat.eq_zero_or_pos k with h0 | h0
      · subst h0; exact shown_dirs hfz (fun e => hh ⟨e, rfl⟩)
      · exact hsh h0
    repeat' (first | (refine k_gw ?_; (first | refine gwg9 ?_ | (refine k_call ?_; (first | refine gwq9 (q_len rfl und_183 rfl) ?_ | (refine gw_append rfl und_183 inf_186 rfl rfl rfl hr rep9 (src_o own9 rfl) one9 (by omega) rfl rfl ?_; intro A2 c2 L2 hr2; have hcap2 := hr2.cap))) | (refine k_binOp ?_; refine gwb9 ?_) | (refine k_indexAddr ?_; (first | refine gwq9 (q_indexAddr und_183 siz_186 rfl rfl (by omega)) ?_)) | (refine k_load ?_; (first | refine gwq9 (q_loadA_o agg_186 rfl own9 (by exact rfl)) ?_ | refine gwq9 (q_loadA_v agg_186 rfl (by assumption) (by exact rfl)) ?_ | refine gwq9 (q_load_o one_3 rfl own9 (by exact rfl)) ?_ | refine gwq9 (q_load_o one_4 rfl own9 (by exact rfl)) ?_)) | (refine k_alloc ?_; (first | (refine gw_alloc rfl zer_186 rfl ?_; intro γ))) | (refine k_store ?_; (first | refine gw_store rfl siz_186 rfl rfl rfl rfl one9 put9 rfl ?_)) | (refine k_fieldAddr ?_; (first | refine gwq9 (q_fieldAddr fld_186_0 rfl) ?_ | refine gwq9 (q_fieldAddr fld_50_0 rfl) ?_ | refine gwq9 (q_fieldAddr fld_50_4 rfl) ?_)) | (refine k_buildSlice ?_; (first | (refine gw_buildSlice rfl und_183 siz_186 zec_186 rfl rfl rfl rfl rfl rfl rfl ?_; intro γ))))) | (refine k_gl ?_; (first | refine gl_nil rfl ?_ | refine gl_go rfl rfl ?_ | refine gl_yes rfl rfl rfl rfl rfl ?_ | refine gl_no rfl rfl rfl rfl rfl rfl rfl ?_ | (refine gl_split_p rfl rfl rfl ?_ ?_ <;> intro hq <;> try (exfalso; first | exact hq rfl | omega)))) | (refine k_gc ?_; (first | refine gc_seq ?_ | refine gc_region ?_ | refine gc_cond_f rfl ?_ | (refine gc_cond_p rfl ?_ ?_ <;> intro hq <;> try (exfalso; first | exact hq rfl | omega)) | (refine gc_cond_b rfl ?_ ?_ <;> intro hq) | refine gc_block ?_ | refine gc_exit ?_ | refine gc_ret ?_ | refine gc_skip ?_)) | (refine k_at ?_; (first | refine at_seq ?_ | refine ats9 rfl ?_)))
    · obtain rfl : k = 0 := by omega
      refine at_retire (Drop1.here _ _ _ _) ?_
      intro V2 hV2 hg2
      (refine at_ret1 Tryz.results160 (rv_tmp rfl) ?_)
      exact ⟨_, 1, 1, [f], rfl, FloorsV.one hg2 rfl (hN.le hV2), Nat.le_refl _, by rw [shown_file hfz (by assumption)]; rfl⟩
    · refine at_shut hr rep9 ?_
      intro V2 hV2 hc2
      (refine at_ret1 Tryz.results160 (rv_tmp rfl) ?_)
      exact ⟨_, _, _, fs.take k, rfl, h.part hV2 hkn hn hc2, hcap, by rw [hsd (by omega), hd, dirs_end hfz hq, List.append_nil]⟩
    · refine at_shut hr rep9 ?_
      intro V2 hV2 hc2
      (refine at_ret1 Tryz.results160 (rv_tmp rfl) ?_)
      exact ⟨_, _, _, fs.take k, rfl, h.part hV2 hkn hn hc2, hcap, by rw [hsd (by omega), hd, dirs_end hfz hq, List.append_nil]⟩
    · refine at_shut hr2 rep9 ?_
      intro V2 hV2 hc2
      (refine at_ret1 Tryz.results160 (rv_tmp rfl) ?_)
      exact ⟨_, _, _, fs.take (k + 1), rfl, h.part hV2 hlt hn (by rw [hfl]; exact hc2), hcap2, by rw [hsd (by omega), hd, dirs_opq hfz (by show f.x.h.kind = 2; omega) hq, htm]⟩
    · refine at_round _ (n - (k + 1)) ⟨k + 1, A2, c2, L2, rfl, rfl, by omega, by rw [hfl]; exact hr2, by rw [htm, hd, dirs_at hfz (by show f.x.h.kind = 2; omega) hq]; simp, fun _ => hsd (by omega), rfl, rfl⟩ (by omega) sub9 sl9
  · obtain rfl : k = n := by omega
    repeat' (first | (refine k_gw ?_; (first | refine gwg9 ?_ | (refine k_binOp ?_; refine gwb9 ?_))) | (refine k_gl ?_; (first | refine gl_nil rfl ?_ | refine gl_go rfl rfl ?_)) | (refine k_gc ?_; (first | refine gc_seq ?_ | refine gc_region ?_ | (refine gc_cond_p rfl ?_ ?_ <;> intro hq <;> try (exfalso; first | exact hq rfl | omega)) | refine gc_exit ?_ | refine gc_ret ?_)) | (refine k_at ?_; (first | refine at_seq ?_ | refine ats9 rfl ?_)))
    all_goals
      refine at_shut hr rep9 ?_
      intro V2 hV2 hc2
      (refine at_ret1 Tryz.results160 (rv_tmp rfl) ?_)
      refine ⟨_, _, _, fs.take k, rfl, h.part hV2 hkn hn hc2, hcap, ?_⟩
      rw [dirs_done (by omega), List.append_nil] at hd
      rcases Nat.eq_zero_or_pos k with h0 | h0
      · obtain rfl : fs = [] := List.eq_nil_of_length_eq_zero (by omega)
        simp [shownP]
      · rw [hsh h0, hd]
theorem Kids_mc (V : View) (A : Option Addr) (n c : Nat) (nm : ByteArray) : Fn Tryz.prog 159 [.slice A n c, .string nm] V fun v V' => ∃ g1 g2, v = .func (.func 186) #[] [.pointer (some ⟨g1, 0, none⟩), .pointer (some ⟨g2, 0, none⟩)].toArray ∧ V' ⟨g1, 0, none⟩ = some (.slice A n c) ∧ V' ⟨g2, 0, none⟩ = some (.string nm) := by
  (refine fn_enter Tryz.func159 rfl Tryz.ntmps159 rfl ?_; intro w0)
  repeat' (first | (refine k_gw ?_; (first | (refine k_box ?_; (first | (refine gw_box rfl rfl rfl rfl ?_; intro γ))) | refine gwg9 ?_ | (refine k_makeFunc ?_; (first | refine gwq9 (q_makeFunc rfl rfl) ?_)))) | (refine k_gl ?_; (first | refine gl_nil rfl ?_ | refine gl_go rfl rfl ?_ | refine gl_yes rfl rfl rfl rfl rfl ?_ | refine gl_no rfl rfl rfl rfl rfl rfl rfl ?_ | refine gl_nou rfl rfl rfl rfl rfl rfl ?_ | (refine gl_split_p rfl rfl rfl ?_ ?_ <;> intro hq <;> try (exfalso; first | exact hq rfl | omega)) | (refine gl_split_b rfl rfl rfl ?_ ?_ <;> intro hq))) | (refine k_gc ?_; (first | refine gc_seq ?_ | refine gc_region ?_ | refine gc_cond_t rfl ?_ | refine gc_cond_f rfl ?_ | (refine gc_cond_p rfl ?_ ?_ <;> intro hq <;> try (exfalso; first | exact hq rfl | omega)) | (refine gc_cond_b rfl ?_ ?_ <;> intro hq) | refine gc_block ?_ | refine gc_exit ?_ | refine gc_ret ?_ | refine gc_skip ?_)) | (refine k_at ?_; (first | refine at_seq ?_ | refine ats9 rfl ?_)))
  refine at_retire (Drop1.here _ _ _ _) ?_
  intro V2 hV2 hg2
  refine at_retire (Drop1.here _ _ _ _) ?_
  intro V3 hV3 hg3
  (refine at_ret1 Tryz.results159 (rv_tmp rfl) ?_)
  exact ⟨_, _, rfl, cell0 hg3, cell0 (hg2.le hV3)⟩
/-- A floor's kid of a name. -/
def kidF (nm : ByteArray) (g : LF × List LK) : Option LF := if g.1.x.h.kind = 2 then (g.2.find? fun e => decide (e.nm = nm)).map (fun e => ⟨e.x, g.1.lay⟩) else none
set_option maxRecDepth 100000 in
set_option maxHeartbeats 40000000 in
theorem kids_seq (V : View) (g1 g2 : Nat) (A : Option Addr) (n c : Nat) (nm : ByteArray) (gs : List (LF × List LK)) (h1 : V ⟨g1, 0, none⟩ = some (.slice A n c)) (h2 : V ⟨g2, 0, none⟩ = some (.string nm)) (h : FloorsV V A n (gs.map Prod.fst)) (hk : ∀ g ∈ gs, KidsV V g.1.x.K g.1.x.nk g.2) :
    ∀ w, VIn V w → SeqStopsK Fence.wide 2 Tryz.prog 186 [.pointer (some ⟨g1, 0, none⟩), .pointer (some ⟨g2, 0, none⟩)].toArray (fun f : LF => #[flV f]) (KeepV V) (fun ys => ys = gs.filterMap (kidF nm)) (fun _ => True) (gs.filterMap (kidF nm)).length w := by
  have hl := h.1.1
  rw [List.length_map] at hl
  have hm := h.1.max
  refine seq_of Tryz.func186 rfl Tryz.ntmps186 rfl ?_
  intro l J Jx W hJ hJx hY h0
  repeat' (first | (refine k_gw ?_; (first | (refine k_load ?_; (first | refine gwq9 (q_load_v one_183 rfl (by assumption)) ?_)) | (refine k_call ?_; (first | refine gwq9 (q_len rfl und_183 rfl) ?_ | refine gwq9 (q_len rfl und_48 rfl) ?_)) | refine gwg9 ?_)) | (refine k_gl ?_; (first | refine gl_nil rfl ?_ | refine gl_go rfl rfl ?_)) | (refine k_gc ?_; (first | refine gc_seq ?_ | refine gc_region (id := 0) ?_ | refine gc_block ?_)) | (refine k_at ?_; (first | refine at_seq ?_ | refine ats9 rfl ?_)))
  refine gc_loopB (fun B F V' L' m => ∃ (i : Nat) (W1 : World), B = ⟨V, W1, []⟩ ∧ V = V' ∧ [] = L' ∧ J ((gs.take i).filterMap (kidF nm)) W1 ∧ i ≤ n ∧ m = n - i ∧ F = [(0, .func (.yield l) #[] #[]), (2, .pointer (some ⟨g2, 0, none⟩)), (8, .slice A n c), (9, .int .i64 n), (10, .int .i64 (i : Int))]) (m := n) ⟨0, W, rfl, rfl, rfl, by simpa using h0, Nat.zero_le _, by omega, rfl⟩ sub9 sl9 ?_
  rintro B F V' L' m ⟨i, W1, rfl, rfl, rfl, hJ1, hin, rfl, rfl⟩
  by_cases hlt : i < n
  · obtain ⟨b, off, f, rfl, hf, hc, hN⟩ := h.at_ hlt
    obtain ⟨g, hg, rfl⟩ : ∃ g, gs[i]? = some g ∧ g.1 = f := by
      rw [List.getElem?_map] at hf
      cases hgi : gs[i]? with
      | none => rw [hgi] at hf; cases hf
      | some g => rw [hgi] at hf; exact ⟨g, rfl, by simpa using hf⟩
    obtain ⟨f, es⟩ := g
    have hK := hk _ (List.mem_of_getElem? hg)
    have hKm := hK.max
    have hKl := hK.len
    simp only [] at hc hN hK hKm hKl
    have htk : (gs.take (i + 1)).filterMap (kidF nm) = (gs.take i).filterMap (kidF nm) ++ (kidF nm (f, es)).toList := by rw [List.take_add_one, hg, List.filterMap_append]; simp [List.filterMap_cons]; cases kidF nm (f, es) <;> rfl
    repeat' (first | (refine k_gw ?_; (first | (refine k_load ?_; (first | refine gwq9 (q_loadA_v agg_186 rfl (by assumption) (by exact rfl)) ?_ | refine gwq9 (q_load_o one_48 rfl own9 (by exact rfl)) ?_)) | (refine k_call ?_; (first | refine gwq9 (q_len rfl und_183 rfl) ?_ | refine gwq9 (q_len rfl und_48 rfl) ?_)) | refine gwg9 ?_ | (refine k_binOp ?_; (first | refine gwq9 (q_lss rfl rfl) ?_ | refine gwq9 (q_neq rfl rfl) ?_ | refine gwq9 (q_sneq rfl rfl) ?_ | refine gwq9 (q_add rfl rfl (by omega)) ?_ | refine gwq9 (q_addw rfl rfl) ?_)) | (refine k_indexAddr ?_; (first | refine gwq9 (q_indexAddr und_183 siz_186 rfl rfl (by omega)) ?_)) | (refine k_alloc ?_; (first | (refine gw_alloc rfl zer_186 rfl ?_; intro γ) | (refine gw_alloc rfl zer_104 rfl ?_; intro γ))) | (refine k_store ?_; (first | refine gw_store rfl siz_186 rfl rfl rfl rfl one9 put9 rfl ?_)) | (refine k_fieldAddr ?_; (first | refine gwq9 (q_fieldAddr fld_186_0 rfl) ?_ | refine gwq9 (q_fieldAddr fld_50_7 rfl) ?_)))) | (refine k_gl ?_; (first | refine gl_nil rfl ?_ | refine gl_go rfl rfl ?_)) | (refine k_gc ?_; (first | refine gc_seq ?_ | refine gcr9 [1, 2, 3] rfl ?_ | (refine gc_cond_p rfl ?_ ?_ <;> intro hq <;> try (exfalso; first | exact hq rfl | omega)) | refine gc_block ?_ | refine gc_skip ?_)) | (refine k_at ?_; (first | refine at_seq ?_ | refine ats9 rfl ?_)))
    refine gc_loop (fun F V'' L'' m => ∃ k : Nat, V = V'' ∧ [⟨γ, 186, flC f⟩] = L'' ∧ k ≤ f.x.nk ∧ (∀ j, j < k → ∀ e, es[j]? = some e → ¬ (f.x.h.kind = 2 ∧ e.nm = nm)) ∧ m = f.x.nk - k ∧ F = [(0, .func (.yield l) #[] #[]), (2, .pointer (some ⟨g2, 0, none⟩)), (5, .pointer (some ⟨γ, 0, none⟩)), (8, .slice (some ⟨b, off, none⟩) n c), (9, .int .i64 n), (10, .int .i64 (i : Int)), (16, .slice f.x.K f.x.nk f.x.ck), (17, .int .i64 f.x.nk), (18, .int .i64 (k : Int))]) (m := f.x.nk) ⟨0, rfl, rfl, Nat.zero_le _, (by omega), by omega, rfl⟩ sub9 rfl sl9 ?_
    rintro F V'' L'' m ⟨k, rfl, rfl, hkn, hno, rfl, rfl⟩
    by_cases hlt2 : k < f.x.nk
    · obtain ⟨b1, o1, e, hKb, he, hem, hce, c0, c1, hms, hne⟩ := hK.at_ hlt2
      repeat' (first | (refine k_gw ?_; (first | (refine k_load ?_; (first | refine gwq9 (q_loadA_v agg_104 rfl (by assumption) (by exact rfl)) ?_ | refine gwq9 (q_load_o one_3 rfl own9 (by exact rfl)) ?_ | refine gwq9 (q_load_o one_9 rfl own9 (by exact rfl)) ?_ | refine gwq9 (q_load_v one_9 rfl (by assumption)) ?_)) | refine gwg9 ?_ | (refine k_binOp ?_; (first | refine gwq9 (q_lss rfl rfl) ?_ | refine gwq9 (q_neq rfl rfl) ?_ | refine gwq9 (q_sneq rfl rfl) ?_ | refine gwq9 (q_add rfl rfl (by omega)) ?_ | refine gwq9 (q_addw rfl rfl) ?_)) | (refine k_indexAddr ?_; (first | refine gwq9 (q_indexAddr_e und_48 siz_104 rfl hKb rfl hlt2) ?_)) | (refine k_alloc ?_; (first | (refine gw_alloc rfl zer_186 rfl ?_; intro γ) | (refine gw_alloc rfl zer_104 rfl ?_; intro γ))) | (refine k_store ?_; (first | refine gw_store rfl siz_104 rfl rfl rfl rfl one9 put9 rfl ?_)) | (refine k_fieldAddr ?_; (first | refine gwq9 (q_fieldAddr fld_186_0 rfl) ?_ | refine gwq9 (q_fieldAddr fld_50_0 rfl) ?_ | refine gwq9 (q_fieldAddr fld_104_0 rfl) ?_)))) | (refine k_gl ?_; (first | refine gl_nil rfl ?_ | refine gl_go rfl rfl ?_ | refine gl_yes rfl rfl rfl rfl rfl ?_ | refine gl_no rfl rfl rfl rfl rfl rfl rfl ?_ | (refine gl_split_p rfl rfl rfl ?_ ?_ <;> intro hq <;> try (exfalso; first | exact hq rfl | omega)))) | (refine k_gc ?_; (first | refine gc_seq ?_ | refine gcr9 [4, 5, 6, 8] rfl ?_ | refine gc_cond_t rfl ?_ | (refine gc_cond_p rfl ?_ ?_ <;> intro hq <;> try (exfalso; first | exact hq rfl | omega)) | refine gc_block ?_ | refine gc_exit ?_ | refine gc_skip ?_)) | (refine k_at ?_; (first | refine at_seq ?_ | refine ats9 rfl ?_)))
      · have hno' : ∀ j, j < k + 1 → ∀ e', es[j]? = some e' → ¬ (f.x.h.kind = 2 ∧ e'.nm = nm) := fun j hj e' he' hh => hq hh.1
        refine at_round _ (f.x.nk - (k + 1)) ⟨k + 1, rfl, rfl, by omega, hno', rfl, rfl⟩ (by omega) sub9 sl9
      · have hno' : ∀ j, j < k + 1 → ∀ e', es[j]? = some e' → ¬ (f.x.h.kind = 2 ∧ e'.nm = nm) := fun j hj e' he' hh => by
          rcases Nat.lt_or_ge j k with h3 | h3
          · exact hno j h3 e' he' hh
          · have hjk : j = k := by omega
            rw [hjk, he] at he'; cases he'; exact hq hh.2
        refine at_round _ (f.x.nk - (k + 1)) ⟨k + 1, rfl, rfl, by omega, hno', rfl, rfl⟩ (by omega) sub9 sl9
      · rename_i hk2
        have hkd : kidF nm (f, es) = some ⟨e.x, f.lay⟩ := by
          unfold kidF
          rw [if_pos (show f.x.h.kind = 2 by omega), find_first he (decide_eq_true (Decidable.not_not.1 hq)) fun j hj y hy => fun hd => hno j hj y hy ⟨by omega, of_decide_eq_true hd⟩]; rfl
        have hlen := fm_take_len hg hkd
        rw [hkd] at htk
        have htk' : (gs.take (i + 1)).filterMap (kidF nm) = (gs.take i).filterMap (kidF nm) ++ [⟨e.x, f.lay⟩] := htk
        refine gc_regionI ?_; (first | refine gi_q rfl (q_move rfl) ?_); (first | refine gi_q rfl (q_fieldAddr fld_104_1 rfl) ?_); (first | refine gi_q rfl (q_loadA_o agg_50 rfl own9 (by exact rfl)) ?_ | refine gi_q rfl (q_loadA_v agg_50 rfl (by assumption) (by exact rfl)) ?_ | refine gi_q rfl (q_loadA_p agg_50 rfl own9 (by exact rfl) (by exact rfl)) ?_ | refine gi_q rfl (q_loadA_p agg_50 rfl own9 (by assumption) (by exact rfl)) ?_); (first | refine gi_q rfl (q_fieldAddr fld_186_1 rfl) ?_); (first | refine gi_q rfl (q_load_o one_3 rfl own9 (by exact rfl)) ?_ | refine gi_q rfl (q_load_o one_3 rfl own9 (by assumption)) ?_ | refine gi_q rfl (q_load_v one_3 rfl (by assumption)) ?_); (first | refine gi_q rfl (q_build bld_186 rfl rfl) ?_)
        refine gi_yield (vs := [_]) (fun b => if b = true then V else fun _ => none) (Rb := fun b W' => (b = true ∧ J ((gs.take i).filterMap (kidF nm) ++ [⟨e.x, f.lay⟩]) W' ∧ VIn V W') ∨ (b = false ∧ Jx ((gs.take i).filterMap (kidF nm) ++ [⟨e.x, f.lay⟩]) W')) rfl rfl rfl ?_ ?_ ?_
        · intro w hs
          refine Eq.mp ?_ (hY _ ⟨e.x, f.lay⟩ w (hJ _ W1 w hJ1 hs.ext) (vin_st hs) hlen)
          congr 1
        · rintro b' W' (⟨rfl, _, h3⟩ | ⟨rfl, _⟩)
          · exact h3
          · exact fun p x hp => by simp at hp
        · rintro b' W' (⟨rfl, h3, h4⟩ | ⟨rfl, h3⟩)
          · (first | refine gi_q rfl (q_not_t rfl) ?_ | refine gi_q rfl (q_not_f rfl) ?_ | refine gi_q rfl (q_not_p rfl) ?_ | refine gi_q rfl (q_not_b rfl) ?_)
            refine gi_nil ?_
            repeat' (first | (refine k_gw ?_; (first | refine gwg9 ?_ | (refine k_binOp ?_; (first | refine gwq9 (q_lss rfl rfl) ?_ | refine gwq9 (q_neq rfl rfl) ?_ | refine gwq9 (q_sneq rfl rfl) ?_ | refine gwq9 (q_add rfl rfl (by omega)) ?_ | refine gwq9 (q_addw rfl rfl) ?_)))) | (refine k_gl ?_; (first | refine gl_nil rfl ?_ | refine gl_go rfl rfl ?_)) | (refine k_gc ?_; (first | refine gc_region (id := 9) ?_ | refine gc_cond_f rfl ?_ | refine gc_exit ?_ | refine gc_skip ?_)) | (refine k_at ?_; (first | refine at_seq ?_ | refine ats9 rfl ?_)))
            refine at_roundB _ (n - (i + 1)) ⟨i + 1, W', rfl, rfl, rfl, by rw [htk']; exact h3, by omega, rfl, rfl⟩ (by omega) sub9 sl9
          · (first | refine gi_q rfl (q_not_t rfl) ?_ | refine gi_q rfl (q_not_f rfl) ?_ | refine gi_q rfl (q_not_p rfl) ?_ | refine gi_q rfl (q_not_b rfl) ?_)
            refine gi_nil ?_
            repeat' (first | (refine k_gc ?_; (first | refine gc_cond_t rfl ?_ | refine gc_ret ?_)) | (refine k_at ?_; (first | refine at_seq ?_ | refine ats9 rfl ?_)))
            refine at_endI (.inr rfl) Tryz.results186 fun w hs => .inr ⟨_, trivial, hJx _ W' w h3 hs.ext⟩
    · obtain rfl : k = f.x.nk := by omega
      have hkd : kidF nm (f, es) = none := by
        unfold kidF
        by_cases h2k : f.x.h.kind = 2
        · rw [if_pos h2k, find_nothing fun j y hy hd => ?_]; rfl
          have hj2 : j < es.length := (List.getElem?_eq_some_iff.1 hy).1
          have hj : j < f.x.nk := by omega
          exact hno j hj y hy ⟨h2k, of_decide_eq_true hd⟩
        · rw [if_neg h2k]
      rw [hkd] at htk
      have htk' : (gs.take (i + 1)).filterMap (kidF nm) = (gs.take i).filterMap (kidF nm) := htk.trans (List.append_nil _)
      repeat' (first | (refine k_gw ?_; (first | refine gwg9 ?_ | (refine k_binOp ?_; (first | refine gwq9 (q_lss rfl rfl) ?_ | refine gwq9 (q_neq rfl rfl) ?_ | refine gwq9 (q_sneq rfl rfl) ?_ | refine gwq9 (q_add rfl rfl (by omega)) ?_ | refine gwq9 (q_addw rfl rfl) ?_)))) | (refine k_gl ?_; (first | refine gl_nil rfl ?_ | refine gl_go rfl rfl ?_)) | (refine k_gc ?_; (first | refine gc_seq ?_ | refine gcr9 [4, 9] rfl ?_ | (refine gc_cond_p rfl ?_ ?_ <;> intro hq <;> try (exfalso; first | exact hq rfl | omega)) | refine gc_exit ?_)) | (refine k_at ?_; (first | refine at_seq ?_ | refine ats9 rfl ?_)))
      refine at_roundB _ (n - (i + 1)) ⟨i + 1, W1, rfl, rfl, rfl, by rw [htk']; exact hJ1, by omega, rfl, rfl⟩ (by omega) sub9 sl9
  · obtain rfl : i = n := by omega
    repeat' (first | (refine k_gw ?_; (first | (refine k_binOp ?_; (first | refine gwq9 (q_lss rfl rfl) ?_ | refine gwq9 (q_neq rfl rfl) ?_ | refine gwq9 (q_sneq rfl rfl) ?_ | refine gwq9 (q_add rfl rfl (by omega)) ?_ | refine gwq9 (q_addw rfl rfl) ?_)))) | (refine k_gl ?_; (first | refine gl_nil rfl ?_ | refine gl_go rfl rfl ?_)) | (refine k_gc ?_; (first | refine gc_seq ?_ | refine gc_region (id := 1) ?_ | (refine gc_cond_p rfl ?_ ?_ <;> intro hq <;> try (exfalso; first | exact hq rfl | omega)) | refine gc_exit ?_)) | (refine k_at ?_; (first | refine at_seq ?_ | refine ats9 rfl ?_)))
    refine at_endI (.inl rfl) Tryz.results186 fun w hs => .inl ⟨_, rfl, hJ _ W1 w ?_ hs.ext⟩
    rw [List.take_of_length_le (by omega)] at hJ1
    exact hJ1
end
section
theorem at_weak {P : Program} {B : Base} {N : Nat} {Q : Exit → Act → World → Prop} {k : List Cont} {e : Exit} {F F' : List (Nat × Value)} {V : View} {L L' : List Box} (h : AtQ P B N Q k e F' V L') (hF : ∀ p ∈ F', look F p.1 = some p.2) (hL : L'.Sublist L) : AtQ P B N Q k e F V L := fun a w ha hs => h a w (ha.less hF) (hs.drop hL)
theorem floors_kids {V : View} : ∀ {fs : List LF}, (∀ f ∈ fs, NodeV V f.x) → ∃ gs : List (LF × List LK), gs.map Prod.fst = fs ∧ ∀ g ∈ gs, KidsV V g.1.x.K g.1.x.nk g.2 ∧ g.1.x.ks = g.2.map kz
  | [], _ => ⟨[], rfl, by simp⟩
  | f :: fs, h => by
    obtain ⟨gs, h1, h2⟩ := floors_kids (fs := fs) fun g hg => h g (by simp [hg])
    obtain ⟨_, _, _, _, es, h3, h4⟩ := (h f (by simp)).inv
    refine ⟨(f, es) :: gs, by rw [List.map_cons, h1], fun g hg => ?_⟩
    rcases List.mem_cons.1 hg with rfl | hg
    · exact ⟨h3, h4⟩
    · exact h2 g hg
theorem look_kz : ∀ (es : List LK) (nm : ByteArray), lookK (es.map kz) nm = (es.find? fun e => decide (e.nm = nm)).map (fun e => e.x.n)
  | [], nm => rfl
  | e :: es, nm => by
    rw [List.map_cons, lookK, List.find?_cons]
    by_cases h : e.nm = nm
    · rw [if_pos (show (kz e).1 = nm from h), decide_eq_true h]; rfl
    · rw [if_neg (show ¬ (kz e).1 = nm from h), decide_eq_false h, look_kz es nm]
theorem kidF_fz {nm : ByteArray} {g : LF × List LK} (h : g.1.x.ks = g.2.map kz) : (kidF nm g).map fz = kidP nm (fz g.1) := by
  unfold kidF kidP
  show Option.map fz _ = if g.1.x.h.kind = 2 then (lookK g.1.x.ks nm).map (fun x => (x, g.1.lay)) else none
  by_cases hk : g.1.x.h.kind = 2
  · rw [if_pos hk, if_pos hk, h, look_kz, Option.map_map, Option.map_map]; rfl
  · rw [if_neg hk, if_neg hk]; rfl
theorem kids_fz {nm : ByteArray} : ∀ {gs : List (LF × List LK)}, (∀ g ∈ gs, g.1.x.ks = g.2.map kz) → (gs.filterMap (kidF nm)).map fz = ((gs.map Prod.fst).map fz).filterMap (kidP nm)
  | [], _ => rfl
  | g :: gs, h => by
    have h1 := kidF_fz (nm := nm) (h g (by simp))
    have h2 := kids_fz (nm := nm) (gs := gs) fun k hk => h k (by simp [hk])
    rw [List.filterMap_cons, List.map_cons, List.map_cons, List.filterMap_cons]
    cases h3 : kidF nm g with
    | none => rw [h3] at h1; rw [← h1]; exact h2
    | some f => rw [h3] at h1; rw [← h1, List.map_cons, h2]; rfl
theorem kidF_node {V : View} {nm : ByteArray} {g : LF × List LK} {f : LF} (h : kidF nm g = some f) (hk : KidsV V g.1.x.K g.1.x.nk g.2) : NodeV V f.x := by
  unfold kidF at h
  split at h
  · cases h2 : g.2.find? (fun e => decide (e.nm = nm)) with
    | none => rw [h2] at h; cases h
    | some e => rw [h2] at h; cases h; exact (hk.2 e (List.mem_of_find?_eq_some h2)).2
  · cases h
attribute [local irreducible] AtQ GoC GoL GoW QO QP Fn RV OwnAt CellsFrom VLe SrcIs errV
set_option maxRecDepth 100000
set_option maxRecDepth 100000 in
set_option maxHeartbeats 40000000 in
theorem Step_c (V : View) (A : Option Addr) (n c : Nat) (fs : List LF) (h : FloorsV V A n fs) (hn : n ≤ 1000) (nm : ByteArray) : Fn Tryz.prog 116 [.slice A n c, .string nm] V (FloorsR (stepP (fs.map fz) nm)) := by
  have hl := h.1.1
  obtain ⟨gs, hgs, hkg⟩ := floors_kids h.2
  have hfz := kids_fz (nm := nm) fun g hg => (hkg g hg).2
  rw [hgs] at hfz
  have hxl : (gs.filterMap (kidF nm)).length ≤ 1000 := by
    have := List.length_filterMap_le (kidF nm) gs
    have e : gs.length = fs.length := by rw [← hgs, List.length_map]
    omega
  have hxN : ∀ f ∈ gs.filterMap (kidF nm), NodeV V f.x := fun f hf => by
    obtain ⟨g, hg, hgf⟩ := List.mem_filterMap.1 hf
    exact kidF_node hgf (hkg g hg).1
  subst hgs
  refine fn_enterM Tryz.func116 rfl Tryz.ntmps116 rfl ?_
  intro w0
  repeat' (first | (refine k_gw ?_; (first | refine gwg9 ?_ | (refine k_alloc ?_; (first | (refine gw_alloc rfl zer_183 rfl ?_; intro γ) | (refine gw_alloc rfl zer_186 rfl ?_; intro γ))) | (refine k_call ?_; (first | (refine gw_call rfl ⟨Tryz.call159⟩ rfl rfl (Kids_mc _ A n c nm) ?_; rintro v V2 hV2 ⟨g1, g2, rfl, hg1, hg2⟩))))) | (refine k_gl ?_; (first | refine gl_nil rfl ?_ | refine gl_go rfl rfl ?_)) | (refine k_gc ?_; (first | refine gc_seq ?_ | refine gc_region ?_ | refine gc_block ?_)) | (refine k_at ?_; (first | refine at_seq ?_ | refine ats9 rfl ?_)))
  have hseq := kids_seq V2 g1 g2 A n c nm gs hg1 hg2 (h.le hV2) fun g hg => (hkg g hg).1.le hV2
  generalize gs.filterMap (kidF nm) = xs at *
  refine gc_collect flC flV xs (E := 186) (sz := 9) (lb := [_, _]) (F6 := fun γ6 => [(6, .pointer (some ⟨γ6, 0, none⟩)), (5, .pointer (some ⟨γ, 0, none⟩))]) rfl (Tryz.call186) rfl hseq ?_ ?_ ?_ ?_ ?_
  · intro r o ho ev
    simp only [List.mem_cons, List.not_mem_nil, or_false] at ho
    rcases ho with rfl | rfl <;> rfl
  · intro r o ho ev
    simp only [List.mem_cons, List.not_mem_nil, or_false] at ho
    rcases ho with rfl | rfl | rfl | rfl | rfl <;> rfl
  · intro x V' L' B' Q' hK
    repeat' (first | (refine k_gw ?_; (first | (refine k_alloc ?_; (first | (refine gw_alloc rfl zer_183 rfl ?_; intro γ) | (refine gw_alloc rfl zer_186 rfl ?_; intro γ))) | (refine k_store ?_; (first | refine gw_store rfl siz_186 rfl rfl rfl rfl one9 put9 rfl ?_)))) | (refine k_gl ?_; (first | refine gl_nil rfl ?_ | refine gl_go rfl rfl ?_)))
    exact at_weak (hK _) sub9 (List.Sublist.refl _)
  · intro x V' B' Q' γ6 A1 n1 c1 us LA hr hn1 hK
    have ho1 := ones_f1 x
    repeat' (first | (refine k_gw ?_; (first | (refine k_call ?_; (first | (refine gw_append rfl und_183 inf_186 rfl rfl rfl hr rep9 (src_o own9 rfl) one9 (by omega) rfl rfl ?_; intro A2 c2 L2 hr2))) | (refine k_store ?_; (first | refine gw_store rfl siz_183 rfl rfl rfl rfl one9 put9 rfl ?_)) | (refine k_load ?_; (first | refine gwq9 (q_load_o one_183 rfl own9 (by exact rfl)) ?_ | refine gwq9 (q_loadA_o agg_186 rfl own9 (by exact rfl)) ?_)) | (refine k_buildSlice ?_; (first | (refine gw_buildSlice rfl und_183 siz_186 zec_186 rfl rfl rfl rfl rfl rfl rfl ?_; intro γ))))) | (refine k_gl ?_; (first | refine gl_nil rfl ?_ | refine gl_go rfl rfl ?_)))
    exact at_weak (hK A2 c2 _ [] hr2) sub_nil (List.Sublist.cons _ (List.Sublist.refl _))
  · intro D V' A1 n1 c1 LA a W hD hV' hr hxn ha hs hD2
    have hcap := hr.cap
    obtain ⟨V3, hV3, hc3, hs3⟩ := hs.shut hr rep9 (by simp)
    have hF : FloorsV V3 A1 n1 xs := FloorsV.of hc3 hxn (by unfold maxLen; omega) fun f hf => (hxN f hf).le (hV2.trans (hV'.trans hV3))
    refine tail_call (f := 160) Tryz.results116 ha hs3 hD2 hD (by simp) ⟨Tryz.call160⟩ rfl rfl rfl (q_load_o one_183 rfl own9 (by exact rfl)) (Shown_c V3 A1 n1 c1 xs hF (by omega)) fun v V'' _ hh => ?_
    unfold stepP
    rw [← hfz]; exact hh
end
section
attribute [local irreducible] AtQ GoC GoL GoW QO QP Fn RV OwnAt CellsFrom VLe SrcIs errV
set_option maxRecDepth 100000
end
section
def dirH : Hd := ⟨2, 0, 0, 0, false, [], ⟨#[]⟩⟩
def dirL : LN := ⟨dirH, none, 0, 0, none, 0, 0, []⟩
theorem NodeV.dir {V : View} : NodeV V dirL := NodeV.of (es := []) AttrV.nil (Nat.le_refl _) (Nat.zero_le _) (Nat.le_refl _) ⟨ElsV.nil, by simp⟩ rfl
theorem Own_v (V : View) (x : LN) (hx : NodeV V x) (hsm : AllN smallP x.n) : Fn Tryz.prog 39 [lnV x] V fun v V2 => ∃ y : LN, v = lnV y ∧ y.n = x.n ∧ NodeV V2 y := fun w hV => by
  have hs : St ⟨V, w, gsOf []⟩ V [] w := ⟨Exc.refl _ w, fun p x hp => ⟨hV p x hp, by simp⟩, fun p x hp _ => hp, VLe.refl V, by simp, by simp⟩
  refine (Own_c V x hx V (VLe.refl _) hsm w hs).mono fun e w' ⟨v, V', Bs', he, hst, y, es, hv, hyn, hO⟩ => ?_
  obtain ⟨V'', h1, h2, h3⟩ := hst.shut hO.row repl_all (by simp)
  exact ⟨v, he, h3.ext.ext, V'', h3.v0, fun p x hp => (h3.view p x hp).1, h3.old, y, hv, hyn, hO.node h1 h2 (hO.bound hyn hsm)⟩
attribute [local irreducible] AtQ GoC GoL GoW QO QP Fn RV OwnAt CellsFrom VLe SrcIs errV
set_option maxRecDepth 100000
end
section
/-- A list of nodes, as a view knows it. -/
def NodesV (V : View) (A : Option Addr) (n : Nat) (xs : List LN) : Prop := ElsV V 8 lnC A n xs ∧ ∀ x ∈ xs, NodeV V x
theorem NodesV.le {V V' : View} (hv : VLe V V') {A : Option Addr} {n : Nat} {xs : List LN} (h : NodesV V A n xs) : NodesV V' A n xs := ⟨h.1.le hv, fun x hx => (h.2 x hx).le hv⟩
theorem NodesV.at_ {V : View} {A : Option Addr} {n : Nat} {xs : List LN} (h : NodesV V A n xs) {k : Nat} (hk : k < n) : ∃ b off x, A = some ⟨b, off, none⟩ ∧ xs[k]? = some x ∧ CellsFrom V b (off + k * 8) (lnC x) ∧ NodeV V x := by
  obtain ⟨b, off, r, ha, hx, hc⟩ := h.1.at_ hk
  exact ⟨b, off, r, ha, hx, hc, h.2 r (List.mem_of_getElem? hx)⟩
def layF : Int → List LN → List LF
  | _, [] => []
  | i, x :: l => ⟨x, i⟩ :: layF (i + 1) l
theorem layF_snoc : ∀ (l : List LN) (i : Int) (x : LN), layF i (l ++ [x]) = layF i l ++ [⟨x, i + (l.length : Int)⟩]
  | [], i, x => by simp [layF]
  | y :: l, i, x => by
    rw [List.cons_append, layF, layF_snoc l, layF, List.cons_append, List.length_cons]
    congr 4; omega
theorem layF_len : ∀ (l : List LN) (i : Int), (layF i l).length = l.length
  | [], _ => rfl
  | x :: l, i => by rw [layF, List.length_cons, layF_len l, List.length_cons]
theorem layF_fz : ∀ (l : List LN) (i : Int), (layF i l).map fz = layP' i (l.map LN.n)
  | [], _ => rfl
  | x :: l, i => by rw [layF, List.map_cons, List.map_cons, layP', layF_fz l]; rfl
theorem layF_mem : ∀ {l : List LN} {i : Int} {f : LF}, f ∈ layF i l → f.x ∈ l
  | [], _, _, h => by cases h
  | x :: l, i, f, h => by
    rw [layF] at h
    rcases List.mem_cons.1 h with rfl | h
    · simp
    · exact List.mem_cons_of_mem _ (layF_mem h)
/-! What holds of all nodes holds of all that is seen. -/
theorem dirsP_sub : ∀ {l : List PF} {f : PF}, f ∈ dirsP l → f ∈ l
  | [], _, h => h
  | g :: l, f, h => by
    rw [dirsP] at h
    split at h
    · split at h
      · rw [List.mem_singleton.1 h]; simp
      · rcases List.mem_cons.1 h with rfl | h
        · simp
        · exact List.mem_cons_of_mem _ (dirsP_sub h)
    · cases h
theorem shownP_sub {l : List PF} {f : PF} (h : f ∈ shownP l) : f ∈ l := by
  cases l with
  | nil => exact h
  | cons g l =>
    rw [shownP] at h
    split at h
    · rw [List.mem_singleton.1 h]; simp
    · exact dirsP_sub h
theorem stepP_all {p : Hd → PKs → Prop} {l : List PF} {s : ByteArray} (h : ∀ f ∈ l, AllN p f.1) : ∀ f ∈ stepP l s, AllN p f.1 := fun f hf => by
  obtain ⟨g, hg, hgf⟩ := List.mem_filterMap.1 (shownP_sub hf)
  unfold kidP at hgf
  split at hgf
  · cases h2 : lookK g.1.ks s with
    | none => rw [h2] at hgf; cases hgf
    | some x => rw [h2] at hgf; cases hgf; exact (h g hg).kid (look_mem h2)
  · cases hgf
theorem layP_mem : ∀ {l : List PN} {i : Int} {f : PF}, f ∈ layP' i l → f.1 ∈ l
  | [], _, _, h => by cases h
  | x :: l, i, f, h => by
    rw [layP'] at h
    rcases List.mem_cons.1 h with rfl | h
    · simp
    · exact List.mem_cons_of_mem _ (layP_mem h)
theorem walkP_all {p : Hd → PKs → Prop} {l : List PN} (h : ∀ x ∈ l, AllN p x) (ss : List ByteArray) : ∀ f ∈ walkP l ss, AllN p f.1 := by
  have key : ∀ (ss : List ByteArray) (a : List PF), (∀ f ∈ a, AllN p f.1) → ∀ f ∈ ss.foldl stepP a, AllN p f.1 := fun ss => by
    induction ss with
    | nil => intro a ha; exact ha
    | cons s ss ih => intro a ha; exact ih _ (stepP_all ha)
  exact key ss _ fun f hf => h _ (layP_mem (shownP_sub hf))
theorem walk_snoc {l : List PN} {ss : List ByteArray} {k : Nat} {s : ByteArray} (h : ss[k]? = some s) : walkP l (ss.take (k + 1)) = stepP (walkP l (ss.take k)) s := by
  unfold walkP; rw [List.take_add_one, h, List.foldl_append]; rfl
theorem fl_parts {V : View} {b o : Nat} {f : LF} (h : CellsFrom V b o (flC f)) : CellsFrom V b (o + 0) (lnC f.x) ∧ V ⟨b, o + 8, none⟩ = some (.int .i64 f.lay) := by
  refine ⟨fun j v hj => h j v ?_, h 8 _ rfl⟩
  have hj2 : (lnC f.x)[j]? = some v := hj
  have hlt : j < 8 := (List.getElem?_eq_some_iff.1 hj2).1
  have e : flC f = lnC f.x ++ [.int .i64 f.lay] := rfl
  rw [e, List.getElem?_append_left (by exact hlt)]; exact hj2
/-- What Look answers. -/
def LookR (r : List PF) (v : Value) (V' : View) : Prop := (r = [] ∧ v = .tuple #[lnV lnZ, .int .i64 0, .bool false]) ∨ (∃ f l y, r = f :: l ∧ v = .tuple #[lnV y, .int .i64 f.2, .bool true] ∧ NodeV V' y ∧ y.n = f.1)
attribute [local irreducible] AtQ GoC GoL GoW QO QP Fn RV OwnAt CellsFrom VLe SrcIs errV
set_option maxRecDepth 100000
set_option maxRecDepth 100000 in
set_option maxHeartbeats 4000000 in
theorem Roots_c (V : View) (A : Option Addr) (n c : Nat) (xs : List LN) (h : NodesV V A n xs) (hn : n ≤ 1000) : Fn Tryz.prog 158 [.slice A n c] V (FloorsR (rootsP (xs.map LN.n))) := by
  have hl := h.1.1
  (refine fn_enter Tryz.func158 rfl Tryz.ntmps158 rfl ?_; intro w0)
  repeat' (first | (refine k_gw ?_; (first | refine gwg9 ?_ | (refine k_call ?_; (first | refine gwq9 (q_len rfl und_30 rfl) ?_)))) | (refine k_gl ?_; (first | refine gl_nil rfl ?_ | refine gl_go rfl rfl ?_)) | (refine k_gc ?_; (first | refine gc_seq ?_ | refine gc_region ?_ | refine gc_block ?_)) | (refine k_at ?_; (first | refine at_seq ?_ | refine ats9 rfl ?_)))
  refine gc_loop (fun F V' L' m => ∃ (k : Nat) (A' : Option Addr) (c' : Nat) (LA : List Box), V = V' ∧ LA = L' ∧ k ≤ n ∧ RowL A' k c' 186 9 ((layF 0 (xs.take k)).flatMap flC) LA ∧ m = n - k ∧ F = [(3, .slice A' k c'), (6, .slice A n c), (7, .int .i64 n), (8, .int .i64 (k : Int))]) (m := n) ⟨0, none, 0, [], rfl, rfl, Nat.zero_le _, RowL.nil, by omega, rfl⟩ sub9 rfl sl9 ?_
  rintro F V' L' m ⟨k, A', c', LA, rfl, rfl, hkn, hr, rfl, rfl⟩
  by_cases hlt : k < n
  · obtain ⟨b, off, x, rfl, hx, hc, hN⟩ := h.at_ hlt
    have ho1 := ones_f1 ⟨x, (k : Int)⟩
    have htk : (layF 0 (xs.take (k + 1))).flatMap flC = (layF 0 (xs.take k)).flatMap flC ++ flC ⟨x, (k : Int)⟩ := by
      rw [List.take_add_one, hx]
      show (layF 0 (xs.take k ++ [x])).flatMap flC = _
      rw [layF_snoc, List.flatMap_append, List.length_take, Nat.min_eq_left (by omega), Int.zero_add]; simp
    repeat' (first | (refine k_gw ?_; (first | refine gwg9 ?_ | (refine k_call ?_; (first | (refine gw_append rfl und_183 inf_186 rfl rfl rfl hr rep9 (src_o own9 rfl) one9 (by omega) rfl rfl ?_; intro A2 c2 L2 hr2))) | (refine k_binOp ?_; refine gwb9 ?_) | (refine k_indexAddr ?_; (first | refine gwq9 (q_indexAddr und_30 siz_50 rfl rfl (by omega)) ?_)) | (refine k_load ?_; (first | refine gwq9 (q_loadA_o agg_50 rfl own9 (by exact rfl)) ?_ | refine gwq9 (q_loadA_v agg_50 rfl (by assumption) (by exact rfl)) ?_)) | (refine k_alloc ?_; (first | (refine gw_alloc rfl zer_50 rfl ?_; intro γ))) | (refine k_store ?_; (first | refine gw_store rfl siz_50 rfl rfl rfl rfl one9 put9 rfl ?_)) | (refine k_build ?_; (first | refine gwq9 (q_build bld_186 rfl rfl) ?_)) | (refine k_buildSlice ?_; (first | (refine gw_buildSlice rfl und_183 siz_186 zec_186 rfl rfl rfl rfl rfl rfl rfl ?_; intro γ))))) | (refine k_gl ?_; (first | refine gl_nil rfl ?_ | refine gl_go rfl rfl ?_)) | (refine k_gc ?_; (first | refine gc_seq ?_ | refine gc_region ?_ | (refine gc_cond_p rfl ?_ ?_ <;> intro hq <;> try (exfalso; first | exact hq rfl | omega)) | refine gc_block ?_ | refine gc_skip ?_)) | (refine k_at ?_; (first | refine at_seq ?_ | refine ats9 rfl ?_)))
    refine at_round _ (n - (k + 1)) ⟨k + 1, A2, c2, L2, rfl, rfl, by omega, by rw [htk]; exact hr2, rfl, rfl⟩ (by omega) sub9 sl9
  · obtain rfl : k = n := by omega
    rw [List.take_of_length_le (by omega)] at hr
    refine gc_shut hr rep9 ?_
    intro V2 hV2 hc2
    have hF : FloorsV V2 A' k (layF 0 xs) := FloorsV.of hc2 (by rw [layF_len, hl]) (by unfold maxLen; omega) fun f hf => (h.2 _ (layF_mem hf)).le hV2
    have hS := Shown_c V2 A' k c' _ hF hn
    rw [layF_fz] at hS
    repeat' (first | (refine k_gw ?_; (first | refine gwg9 ?_ | (refine k_call ?_; (first | refine gwq9 (q_len rfl und_30 rfl) ?_ | (refine gw_call rfl ⟨Tryz.call160⟩ rfl rfl (hS) ?_; rintro v V3 hV3 ⟨A3, n3, c3, gs, rfl, hG, hc3, hgz⟩))) | (refine k_binOp ?_; refine gwb9 ?_))) | (refine k_gl ?_; (first | refine gl_nil rfl ?_ | refine gl_go rfl rfl ?_)) | (refine k_gc ?_; (first | refine gc_seq ?_ | refine gc_region ?_ | (refine gc_cond_p rfl ?_ ?_ <;> intro hq <;> try (exfalso; first | exact hq rfl | omega)) | refine gc_exit ?_ | refine gc_ret ?_)) | (refine k_at ?_; (first | refine at_seq ?_ | refine ats9 rfl ?_)))
    all_goals
      (refine at_ret1 Tryz.results158 (rv_tmp rfl) ?_)
      exact ⟨_, _, _, gs, rfl, hG, hc3, hgz⟩
set_option maxRecDepth 100000 in
set_option maxHeartbeats 4000000 in
theorem Walk_c (V : View) (A : Option Addr) (n c : Nat) (xs : List LN) (h : NodesV V A n xs) (hn : n ≤ 1000) (B : Option Addr) (m e : Nat) (ss : List ByteArray) (hs : StrsV V B m ss) : Fn Tryz.prog 115 [.slice A n c, .slice B m e] V (FloorsR (walkP (xs.map LN.n) ss)) := by
  have hl := h.1.1
  have sl := hs.1.1
  have sm := hs.1.max
  (refine fn_enter Tryz.func115 rfl Tryz.ntmps115 rfl ?_; intro w0)
  repeat' (first | (refine k_gw ?_; (first | refine gwg9 ?_ | (refine k_call ?_; (first | refine gwq9 (q_len rfl und_40 rfl) ?_ | (refine gw_call rfl ⟨Tryz.call158⟩ rfl rfl (Roots_c _ A n c xs (h.le vl9) hn) ?_; rintro v V1 hV1 ⟨A1, n1, c1, fs, rfl, hF1, hc1, hz1⟩))))) | (refine k_gl ?_; (first | refine gl_nil rfl ?_ | refine gl_go rfl rfl ?_)) | (refine k_gc ?_; (first | refine gc_seq ?_ | refine gc_region ?_ | refine gc_block ?_)) | (refine k_at ?_; (first | refine at_seq ?_ | refine ats9 rfl ?_)))
  refine gc_loop (fun F V' L' m' => ∃ (k : Nat) (A' : Option Addr) (n' c' : Nat) (gs : List LF), VLe V V' ∧ [] = L' ∧ k ≤ m ∧ FloorsV V' A' n' gs ∧ n' ≤ c' ∧ gs.map fz = walkP (xs.map LN.n) (ss.take k) ∧ m' = m - k ∧ F = [(5, .slice A' n' c'), (10, .slice B m e), (11, .int .i64 m), (12, .int .i64 (k : Int))]) (m := m) ⟨0, A1, n1, c1, fs, vl9, rfl, Nat.zero_le _, hF1, hc1, hz1, by omega, rfl⟩ sub9 rfl sl9 ?_
  rintro F V' L' m' ⟨k, A', n', c', gs, hV', rfl, hkm, hG, hnc, hgz, rfl, rfl⟩
  have hgl : n' ≤ 1000 := by
    have h1 := walkP_len (xs.map LN.n) (ss.take k)
    rw [← hgz, List.length_map, List.length_map, hG.1.1, hl] at h1; omega
  by_cases hlt : k < m
  · obtain ⟨b, off, s, hB, hx, hc, _⟩ := (hs.le hV').at_ hlt
    have hS := Step_c V' A' n' c' gs hG hgl s
    rw [hgz, ← walk_snoc hx] at hS
    repeat' (first | (refine k_gw ?_; (first | refine gwg9 ?_ | (refine k_call ?_; (first | refine gwq9 (q_len rfl und_40 rfl) ?_ | (refine gw_call rfl ⟨Tryz.call116⟩ rfl rfl (hS) ?_; rintro v V2 hV2 ⟨A2, n2, c2, fs2, rfl, hF2, hc2, hz2⟩))) | (refine k_binOp ?_; refine gwb9 ?_) | (refine k_indexAddr ?_; (first | refine gwq9 (q_indexAddr_e und_40 siz_9 rfl hB rfl hlt) ?_)) | (refine k_load ?_; (first | refine gwq9 (q_load_o one_9 rfl own9 (by exact rfl)) ?_ | refine gwq9 (q_load_o one_9 rfl own9 (by assumption)) ?_ | refine gwq9 (q_load_v one_9 rfl (by assumption)) ?_)))) | (refine k_gl ?_; (first | refine gl_nil rfl ?_ | refine gl_go rfl rfl ?_)) | (refine k_gc ?_; (first | refine gc_seq ?_ | refine gc_region ?_ | (refine gc_cond_p rfl ?_ ?_ <;> intro hq <;> try (exfalso; first | exact hq rfl | omega)) | refine gc_block ?_ | refine gc_skip ?_)) | (refine k_at ?_; (first | refine at_seq ?_ | refine ats9 rfl ?_)))
    refine at_round _ (m - (k + 1)) ⟨k + 1, A2, n2, c2, fs2, vl9, rfl, by omega, hF2, hc2, hz2, rfl, rfl⟩ (by omega) sub9 sl9
  · obtain rfl : k = m := by omega
    rw [List.take_of_length_le (by omega)] at hgz
    repeat' (first | (refine k_gw ?_; (first | refine gwg9 ?_ | (refine k_binOp ?_; refine gwb9 ?_))) | (refine k_gl ?_; (first | refine gl_nil rfl ?_ | refine gl_go rfl rfl ?_)) | (refine k_gc ?_; (first | refine gc_seq ?_ | refine gc_region ?_ | (refine gc_cond_p rfl ?_ ?_ <;> intro hq <;> try (exfalso; first | exact hq rfl | omega)) | refine gc_exit ?_ | refine gc_ret ?_)) | (refine k_at ?_; (first | refine at_seq ?_ | refine ats9 rfl ?_)))
    all_goals
      (refine at_ret1 Tryz.results115 (rv_tmp rfl) ?_)
      exact ⟨_, _, _, gs, rfl, hG, hnc, hgz⟩
set_option maxRecDepth 100000 in
set_option maxHeartbeats 4000000 in
theorem LookM_c (V : View) (A : Option Addr) (n c : Nat) (xs : List LN) (h : NodesV V A n xs) (hn : n ≤ 1000) (hsm : ∀ x ∈ xs, AllN smallP x.n) (B : Option Addr) (m e : Nat) (ss : List ByteArray) (hs : StrsV V B m ss) : Fn Tryz.prog 151 [.slice A n c, .slice B m e] V (LookR (walkP (xs.map LN.n) ss)) := by
  have hall := walkP_all (p := smallP) (l := xs.map LN.n) (fun x hx => by obtain ⟨y, hy, rfl⟩ := List.mem_map.1 hx; exact hsm y hy) ss
  have hW := Walk_c V A n c xs h hn B m e ss hs
  generalize walkP (xs.map LN.n) ss = r at *
  (refine fn_enter Tryz.func151 rfl Tryz.ntmps151 rfl ?_; intro w0)
  repeat' (first | (refine k_gw ?_; (first | (refine k_alloc ?_; (first | (refine gw_alloc rfl zer_50 rfl ?_; intro γ))) | refine gwg9 ?_ | (refine k_call ?_; (first | refine gwq9 (q_len rfl und_183 rfl) ?_ | (refine gw_call rfl ⟨Tryz.call115⟩ rfl rfl (hW) ?_; rintro v V1 hV1 ⟨A1, n1, c1, fs, rfl, hF1, hc1, rfl⟩))) | (refine k_binOp ?_; refine gwb9 ?_) | (refine k_build ?_; (first | refine gwq9 (q_build bld_50 rfl rfl) ?_)) | (refine k_store ?_; (first | refine gw_store rfl siz_50 rfl rfl rfl rfl one9 put9 rfl ?_)))) | (refine k_gl ?_; (first | refine gl_nil rfl ?_ | refine gl_go rfl rfl ?_)) | (refine k_gc ?_; (first | refine gc_seq ?_ | refine gc_region ?_ | (refine gc_cond_p rfl ?_ ?_ <;> intro hq <;> try (exfalso; first | exact hq rfl | omega)) | refine gc_ret ?_ | refine gc_skip ?_)) | (refine k_at ?_; (first | refine at_seq ?_ | refine ats9 rfl ?_)))
  · (refine at_ret3 Tryz.results151 (rv_cellA agg_50 rfl own9 (by exact rfl)) (rv_tmp rfl) (rv_tmp rfl) ?_)
    have hfl := hF1.1.1
    obtain rfl : fs = [] := List.eq_nil_of_length_eq_zero (by omega)
    exact .inl ⟨rfl, rfl⟩
  · have hfl := hF1.1.1
    obtain ⟨f, t, rfl⟩ : ∃ f t, fs = f :: t := by
      cases fs with
      | nil => simp at hfl; omega
      | cons f t => exact ⟨f, t, rfl⟩
    obtain ⟨b, off, f', rfl, hf', hcf, hNf⟩ := hF1.at_ (k := 0) (by omega)
    obtain rfl : f = f' := by simpa using hf'
    have hO := Own_v V1 f.x hNf (hall (fz f) (by simp))
    obtain ⟨hc8, hc9⟩ := fl_parts hcf
    refine gc_held (id := 4) _ mixed (List.nil_sublist _) ?_; (first | refine gtk9 0 rfl rfl (q_move rfl) ?_); (first | refine gtk9 1 rfl rfl (q_indexAddr (k := 0) und_183 siz_186 rfl rfl (by omega)) ?_); (first | refine gtk9 2 rfl rfl (q_fieldAddr fld_186_0 rfl) ?_); (first | refine gtk9 3 rfl rfl (q_loadA_v agg_50 rfl (by assumption) (by exact rfl)) ?_); (first | refine gtk9 5 rfl rfl (q_move rfl) ?_); (first | refine gtk9 6 rfl rfl (q_indexAddr (k := 0) und_183 siz_186 rfl rfl (by omega)) ?_); (first | refine gtk9 7 rfl rfl (q_fieldAddr fld_186_1 rfl) ?_); (first | refine gtk9 8 rfl rfl (q_load_v one_3 rfl (by assumption)) ?_); refine gon9 (i := 4) rfl ?_; (first | (refine gw_call rfl ⟨Tryz.call39⟩ rfl rfl (hO) ?_; rintro v V2 hV2 ⟨y, rfl, hyn, hyN⟩)); refine gon9 (i := 9) rfl ?_; (first | refine gw_store rfl siz_50 rfl rfl rfl rfl one9 put9 rfl ?_); (first | refine gtk9 10 rfl rfl (q_assign rfl) ?_); (first | refine gtk9 11 rfl rfl (q_assign rfl) ?_); refine gh_done (by kernel_rfl) vl9 vl9 slb9 ?_
    repeat' (first | (refine k_gc ?_; (first | refine gc_ret ?_)) | (refine k_at ?_; (first | refine at_seq ?_ | refine ats9 rfl ?_)))
    (refine at_ret3 Tryz.results151 (rv_cellA agg_50 rfl own9 (by exact rfl)) (rv_tmp rfl) (rv_tmp rfl) ?_)
    exact .inr ⟨fz f, t.map fz, y, rfl, rfl, hyN, hyn⟩
end
section
theorem fl_bits {V : View} {b o : Nat} {f : LF} (h : CellsFrom V b o (flC f)) : V ⟨b, o + 0 + 0, none⟩ = some (.int .i64 f.x.h.kind) ∧ V ⟨b, o + 0 + 4, none⟩ = some (.bool f.x.h.opq) := ⟨h 0 _ rfl, h 4 _ rfl⟩
theorem FloorsV.take {V : View} {A : Option Addr} {n k : Nat} {fs : List LF} (h : FloorsV V A n fs) (hk : k ≤ n) : FloorsV V A k (fs.take k) := ⟨h.1.take hk, fun f hf => h.2 f (List.mem_of_mem_take hf)⟩
attribute [local irreducible] AtQ GoC GoL GoW QO QP Fn RV OwnAt CellsFrom VLe SrcIs errV
set_option maxRecDepth 100000
end
section
def kidB (cut : Bool) (s : ByteArray) (f : PF) : Option PF := if cut = true ∧ f.2 = 0 then none else kidP s f
/-- What is seen behind so many names; bare: without layer 0's kid of the last one. -/
def stackK (l : List PN) (ss : List ByteArray) (bare : Bool) : Nat → List PF
  | 0 => rootsP l
  | k + 1 => match ss[k]? with
    | some s => shownP ((stackK l ss bare k).filterMap (kidB (bare && decide (k + 1 = ss.length)) s))
    | none => stackK l ss bare k
theorem stackK_succ {l : List PN} {ss : List ByteArray} {bare : Bool} {k : Nat} {s : ByteArray} (h : ss[k]? = some s) : stackK l ss bare (k + 1) = shownP ((stackK l ss bare k).filterMap (kidB (bare && decide (k + 1 = ss.length)) s)) := by
  rw [stackK, h]
theorem kidB_false (s : ByteArray) : kidB false s = kidP s := by funext f; unfold kidB; rw [if_neg (by rintro ⟨h, _⟩; cases h)]
theorem kidB_cut {cut : Bool} {s : ByteArray} {f : PF} (h : cut = true) (h0 : f.2 = 0) : kidB cut s f = none := if_pos ⟨h, h0⟩
attribute [local irreducible] AtQ GoC GoL GoW QO QP Fn RV OwnAt CellsFrom VLe SrcIs errV
set_option maxRecDepth 100000
end
section
/-- The lowest byte of a number. -/
def b8 (x : Int) : UInt8 := UInt8.ofNat (x % 256).toNat
def b16 (x : Int) : List UInt8 := [b8 (x / 256), b8 x]
/-- A text, and how many bytes it has ahead of it. -/
def layT (s : ByteArray) : List UInt8 := b8 (s.size : Int) :: s.toList
def flagN (h : Hd) : Int := if h.opq = true then h.kind + 8 else h.kind
def layH (h : Hd) : List UInt8 := b8 (flagN h) :: (b16 h.mode ++ b16 h.user ++ b16 h.group) ++ [b8 (h.attrs.length : Int)]
def layA (l : List PA) : List UInt8 := l.flatMap fun a => layT a.n ++ layT a.v
mutual
def layP : PN → List UInt8
  | .mk h ks => layH h ++ layA h.attrs ++ (layT h.data ++ [b8 (ks.length : Int)]) ++ layK ks
termination_by n => SizeOf.sizeOf n
def layK : PKs → List UInt8
  | [] => []
  | (nm, n) :: ks => layT nm ++ layP n ++ layK ks
termination_by ks => SizeOf.sizeOf ks
end
theorem layK_app : ∀ (l m : PKs), layK (l ++ m) = layK l ++ layK m
  | [], m => by simp [layK]
  | (nm, n) :: l, m => by rw [List.cons_append, layK, layK, layK_app l m]; simp
theorem layA_app (l m : List PA) : layA (l ++ m) = layA l ++ layA m := by unfold layA; simp
theorem b8_nat (x : Int) : ((b8 x).toNat : Int) = x % 256 := by
  unfold b8
  rw [UInt8.toNat_ofNat']
  have h1 : 0 ≤ x % 256 := Int.emod_nonneg _ (by omega)
  have h2 : x % 256 < 256 := Int.emod_lt_of_pos _ (by omega)
  omega
theorem layT_len (s : ByteArray) : (layT s).length = s.size + 1 := by unfold layT; rw [List.length_cons, Lib.toList_data]; rfl
theorem layH_len (h : Hd) : (layH h).length = 8 := by simp [layH, b16]
/-- What a node that is right has. -/
def fitP (h : Hd) (ks : PKs) : Prop := (1 ≤ h.kind ∧ h.kind ≤ 3) ∧ (0 ≤ h.mode ∧ h.mode ≤ 4095) ∧ (0 ≤ h.user ∧ h.user ≤ 65535) ∧ (0 ≤ h.group ∧ h.group ≤ 65535) ∧ (h.attrs.length ≤ 4 ∧ ∀ a ∈ h.attrs, a.n.size ≤ 14 ∧ a.v.size ≤ 20) ∧ h.data.size ≤ 200 ∧ ks.length ≤ 60 ∧ ∀ k ∈ ks, k.1.size ≤ 12
theorem class_len {s : ByteArray} (h : ¬ classZ s = 0) : s.size ≤ 14 := by
  unfold classZ at h
  split at h
  · rename_i h1
    have h2 := h1.2
    unfold nameZ at h2
    simp only [Bool.and_eq_true, decide_eq_true_eq] at h2
    have h3 := h2.1.1.1.2
    rw [List.length_drop, show s.toList.length = s.size by rw [Lib.toList_data]; rfl] at h3
    omega
  · exact absurd rfl h
theorem name_len {s : ByteArray} (h : nameZ s.toList = true) : s.size ≤ 12 := by
  unfold nameZ at h
  simp only [Bool.and_eq_true, decide_eq_true_eq] at h
  have h3 := h.1.1.1.2
  rw [show s.toList.length = s.size by rw [Lib.toList_data]; rfl] at h3
  exact h3
theorem layA_len {l : List PA} (h : ∀ a ∈ l, a.n.size ≤ 14 ∧ a.v.size ≤ 20) : (layA l).length ≤ 36 * l.length := by
  induction l with
  | nil => simp [layA]
  | cons a l ih =>
    have h1 := h a (by simp)
    have h2 := ih fun b hb => h b (by simp [hb])
    have e : layA (a :: l) = (layT a.n ++ layT a.v) ++ layA l := by simp [layA]
    rw [e, List.length_append, List.length_append, layT_len, layT_len, List.length_cons]; omega
theorem oneF_fit {h : Hd} {many upper root : Bool} (h0 : oneF h many upper root = 0) : (1 ≤ h.kind ∧ h.kind ≤ 3) ∧ (0 ≤ h.mode ∧ h.mode ≤ 4095) ∧ (0 ≤ h.user ∧ h.user ≤ 65535) ∧ (0 ≤ h.group ∧ h.group ≤ 65535) ∧ (h.attrs.length ≤ 4 ∧ ∀ a ∈ h.attrs, a.n.size ≤ 14 ∧ a.v.size ≤ 20) ∧ h.data.size ≤ 200 := by
  unfold oneF at h0
  split at h0
  · omega
  · rename_i h1
    split at h0
    · omega
    · rename_i h2
      split at h0
      · rename_i h3; exact absurd h0 h3
      · rename_i h3
        split at h0
        · omega
        · rename_i h4
          have h2 := Decidable.not_not.1 h2
          obtain ⟨a1, _, a3⟩ := attrF_rises (Decidable.not_not.1 h3)
          exact ⟨by omega, h2.1, h2.2.1, h2.2.2, ⟨a1, fun a ha => ⟨class_len (a3 a ha).1, (a3 a ha).2⟩⟩, by omega⟩
mutual
theorem countF_fit (upper : Bool) : ∀ (deep so : Nat) (n : PN), so ≤ 60 → (countF upper deep so n).2 = 0 → AllN fitP n ∧ so < (countF upper deep so n).1 ∧ (countF upper deep so n).1 ≤ 60 ∧ (layP n).length + 13 + 400 * so ≤ 400 * (countF upper deep so n).1
  | deep, so, .mk h ks, hs, h0 => by
    rw [countF] at h0 ⊢
    by_cases h1 : so = 60 ∨ 6 < deep
    · rw [if_pos h1] at h0; simp at h0
    · rw [if_neg h1] at h0 ⊢
      by_cases h2 : oneF h (decide (0 < ks.length)) upper (decide (deep = 0)) = 0
      · rw [if_neg (not_not_intro h2)] at h0 ⊢
        obtain ⟨b1, b2, b3, b4⟩ := countK_fit upper deep (so + 1) none ks (by omega) h0
        obtain ⟨a1, a2, a3, a4, a5, a6⟩ := oneF_fit h2
        refine ⟨.mk ⟨a1, a2, a3, a4, a5, a6, by omega, fun k hk => (b1 k hk).1⟩ fun k hk => (b1 k hk).2, by omega, b3, ?_⟩
        have := layA_len a5.2
        rw [layP]
        simp only [List.length_append, List.length_cons, List.length_nil, layT_len, layH_len]
        omega
      · rw [if_pos h2] at h0; exact absurd h0 h2
theorem countK_fit (upper : Bool) : ∀ (deep so : Nat) (prev : Option ByteArray) (ks : PKs), so ≤ 60 → (countK upper deep so prev ks).2 = 0 → (∀ k ∈ ks, k.1.size ≤ 12 ∧ AllN fitP k.2) ∧ so + ks.length ≤ (countK upper deep so prev ks).1 ∧ (countK upper deep so prev ks).1 ≤ 60 ∧ (layK ks).length + 400 * so ≤ 400 * (countK upper deep so prev ks).1
  | deep, so, prev, [], hs, h0 => by rw [countK, layK]; simp; exact hs
  | deep, so, prev, (nm, n) :: ks, hs, h0 => by
    rw [countK] at h0 ⊢
    by_cases h1 : nameZ nm.toList = true
    · rw [if_neg (not_not_intro h1)] at h0 ⊢
      split at h0
      · simp at h0
      · rename_i h2
        rw [if_neg h2]
        by_cases h3 : (countF upper (deep + 1) so n).2 = 0
        · rw [if_neg (not_not_intro h3)] at h0 ⊢
          obtain ⟨a1, a2, a3, a4⟩ := countF_fit upper (deep + 1) so n hs h3
          obtain ⟨b1, b2, b3, b4⟩ := countK_fit upper deep _ _ ks a3 h0
          have hn := name_len h1
          refine ⟨fun k hk => ?_, by simp only [List.length_cons]; omega, b3, ?_⟩
          · rcases List.mem_cons.1 hk with rfl | hk
            · exact ⟨hn, a1⟩
            · exact b1 k hk
          · rw [layK, List.length_append, List.length_append, layT_len]; omega
        · rw [if_pos h3] at h0; exact absurd h0 h3
    · rw [if_pos h1] at h0; simp at h0
end
theorem treeF_fit {upper : Bool} {n : PN} (h : treeF upper n = 0) : AllN fitP n ∧ (layP n).length ≤ 24000 := by
  unfold treeF at h
  split at h
  · omega
  · obtain ⟨h1, _, h3, h4⟩ := countF_fit upper 0 0 n (by omega) h
    exact ⟨h1, by omega⟩
theorem layA_take {l : List PA} {k : Nat} {a : PA} (h : l[k]? = some a) : layA (l.take (k + 1)) = layA (l.take k) ++ (layT a.n ++ layT a.v) := by
  rw [List.take_add_one, h, layA_app]; simp [layA]
theorem layK_take {ks : PKs} {k : Nat} {e : ByteArray × PN} (h : ks[k]? = some e) : layK (ks.take (k + 1)) = layK (ks.take k) ++ layT e.1 ++ layP e.2 := by
  obtain ⟨a, b⟩ := e
  rw [List.take_add_one, h, layK_app]; simp [layK]
theorem layA_le (l : List PA) (k : Nat) : (layA (l.take k)).length ≤ (layA l).length := by
  have := layA_app (l.take k) (l.drop k)
  rw [List.take_append_drop] at this; rw [this, List.length_append]; omega
theorem layK_le (ks : PKs) (k : Nat) : (layK (ks.take k)).length ≤ (layK ks).length := by
  have := layK_app (ks.take k) (ks.drop k)
  rw [List.take_append_drop] at this; rw [this, List.length_append]; omega
theorem layP_eq (h : Hd) (ks : PKs) : layP (.mk h ks) = layH h ++ layA h.attrs ++ (layT h.data ++ [b8 (ks.length : Int)]) ++ layK ks := by rw [layP]
end
section
structure ExternIs (P : Program) (f : FuncId) (e : Array Value → Sem Value) : Prop where
  h : ∀ args w, (callFunc f args).run P w = ((e args).run P w).andThen fun v w' => .ok (.value v) w'
structure PInf (P : Program) (T : TypeId) : Prop where
  h : ∃ te j, P.underlying T = some (.pointer te) ∧ P.info? te = some j
structure SzInf (P : Program) (T : TypeId) : Prop where
  h : ∃ j, P.info? T = some j ∧ j.size ≠ 0
structure U8Inf (P : Program) (E : TypeId) : Prop where
  h : ∃ i, P.info? E = some i ∧ i.zero = some (.int .u8 0) ∧ i.size = 1 ∧ i.bytes = 1
def OwnT (L : List Box) (g : Nat) (t : TypeId) (n : Nat) : Prop := ∃ cs : List Value, cs.length = n ∧ ⟨g, t, cs⟩ ∈ L
theorem ownT_here {g n : Nat} {t : TypeId} {cs : List Value} {L : List Box} (h : cs.length = n) : OwnT (⟨g, t, cs⟩ :: L) g t n := ⟨cs, h, by simp⟩
theorem u8C_byte (l : List UInt8) : u8C l = Lib.byteCells l := rfl
theorem u8C_str (s : ByteArray) : u8C s.toList = Lib.strCells s := by rw [Lib.strCells_eq, u8C_byte, Lib.toList_data]
theorem u8C_app (a b : List UInt8) : u8C (a ++ b) = u8C a ++ u8C b := by simp [u8C]
section
variable {P : Program} {B : Base} {N : Nat} {Q : Exit → Act → World → Prop} {k : List Cont} {F : List (Nat × Value)} {V : View} {L : List Box} {w : World}
variable {d : Option Tmp} {ty : TypeId} {pos : String} {af : Array Edge} {gd : Option (Nat × Bool)} {x y : Operand} {T T2 : TypeId} {ops : Array Oper} {rest : List Oper}
theorem exec_extern {f : FuncId} {e : Array Value → Sem Value} {args : List Operand} {ats : Array TypeId} {vs : List Value} {a : Act} (he : ExternIs P f e) (ha : Kn N F a) (hv : evL F args = some vs) :
    (execOp a.eval ⟨d, .call ⟨.value (.func f), args.toArray, ats⟩, ty, pos, af, gd⟩).run P w = ((e vs.toArray).run P w).andThen fun v w' => .ok (.value v) w' := by
  have h := ha.evL hv
  simp [execOp, resolve, Deferred.ofValue, invoke, Act.eval, h, he.h]
theorem q_extern {f : FuncId} {e : Array Value → Sem Value} {args : List Operand} {ats : Array TypeId} {vs : List Value} {v : Value} (he : ExternIs P f e) (hv : evL F args = some vs) (hr : ∀ w, (e vs.toArray).run P w = .ok v w) : QP P B N V L ⟨d, .call ⟨.value (.func f), args.toArray, ats⟩, ty, pos, af, gd⟩ F v := q_of fun a w ha hs => by
  rw [exec_extern he ha hv, hr]; rfl
theorem q_pneq_same {t ty2 : TypeId} {a : Addr} (hp : PInf P t) (hx : evF F x = some (.pointer (some a))) (hy : evF F y = some (.pointer (some a))) : QP P B N V L ⟨d, .binOp .neq t x y ty2, ty, pos, af, gd⟩ F (.bool false) := by
  obtain ⟨te, j, h1, h2⟩ := hp.h
  exact q_bin hx hy (fun w => by cases y <;> simp [eqGuard] <;> (split <;> simp_all)) (fun w => Lib.run_neq_ptr_same w a h1 h2)
theorem OwnT.shape {g n : Nat} {t : TypeId} (h : OwnT L g t n) (hs : St B V L w) : w.shape? g = some (t, n) := by
  obtain ⟨cs, hn, hm⟩ := h
  have ho := (hs.own _ hm).1
  simp only [] at ho
  simp [World.shape?, ho, hn]
theorem q_toUnsafe {src dst t e : TypeId} {g n : Nat} (hs : UnderIs P src (.pointer t)) (hd : UnderIs P dst .unsafePointer) (hj : SzInf P t) (hx : evF F x = some (.pointer (some ⟨g, 0, none⟩))) (ho : OwnT L g e n) (hn : Nat.blt 0 n = true) : QP P B N V L ⟨d, .convert src dst x, ty, pos, af, gd⟩ F (.pointer (some ⟨g, 0, none⟩)) := q_of fun a w ha hst => by
  obtain ⟨j, h1, h2⟩ := hj.h
  have h := Lib.run_to_unsafe (P := P) w ⟨g, 0, none⟩ hs.u hd.u h1 h2 (ho.shape hst) (by simpa [Nat.blt_eq] using hn)
  simp [execOp, ha.ev hx, h]
theorem q_fromUnsafe {src dst u e : TypeId} {g n : Nat} (hs : UnderIs P src .unsafePointer) (hd : UnderIs P dst (.pointer u)) (hj : SzInf P u) (hx : evF F x = some (.pointer (some ⟨g, 0, none⟩))) (ho : OwnT L g e n) (hl : liesAt P P.depth e (n / P.cellsOf e) 0 u 1 = true) : QP P B N V L ⟨d, .convert src dst x, ty, pos, af, gd⟩ F (.pointer (some ⟨g, 0, none⟩)) := q_of fun a w ha hst => by
  obtain ⟨j, h1, h2⟩ := hj.h
  have h := Lib.run_from_unsafe (P := P) w ⟨g, 0, none⟩ hs.u hd.u h1 (ho.shape hst) hl
  simp [execOp, ha.ev hx, h]
theorem q_slData {g n c : Nat} (hx : evF F x = some (.slice (some ⟨g, 0, none⟩) n c)) (hc : 0 < c) : QP P B N V L ⟨d, .call ⟨.builtin .unsafeSliceData, #[x], #[T]⟩, ty, pos, af, gd⟩ F (.pointer (some ⟨g, 0, none⟩)) := q_of fun a w ha hst => by
  have h := Lib.run_unsafeSliceData_row (P := P) w #[T] ty ⟨g, 0, none⟩ n c (by omega)
  simp [execOp, ha.ev hx, resolve, invoke, builtin, h]
theorem q_slData0 {n c : Nat} (hx : evF F x = some (.slice none n c)) : QP P B N V L ⟨d, .call ⟨.builtin .unsafeSliceData, #[x], #[T]⟩, ty, pos, af, gd⟩ F (.pointer none) := q_of fun a w ha hst => by
  have h := Lib.run_unsafeSliceData_nil (P := P) w #[T] ty n c
  simp [execOp, ha.ev hx, resolve, invoke, builtin, h]
theorem q_ustr0 {p : Option Addr} (hx : evF F x = some (.pointer p)) (hy : evF F y = some (.int .i64 0)) : QP P B N V L ⟨d, .call ⟨.builtin .unsafeString, #[x, y], #[T, T2]⟩, ty, pos, af, gd⟩ F (.string ⟨#[]⟩) := q_of fun a w ha hst => by
  have h := Lib.run_unsafeString_none (P := P) w T T2 ty p
  simp [execOp, ha.ev hx, ha.ev hy, resolve, invoke, builtin, h]
  rfl
/-- The row's block is frozen, and no box any more. -/
theorem St.freeze {X Y : List Box} {g n : Nat} {E : TypeId} {cs : List Value} (hs : St B V (X ++ (⟨g, E, cs⟩ :: Y)) w) : St B V (X ++ Y) (w.freeze ⟨g, 0, none⟩ n) := by
  have hg := hs.own ⟨g, E, cs⟩ (by simp)
  have hne : ∀ b ∈ X ++ Y, b.g ≠ g := by
    intro b hb e
    have hnd := hs.nodup
    rw [List.map_append, List.map_cons, List.nodup_append] at hnd
    obtain ⟨_, h2, h3⟩ := hnd
    rcases List.mem_append.1 hb with hb | hb
    · exact h3 b.g (List.mem_map_of_mem hb) g (by simp) e
    · exact (List.nodup_cons.1 h2).1 (List.mem_map.2 ⟨b, hb, e⟩)
  have hsub : (X ++ Y).Sublist (X ++ (⟨g, E, cs⟩ :: Y)) := List.Sublist.append (List.Sublist.refl X) (List.sublist_cons_self _ _)
  have hblk : ∀ k, ¬ k = g → (w.freeze ⟨g, 0, none⟩ n).heap[k]? = w.heap[k]? := by
    intro k hk
    unfold World.freeze
    split
    · rfl
    · simp only [Array.getElem?_modify]
      rw [if_neg (by omega)]
  have hx : Exc [g] w (w.freeze ⟨g, 0, none⟩ n) := by
    refine ⟨?_, ?_, ?_, ?_, fun k _ hn => hblk k (by simpa using hn)⟩
    all_goals (unfold World.freeze; split)
    all_goals first | rfl | simp
  refine ⟨hs.ext.trans hx (by intro y hy; simp at hy; subst hy; exact hg.2), fun p x hp => ?_, hs.old, hs.v0, fun b hb => ?_, List.Nodup.sublist (hsub.map Box.g) hs.nodup⟩
  · obtain ⟨h1, h2⟩ := hs.view p x hp
    refine ⟨?_, fun b hb => h2 b (hsub.subset hb)⟩
    have hpg : ¬ p.block = g := fun e => h2 ⟨g, E, cs⟩ (by simp) e.symm
    rw [World.cell?_of_block (hblk _ hpg)]; exact h1
  · have ho := hs.own b (hsub.subset hb)
    exact ⟨by rw [hblk _ (hne b hb)]; exact ho.1, ho.2⟩
theorem gw_ustr {dr : Mode} (hdr : dr.loud = true) {e g c : Nat} {us : List UInt8} {m : Int} {L1 : List Box} {f : List Box → List Box} (hp : UnderIs P T (.pointer e)) (hc : P.cellsOf e = 1) (hx : evF F x = some (.pointer (some ⟨g, 0, none⟩))) (hy : evF F y = some (.int .i64 m)) (hm : m = us.length) (hr : RowL (some ⟨g, 0, none⟩) us.length c e 1 (u8C us) L1) (hL : Repl L L1 f) (h0 : 0 < us.length) (hd : okD N d = true)
    (h : GoL P B N dr ops Q k rest (putF F d (.string ⟨us.toArray⟩)) V (f [])) : GoW P B N dr ops Q k ⟨d, .call ⟨.builtin .unsafeString, #[x, y], #[T, T2]⟩, ty, pos, af, gd⟩ rest F V L := gw_loud hdr fun a w ha hs => by
  subst hm
  obtain ⟨X, Y, hX, hf⟩ := hL.h
  rcases hr.2 with ⟨_, h, _⟩ | ⟨g', cs, he, rfl, h2, h3, h4, h5⟩
  · cases h
  obtain rfl : g = g' := by injection he with he; injection he
  subst hX
  have ho := (hs.own ⟨g, e, cs⟩ (by simp)).1
  simp only [] at ho
  have hsh : w.shape? g = some (e, cs.length) := by simp [World.shape?, ho]
  have hcell : ∀ j u, us[j]? = some u → w.cell? ((⟨g, 0, none⟩ : Addr).add j) = some (.int .u8 u.toNat) := by
    intro j u hj
    rw [add_none, Nat.zero_add]
    have hu : (u8C us)[j]? = some (.int .u8 u.toNat) := by simp [u8C, hj]
    rw [← h5, List.getElem?_take] at hu
    split at hu
    · simp [World.cell?, ho, hu]
    · cases hu
  have h63 : us.length ≤ 9223372036854775807 := by unfold maxLen at h3; omega
  have hrun := Lib.run_unsafeString_row (P := P) w T T2 ty e hp.u hc g cs.length hsh us (by intro e; subst e; simp at h0) (by omega) h63 hcell
  refine wp_value (w' := w.freeze ⟨g, 0, none⟩ us.length) (v := .string ⟨us.toArray⟩) ?_ (gl_loud hdr h _ _ (ha.put hd _) (by rw [hf]; exact hs.freeze))
  simp [execOp, ha.ev hx, ha.ev hy, resolve, invoke, builtin, hrun]
theorem gw_appends {dr : Mode} (hdr : dr.loud = true) {E n c : Nat} {dd : Nat} {A : Option Addr} {s : ByteArray} {xs : List Value} {L1 : List Box} (hu : UnderIs P T (.slice E)) (hu2 : UnderIs P T2 .string) (hi : U8Inf P E) (hx : evF F x = some (.slice A n c)) (hy : evF F y = some (.string s))
    (hr : RowL A n c E 1 xs L1) (hA : A = none ∨ 0 < c) {f : List Box → List Box} (hL : Repl L L1 f) (h63 : n + s.size ≤ 1000000000) (hd : okD N (some dd) = true)
    (h : ∀ A' c' L1', RowL A' (n + s.size) c' E 1 (xs ++ u8C s.toList) L1' → (A' = none ∨ 0 < c') → GoL P B N dr ops Q k rest ((dd, .slice A' (n + s.size) c') :: F) V (f L1')) : GoW P B N dr ops Q k ⟨some dd, .call ⟨.builtin .append, #[x, y], #[T, T2]⟩, ty, pos, af, gd⟩ rest F V L := gw_loud hdr fun a w ha hs => by
  obtain ⟨i, hinfo, hz, hi1, hi2⟩ := hi.h
  obtain ⟨X, Y, hX, hf⟩ := hL.h
  have hown := hr.owns hs (fun b hb => by rw [hX]; simp [hb])
  obtain ⟨v', w', hrun, ho, hg, hnil⟩ := Lib.run_append_own_string (P := P) w 0 T T2 ty E i hu.u hu2.u hinfo hz hi1 hi2 (.slice A n c) n xs hown s (by unfold maxLen; omega) (by omega) (Nat.zero_le _)
  have hxl : xs.length = n := by simpa using hr.1
  have hat : (v'.ownBlock = (Value.slice A n c).ownBlock ∨ v'.ownBlock = some w.heap.size) ∧ (s.size = 0 → ∃ A', v' = .slice A' (n + s.size) c ∧ A' = A) := by
    rcases hr.2 with ⟨_, rfl, rfl, rfl⟩ | ⟨g, cs, rfl, rfl, h2, h3, h4, h5⟩
    · by_cases h0 : s.size = 0
      · have e := hnil.2 ⟨rfl, h0⟩
        subst e
        exact ⟨.inl rfl, fun _ => ⟨none, by rw [h0], rfl⟩⟩
      · have hr2 := run_append_nil_string (P := P) w T T2 ty E i (.int .u8 0) hu.u hu2.u hinfo hz s (by omega) (by omega) (by rw [hi2]; omega)
        rw [hr2] at hrun
        injection hrun with e1 e2
        subst e1
        exact ⟨.inr rfl, fun h => absurd h h0⟩
    · subst hX
      have hob := (hs.own ⟨g, E, cs⟩ (by simp)).1
      simp only [] at hob
      by_cases hroom : n + s.size ≤ c
      · have hr2 := Lib.run_append_room_string (P := P) w T T2 ty E i hu.u hu2.u hinfo hi1 g n c cs.toArray hob s hroom (by simp; omega)
        rw [hr2] at hrun
        injection hrun with e1 e2
        subst e1
        exact ⟨.inl rfl, fun _ => ⟨_, rfl, rfl⟩⟩
      · have holds : ∀ j u, xs[j]? = some u → w.cell? ((⟨g, 0, none⟩ : Addr).add j) = some u := by
          intro j u hj
          rw [add_none, Nat.zero_add]
          rw [← h5, List.getElem?_take] at hj
          split at hj
          · simp [World.cell?, hob, hj]
          · cases hj
        have hr2 := Lib.run_append_grow_string (P := P) w T T2 ty E i (.int .u8 0) hu.u hu2.u hinfo hz ⟨g, 0, none⟩ n c xs (by rw [hi1]; omega) holds s (by omega) (by omega) (by rw [hi2]; exact growslice_fits (by omega) (by omega))
        rw [hr2] at hrun
        injection hrun with e1 e2
        subst e1
        exact ⟨.inr rfl, fun h => absurd h2 (by omega)⟩
  subst hX
  obtain ⟨A', c', L1', rfl, hr', hs'⟩ := hs.grown hr hg ho hat.1
  refine wp_value (w' := w') (v := .slice A' (n + s.size) c') ?_ (gl_loud hdr (h A' c' L1' (by rw [u8C_str]; exact hr') ?_) _ w' (ha.put hd _) (by rw [hf]; exact hs'))
  · have hrun' : (Builtin.append_ #[T, T2] ty #[.slice A n c, .string s]).run P w = .ok (.slice A' (n + s.size) c') w' := hrun
    simp [execOp, ha.ev hx, ha.ev hy, resolve, invoke, builtin, hrun']
  · by_cases h0 : s.size = 0
    · obtain ⟨A2, e1, e2⟩ := hat.2 h0
      injection e1 with e1 _ e3
      subst e1; subst e2; subst e3; exact hA
    · rcases hr'.2 with ⟨_, h1, _⟩ | ⟨_, _, _, _, h2, _⟩
      · exact .inl h1
      · exact .inr (by omega)
end
end
section
/-- What is known of an operation's value. -/
abbrev Spec := Value → View → Prop
def getR (Rs : List Spec) (j : Nat) : Spec := Rs.getD j (fun _ _ => False)
def dstOf (l : List Oper) (j : Nat) : Nat := ((l[j]?).bind (·.dst)).getD 0
/-- For all values of the operations in D. -/
def Deps (l : List Oper) (Rs : List Spec) (V' : View) : List Nat → (List (Nat × Value) → Prop) → List (Nat × Value) → Prop
  | [], X, F => X F
  | j :: D, X, F => ∀ v, getR Rs j v V' → Deps l Rs V' D X ((dstOf l j, v) :: F)
def waitsB (o : Oper) (j : Nat) : Bool := o.after.any fun e => Region.binds .any e && Nat.beq e.on j
def depsB (o : Oper) (D : List Nat) (i : Nat) : Bool := D.all fun j => Nat.blt j i && waitsB o j
def regionB (l : List Oper) (m N : Nat) (F0 : List (Nat × Value)) : Bool :=
  ((List.range l.length).all fun i => match l[i]? with | some o => o.after.all (fun e => Nat.blt e.on i) | none => false) &&
  ((List.range m).all fun i => match (l[i]?).bind (·.dst) with | some d => Nat.blt d N && (F0.all (fun p => !Nat.beq p.1 d)) && ((List.range i).all fun j => !Nat.beq (dstOf l j) d) | none => false)
def usedB (l : List Oper) (m : Nat) : Bool := (List.range m).all fun i => (List.range l.length).any fun j => Nat.blt i j && (match l[j]? with | some o => waitsB o i | none => false)
theorem waitsB_spec {o : Oper} {j : Nat} (h : waitsB o j = true) : ∃ e ∈ o.after, Region.binds .any e = true ∧ e.on = j := by
  unfold waitsB at h
  rw [Array.any_eq_true] at h
  obtain ⟨i, hi, h⟩ := h
  simp only [Bool.and_eq_true] at h
  exact ⟨o.after[i], Array.getElem_mem hi, h.1, Nat.eq_of_beq_eq_true h.2⟩
theorem wp_tmps {P : Program} {o : Oper} {a : Act} {w : World} {K : Act → World → Prop} {Q : Exit → Act → World → Prop} (h : o.wp P a w K Q) : o.wp P a w (fun a' w' => K a' w' ∧ ∃ v, a'.tmps = (a.put o.dst v).tmps) Q := by
  unfold Oper.wp at *
  generalize (execOp a.eval o).run P w = r at *
  cases r with
  | ok n w' =>
    cases n <;> simp only [Oper.upon] at h ⊢
    case value u => exact ⟨h, u, rfl⟩
    case skip => exact ⟨h, undef, rfl⟩
    case defer d => exact ⟨h, undef, by cases o.dst <;> rfl⟩
    case enter f args =>
      refine Calls.mono h fun e w'' he => ?_
      cases e with
      | returned u => exact ⟨he, u, rfl⟩
      | panicked c => exact he
      | outgrown => exact he
    case row row args => exact Rows.mono h fun u w'' he => ⟨he, u, rfl⟩
  | halt x w' =>
    cases x <;> simp only [Oper.upon] at h ⊢
    case panic u => exact h
theorem wp_thn {P : Program} {o : Oper} {a : Act} {w : World} {X K : Act → World → Prop} {Q : Exit → Act → World → Prop} {k : List Cont} (h : o.wp P a w X (evalQ P Q (.thn K :: k))) : o.wp P a w X (evalQ P Q k) := by
  unfold Oper.wp at *
  generalize (execOp a.eval o).run P w = r at *
  cases r with
  | ok n w' =>
    cases n <;> simp only [Oper.upon] at h ⊢
    case value u => exact h
    case skip => exact h
    case defer d => exact h
    case enter f args =>
      refine Calls.mono h fun e w'' he => ?_
      cases e with
      | returned u => exact he
      | panicked c => exact he
      | outgrown => exact he
    case row row args => exact h
  | halt x w' =>
    cases x <;> simp only [Oper.upon] at h ⊢
    case panic u => exact h
theorem Kn.cons {N : Nat} {F : List (Nat × Value)} {a : Act} {t : Nat} {v : Value} (h : Kn N F a) (h1 : Kn N [(t, v)] a) : Kn N ((t, v) :: F) a :=
  ⟨h.1, h.2.1, fun s u hs => by
    rw [look_cons] at hs
    split at hs
    · rename_i e; subst e
      exact h1.2.2 t u (by rw [look_cons, if_pos rfl]; exact hs)
    · exact h.2.2 s u hs⟩
theorem Kn.kept {N : Nat} {F : List (Nat × Value)} {a a' : Act} {d : Nat} {v : Value} (h : Kn N F a) (hd : ∀ p ∈ F, p.1 ≠ d) (h0 : a'.defers = []) (ht : a'.tmps = (a.put (some d) v).tmps) : Kn N F a' := by
  refine ⟨h0, by rw [ht]; simpa [Act.put] using h.2.1, fun t u hu => ?_⟩
  have hne : t ≠ d := by
    intro e; subst e
    clear h h0 ht
    induction F with
    | nil => simp [look] at hu
    | cons p F ih =>
      obtain ⟨k, x⟩ := p
      rw [look_cons] at hu
      split at hu
      · rename_i e; exact hd (k, x) (by simp) e
      · exact ih hu (fun q hq => hd q (List.mem_cons_of_mem _ hq))
  have := h.2.2 t u hu
  rw [ht]
  simpa [Act.put, Array.getElem?_setIfInBounds_ne (Ne.symm hne)] using this
theorem countP_lt {p q : Nat → Bool} : ∀ {l : List Nat}, (∀ x ∈ l, q x = true → p x = true) → (∃ x ∈ l, p x = true ∧ q x = false) → l.countP q < l.countP p
  | [], _, h => by obtain ⟨x, hx, _⟩ := h; cases hx
  | y :: l, h1, h2 => by
    have hle : l.countP q ≤ l.countP p := List.countP_mono_left fun x hx hq => h1 x (List.mem_cons_of_mem _ hx) hq
    rw [List.countP_cons, List.countP_cons]
    obtain ⟨x, hx, hp, hq⟩ := h2
    rcases List.mem_cons.1 hx with rfl | hx
    · rw [if_pos hp, if_neg (by rw [hq]; decide)]; omega
    · have := countP_lt (l := l) (fun x hx hq => h1 x (List.mem_cons_of_mem _ hx) hq) ⟨x, hx, hp, hq⟩
      by_cases hy : q y = true
      · rw [if_pos hy, if_pos (h1 y (by simp) hy)]; omega
      · rw [if_neg hy]; split <;> omega
section
variable {P : Program} {B : Base} {N : Nat} {Q : Exit → Act → World → Prop} {k : List Cont} {F : List (Nat × Value)} {V : View} {L : List Box}
def StepAt (P : Program) (B : Base) (N : Nat) (Q : Exit → Act → World → Prop) (k : List Cont) (l : List Oper) (F0 : List (Nat × Value)) (V : View) (L : List Box) (Rs : List Spec) (i : Nat) (R : Spec) : Prop :=
  ∃ o D, l[i]? = some o ∧ o.guard = none ∧ depsB o D i = true ∧ (∀ v V1 V2, VLe V1 V2 → R v V1 → R v V2) ∧
   ∀ V', VLe V V' → Deps l Rs V' D (fun F => ∀ K : Act → World → Prop, (∀ V'' v a w, VLe V' V'' → R v V'' → Kn N [(dstOf l i, v)] a → St B V'' L w → K a w) → GoW P B N .plain l.toArray Q (.thn K :: k) o [] F V' L) F0
def Steps (P : Program) (B : Base) (N : Nat) (Q : Exit → Act → World → Prop) (k : List Cont) (l : List Oper) (F0 : List (Nat × Value)) (V : View) (L : List Box) (Rs : List Spec) : Prop := ∀ i, i < Rs.length → StepAt P B N Q k l F0 V L (Rs.take i) i (getR Rs i)
def Grow (P : Program) (B : Base) (N : Nat) (Q : Exit → Act → World → Prop) (k : List Cont) (l : List Oper) (F0 : List (Nat × Value)) (V : View) (L : List Box) (Rs : List Spec) : Prop :=
  Steps P B N Q k l F0 V L Rs → ∀ a w, Kn N F0 a → St B V L w → wpAnyH P .any l.toArray (evalQ P Q k) (fun _ => True) l.length (Array.replicate l.length false) a w
theorem gc_grow {id : Nat} {l : List Oper} (F0 : List (Nat × Value)) (hm : P.follows .mixedOrders = true) (hF : ∀ p ∈ F0, look F p.1 = some p.2) (h : Grow P B N Q k l F0 V L []) : GoC P B N (.region id l.toArray true) Q k F V L := fun a w ha hs =>
  wp_region_held (S := fun _ => True) hm (h (fun i hi => by simp at hi) a _ (ha.less hF) hs.drewn)
variable {l : List Oper} {F0 : List (Nat × Value)} {Rs : List Spec}
theorem getR_app {R : Spec} {i : Nat} (h : i < Rs.length) : getR (Rs ++ [R]) i = getR Rs i := by
  unfold getR
  rw [List.getD_eq_getElem?_getD, List.getD_eq_getElem?_getD, List.getElem?_append_left h]
theorem getR_last {R : Spec} : getR (Rs ++ [R]) Rs.length = R := by
  unfold getR
  rw [List.getD_eq_getElem?_getD, List.getElem?_append_right (Nat.le_refl _)]; simp
theorem grow_gen {o : Oper} {R : Spec} {n : Nat} (D : List Nat) (hn : Rs.length = n) (ho : l[n]? = some o) (hg : o.guard = none) (hD : depsB o D n = true) (hR : ∀ v V1 V2, VLe V1 V2 → R v V1 → R v V2)
    (hs : ∀ V', VLe V V' → Deps l Rs V' D (fun F => ∀ K : Act → World → Prop, (∀ V'' v a w, VLe V' V'' → R v V'' → Kn N [(dstOf l n, v)] a → St B V'' L w → K a w) → GoW P B N .plain l.toArray Q (.thn K :: k) o [] F V' L) F0)
    (h : Grow P B N Q k l F0 V L (Rs ++ [R])) : Grow P B N Q k l F0 V L Rs := fun hst => h fun i hi => by
  subst hn
  rw [List.length_append, List.length_singleton] at hi
  rcases Nat.lt_or_ge i Rs.length with h1 | h1
  · rw [List.take_append_of_le_length (by omega), getR_app h1]; exact hst i h1
  · obtain rfl : i = Rs.length := by omega
    rw [List.take_append_of_le_length (by omega), List.take_length, getR_last]
    exact ⟨o, D, ho, hg, hD, hR, hs⟩
/-- An operation whose value is one and the same. -/
theorem grow_val {o : Oper} {x : Value} {n : Nat} (D : List Nat) (hn : Rs.length = n) (ho : l[n]? = some o) (hg : o.guard = none) (hD : depsB o D n = true)
    (hs : ∀ V', VLe V V' → Deps l Rs V' D (fun F => ∀ K : Act → World → Prop, (∀ V'' v a w, VLe V' V'' → v = x → Kn N [(dstOf l n, v)] a → St B V'' L w → K a w) → GoW P B N .plain l.toArray Q (.thn K :: k) o [] F V' L) F0)
    (h : Grow P B N Q k l F0 V L (Rs ++ [fun v _ => v = x])) : Grow P B N Q k l F0 V L Rs := grow_gen D hn ho hg hD (fun _ _ _ _ h => h) hs h
/-- An operation that makes a slice, which is only read. -/
def newR (m : Nat) (cs : List Value) : Spec := fun v V => ∃ g, v = .slice (some ⟨g, 0, none⟩) m m ∧ CellsFrom V g 0 cs
theorem grow_new {o : Oper} {cs : List Value} {m n : Nat} (D : List Nat) (hn : Rs.length = n) (ho : l[n]? = some o) (hg : o.guard = none) (hD : depsB o D n = true)
    (hs : ∀ V', VLe V V' → Deps l Rs V' D (fun F => ∀ K : Act → World → Prop, (∀ V'' v a w, VLe V' V'' → newR m cs v V'' → Kn N [(dstOf l n, v)] a → St B V'' L w → K a w) → GoW P B N .plain l.toArray Q (.thn K :: k) o [] F V' L) F0)
    (h : Grow P B N Q k l F0 V L (Rs ++ [newR m cs])) : Grow P B N Q k l F0 V L Rs := grow_gen D hn ho hg hD (fun _ _ _ hV ⟨g, h1, h2⟩ => ⟨g, h1, h2.le hV⟩) hs h
theorem at_grow {K : Act → World → Prop} {R : Spec} {d : Nat} {V' V'' : View} {v : Value} (hK : ∀ V'' v a w, VLe V' V'' → R v V'' → Kn N [(d, v)] a → St B V'' L w → K a w) (hl : look F d = some v) (hV : VLe V' V'') (hR : R v V'') : AtQ P B N Q (.thn K :: k) .normal F V'' L := fun a w ha hs => hK V'' v a w hV hR (ha.less (by simpa using hl)) hs
/-- What holds at each state on the way. -/
def InvG (B : Base) (N : Nat) (l : List Oper) (F0 : List (Nat × Value)) (V : View) (L : List Box) (Rs : List Spec) (fuel : Nat) (listed : Array Bool) (a : Act) (w : World) : Prop :=
  listed.size = l.length ∧ (List.range l.length).countP (fun i => !listed.getD i true) ≤ fuel ∧ (∀ i o, l[i]? = some o → listed.getD i true = true → ∀ e ∈ o.after, Region.binds .any e = true → listed.getD e.on false = true) ∧ (∀ i, Rs.length ≤ i → i < l.length → listed.getD i true = false) ∧
  ∃ V', VLe V V' ∧ St B V' L w ∧ Kn N F0 a ∧ ∀ i, i < Rs.length → listed.getD i true = true → ∃ v, getR Rs i v V' ∧ Kn N [(dstOf l i, v)] a
theorem getD_tf {listed : Array Bool} {i : Nat} (h : i < listed.size) (b c : Bool) : listed.getD i b = listed.getD i c := by simp [Array.getD, h]
theorem getD_set {listed : Array Bool} {i j : Nat} {b : Bool} (h : i < listed.size) : (listed.setIfInBounds i true).getD j b = if i = j then true else listed.getD j b := by
  simp only [Array.getD_eq_getD_getElem?, Array.getElem?_setIfInBounds]
  by_cases e : i = j
  · subst e; simp [h]
  · simp [e]
theorem regionB_after {m : Nat} (h : regionB l m N F0 = true) {i : Nat} {o : Oper} (ho : l[i]? = some o) {e : Edge} (he : e ∈ o.after) : e.on < i := by
  unfold regionB at h
  simp only [Bool.and_eq_true, List.all_eq_true, List.mem_range] at h
  have hi : i < l.length := by
    rcases Nat.lt_or_ge i l.length with h | h
    · exact h
    · rw [List.getElem?_eq_none h] at ho; cases ho
  have := h.1 i hi
  rw [ho] at this
  simp only [Array.all_eq_true_iff_forall_mem] at this
  simpa [Nat.blt_eq] using this e he
theorem regionB_dst {m : Nat} (h : regionB l m N F0 = true) {i : Nat} (hi : i < m) : (∃ o, l[i]? = some o ∧ o.dst = some (dstOf l i)) ∧ dstOf l i < N ∧ (∀ p ∈ F0, p.1 ≠ dstOf l i) ∧ ∀ j, j < i → dstOf l j ≠ dstOf l i := by
  unfold regionB at h
  simp only [Bool.and_eq_true, List.all_eq_true, List.mem_range] at h
  have h2 := h.2 i hi
  cases ho : l[i]? with
  | none => rw [ho] at h2; simp at h2
  | some o =>
    rw [ho] at h2
    cases hd : o.dst with
    | none => simp [hd] at h2
    | some d =>
      have e : dstOf l i = d := by unfold dstOf; rw [ho]; simp [hd]
      rw [e]
      simp [hd, Nat.blt_eq] at h2
      refine ⟨⟨o, rfl, hd⟩, h2.1.1, fun p hp e => ?_, fun j hj e => ?_⟩
      · have := h2.1.2 p.1 p.2 hp; rw [e] at this; simp at this
      · have := h2.2 j hj; rw [e] at this; simp at this
theorem deps_all {V' : View} {a : Act} {X : List (Nat × Value) → Prop} : ∀ {D : List Nat} {F : List (Nat × Value)} {Rs : List Spec}, Kn N F a → (∀ j ∈ D, ∃ v, getR Rs j v V' ∧ Kn N [(dstOf l j, v)] a) → Deps l Rs V' D X F → ∃ F', Kn N F' a ∧ X F'
  | [], F, Rs, ha, _, h => ⟨F, ha, h⟩
  | j :: D, F, Rs, ha, hD, h => by
    obtain ⟨v, h1, h2⟩ := hD j (by simp)
    exact deps_all (ha.cons h2) (fun i hi => hD i (List.mem_cons_of_mem _ hi)) (h v h1)
/-- All operations that only make memory come up, in whatever order; hfin: what is left then. -/
theorem grow_run (hB : regionB l Rs.length N F0 = true) (hle : Rs.length ≤ l.length) (hst : Steps P B N Q k l F0 V L Rs)
    (hlast : ∀ i o, Rs.length ≤ i → l[i]? = some o → ∀ listed : Array Bool, listed.size = l.length → (∀ i o, l[i]? = some o → listed.getD i true = true → ∀ e ∈ o.after, Region.binds .any e = true → listed.getD e.on false = true) → (∀ e ∈ o.after, Region.binds .any e = true → listed.getD e.on false = true) → ∀ j, j < Rs.length → listed.getD j true = true)
    (hfin : ∀ fuel listed a w, InvG B N l F0 V L Rs fuel listed a w → (∀ i, i < Rs.length → listed.getD i true = true) → wpAnyH P .any l.toArray (evalQ P Q k) (fun _ => True) fuel listed a w) :
    ∀ fuel listed a w, InvG B N l F0 V L Rs fuel listed a w → wpAnyH P .any l.toArray (evalQ P Q k) (fun _ => True) fuel listed a w := by
  intro fuel
  induction fuel with
  | zero =>
    intro listed a w hI
    refine hfin 0 listed a w hI fun i hi => ?_
    have h0 : (List.range l.length).countP (fun i => !listed.getD i true) = 0 := by have := hI.2.1; omega
    rw [List.countP_eq_zero] at h0
    have := h0 i (List.mem_range.2 (by omega))
    simpa using this
  | succ fuel ih =>
    intro listed a w hI
    by_cases hall : ∀ i, i < Rs.length → listed.getD i true = true
    · exact hfin _ _ _ _ hI hall
    have ⟨hsz, hcnt, hdc, htop, V', hV, hs, ha, hvals⟩ := hI
    refine ⟨fun hr => ?_, fun i hi => ?_⟩
    · exfalso
      -- the least one that has not come up may come up
      have key : ∀ n i, i < n → i < Rs.length → listed.getD i true = true := by
        intro n
        induction n with
        | zero => intro i hi; omega
        | succ n ihn =>
          intro i hi hir
          rcases Nat.lt_or_ge i n with h | h
          · exact ihn i h hir
          · obtain rfl : i = n := by omega
            obtain ⟨⟨o, ho, _⟩, _⟩ := regionB_dst hB hir
            cases hli : listed.getD i true with
            | true => rfl
            | false =>
              exfalso
              have hmem : i ∈ Region.ready .any l.toArray listed := by
                refine mem_ready.2 ⟨hli, o, by simpa using ho, fun e he hb => ?_⟩
                have hlt := regionB_after hB ho he
                have := ihn e.on hlt (by omega)
                rw [getD_tf (by omega) false true]; exact this
              rw [hr] at hmem; cases hmem
      exact hall fun i hi => key (i + 1) i (by omega) hi
    · obtain ⟨hun, o, ho, haft⟩ := mem_ready.1 hi
      have ho : l[i]? = some o := by simpa using ho
      have hil : i < l.length := by
        rcases Nat.lt_or_ge i l.length with h | h
        · exact h
        · rw [List.getElem?_eq_none h] at ho; cases ho
      rcases Nat.lt_or_ge i Rs.length with him | him
      case inr => exact absurd (hlast i o him ho listed hsz hdc haft) hall
      obtain ⟨o', D, ho', hg, hD, hmono, hstep⟩ := hst i him
      obtain rfl : o = o' := by rw [ho] at ho'; injection ho'
      obtain ⟨⟨o2, ho2, hdst⟩, hdN, hd0, hdj⟩ := regionB_dst hB him
      obtain rfl : o = o2 := by rw [ho] at ho2; injection ho2
      have hDv : ∀ j ∈ D, ∃ v, getR (Rs.take i) j v V' ∧ Kn N [(dstOf l j, v)] a := by
        intro j hj
        unfold depsB at hD
        rw [List.all_eq_true] at hD
        have := hD j hj
        simp only [Bool.and_eq_true, Nat.blt_eq] at this
        obtain ⟨e, he, hb, hon⟩ := waitsB_spec this.2
        have hl := haft e he hb
        rw [hon, getD_tf (by omega) false true] at hl
        obtain ⟨v, h1, h2⟩ := hvals j (by omega) hl
        refine ⟨v, ?_, h2⟩
        unfold getR at h1 ⊢
        rw [List.getD_eq_getElem?_getD] at h1 ⊢
        rw [List.getElem?_take_of_lt this.1]; exact h1
      obtain ⟨F', hF', hX⟩ := deps_all ha hDv (hstep V' hV)
      unfold wpOp
      simp only [show (l.toArray)[i]? = some o by simpa using ho]
      rw [if_pos (by simp [Region.wanted, hg])]
      refine .inl ?_
      have hgo := gw_plain.1 (hX (fun a' w' => (∃ V'' v, VLe V' V'' ∧ getR Rs i v V'' ∧ Kn N [(dstOf l i, v)] a' ∧ St B V'' L w')) (fun V'' v a' w' h1 h2 h3 h4 => ⟨V'', v, h1, h2, h3, h4⟩)) a w hF' hs
      have h2 := wp_tmps hgo
      refine wp_thn (Oper.wp_mono (fun a' w' hK => ?_) h2)
      · obtain ⟨hK, u, hu⟩ := hK
        unfold wpList at hK
        obtain ⟨V'', v, h1, h2, h3, h4⟩ := hK
        rw [hdst] at hu
        refine ⟨trivial, ih _ a' w' ⟨by simpa using hsz, ?_, ?_, ?_, V'', hV.trans h1, h4, ha.kept hd0 h3.1 hu, ?_⟩⟩
        · have : (List.range l.length).countP (fun j => !(listed.setIfInBounds i true).getD j true) < (List.range l.length).countP (fun j => !listed.getD j true) := by
            refine countP_lt (fun j hj h => ?_) ⟨i, List.mem_range.2 hil, by rw [hun]; rfl, ?_⟩
            · rw [getD_set (by omega)] at h
              split at h
              · simp at h
              · exact h
            · rw [getD_set (by omega), if_pos rfl]; rfl
          omega
        · intro j oj hoj hlj e he hb
          rw [getD_set (by omega)]
          split
          · rfl
          · rw [getD_set (by omega)] at hlj
            split at hlj
            · rename_i e1; subst e1
              obtain rfl : o = oj := by rw [ho] at hoj; injection hoj
              exact haft e he hb
            · exact hdc j oj hoj hlj e he hb
        · intro j hj hjl
          rw [getD_set (by omega), if_neg (by omega)]
          exact htop j hj hjl
        · intro j hj hlj
          rw [getD_set (by omega)] at hlj
          split at hlj
          · rename_i e; subst e; exact ⟨v, h2, h3⟩
          · rename_i hne
            obtain ⟨x, q1, q2⟩ := hvals j hj hlj
            obtain ⟨_, _, _, _, _, hmj, _⟩ := hst j hj
            refine ⟨x, hmj x _ _ h1 q1, q2.kept ?_ h3.1 hu⟩
            intro p hp
            simp at hp; subst hp
            rcases Nat.lt_or_ge j i with h | h
            · exact hdj j h
            · exact Ne.symm ((regionB_dst hB hj).2.2.2 i (by omega))
theorem inv_start {a : Act} {w : World} (hle : Rs.length ≤ l.length) (ha : Kn N F0 a) (hs : St B V L w) : InvG B N l F0 V L Rs l.length (Array.replicate l.length false) a w := by
  have h0 : ∀ i, i < l.length → (Array.replicate l.length false).getD i true = false := by intro i hi; simp [Array.getD, hi]
  refine ⟨by simp, ?_, ?_, fun i _ hi => h0 i hi, V, VLe.refl V, hs, ha, ?_⟩
  · have := List.countP_le_length (p := fun i => !(Array.replicate l.length false).getD i true) (l := List.range l.length)
    rw [List.length_range] at this; exact this
  · intro i o ho hl
    have hi : i < l.length := by
      rcases Nat.lt_or_ge i l.length with h | h
      · exact h
      · rw [List.getElem?_eq_none h] at ho; cases ho
    rw [h0 i hi] at hl; cases hl
  · intro i hi hl
    rw [h0 i (by omega)] at hl; cases hl
/-- The last one is whatever it is, and waits for all the others. -/
theorem grow_last {o : Oper} {n : Nat} (D : List Nat) (hn : Rs.length = n) (hl : l.length = n + 1) (ho : l[n]? = some o) (hg : o.guard = none) (hB : regionB l n N F0 = true) (hU : usedB l n = true) (hD : depsB o D n = true)
    (h : ∀ V', VLe V V' → Deps l Rs V' D (fun F => GoW P B N .plain l.toArray Q k o [] F V' L) F0) : Grow P B N Q k l F0 V L Rs := fun hst a w ha hs => by
  subst hn
  have hused : ∀ i, i < Rs.length → ∃ j o, i < j ∧ j < l.length ∧ l[j]? = some o ∧ waitsB o i = true := by
    intro i hi
    unfold usedB at hU
    rw [List.all_eq_true] at hU
    have := hU i (List.mem_range.2 hi)
    rw [List.any_eq_true] at this
    obtain ⟨j, hj, h⟩ := this
    simp only [Bool.and_eq_true, Nat.blt_eq, List.mem_range] at h hj
    cases hoj : l[j]? with
    | none => rw [hoj] at h; simp at h
    | some oj => rw [hoj] at h; exact ⟨j, oj, h.1, hj, hoj, h.2⟩
  refine grow_run hB (by omega) hst (fun i oi hi hoi listed hsz hdc hready => ?_) (fun fuel listed a w hI hall => ?_) _ _ _ _ (inv_start (by omega) ha hs)
  · have hil : i < l.length := by
      rcases Nat.lt_or_ge i l.length with h | h
      · exact h
      · rw [List.getElem?_eq_none h] at hoi; cases hoi
    obtain rfl : i = Rs.length := by omega
    have key : ∀ m j, Rs.length ≤ j + m → j < Rs.length → listed.getD j true = true := by
      intro m
      induction m with
      | zero => intro j h1 h2; omega
      | succ m ihm =>
        intro j h1 h2
        obtain ⟨j', oj, hlt, hjl, hoj, hw⟩ := hused j h2
        obtain ⟨e, he, hb, hon⟩ := waitsB_spec hw
        have hl2 : listed.getD j false = true := by
          rcases Nat.lt_or_ge j' Rs.length with hlj | hlj
          · rw [← hon]; exact hdc j' oj hoj (ihm j' (by omega) hlj) e he hb
          · obtain rfl : j' = Rs.length := by omega
            obtain rfl : oj = oi := by rw [hoj] at hoi; injection hoi
            rw [← hon]; exact hready e he hb
        rw [getD_tf (by omega) true false]; exact hl2
    exact fun j hj => key Rs.length j (by omega) hj
  · obtain ⟨hsz, hcnt, _, htop, V', hV, hs, ha, hvals⟩ := hI
    have hun := htop Rs.length (Nat.le_refl _) (by omega)
    have hmem : ∀ i, i ∈ Region.ready .any l.toArray listed → i = Rs.length := by
      intro i hi
      obtain ⟨hun, o, ho, _⟩ := mem_ready.1 hi
      have hil : i < l.length := by
        rcases Nat.lt_or_ge i l.length with h | h
        · exact h
        · rw [List.getElem?_toArray, List.getElem?_eq_none h] at ho; cases ho
      rcases Nat.lt_or_ge i Rs.length with h1 | h1
      · rw [hall i h1] at hun; cases hun
      · omega
    have hrd : Rs.length ∈ Region.ready .any l.toArray listed := by
      refine mem_ready.2 ⟨hun, o, by simpa using ho, fun e he hb => ?_⟩
      have := hall e.on (regionB_after hB ho he)
      rw [getD_tf (by have := regionB_after hB ho he; omega) false true]; exact this
    cases fuel with
    | zero =>
      exfalso
      have h0 : (List.range l.length).countP (fun i => !listed.getD i true) = 0 := by omega
      rw [List.countP_eq_zero] at h0
      have := h0 Rs.length (List.mem_range.2 (by omega))
      rw [hun] at this; simp at this
    | succ fuel =>
      refine ⟨fun hr => (by rw [hr] at hrd; cases hrd), fun i hi => ?_⟩
      obtain rfl := hmem i hi
      have hDv : ∀ j ∈ D, ∃ v, getR Rs j v V' ∧ Kn N [(dstOf l j, v)] a := by
        intro j hj
        unfold depsB at hD
        rw [List.all_eq_true] at hD
        have := hD j hj
        simp only [Bool.and_eq_true, Nat.blt_eq] at this
        exact hvals j (by omega) (hall j (by omega))
      obtain ⟨F', hF', hX⟩ := deps_all ha hDv (h V' hV)
      unfold wpOp
      simp only [show (l.toArray)[Rs.length]? = some o by simpa using ho]
      rw [if_pos (by simp [Region.wanted, hg])]
      refine .inl (Oper.wp_mono (fun a' w' hK => ⟨trivial, ?_⟩) (gw_plain.1 hX a w hF' hs))
      unfold wpList at hK
      refine wpAnyH_done ?_ hK fuel
      apply List.eq_nil_iff_forall_not_mem.2
      intro i hi
      obtain ⟨hun, o, ho, _⟩ := mem_ready.1 hi
      have hil : i < l.length := by
        rcases Nat.lt_or_ge i l.length with h | h
        · exact h
        · rw [List.getElem?_toArray, List.getElem?_eq_none h] at ho; cases ho
      rw [getD_set (by omega)] at hun
      split at hun
      · cases hun
      · rw [hall i (by omega)] at hun; cases hun
end
end
section
theorem wrap_b8 (a : Int) : IntKind.wrap .u8 a = ((b8 a).toNat : Int) := by
  rw [b8_nat]; simp [IntKind.wrap, IntKind.bits, IntKind.signed, Int.bmod]
theorem ba_of (l : List UInt8) : (⟨l.toArray⟩ : ByteArray).toList = l := by rw [Lib.toList_data]
theorem ba_sz (l : List UInt8) : (⟨l.toArray⟩ : ByteArray).size = l.length := rfl
theorem ba_is (s : ByteArray) : s = ⟨s.toList.toArray⟩ := by rw [Lib.toList_data]
section
variable {P : Program} {B : Base} {N : Nat} {Q : Exit → Act → World → Prop} {k : List Cont} {F : List (Nat × Value)} {V : View} {L : List Box} {w : World}
variable {d : Option Tmp} {ty ty2 : TypeId} {pos : String} {af : Array Edge} {gd : Option (Nat × Bool)} {x y z : Operand} {T T2 : TypeId}
theorem q_conv8 {k0 : IntKind} {s t : TypeId} {ds : TypeDesc} {a : Int} (hs : UnderIs P s ds) (ht : UnderIs P t (.int .u8)) (hx : evF F x = some (.int k0 a)) : QP P B N V L ⟨d, .convert s t x, ty, pos, af, gd⟩ F (.int .u8 ((b8 a).toNat : Int)) := q_of fun ac w ha _ => by
  have e : (Conv.intToInt .u8 a) = pure (.int .u8 ((b8 a).toNat : Int)) := by unfold Conv.intToInt; rw [wrap_b8]
  simp [execOp, ha.ev hx, convert, hs.h, ht.h, e]
theorem q_shr8 {k : IntKind} {t ty2 : TypeId} {a : Int} (hx : evF F x = some (.int .i64 a)) (hy : evF F y = some (.int k 8)) (h : 0 ≤ a) : QP P B N V L ⟨d, .binOp .shr t x y ty2, ty, pos, af, gd⟩ F (.int .i64 (a / 256)) := by
  refine q_bin hx hy (fun w => by simp [eqGuard]) (fun w => ?_)
  have e : a.fdiv 256 = a / 256 := Int.fdiv_eq_ediv_of_nonneg a (by decide)
  simp [binOp, Op.shift, IntKind.bits, e]
theorem ba_app (l m : List UInt8) : (⟨l.toArray⟩ : ByteArray) ++ ⟨m.toArray⟩ = ⟨(l ++ m).toArray⟩ := by
  apply ByteArray.ext; rw [ByteArray.data_append]; simp
theorem q_saddl {l m : List UInt8} (hx : evF F x = some (.string ⟨l.toArray⟩)) (hy : evF F y = some (.string ⟨m.toArray⟩)) (h : l.length + m.length ≤ 1000000000) : QP P B N V L ⟨d, .binOp .add T x y ty2, ty, pos, af, gd⟩ F (.string ⟨(l ++ m).toArray⟩) := by
  have := q_sadd (P := P) (B := B) (N := N) (V := V) (L := L) (d := d) (ty := ty) (ty2 := ty2) (pos := pos) (af := af) (gd := gd) (t := T) hx hy (by rw [ba_sz, ba_sz]; omega)
  rw [ba_app] at this; exact this
theorem q_sadds {l : List UInt8} {s : ByteArray} (hx : evF F x = some (.string ⟨l.toArray⟩)) (hy : evF F y = some (.string s)) (h : l.length + s.size ≤ 1000000000) : QP P B N V L ⟨d, .binOp .add T x y ty2, ty, pos, af, gd⟩ F (.string ⟨(l ++ s.toList).toArray⟩) := by
  rw [ba_is s] at hy
  exact q_saddl hx hy (by rw [Lib.toList_data]; exact h)
theorem src_u8 {g m : Nat} {us : List UInt8} (h : CellsFrom V g 0 (u8C us)) (hm : us.length = m) : SrcIs B V L 1 (some ⟨g, 0, none⟩) m (u8C us) := src_v ⟨by rw [u8C_len]; omega, fun _ => ⟨g, 0, rfl, h⟩⟩
/-- A function that is handed boxes: none of them is new. -/
theorem fn_enterH {N : Nat} {f : FuncId} {fn : Func} {c : Code} {args : List Value} {Bs : List Box} {R : Value → View → List Box → Prop} (hf : P.funcs[f]? = some fn) (hb : fn.body = some c) (hN : fn.ntmps = N) (hsz : Nat.ble args.length N = true)
    (h : ∀ w, (∀ x ∈ gsOf Bs, x < w.heap.size) → GoC P ⟨V, w, gsOf Bs⟩ N c (bodyPost P fn (FnBEnd V w Bs R)) [] (argsF args 0) V Bs) : FnB P f args V Bs R := fun w hV => by
  have hlt : ∀ x ∈ gsOf Bs, x < w.heap.size := fun x hx => by
    unfold gsOf at hx
    obtain ⟨b, hb, rfl⟩ := List.mem_map.1 hx
    exact hV.lt hb
  refine calls_of_wp hf hb (h w hlt _ w ⟨rfl, ?_, fun t v hv => ?_⟩ hV)
  · have := Nat.le_of_ble_eq_true hsz
    simp [hN]; omega
  · obtain ⟨_, h2⟩ := look_args args 0 t v hv
    have hlt : t < args.length := by
      rcases Nat.lt_or_ge t args.length with hl | hl
      · exact hl
      · rw [List.getElem?_eq_none (by omega)] at h2; cases h2
    rw [List.getElem?_eq_getElem (by omega)] at h2
    simp only [Nat.sub_zero] at h2
    injection h2 with h2
    simp [Array.getElem?_append, hlt, h2]
theorem St.retireN (hs : St B V L w) {L' : List Box} {g : Nat} {cs : List Value} (h : Drop1 L g cs L') (hfl : g ∉ B.fl) : ∃ V', VLe V V' ∧ CellsFrom V' g 0 cs ∧ St B V' L' w := by
  obtain ⟨⟨t, hm⟩, h2, h3⟩ := h.mem
  obtain ⟨h4, h5⟩ := h3 hs.nodup
  have ho := hs.own _ hm
  have hne : ∀ p x, V p = some x → p.block ≠ g := fun p x hp e => (hs.view p x hp).2 _ hm e.symm
  refine ⟨boxedV V w g, fun p x hp => ?_, fun j v hj => ?_, ⟨hs.ext, fun p x hp => ?_, fun p x hp hb => ?_, fun p x hp => ?_, fun b hb => hs.own b (h2 b hb), h4⟩⟩
  · rw [boxedV_out (hne p x hp)]; exact hp
  · rw [boxedV_in (g := g) (p := ⟨g, 0 + j, none⟩) rfl, Nat.zero_add, hs.cell ⟨t, hm⟩]; exact hj
  · by_cases e : p.block = g
    · rw [boxedV_in e] at hp
      exact ⟨hp, fun b hb => by rw [e]; exact h5 b hb⟩
    · rw [boxedV_out e] at hp
      exact ⟨(hs.view p x hp).1, fun b hb => (hs.view p x hp).2 b (h2 b hb)⟩
  · by_cases e : p.block = g
    · rcases ho.2 with h6 | h6
      · simp only [] at h6
        omega
      · exact absurd h6 hfl
    · rw [boxedV_out e] at hp
      exact hs.old p x hp hb
  · rw [boxedV_out (hne p x (hs.v0 p x hp))]; exact hs.v0 p x hp
/-- A slice that is made, and then only read. -/
theorem gw_buildSliceV {dr : Mode} {ops : Array Oper} {rest : List Oper} (hdr : dr.loud = true) (hfl : ∀ x ∈ B.fl, x < B.w.heap.size) {E sz len : Nat} {z : Value} {zs us : List Value} {ps : List (Nat × Operand)} {vs : List (Nat × Value)} (hu : UnderIs P T (.slice E)) (hS : SizeIs P E sz) (hz' : ZeroCells P E z)
    {zc : List Value} (hzc : z.cells = zc.toArray) (hzl : sz = zc.length) (hzs : repL len zc = zs) (hp : evP F ps = some vs) (hf : fillL (fun i => some (i * sz, sz)) zs vs = some us) (hlen : (Nat.ble (len * sz) 16777216 && !Nat.beq (len * sz) 0) = true) (hd : okD N d = true)
    (h : ∀ g V', VLe V V' → CellsFrom V' g 0 us → GoL P B N dr ops Q k rest (putF F d (.slice (some ⟨g, 0, none⟩) len len)) V' L) : GoW P B N dr ops Q k ⟨d, .buildSlice T len ps.toArray, ty, pos, af, gd⟩ rest F V L := gw_loud hdr fun a w ha hs => by
  obtain ⟨V', hV', hg, hs'⟩ := (hs.alloc E us).retireN (Drop1.here _ _ _ _) (fun hx => by have := hfl _ hx; have := hs.ext.sz; omega)
  refine wp_value (w' := w.alloc (.cells us.toArray E)) (v := .slice (some ⟨w.heap.size, 0, none⟩) len len) ?_ (gl_loud hdr (h w.heap.size V' hV' hg) _ _ (ha.put hd _) hs')
  have hh := ha.evP hp
  have e : (ps.toArray.map fun x => match x with | (i, x) => (i, a.eval x)) = vs.toArray := by rw [← hh]; simp
  have hz := hz'.h
  simp only [Bool.and_eq_true, Bool.not_eq_true'] at hlen
  have h1 := Nat.le_of_ble_eq_true hlen.1
  have h2 : len * sz ≠ 0 := fun e => by rw [e] at hlen; simp at hlen
  have hfill := fill_fillL _ _ _ _ hf
  simp only [execOp]
  rw [e]
  unfold Instr.buildSlice
  have e3 : ¬ (2 ^ 24 < len * sz) := by omega
  have h3 : len ≠ 0 ∧ sz ≠ 0 := ⟨fun e => h2 (by simp [e]), fun e => h2 (by simp [e])⟩
  have hrep : (Array.range (len * sz)).map (fun i => z.cells[i % z.cells.size]!) = zs.toArray := by rw [hzc, hzl, rep_cells, hzs]
  simp [hu.h, hS.h, hz, e3, h3.1, h3.2, hrep, hfill]
  rw [if_neg h2]
  rfl
end
theorem deps_val {l : List Oper} {Rs : List Spec} {V' : View} {D : List Nat} {X : List (Nat × Value) → Prop} {F : List (Nat × Value)} {j d : Nat} {x : Value} (hR : getR Rs j = fun v _ => v = x) (hd : dstOf l j = d) (h : Deps l Rs V' D X ((d, x) :: F)) : Deps l Rs V' (j :: D) X F := fun v hv => by
  rw [hR] at hv; obtain rfl : v = x := hv; rw [hd]; exact h
theorem deps_new {l : List Oper} {Rs : List Spec} {V' : View} {D : List Nat} {X : List (Nat × Value) → Prop} {F : List (Nat × Value)} {j d m : Nat} {cs : List Value} (hR : getR Rs j = newR m cs) (hd : dstOf l j = d) (h : ∀ g, CellsFrom V' g 0 cs → Deps l Rs V' D X ((d, .slice (some ⟨g, 0, none⟩) m m) :: F)) : Deps l Rs V' (j :: D) X F := fun v hv => by
  rw [hR] at hv; obtain ⟨g, rfl, hg⟩ := hv; rw [hd]; exact h g hg
theorem deps_nil {l : List Oper} {Rs : List Spec} {V' : View} {X : List (Nat × Value) → Prop} {F : List (Nat × Value)} (h : X F) : Deps l Rs V' [] X F := h
end
section
/-- What stands between slashes. -/
def parts : List UInt8 → List (List UInt8)
  | [] => [[]]
  | c :: l => if c = 47 then [] :: parts l else (match parts l with | [] => [[c]] | p :: ps => (c :: p) :: ps)
theorem parts_no : ∀ {l : List UInt8}, (∀ c ∈ l, ¬ c = 47) → parts l = [l]
  | [], _ => rfl
  | c :: l, h => by rw [parts, if_neg (h c (by simp)), parts_no fun d hd => h d (by simp [hd])]
theorem parts_at : ∀ {a b : List UInt8}, (∀ c ∈ a, ¬ c = 47) → parts (a ++ 47 :: b) = a :: parts b
  | [], b, _ => by rw [List.nil_append, parts, if_pos rfl]
  | c :: a, b, h => by rw [List.cons_append, parts, if_neg (h c (by simp)), parts_at fun d hd => h d (by simp [hd])]
theorem index_no : ∀ {l : List UInt8}, Lib.indexByte l 47 < 0 → ∀ c ∈ l, ¬ c = 47
  | [], _ => by simp
  | b :: l, h => by
    unfold Lib.indexByte at h
    split at h
    · omega
    · rename_i hb
      split at h
      · rename_i h2
        have h2 : Lib.indexByte l 47 = -1 := by simpa using h2
        intro c hc
        rcases List.mem_cons.1 hc with rfl | hc
        · simpa using hb
        · exact index_no (by omega) c hc
      · have := Lib.indexByte_ge l 47
        rename_i h2
        have h2 : ¬ Lib.indexByte l 47 = -1 := by simpa using h2
        omega
theorem index_at : ∀ {l : List UInt8}, 0 ≤ Lib.indexByte l 47 → (∀ c ∈ l.take (Lib.indexByte l 47).toNat, ¬ c = 47) ∧ l = l.take (Lib.indexByte l 47).toNat ++ 47 :: l.drop ((Lib.indexByte l 47).toNat + 1) ∧ (Lib.indexByte l 47).toNat < l.length
  | [], h => by simp [Lib.indexByte] at h
  | b :: l, h => by
    unfold Lib.indexByte at h ⊢
    by_cases hb : b = 47
    · subst hb; simp
    · have hb' : (b == 47) = false := by simpa using hb
      rw [hb'] at h ⊢
      by_cases h2 : Lib.indexByte l 47 = -1
      · rw [h2] at h; simp at h
      · have h3 : (Lib.indexByte l 47 == -1) = false := by simpa using h2
        rw [h3] at h ⊢
        simp only [Bool.false_eq_true, if_false] at h ⊢
        have h4 := Lib.indexByte_ge l 47
        have h5 : 0 ≤ Lib.indexByte l 47 := by omega
        obtain ⟨g1, g2, g3⟩ := index_at h5
        rw [show (Lib.indexByte l 47 + 1).toNat = (Lib.indexByte l 47).toNat + 1 by omega]
        refine ⟨fun c hc => ?_, ?_, by simp only [List.length_cons]; omega⟩
        · rw [List.take_succ_cons] at hc
          rcases List.mem_cons.1 hc with rfl | hc
          · exact hb
          · exact g1 c hc
        · rw [List.take_succ_cons, List.drop_succ_cons, List.cons_append, ← g2]
def allN (ps : List (List UInt8)) : Bool := ps.all nameZ
/-- What is wrong with a path; its names. -/
def pathF (l : List UInt8) : Int := if l = [47] then 0 else if l = [] ∨ ¬ l.head? = some 47 ∨ 79 < l.length then 4 else if ¬ allN (parts (l.drop 1)) = true then 4 else if 6 < (parts (l.drop 1)).length then 2 else 0
def baL (ps : List (List UInt8)) : List ByteArray := ps.map fun p => ⟨p.toArray⟩
def pathN (l : List UInt8) : List ByteArray := if pathF l = 0 ∧ ¬ l = [47] then baL (parts (l.drop 1)) else []
def underB (above l : List ByteArray) : Bool := decide (above.length ≤ l.length) && decide (above = l.take above.length)
end
section
/-- A builder that holds the bytes l: its block, then that of its bytes. -/
def BldB (p : Nat) (l : List UInt8) (Bs : List Box) : Prop := ∃ (a A : Option Addr) (c : Nat) (L1 : List Box), Bs = ⟨p, 196, [.pointer a, .slice A l.length c]⟩ :: L1 ∧ RowL A l.length c 5 1 (u8C l) L1 ∧ (A = none ∨ 0 < c) ∧ (a = none ∨ a = some ⟨p, 0, none⟩)
theorem BldB.nil {p : Nat} : BldB p [] [⟨p, 196, [.pointer none, .slice none 0 0]⟩] := ⟨none, none, 0, [], rfl, RowL.nil, .inl rfl, .inl rfl⟩
theorem BldB.of {p n c : Nat} {a A : Option Addr} {l : List UInt8} {L1 : List Box} (hr : RowL A n c 5 1 (u8C l) L1) (hn : n = l.length) (hA : A = none ∨ 0 < c) (ha : a = none ∨ a = some ⟨p, 0, none⟩) : BldB p l (⟨p, 196, [.pointer a, .slice A n c]⟩ :: L1) := by
  subst hn; exact ⟨a, A, c, L1, rfl, hr, hA, ha⟩
theorem ptr_bld : PtrIs Tryz.prog 194 := ⟨by kernel_rfl⟩
theorem pinf_bld : PInf Tryz.prog 194 := ⟨by obtain ⟨i, h0, _⟩ := info_parts (show (Tryz.prog.info? 196).map (fun i => (i.zero, i.size, i.bytes)) = some (some (.agg #[.pointer none, .slice none 0 0]), 2, 32) by kernel_rfl); exact ⟨_, i, Tryz.underlying194, h0⟩⟩
theorem und_upt : UnderIs Tryz.prog 271 .unsafePointer := ⟨Tryz.underlying271⟩
theorem und_bptr : UnderIs Tryz.prog 194 (.pointer 196) := ⟨Tryz.underlying194⟩
theorem und_uptr : UnderIs Tryz.prog 249 (.pointer 5) := ⟨Tryz.underlying249⟩
theorem sz_bld : SzInf Tryz.prog 196 := ⟨by obtain ⟨i, h0, _, h2, _⟩ := info_parts (show (Tryz.prog.info? 196).map (fun i => (i.zero, i.size, i.bytes)) = some (some (.agg #[.pointer none, .slice none 0 0]), 2, 32) by kernel_rfl); exact ⟨i, h0, by rw [h2]; decide⟩⟩
theorem lies_bld : liesAt Tryz.prog Tryz.prog.depth 196 (2 / Tryz.prog.cellsOf 196) 0 196 1 = true := by kernel_rfl
theorem ext_noesc : ExternIs Tryz.prog 193 Extern.AbiNoEscape.same := ⟨fun args w => run_callFunc_extern Tryz.func193 (by kernel_rfl) (by kernel_rfl) (by kernel_rfl) (by kernel_rfl) args w⟩
theorem u8_inf : U8Inf Tryz.prog 5 := ⟨info_parts (show (Tryz.prog.info? 5).map (fun i => (i.zero, i.size, i.bytes)) = some (some (.int .u8 0), 1, 1) by kernel_rfl)⟩
theorem u8_cell : Tryz.prog.cellsOf 5 = 1 := by kernel_rfl
attribute [local irreducible] AtQ GoC GoL GoW QO QP Fn RV OwnAt CellsFrom VLe SrcIs errV
set_option maxRecDepth 100000
theorem copyCheck_c (V : View) (p : Nat) (A : Option Addr) (n c : Nat) (L1 : List Box) (a : Option Addr) (ha : a = none ∨ a = some ⟨p, 0, none⟩) :
    FnB Tryz.prog 187 [.pointer (some ⟨p, 0, none⟩)] V (⟨p, 196, [.pointer a, .slice A n c]⟩ :: L1) fun v _ Bs => v = .tuple #[] ∧ Bs = ⟨p, 196, [.pointer (some ⟨p, 0, none⟩), .slice A n c]⟩ :: L1 := by
  rcases ha with rfl | rfl
  · (refine fn_enterB Tryz.func187 rfl Tryz.ntmps187 rfl ?_; intro w0)
    repeat' (first | (refine k_gw ?_; (first | refine gwg9 ?_ | (refine k_fieldAddr ?_; (first | refine gwq9 (q_fieldAddr fld_196_0 rfl) ?_)) | (refine k_load ?_; (first | refine gwq9 (q_load_o one_194 rfl own9 (by exact rfl)) ?_ | refine gwq9 (q_load_o one_194 rfl own9 (by assumption)) ?_ | refine gwq9 (q_load_v one_194 rfl (by assumption)) ?_)) | (refine k_binOp ?_; (first | refine gwq9 (q_pneq_same pinf_bld rfl rfl) ?_ | refine gwq9 (q_pnil_eql ptr_bld rfl) ?_)) | (refine k_convert ?_; (first | refine gwq9 (q_fromUnsafe und_upt und_bptr sz_bld rfl (ownT_here rfl) lies_bld) ?_ | refine gwq9 (q_toUnsafe und_bptr und_upt sz_bld rfl (ownT_here rfl) rfl) ?_)) | (refine k_call ?_; (first | refine gwq9 (q_extern ext_noesc rfl (fun w => Lib.run_noEscape w _)) ?_)) | (refine k_store ?_; (first | refine gw_store rfl siz_194 rfl rfl rfl rfl one9 put9 rfl ?_)))) | (refine k_gl ?_; (first | refine gl_nil rfl ?_ | refine gl_go rfl rfl ?_)) | (refine k_gc ?_; (first | refine gc_seq ?_ | refine gc_region ?_ | refine gc_cond_t rfl ?_)) | (refine k_at ?_; (first | refine at_seq ?_ | refine ats9 rfl ?_)))
    (first | refine atB_ret0 Tryz.results187  (List.Sublist.refl _) ?_ | refine atB_end0 Tryz.results187 (List.Sublist.refl _) ?_)
    exact ⟨rfl, rfl⟩
  · (refine fn_enterB Tryz.func187 rfl Tryz.ntmps187 rfl ?_; intro w0)
    repeat' (first | (refine k_gw ?_; (first | refine gwg9 ?_ | (refine k_fieldAddr ?_; (first | refine gwq9 (q_fieldAddr fld_196_0 rfl) ?_)) | (refine k_load ?_; (first | refine gwq9 (q_load_o one_194 rfl own9 (by exact rfl)) ?_ | refine gwq9 (q_load_o one_194 rfl own9 (by assumption)) ?_ | refine gwq9 (q_load_v one_194 rfl (by assumption)) ?_)) | (refine k_binOp ?_; (first | refine gwq9 (q_pneq_same pinf_bld rfl rfl) ?_ | refine gwq9 (q_pnil_eql ptr_bld rfl) ?_)))) | (refine k_gl ?_; (first | refine gl_nil rfl ?_ | refine gl_go rfl rfl ?_)) | (refine k_gc ?_; (first | refine gc_seq ?_ | refine gc_region ?_ | refine gc_cond_f rfl ?_ | refine gc_skip ?_)) | (refine k_at ?_; (first | refine at_seq ?_ | refine ats9 rfl ?_)))
    (first | refine atB_ret0 Tryz.results187  (List.Sublist.refl _) ?_ | refine atB_end0 Tryz.results187 (List.Sublist.refl _) ?_)
    exact ⟨rfl, rfl⟩
theorem WriteString_c (V : View) (p : Nat) (l : List UInt8) (Bs : List Box) (h : BldB p l Bs) (s : ByteArray) (hm : l.length + s.size ≤ 1000000000) :
    FnB Tryz.prog 161 [.pointer (some ⟨p, 0, none⟩), .string s] V Bs fun v _ Bs' => v = .tuple #[.int .i64 (s.size : Int), .nilIface] ∧ BldB p (l ++ s.toList) Bs' := by
  obtain ⟨a, A, c, L1, rfl, hr, hA, ha⟩ := h
  (refine fn_enterB Tryz.func161 rfl Tryz.ntmps161 rfl ?_; intro w0)
  repeat' (first | (refine k_gw ?_; (first | refine gwg9 ?_ | (refine k_call ?_; (first | refine gwq9 (q_slen rfl und_9 rfl) ?_ | (refine gw_callB rfl ⟨Tryz.call187⟩ rfl rep9 rfl (copyCheck_c _ p A l.length c L1 a ha) ?_; rintro v V1 B1 hV1 ⟨rfl, rfl⟩))) | (refine k_fieldAddr ?_; (first | refine gwq9 (q_fieldAddr fld_196_1 rfl) ?_)) | (refine k_load ?_; (first | refine gwq9 (q_load_o one_108 rfl own9 (by exact rfl)) ?_ | refine gwq9 (q_load_o one_108 rfl own9 (by assumption)) ?_ | refine gwq9 (q_load_v one_108 rfl (by assumption)) ?_)))) | (refine k_gl ?_; (first | refine gl_nil rfl ?_ | refine gl_go rfl rfl ?_)) | (refine k_gc ?_; (first | refine gc_seq ?_ | refine gc_region ?_)) | (refine k_at ?_; (first | refine at_seq ?_ | refine ats9 rfl ?_)))
  repeat' (first | (refine k_gw ?_; (first | refine gwg9 ?_ | (refine k_call ?_; (first | refine gwq9 (q_slen rfl und_9 rfl) ?_ | (refine gw_appends rfl und_108 und_9 u8_inf rfl rfl hr hA rep9 (by omega) rfl ?_; intro A2 c2 L2 hr2 hA2))) | (refine k_fieldAddr ?_; (first | refine gwq9 (q_fieldAddr fld_196_1 rfl) ?_)) | (refine k_store ?_; (first | refine gw_store rfl siz_108 rfl rfl rfl rfl one9 put9 rfl ?_)))) | (refine k_gl ?_; (first | refine gl_nil rfl ?_ | refine gl_go rfl rfl ?_)) | (refine k_gc ?_; (first | refine gc_seq ?_ | refine gc_region ?_ | refine gc_ret ?_)) | (refine k_at ?_; (first | refine at_seq ?_ | refine ats9 rfl ?_)))
  (refine atB_ret2 Tryz.results161 (rv_tmp rfl) (rv_tmp rfl) (List.Sublist.refl _) ?_)
  exact ⟨rfl, BldB.of (by rw [u8C_app]; exact hr2) (by rw [List.length_append, show s.toList.length = s.size by rw [Lib.toList_data]; rfl]) hA2 (.inr rfl)⟩
theorem BString_c (V : View) (p : Nat) (l : List UInt8) (Bs : List Box) (h : BldB p l Bs) (hm : l.length ≤ 1000000000) :
    FnB Tryz.prog 122 [.pointer (some ⟨p, 0, none⟩)] V Bs fun v _ _ => v = .string ⟨l.toArray⟩ := by
  obtain ⟨a, A, c, L1, rfl, hr, hA, ha⟩ := h
  cases l with
  | nil =>
    cases A with
    | none =>
      (refine fn_enterB Tryz.func122 rfl Tryz.ntmps122 rfl ?_; intro w0)
      repeat' (first | (refine k_gw ?_; (first | refine gwg9 ?_)) | (refine k_gl ?_; (first | refine gl_nil rfl ?_ | refine gl_go rfl rfl ?_)) | (refine k_gc ?_; (first | refine gc_seq ?_ | refine gc_region ?_)) | (refine k_at ?_; (first | refine at_seq ?_ | refine ats9 rfl ?_)))
      refine gc_held (id := 1) _ mixed (List.Sublist.refl _) ?_; (first | refine gtk9 0 rfl rfl (q_move rfl) ?_); (first | refine gtk9 1 rfl rfl (q_nilCheck_p rfl) ?_); (first | refine gtk9 2 rfl rfl (q_fieldAddr fld_196_1 rfl) ?_); (first | refine gtk9 3 rfl rfl (q_load_o one_108 rfl own9 (by exact rfl)) ?_); (first | refine gtk9 4 rfl rfl (q_slData0 rfl) ?_); (first | refine gtk9 5 rfl rfl (q_move rfl) ?_); (first | refine gtk9 6 rfl rfl (q_nilCheck_p rfl) ?_); (first | refine gtk9 7 rfl rfl (q_fieldAddr fld_196_1 rfl) ?_); (first | refine gtk9 8 rfl rfl (q_load_o one_108 rfl own9 (by exact rfl)) ?_); (first | refine gtk9 9 rfl rfl (q_len rfl und_108 rfl) ?_); refine gon9 (i := 10) rfl ?_; (first | (refine gwq9 (q_ustr0 rfl rfl) ?_)); (first | refine gtk9 11 rfl rfl (q_assign rfl) ?_); refine gh_done (by kernel_rfl) vl9 vl9 slb9 ?_
      repeat' (first | (refine k_gc ?_; (first | refine gc_ret ?_)) | (refine k_at ?_; (first | refine at_seq ?_ | refine ats9 rfl ?_)))
      (refine atB_ret1 Tryz.results122 (rv_tmp rfl) (List.Sublist.refl _) ?_)
      rfl
    | some ad =>
      obtain ⟨g, rfl⟩ : ∃ g, ad = ⟨g, 0, none⟩ := by
        rcases hr.2 with ⟨_, h, _⟩ | ⟨g, _, h, _⟩
        · cases h
        · injection h with h; exact ⟨g, h⟩
      have hc : 0 < c := by
        rcases hA with h | h
        · cases h
        · exact h
      (refine fn_enterB Tryz.func122 rfl Tryz.ntmps122 rfl ?_; intro w0)
      repeat' (first | (refine k_gw ?_; (first | refine gwg9 ?_)) | (refine k_gl ?_; (first | refine gl_nil rfl ?_ | refine gl_go rfl rfl ?_)) | (refine k_gc ?_; (first | refine gc_seq ?_ | refine gc_region ?_)) | (refine k_at ?_; (first | refine at_seq ?_ | refine ats9 rfl ?_)))
      refine gc_held (id := 1) _ mixed (List.Sublist.refl _) ?_; (first | refine gtk9 0 rfl rfl (q_move rfl) ?_); (first | refine gtk9 1 rfl rfl (q_nilCheck_p rfl) ?_); (first | refine gtk9 2 rfl rfl (q_fieldAddr fld_196_1 rfl) ?_); (first | refine gtk9 3 rfl rfl (q_load_o one_108 rfl own9 (by exact rfl)) ?_); (first | refine gtk9 4 rfl rfl (q_slData rfl hc) ?_); (first | refine gtk9 5 rfl rfl (q_move rfl) ?_); (first | refine gtk9 6 rfl rfl (q_nilCheck_p rfl) ?_); (first | refine gtk9 7 rfl rfl (q_fieldAddr fld_196_1 rfl) ?_); (first | refine gtk9 8 rfl rfl (q_load_o one_108 rfl own9 (by exact rfl)) ?_); (first | refine gtk9 9 rfl rfl (q_len rfl und_108 rfl) ?_); refine gon9 (i := 10) rfl ?_; (first | (refine gwq9 (q_ustr0 rfl rfl) ?_)); (first | refine gtk9 11 rfl rfl (q_assign rfl) ?_); refine gh_done (by kernel_rfl) vl9 vl9 slb9 ?_
      repeat' (first | (refine k_gc ?_; (first | refine gc_ret ?_)) | (refine k_at ?_; (first | refine at_seq ?_ | refine ats9 rfl ?_)))
      (refine atB_ret1 Tryz.results122 (rv_tmp rfl) (List.Sublist.refl _) ?_)
      rfl
  | cons b l =>
    obtain ⟨g, rfl⟩ : ∃ g, A = some ⟨g, 0, none⟩ := by
      rcases hr.2 with ⟨_, _, h, _⟩ | ⟨g, _, h, _⟩
      · simp at h
      · exact ⟨g, h⟩
    have hc : 0 < c := by
      rcases hA with h | h
      · cases h
      · exact h
    (refine fn_enterB Tryz.func122 rfl Tryz.ntmps122 rfl ?_; intro w0)
    repeat' (first | (refine k_gw ?_; (first | refine gwg9 ?_)) | (refine k_gl ?_; (first | refine gl_nil rfl ?_ | refine gl_go rfl rfl ?_)) | (refine k_gc ?_; (first | refine gc_seq ?_ | refine gc_region ?_)) | (refine k_at ?_; (first | refine at_seq ?_ | refine ats9 rfl ?_)))
    refine gc_held (id := 1) _ mixed (List.Sublist.cons_cons _ (List.nil_sublist _)) ?_; (first | refine gtk9 0 rfl rfl (q_move rfl) ?_); (first | refine gtk9 1 rfl rfl (q_nilCheck_p rfl) ?_); (first | refine gtk9 2 rfl rfl (q_fieldAddr fld_196_1 rfl) ?_); (first | refine gtk9 3 rfl rfl (q_load_o one_108 rfl own9 (by exact rfl)) ?_); (first | refine gtk9 4 rfl rfl (q_slData rfl hc) ?_); (first | refine gtk9 5 rfl rfl (q_move rfl) ?_); (first | refine gtk9 6 rfl rfl (q_nilCheck_p rfl) ?_); (first | refine gtk9 7 rfl rfl (q_fieldAddr fld_196_1 rfl) ?_); (first | refine gtk9 8 rfl rfl (q_load_o one_108 rfl own9 (by exact rfl)) ?_); (first | refine gtk9 9 rfl rfl (q_len rfl und_108 rfl) ?_); refine gon9 (i := 10) rfl ?_; (first | (refine gw_ustr rfl und_uptr u8_cell rfl rfl rfl hr rep9 (by simp) rfl ?_)); (first | refine gtk9 11 rfl rfl (q_assign rfl) ?_); refine gh_done (by kernel_rfl) vl9 vl9 slb9 ?_
    repeat' (first | (refine k_gc ?_; (first | refine gc_ret ?_)) | (refine k_at ?_; (first | refine at_seq ?_ | refine ats9 rfl ?_)))
    (refine atB_ret1 Tryz.results122 (rv_tmp rfl) (List.Sublist.refl _) ?_)
    rfl
end
section
theorem ext_index : ExternIs Tryz.prog 211 Extern.BytealgIndexByte.indexByte := ⟨fun args w => run_callFunc_extern Tryz.func211 (by kernel_rfl) (by kernel_rfl) (by kernel_rfl) (by kernel_rfl) args w⟩
theorem vle_at9 {V V' : View} {p : Addr} {v : Value} (h : VLe V V') (hp : V p = some v) : V' p = some v := h p v hp
abbrev slash : ByteArray := ⟨#[47]⟩
theorem slash_size : (slash.size : Int) = 1 := rfl
theorem ex_take9 (l : List UInt8) (n : Nat) : (⟨l.toArray⟩ : ByteArray).extract 0 n = ⟨(l.take n).toArray⟩ := by
  rw [ba_is ((⟨l.toArray⟩ : ByteArray).extract 0 n), Lib.toList_data]
  simp [ByteArray.data_extract]
theorem ex_drop9 (l : List UInt8) (n : Nat) : (⟨l.toArray⟩ : ByteArray).extract n (⟨l.toArray⟩ : ByteArray).size = ⟨(l.drop n).toArray⟩ := by
  rw [ba_is ((⟨l.toArray⟩ : ByteArray).extract n (⟨l.toArray⟩ : ByteArray).size), Lib.toList_data]
  simp [ByteArray.data_extract, ba_sz]
  exact List.take_of_length_le (by rw [List.length_drop]; omega)
section
variable {P : Program} {B : Base} {N : Nat} {Q : Exit → Act → World → Prop} {k : List Cont} {F : List (Nat × Value)} {V : View} {L : List Box}
variable {d : Option Tmp} {ty : TypeId} {pos : String} {af : Array Edge} {gd : Option (Nat × Bool)} {T0 : TypeId} {ops : Array Oper} {rest : List Oper}
theorem St.perm {w : World} {L' : List Box} (hs : St B V L w) (hp : L'.Perm L) : St B V L' w :=
  ⟨hs.ext, fun p v h => ⟨(hs.view p v h).1, fun b hb => (hs.view p v h).2 b (hp.mem_iff.1 hb)⟩, hs.old, hs.v0, fun b hb => hs.own b (hp.mem_iff.1 hb), (hp.map Box.g).nodup_iff.2 hs.nodup⟩
end
attribute [local irreducible] AtQ GoC GoL GoW QO QP Fn RV OwnAt CellsFrom VLe SrcIs errV
set_option maxRecDepth 100000
theorem IndexByte_c (V : View) (l : List UInt8) : Fn Tryz.prog 196 [.string ⟨l.toArray⟩, .int .u8 47] V fun v _ => v = .int .i64 (Lib.indexByte l 47) := by
  (refine fn_enter Tryz.func196 rfl Tryz.ntmps196 rfl ?_; intro w0)
  repeat' (first | (refine k_gw ?_; (first | refine gwg9 ?_ | (refine k_call ?_; (first | refine gwq9 (q_extern ext_index rfl (fun w => Lib.run_indexByteString _ _ w)) ?_)))) | (refine k_gl ?_; (first | refine gl_nil rfl ?_ | refine gl_go rfl rfl ?_ | refine gl_yes rfl rfl rfl rfl rfl ?_ | refine gl_no rfl rfl rfl rfl rfl rfl rfl ?_ | refine gl_nou rfl rfl rfl rfl rfl rfl ?_ | (refine gl_split_p rfl rfl rfl ?_ ?_ <;> intro hq <;> try (exfalso; first | exact hq rfl | omega)) | (refine gl_split_b rfl rfl rfl ?_ ?_ <;> intro hq))) | (refine k_gc ?_; (first | refine gc_seq ?_ | refine gc_region ?_ | refine gc_cond_t rfl ?_ | refine gc_cond_f rfl ?_ | (refine gc_cond_p rfl ?_ ?_ <;> intro hq <;> try (exfalso; first | exact hq rfl | omega)) | (refine gc_cond_b rfl ?_ ?_ <;> intro hq) | refine gc_block ?_ | refine gc_exit ?_ | refine gc_ret ?_ | refine gc_skip ?_)) | (refine k_at ?_; (first | refine at_seq ?_ | refine ats9 rfl ?_)))
  all_goals (refine at_ret1 Tryz.results196 (rv_tmp rfl) ?_)
  all_goals rfl
theorem Index_c (V : View) (l : List UInt8) : Fn Tryz.prog 192 [.string ⟨l.toArray⟩, .string slash] V fun v _ => v = .int .i64 (Lib.indexByte l 47) := by
  have hs := slash_size
  have hc : slash[(0 : Int).toNat]? = some 47 := by rfl
  (refine fn_enter Tryz.func192 rfl Tryz.ntmps192 rfl ?_; intro w0)
  repeat' (first | (refine k_gw ?_; (first | refine gwg9 ?_ | (refine k_call ?_; (first | refine gwq9 (q_slen rfl und_9 rfl) ?_ | refine gw_q' rfl (q_call ⟨Tryz.call196⟩ rfl (IndexByte_c _ l)) ?_)) | (refine k_binOp ?_; (first | refine gwq9 (q_eql rfl rfl) ?_ | refine gwq9 (q_seql rfl rfl) ?_)) | (refine k_index ?_; (first | refine gwq9 (q_sindex und_9 rfl rfl (by omega) (by assumption)) ?_)))) | (refine k_gl ?_; (first | refine gl_nil rfl ?_ | refine gl_go rfl rfl ?_ | refine gl_yes rfl rfl rfl rfl rfl ?_)) | (refine k_gc ?_; (first | refine gc_seq ?_ | refine gc_region ?_ | refine gc_cond_t rfl ?_ | (refine gc_cond_p rfl ?_ ?_ <;> intro hq <;> try (exfalso; first | exact hq rfl | omega)) | refine gc_block ?_ | refine gc_ret ?_)) | (refine k_at ?_; (first | refine at_seq ?_ | refine ats9 rfl ?_)))
  · (refine at_ret1 Tryz.results192 (rv_tmp rfl) ?_)
    have e : l = [47] := by have := congrArg ByteArray.toList hq; rw [ba_of, ba_of] at this; exact this.symm
    rw [e]; rfl
  · (refine at_ret1 Tryz.results192 (rv_tmp rfl) ?_)
    rfl
def cutL (l : List UInt8) : Value := if 0 ≤ Lib.indexByte l 47 then .tuple #[.string ⟨(l.take (Lib.indexByte l 47).toNat).toArray⟩, .string ⟨(l.drop ((Lib.indexByte l 47).toNat + 1)).toArray⟩, .bool true] else .tuple #[.string ⟨l.toArray⟩, .string ⟨#[]⟩, .bool false]
theorem Cut_lc (V : View) (l : List UInt8) (hl : l.length ≤ 1000000) : Fn Tryz.prog 181 [.string ⟨l.toArray⟩, .string slash] V fun v _ => v = cutL l := by
  have hs := slash_size
  have hsz := ba_sz l
  have hI := Index_c V l
  unfold cutL
  by_cases h0 : 0 ≤ Lib.indexByte l 47
  · obtain ⟨_, _, h3⟩ := index_at h0
    rw [if_pos h0]
    (refine fn_enter Tryz.func181 rfl Tryz.ntmps181 rfl ?_; intro w0)
    repeat' (first | (refine k_gw ?_; (first | refine gwg9 ?_ | (refine k_call ?_; (first | refine gwq9 (q_slen rfl und_9 rfl) ?_ | refine gw_q' rfl (q_call ⟨Tryz.call192⟩ rfl (hI)) ?_)) | (refine k_binOp ?_; refine gwb9 ?_) | (refine k_slice ?_; (first | refine gwq9 (q_sslice_li und_9 rfl rfl (by omega)) ?_ | refine gwq9 (q_sslice_ni und_9 rfl rfl (by omega)) ?_)))) | (refine k_gl ?_; (first | refine gl_nil rfl ?_ | refine gl_go rfl rfl ?_)) | (refine k_gc ?_; (first | refine gc_seq ?_ | refine gc_region ?_ | (refine gc_cond_p rfl ?_ ?_ <;> intro hq <;> try (exfalso; first | exact hq rfl | omega)) | refine gc_ret ?_ | refine gc_quiet (id := 3) mixed (by kernel_rfl) ?_)) | (refine k_at ?_; (first | refine at_seq ?_ | refine ats9 rfl ?_)))
    all_goals (refine at_ret3 Tryz.results181 (rv_tmp rfl) (rv_tmp rfl) (rv_tmp rfl) ?_)
    all_goals (rw [ex_take9, ex_drop9, show (Lib.indexByte l 47 + (slash.size : Int)).toNat = (Lib.indexByte l 47).toNat + 1 by omega])
  · rw [if_neg h0]
    (refine fn_enter Tryz.func181 rfl Tryz.ntmps181 rfl ?_; intro w0)
    repeat' (first | (refine k_gw ?_; (first | refine gwg9 ?_ | (refine k_call ?_; (first | refine gwq9 (q_slen rfl und_9 rfl) ?_ | refine gw_q' rfl (q_call ⟨Tryz.call192⟩ rfl (hI)) ?_)) | (refine k_binOp ?_; refine gwb9 ?_))) | (refine k_gl ?_; (first | refine gl_nil rfl ?_ | refine gl_go rfl rfl ?_)) | (refine k_gc ?_; (first | refine gc_seq ?_ | refine gc_region ?_ | (refine gc_cond_p rfl ?_ ?_ <;> intro hq <;> try (exfalso; first | exact hq rfl | omega)) | refine gc_ret ?_ | refine gc_skip ?_)) | (refine k_at ?_; (first | refine at_seq ?_ | refine ats9 rfl ?_)))
    all_goals (refine at_ret3 Tryz.results181 (rv_tmp rfl) (rv_tmp rfl) (rv_tmp rfl) ?_)
    all_goals rfl
theorem SCut_c (V : View) (l : List UInt8) (hl : l.length ≤ 1000000) : Fn Tryz.prog 148 [.string ⟨l.toArray⟩, .string slash] V fun v _ => v = cutL l := by
  have hC := Cut_lc V l hl
  unfold cutL at *
  by_cases h0 : 0 ≤ Lib.indexByte l 47
  · rw [if_pos h0] at hC ⊢
    (refine fn_enter Tryz.func148 rfl Tryz.ntmps148 rfl ?_; intro w0)
    repeat' (first | (refine k_gw ?_; (first | refine gwg9 ?_ | (refine k_call ?_; (first | refine gw_q' rfl (q_call ⟨Tryz.call181⟩ rfl (hC)) ?_)))) | (refine k_gl ?_; (first | refine gl_nil rfl ?_ | refine gl_go rfl rfl ?_ | refine gl_yes rfl rfl rfl rfl rfl ?_ | refine gl_no rfl rfl rfl rfl rfl rfl rfl ?_ | refine gl_nou rfl rfl rfl rfl rfl rfl ?_ | (refine gl_split_p rfl rfl rfl ?_ ?_ <;> intro hq <;> try (exfalso; first | exact hq rfl | omega)) | (refine gl_split_b rfl rfl rfl ?_ ?_ <;> intro hq))) | (refine k_gc ?_; (first | refine gc_seq ?_ | refine gc_region ?_ | refine gc_cond_t rfl ?_ | refine gc_cond_f rfl ?_ | (refine gc_cond_p rfl ?_ ?_ <;> intro hq <;> try (exfalso; first | exact hq rfl | omega)) | (refine gc_cond_b rfl ?_ ?_ <;> intro hq) | refine gc_block ?_ | refine gc_exit ?_ | refine gc_ret ?_ | refine gc_skip ?_)) | (refine k_at ?_; (first | refine at_seq ?_ | refine ats9 rfl ?_)))
    all_goals (refine at_ret3 Tryz.results148 (rv_tmp rfl) (rv_tmp rfl) (rv_tmp rfl) ?_)
    all_goals rfl
  · rw [if_neg h0] at hC ⊢
    (refine fn_enter Tryz.func148 rfl Tryz.ntmps148 rfl ?_; intro w0)
    repeat' (first | (refine k_gw ?_; (first | refine gwg9 ?_ | (refine k_call ?_; (first | refine gw_q' rfl (q_call ⟨Tryz.call181⟩ rfl (hC)) ?_)))) | (refine k_gl ?_; (first | refine gl_nil rfl ?_ | refine gl_go rfl rfl ?_ | refine gl_yes rfl rfl rfl rfl rfl ?_ | refine gl_no rfl rfl rfl rfl rfl rfl rfl ?_ | refine gl_nou rfl rfl rfl rfl rfl rfl ?_ | (refine gl_split_p rfl rfl rfl ?_ ?_ <;> intro hq <;> try (exfalso; first | exact hq rfl | omega)) | (refine gl_split_b rfl rfl rfl ?_ ?_ <;> intro hq))) | (refine k_gc ?_; (first | refine gc_seq ?_ | refine gc_region ?_ | refine gc_cond_t rfl ?_ | refine gc_cond_f rfl ?_ | (refine gc_cond_p rfl ?_ ?_ <;> intro hq <;> try (exfalso; first | exact hq rfl | omega)) | (refine gc_cond_b rfl ?_ ?_ <;> intro hq) | refine gc_block ?_ | refine gc_exit ?_ | refine gc_ret ?_ | refine gc_skip ?_)) | (refine k_at ?_; (first | refine at_seq ?_ | refine ats9 rfl ?_)))
    all_goals (refine at_ret3 Tryz.results148 (rv_tmp rfl) (rv_tmp rfl) (rv_tmp rfl) ?_)
    all_goals rfl
end
end Go.Proofs.YtejkmomfpidnbacGreat
