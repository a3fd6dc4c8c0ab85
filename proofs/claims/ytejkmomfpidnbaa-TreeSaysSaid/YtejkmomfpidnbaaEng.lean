/- An engine for walks: what is known of memory is a view (cells that stay) and a list of boxes (blocks of the call's own that may be written); what is known of a frame is a list of slots. The world itself is never named. No program is named here. -/
import Derived.Test.YtejkmomfpidnbaaBase
import Derived.Deep.Quiet
import Derived.OrdersHeld
namespace Go.Proofs.Ytejkmomfpidnbaa
open Go.RowKit
set_option linter.unusedSimpArgs false
set_option linter.unusedVariables false

/-! ### Views, boxes, states -/
abbrev View := Addr → Option Value
def VLe (V V' : View) : Prop := ∀ p x, V p = some x → V' p = some x
theorem VLe.refl (V : View) : VLe V V := fun _ _ h => h
theorem VLe.trans {V V' V'' : View} (h : VLe V V') (k : VLe V' V'') : VLe V V'' := fun p x hp => k p x (h p x hp)
def VIn (V : View) (w : World) : Prop := ∀ p x, V p = some x → w.cell? p = some x
/-- What a block is: cells of a type, or a map. -/
inductive BT where
  | cells (E : TypeId)
  | map (es : Array MapEntry) (clock : Nat)
instance : Coe TypeId BT := ⟨BT.cells⟩
@[reducible] instance (n : Nat) : OfNat BT n := ⟨BT.cells n⟩
structure Box where
  g : Nat
  t : BT
  cs : List Value
/-- The object that a box stands for. -/
def BT.obj : BT → List Value → Obj
  | .cells E, cs => .cells cs.toArray E (0, 0)
  | .map es c, _ => .map es c
@[simp] theorem BT.obj_cells (E : TypeId) (cs : List Value) : BT.obj (.cells E) cs = .cells cs.toArray E (0, 0) := rfl
@[simp] theorem BT.obj_map (es : Array MapEntry) (c : Nat) (cs : List Value) : BT.obj (.map es c) cs = .map es c := rfl
structure Base where
  v : View
  w : World
  fl : List Nat
/-- w' is w with new blocks; of those that were there only fl may have changed. -/
structure Exc (fl : List Nat) (w w' : World) : Prop where
  os : w'.os = w.os
  tape : w'.tape = w.tape
  output : w'.output = w.output
  sz : w.heap.size ≤ w'.heap.size
  block : ∀ k, k < w.heap.size → ¬ k ∈ fl → w'.heap[k]? = w.heap[k]?
theorem Exc.refl (fl : List Nat) (w : World) : Exc fl w w := ⟨rfl, rfl, rfl, Nat.le_refl _, fun _ _ _ => rfl⟩
theorem Exc.trans {fl fl' : List Nat} {a b c : World} (h : Exc fl a b) (k : Exc fl' b c) (hf : ∀ x ∈ fl', a.heap.size ≤ x ∨ x ∈ fl) : Exc fl a c :=
  ⟨k.os.trans h.os, k.tape.trans h.tape, k.output.trans h.output, Nat.le_trans h.sz k.sz, fun i hi hn => by
    rw [k.block i (Nat.lt_of_lt_of_le hi h.sz) (fun hm => by
      rcases hf i hm with h1 | h1
      · omega
      · exact hn h1)]
    exact h.block i hi hn⟩
theorem Exc.of_ext {w w' : World} (h : Ext w w') : Exc [] w w' := ⟨h.os, h.tape, h.output, h.size, fun k hk _ => h.block k hk⟩
theorem Exc.ext {w w' : World} (h : Exc [] w w') : Ext w w' := ⟨h.os, h.tape, h.output, h.sz, fun k hk => h.block k hk (by simp)⟩
theorem Exc.via {fl : List Nat} {a b c : World} (h : Exc fl a b) (k : Ext b c) : Exc fl a c := h.trans (Exc.of_ext k) (by simp)
theorem Exc.dr {fl : List Nat} {w x : World} (h : Exc fl w x) : Exc fl w x.drew := h.via (Ext.dr (Ext.refl x))
theorem Exc.al {fl : List Nat} {w x : World} (o : Obj) (h : Exc fl w x) : Exc fl w (x.alloc o) := h.via (Ext.al o (Ext.refl x))
theorem Exc.set {fl : List Nat} {w x : World} {p : Addr} (v : Value) (h : Exc fl w x) (hp : w.heap.size ≤ p.block ∨ p.block ∈ fl) : Exc fl w (x.setCell p v) :=
  h.trans (fl' := [p.block]) ⟨rfl, rfl, rfl, by simp [World.setCell], fun k hk hn => Below.heap_setCell _ _ _ _ (by simpa using hn)⟩ (by intro y hy; simp at hy; subst hy; exact hp)
theorem Exc.grown {fl : List Nat} {w x y : World} {row : Option Nat} (h : Exc fl w x) (hg : x.grownBy y row) (hr : ∀ k, row = some k → w.heap.size ≤ k ∨ k ∈ fl) : Exc fl w y :=
  h.trans (fl' := row.toList) ⟨hg.os, hg.tape, hg.output, hg.size, fun k hk hn => hg.block k hk (fun e => hn (by rw [← e]; simp))⟩ (by intro z hz; exact hr z (by simpa using hz))
structure St (B : Base) (V : View) (L : List Box) (w : World) : Prop where
  ext : Exc B.fl B.w w
  view : ∀ p x, V p = some x → w.cell? p = some x ∧ ∀ b ∈ L, b.g ≠ p.block
  old : ∀ p x, V p = some x → p.block < B.w.heap.size → B.v p = some x
  v0 : VLe B.v V
  own : ∀ b ∈ L, w.heap[b.g]? = some (b.t.obj b.cs) ∧ (B.w.heap.size ≤ b.g ∨ b.g ∈ B.fl)
  nodup : (L.map Box.g).Nodup

/-- A call's contract: with what V knows of memory it returns v, memory only grows, and of v and of a greater view R holds. -/
def FnEnd (V : View) (w : World) (R : Value → View → Prop) (e : Ending) (w' : World) : Prop :=
  ∃ v, e = .returned v ∧ Ext w w' ∧ ∃ V', VLe V V' ∧ VIn V' w' ∧ (∀ p x, V' p = some x → p.block < w.heap.size → V p = some x) ∧ R v V'
def Fn (P : Program) (f : FuncId) (args : List Value) (V : View) (R : Value → View → Prop) : Prop :=
  ∀ w, VIn V w → Calls P f args.toArray w (FnEnd V w R)
theorem Fn.mono {P : Program} {f : FuncId} {args : List Value} {V : View} {R R' : Value → View → Prop} (h : Fn P f args V R) (hr : ∀ v V', VLe V V' → R v V' → R' v V') : Fn P f args V R' :=
  fun w hw => (h w hw).mono fun _ _ ⟨v, he, hx, V', h1, h2, h3, h4⟩ => ⟨v, he, hx, V', h1, h2, h3, hr v V' h1 h4⟩

/-! ### Frames -/
abbrev Slots := List (Nat × Value)
def look : List (Nat × Value) → Nat → Option Value
  | [], _ => none
  | (t, v) :: F, k => bif Nat.beq t k then some v else look F k
def Kn (N : Nat) (F : List (Nat × Value)) (a : Act) : Prop := a.defers = [] ∧ a.tmps.size = N ∧ ∀ t v, look F t = some v → a.tmps.getD t undef = v
def evF (F : List (Nat × Value)) : Operand → Option Value
  | .tmp t => look F t
  | .const v => some v
  | .global g => some (.pointer (some ⟨g, 0, none⟩))
  | .func f => some (.func (.func f) #[] #[])
def putF (F : List (Nat × Value)) (d : Option Nat) (v : Value) : List (Nat × Value) := match d with | some d => (d, v) :: F | none => F
def okD (N : Nat) : Option Nat → Bool
  | some d => Nat.blt d N
  | none => true
section
variable {N : Nat} {F : List (Nat × Value)} {a : Act}
theorem Kn.ev (h : Kn N F a) {x : Operand} {v : Value} (hx : evF F x = some v) : a.eval x = v := by
  cases x with
  | tmp t => exact h.2.2 t v hx
  | const u => simpa [evF, Act.eval] using hx
  | global g => simpa [evF, Act.eval] using hx
  | func f => simpa [evF, Act.eval] using hx
theorem look_cons (t : Nat) (v : Value) (F : List (Nat × Value)) (k : Nat) : look ((t, v) :: F) k = if t = k then some v else look F k := by
  simp only [look]
  by_cases h : t = k
  · subst h; simp [show Nat.beq t t = true from by simp]
  · rw [if_neg h]
    have : Nat.beq t k = false := by
      cases hb : Nat.beq t k
      · rfl
      · exact absurd (Nat.eq_of_beq_eq_true hb) h
    rw [this]; rfl
theorem Kn.put (h : Kn N F a) {d : Option Nat} (hd : okD N d = true) (v : Value) : Kn N (putF F d v) (a.put d v) := by
  cases d with
  | none => exact h
  | some d =>
    have hd : d < N := by simpa [okD, Nat.blt_eq] using hd
    refine ⟨h.1, by simpa [Act.put] using h.2.1, fun t u hu => ?_⟩
    have hu : look ((d, v) :: F) t = some u := hu
    rw [look_cons] at hu
    have hsz := h.2.1
    by_cases ht : d = t
    · subst ht
      rw [if_pos rfl] at hu
      injection hu with hu
      subst hu
      simp [Act.put, hsz, hd]
    · rw [if_neg ht] at hu
      have := h.2.2 t u hu
      simpa [Act.put, Array.getElem?_setIfInBounds_ne ht] using this
theorem Kn.tmp (h : Kn N F a) {t : Nat} {v : Value} (ht : okD N (some t) = true) (hl : look F t = some v) : a.tmps[t]? = some v := by
  have ht : t < N := by simpa [okD, Nat.blt_eq] using ht
  have h1 := h.2.2 t v hl
  have h2 := h.2.1
  rw [Array.getElem?_eq_getElem (by omega)]
  simpa [show t < a.tmps.size by omega] using h1
/-- Fewer slots are known. -/
theorem Kn.less {F' : List (Nat × Value)} (h : Kn N F a) (hs : ∀ p ∈ F', look F p.1 = some p.2) : Kn N F' a := by
  refine ⟨h.1, h.2.1, fun t v hv => h.2.2 t v ?_⟩
  have : (t, v) ∈ F' := by
    clear h hs
    induction F' with
    | nil => simp [look] at hv
    | cons p F' ih =>
      obtain ⟨k, u⟩ := p
      rw [look_cons] at hv
      by_cases hk : k = t
      · rw [if_pos hk] at hv; injection hv with hv; subst hk; subst hv; simp
      · rw [if_neg hk] at hv; exact List.mem_cons_of_mem _ (ih hv)
  exact hs _ this
end

theorem sub_nil {F : List (Nat × Value)} : ∀ p ∈ ([] : List (Nat × Value)), look F p.1 = some p.2 := by simp
theorem sub_cons {F G : List (Nat × Value)} {t : Nat} {v : Value} (h : look F t = some v) (hs : ∀ p ∈ G, look F p.1 = some p.2) : ∀ p ∈ ((t, v) :: G), look F p.1 = some p.2 := fun p hp => by
  rcases List.mem_cons.1 hp with rfl | hp
  · exact h
  · exact hs p hp

/-! ### What comes behind -/
inductive Cont where
  | seq (y : Code)
  | block (i : Nat)
  | thn (K : Act → World → Prop)
def evalQ (P : Program) (Q : Exit → Act → World → Prop) : List Cont → Exit → Act → World → Prop
  | [] => Q
  | .seq y :: k => Exit.then (y.wp P (evalQ P Q k)) (evalQ P Q k)
  | .block i :: k => Exit.inBlock i (evalQ P Q k)
  | .thn K :: k => Exit.then K (evalQ P Q k)

/-! ### What is to be shown -/
def Nx (B : Base) (N : Nat) (K : Act → World → Prop) (F : List (Nat × Value)) (V : View) (L : List Box) : Prop := ∀ a w, Kn N F a → St B V L w → K a w
def AtQ (P : Program) (B : Base) (N : Nat) (Q : Exit → Act → World → Prop) (k : List Cont) (e : Exit) (F : List (Nat × Value)) (V : View) (L : List Box) : Prop := ∀ a w, Kn N F a → St B V L w → evalQ P Q k e a w
def GoC (P : Program) (B : Base) (N : Nat) (c : Code) (Q : Exit → Act → World → Prop) (k : List Cont) (F : List (Nat × Value)) (V : View) (L : List Box) : Prop := ∀ a w, Kn N F a → St B V L w → c.wp P (evalQ P Q k) a w
/-- How a region is walked: in the order of the text (plain); it draws its order, and its operations are quiet (quiet); it draws its order, and what V0 and Lk say is kept (held). -/
inductive Mode where
  | plain
  | quiet
  | held (V0 : View) (Lk : List Box) (fuel : Nat) (listed : Array Bool)
def Mode.loud : Mode → Bool
  | .quiet => false
  | _ => true
/-- What comes behind an operation. -/
def nextK (P : Program) (B : Base) (ops : Array Oper) (Q : Exit → Act → World → Prop) (rest : List Oper) : Mode → Act → World → Prop
  | .plain => wpList P ops Q rest
  | .quiet => fun _ _ => True
  | .held V0 Lk fuel listed => fun a w => St B V0 Lk w ∧ wpAnyH P .any ops Q (St B V0 Lk) fuel listed a w
/-- The rest of a region's operations. -/
def GoL (P : Program) (B : Base) (N : Nat) (dr : Mode) (ops : Array Oper) (Q : Exit → Act → World → Prop) (k : List Cont) (rest : List Oper) (F : List (Nat × Value)) (V : View) (L : List Box) : Prop :=
  if dr.loud = true then ∀ a w, Kn N F a → St B V L w → nextK P B ops (evalQ P Q k) rest dr a w
  else ∀ a, Kn N F a → wpQuiet P ops (St B V L) (fun a' => ∀ w', St B V L w' → evalQ P Q k .normal a' w') rest a
/-- The operation is carried out. -/
def GoW (P : Program) (B : Base) (N : Nat) (dr : Mode) (ops : Array Oper) (Q : Exit → Act → World → Prop) (k : List Cont) (o : Oper) (rest : List Oper) (F : List (Nat × Value)) (V : View) (L : List Box) : Prop :=
  if dr.loud = true then ∀ a w, Kn N F a → St B V L w → o.wp P a w (nextK P B ops (evalQ P Q k) rest dr) (evalQ P Q k)
  else ∀ a, Kn N F a → o.quiet P a (St B V L) (wpQuiet P ops (St B V L) (fun a' => ∀ w', St B V L w' → evalQ P Q k .normal a' w') rest)
/-- In every world of which so much is known the operation yields v and does nothing else. -/
def QP (P : Program) (B : Base) (N : Nat) (V : View) (L : List Box) (o : Oper) (F : List (Nat × Value)) (v : Value) : Prop := ∀ a w, Kn N F a → St B V L w → (execOp a.eval o).run P w = .ok (.value v) w
/-- In every world of which so much is known the operation yields v. -/
def QO (P : Program) (B : Base) (N : Nat) (V : View) (L : List Box) (o : Oper) (F : List (Nat × Value)) (v : Value) : Prop := ∀ a w, Kn N F a → St B V L w → o.quietAt P a (St B V L) w v

section
variable {P : Program} {B : Base} {N : Nat} {Q : Exit → Act → World → Prop} {F : List (Nat × Value)} {V : View} {L : List Box} {k : List Cont}

/-! ### Control -/
theorem gc_seq {x y : Code} (h : GoC P B N x Q (.seq y :: k) F V L) : GoC P B N (.seq x y) Q k F V L := fun a w ha hs => wp_seq (h a w ha hs)
theorem gc_skip (h : AtQ P B N Q k .normal F V L) : GoC P B N .skip Q k F V L := fun a w ha hs => wp_skip (h a w ha hs)
theorem gc_ret (h : AtQ P B N Q k .ret F V L) : GoC P B N .ret Q k F V L := fun a w ha hs => wp_ret (h a w ha hs)
theorem gc_exit {i : Nat} (h : AtQ P B N Q k (.exit i) F V L) : GoC P B N (.exit i) Q k F V L := fun a w ha hs => wp_exit (h a w ha hs)
theorem gc_block {i : Nat} {c : Code} (h : GoC P B N c Q (.block i :: k) F V L) : GoC P B N (.block i c) Q k F V L := fun a w ha hs => wp_block (h a w ha hs)
theorem gc_cond_t {c : Operand} {x y : Code} (hc : evF F c = some (.bool true)) (h : GoC P B N x Q k F V L) : GoC P B N (.cond c x y) Q k F V L := fun a w ha hs => wp_cond_true (ha.ev hc) (h a w ha hs)
theorem gc_cond_f {c : Operand} {x y : Code} (hc : evF F c = some (.bool false)) (h : GoC P B N y Q k F V L) : GoC P B N (.cond c x y) Q k F V L := fun a w ha hs => wp_cond_false (ha.ev hc) (h a w ha hs)
theorem gc_cond_p {c : Operand} {x y : Code} {p : Prop} [Decidable p] (hc : evF F c = some (.bool (decide p))) (h1 : p → GoC P B N x Q k F V L) (h2 : ¬ p → GoC P B N y Q k F V L) : GoC P B N (.cond c x y) Q k F V L :=
  fun a w ha hs => wp_cond_split (ha.ev hc) (fun h => h1 (of_decide_eq_true h) a w ha hs) (fun h => h2 (of_decide_eq_false h) a w ha hs)
theorem gc_cond_b {c : Operand} {x y : Code} {b : Bool} (hc : evF F c = some (.bool b)) (h1 : b = true → GoC P B N x Q k F V L) (h2 : b = false → GoC P B N y Q k F V L) : GoC P B N (.cond c x y) Q k F V L :=
  fun a w ha hs => wp_cond_split (ha.ev hc) (fun h => h1 h a w ha hs) (fun h => h2 h a w ha hs)
theorem gc_region {id : Nat} {l : List Oper} (h : GoL P B N .plain l.toArray Q k l F V L) : GoC P B N (.region id l.toArray false) Q k F V L := fun a w ha hs => wp_region_lit (by unfold GoL at h; exact h a w ha hs)
theorem St.drew {w : World} (h : St B V L w) : St B V L { w with drawn := w.drawn + 1 } := ⟨Exc.dr h.ext, h.view, h.old, h.v0, h.own, h.nodup⟩
theorem gc_quiet {id : Nat} {l : List Oper} (hm : P.follows .mixedOrders = true) (hB : Region.lexB .any l.toArray = true) (h : GoL P B N .quiet l.toArray Q k l F V L) : GoC P B N (.region id l.toArray true) Q k F V L :=
  fun a w ha hs => wp_region_quiet (C := St B V L) hm hB hs.drew (by
    have h' : ∀ a, Kn N F a → wpQuiet P l.toArray (St B V L) (fun a' => ∀ w', St B V L w' → evalQ P Q k .normal a' w') l a := by unfold GoL at h; exact h
    have := h' a ha
    simpa using this)

theorem at_seq {y : Code} (h : GoC P B N y Q k F V L) : AtQ P B N Q (.seq y :: k) .normal F V L := h
theorem at_then_ret {y : Code} (h : AtQ P B N Q k .ret F V L) : AtQ P B N Q (.seq y :: k) .ret F V L := h
theorem at_then_exit {y : Code} {i : Nat} (h : AtQ P B N Q k (.exit i) F V L) : AtQ P B N Q (.seq y :: k) (.exit i) F V L := h
theorem at_thn_ret {K : Act → World → Prop} (h : AtQ P B N Q k .ret F V L) : AtQ P B N Q (.thn K :: k) .ret F V L := h
theorem at_thn_exit {K : Act → World → Prop} {i : Nat} (h : AtQ P B N Q k (.exit i) F V L) : AtQ P B N Q (.thn K :: k) (.exit i) F V L := h
theorem at_block_normal {i : Nat} (h : AtQ P B N Q k .normal F V L) : AtQ P B N Q (.block i :: k) .normal F V L := h
theorem at_block_ret {i : Nat} (h : AtQ P B N Q k .ret F V L) : AtQ P B N Q (.block i :: k) .ret F V L := h
theorem at_block_hit {i : Nat} (h : AtQ P B N Q k .normal F V L) : AtQ P B N Q (.block i :: k) (.exit i) F V L := fun a w ha hs => by
  show if i = i then _ else _
  rw [if_pos rfl]; exact h a w ha hs
theorem at_block_miss {i j : Nat} (hne : Nat.beq j i = false) (h : AtQ P B N Q k (.exit j) F V L) : AtQ P B N Q (.block i :: k) (.exit j) F V L := fun a w ha hs => by
  show if j = i then _ else _
  rw [if_neg (fun e => by subst e; simp at hne)]; exact h a w ha hs

theorem St.drop {w : World} {L' : List Box} (hs : St B V L w) (h : L'.Sublist L) : St B V L' w :=
  ⟨hs.ext, fun p x hp => ⟨(hs.view p x hp).1, fun b hb => (hs.view p x hp).2 b (h.subset hb)⟩, hs.old, hs.v0, fun b hb => hs.own b (h.subset hb), List.Nodup.sublist (h.map Box.g) hs.nodup⟩
/-- A loop: J says what is known at each round's head; its number falls. -/
theorem gc_loop {c : Code} (J : List (Nat × Value) → View → List Box → Nat → Prop) {F' : List (Nat × Value)} {V' : View} {L' : List Box} {m : Nat} (h0 : J F' V' L' m) (hF : ∀ p ∈ F', look F p.1 = some p.2) (hV : V' = V) (hL : L'.Sublist L)
    (round : ∀ F V L m, J F V L m → GoC P B N c Q (.thn (fun a w => ∃ F' V' L' m', m' < m ∧ J F' V' L' m' ∧ Kn N F' a ∧ St B V' L' w) :: k) F V L) : GoC P B N (.loop c) Q k F V L := by
  subst hV
  intro a w ha hs
  have key : ∀ n F V L a w, J F V L n → Kn N F a → St B V L w → (Code.loop c).wp P (evalQ P Q k) a w := by
    intro n F V L a w hJ ha hs
    let I : Act → World → Nat → Prop := fun a w n => ∃ F V L, J F V L n ∧ Kn N F a ∧ St B V L w
    classical
    have hex : ∀ a w, (∃ n, I a w n) → ∃ n, I a w n ∧ ∀ k, k < n → ¬ I a w k := fun a w ⟨n, hn⟩ => by
      induction n using Nat.strongRecOn with
      | _ n ih =>
        by_cases h : ∃ k, k < n ∧ I a w k
        · obtain ⟨k, hk, hI⟩ := h; exact ih k hk hI
        · exact ⟨n, hn, fun k hk hI => h ⟨k, hk, hI⟩⟩
    let μ : Act → World → Nat := fun a w => if h : ∃ n, I a w n then Classical.choose (hex a w h) else 0
    refine wp_loop (fun a w => ∃ n, I a w n) μ ⟨n, F, V, L, hJ, ha, hs⟩ fun a w h => ?_
    have hμ := Classical.choose_spec (hex a w h)
    have hμe : μ a w = Classical.choose (hex a w h) := dif_pos h
    obtain ⟨⟨F, V, L, hJ, ha, hs⟩, _⟩ := hμ
    refine Code.wp_mono (fun e a' w' q => ?_) (round F V L _ hJ a w ha hs)
    cases e with
    | normal =>
      obtain ⟨F', V', L', m', hlt, hJ', ha', hs'⟩ := q
      have h' : ∃ n, I a' w' n := ⟨m', F', V', L', hJ', ha', hs'⟩
      refine ⟨h', ?_⟩
      have hμe' : μ a' w' = Classical.choose (hex a' w' h') := dif_pos h'
      have hmin := (Classical.choose_spec (hex a' w' h')).2 m'
      rw [hμe, hμe']
      rcases Nat.lt_or_ge m' (Classical.choose (hex a' w' h')) with hl | hl
      · exact absurd ⟨F', V', L', hJ', ha', hs'⟩ (hmin hl)
      · omega
    | exit i => exact q
    | goto l => exact q
    | ret => exact q
    | panic ch => exact q
    | outgrown => exact q
  exact key m F' V' L' a w h0 (ha.less hF) (hs.drop hL)
/-- A round's end. -/
theorem at_round {J : List (Nat × Value) → View → List Box → Nat → Prop} {m : Nat} (F' : List (Nat × Value)) {L' : List Box} (m' : Nat) (hJ : J F' V L' m') (hm : m' < m) (hF : ∀ p ∈ F', look F p.1 = some p.2) (hL : L'.Sublist L) :
    AtQ P B N Q (.thn (fun a w => ∃ F' V' L' m', m' < m ∧ J F' V' L' m' ∧ Kn N F' a ∧ St B V' L' w) :: k) .normal F V L := fun a w ha hs => ⟨F', V, L', m', hm, hJ, ha.less hF, hs.drop hL⟩
/-- Ways meet. -/
theorem gc_seq_cut {x y : Code} (J : List (Nat × Value) → View → List Box → Prop) (h1 : GoC P B N x Q (.thn (fun a w => ∃ F V L, J F V L ∧ Kn N F a ∧ St B V L w) :: k) F V L) (h2 : ∀ F V L, J F V L → GoC P B N y Q k F V L) : GoC P B N (.seq x y) Q k F V L :=
  fun a w ha hs => wp_seq (Code.wp_mono (fun e a w q => by
    cases e with
    | normal => obtain ⟨F, V, L, hJ, ha, hs⟩ := q; exact h2 F V L hJ a w ha hs
    | exit i => exact q
    | goto l => exact q
    | ret => exact q
    | panic ch => exact q
    | outgrown => exact q) (h1 a w ha hs))
theorem at_meet {J : List (Nat × Value) → View → List Box → Prop} (F' : List (Nat × Value)) {L' : List Box} (hJ : J F' V L') (hF : ∀ p ∈ F', look F p.1 = some p.2) (hL : L'.Sublist L) :
    AtQ P B N Q (.thn (fun a w => ∃ F V L, J F V L ∧ Kn N F a ∧ St B V L w) :: k) .normal F V L := fun a w ha hs => ⟨F', V, L', hJ, ha.less hF, hs.drop hL⟩

/-! ### Operations come up -/
variable {ops : Array Oper} {rest : List Oper} {o : Oper}
theorem gl_plain {rest : List Oper} : GoL P B N .plain ops Q k rest F V L ↔ ∀ a w, Kn N F a → St B V L w → wpList P ops (evalQ P Q k) rest a w := by unfold GoL; exact Iff.rfl
theorem gl_quiet {rest : List Oper} : GoL P B N .quiet ops Q k rest F V L ↔ ∀ a, Kn N F a → wpQuiet P ops (St B V L) (fun a' => ∀ w', St B V L w' → evalQ P Q k .normal a' w') rest a := by unfold GoL; exact Iff.rfl
theorem gw_plain {rest : List Oper} : GoW P B N .plain ops Q k o rest F V L ↔ ∀ a w, Kn N F a → St B V L w → o.wp P a w (wpList P ops (evalQ P Q k) rest) (evalQ P Q k) := by unfold GoW; exact Iff.rfl
theorem gw_quiet {rest : List Oper} : GoW P B N .quiet ops Q k o rest F V L ↔ ∀ a, Kn N F a → o.quiet P a (St B V L) (wpQuiet P ops (St B V L) (fun a' => ∀ w', St B V L w' → evalQ P Q k .normal a' w') rest) := by unfold GoW; exact Iff.rfl
theorem gw_loud {dr : Mode} (hdr : dr.loud = true) (h : ∀ a w, Kn N F a → St B V L w → o.wp P a w (nextK P B ops (evalQ P Q k) rest dr) (evalQ P Q k)) : GoW P B N dr ops Q k o rest F V L := by unfold GoW; rw [if_pos hdr]; exact h
theorem gl_loud {dr : Mode} (hdr : dr.loud = true) (h : GoL P B N dr ops Q k rest F V L) : ∀ a w, Kn N F a → St B V L w → nextK P B ops (evalQ P Q k) rest dr a w := by unfold GoL at h; rw [if_pos hdr] at h; exact h
theorem gl_mk {dr : Mode} (hdr : dr.loud = true) (h : ∀ a w, Kn N F a → St B V L w → nextK P B ops (evalQ P Q k) rest dr a w) : GoL P B N dr ops Q k rest F V L := by unfold GoL; rw [if_pos hdr]; exact h
theorem gw_un {dr : Mode} (hdr : dr.loud = true) (h : GoW P B N dr ops Q k o rest F V L) : ∀ a w, Kn N F a → St B V L w → o.wp P a w (nextK P B ops (evalQ P Q k) rest dr) (evalQ P Q k) := by unfold GoW at h; rw [if_pos hdr] at h; exact h
/-- A region that is walked in the order of its text. -/
def Mode.text : Mode → Bool
  | .held .. => false
  | _ => true
theorem gl_nil {dr : Mode} (ht : dr.text = true) (h : AtQ P B N Q k .normal F V L) : GoL P B N dr ops Q k [] F V L := by
  cases dr with
  | plain => exact gl_plain.2 fun a w ha hs => wpList_nil (h a w ha hs)
  | quiet => exact gl_quiet.2 fun a ha => wpQuiet_nil fun w' hw' => h a w' ha hw'
  | held => cases ht
theorem yielded_of {a : Act} {j t : Nat} {b : Bool} (ha : Kn N F a) (hj : (ops[j]?).bind (·.dst) = some t) (ht : okD N (some t) = true) (hb : look F t = some (.bool b)) : yielded ops a.tmps j = some b := by
  unfold yielded
  rw [hj, Option.bind_some, ha.tmp ht hb]
theorem gl_wanted {dr : Mode} (ht : dr.text = true) (hw : ∀ a, Kn N F a → Region.wanted o (yielded ops a.tmps) = true) (h : GoW P B N dr ops Q k o rest F V L) : GoL P B N dr ops Q k (o :: rest) F V L := by
  cases dr with
  | plain =>
    refine gl_plain.2 fun a w ha hs => ?_
    unfold wpList
    rw [if_pos (hw a ha)]
    exact .inl (gw_plain.1 h a w ha hs)
  | quiet =>
    refine gl_quiet.2 fun a ha => ?_
    unfold wpQuiet
    rw [if_pos (hw a ha)]
    exact gw_quiet.1 h a ha
  | held => cases ht
theorem gl_go {dr : Mode} (ht : dr.text = true) (hg : o.guard = none) (h : GoW P B N dr ops Q k o rest F V L) : GoL P B N dr ops Q k (o :: rest) F V L := gl_wanted ht (fun a ha => by simp [Region.wanted, hg]) h
theorem gl_yes {dr : Mode} (ht' : dr.text = true) {j t : Nat} {want : Bool} (hg : o.guard = some (j, want)) (hj : (ops[j]?).bind (·.dst) = some t) (ht : okD N (some t) = true) (hb : look F t = some (.bool want)) (h : GoW P B N dr ops Q k o rest F V L) : GoL P B N dr ops Q k (o :: rest) F V L :=
  gl_wanted ht' (fun a ha => by simp [Region.wanted, hg, yielded_of ha hj ht hb]) h
theorem gl_no {dr : Mode} (ht' : dr.text = true) {j t : Nat} {want b : Bool} (hg : o.guard = some (j, want)) (hj : (ops[j]?).bind (·.dst) = some t) (ht : okD N (some t) = true) (hb : look F t = some (.bool b)) (hne : (b == want) = false) (hd : okD N o.dst = true) (h : GoL P B N dr ops Q k rest (putF F o.dst undef) V L) : GoL P B N dr ops Q k (o :: rest) F V L := by
  have hw : ∀ a, Kn N F a → ¬ Region.wanted o (yielded ops a.tmps) = true := fun a ha => by simp [Region.wanted, hg, yielded_of ha hj ht hb]; simpa using hne
  cases dr with
  | plain =>
    refine gl_plain.2 fun a w ha hs => ?_
    unfold wpList
    rw [if_neg (hw a ha)]
    exact gl_plain.1 h _ _ (ha.put hd _) hs
  | quiet =>
    refine gl_quiet.2 fun a ha => ?_
    unfold wpQuiet
    rw [if_neg (hw a ha)]
    exact gl_quiet.1 h _ (ha.put hd _)
  | held => cases ht'
theorem gl_nou {dr : Mode} (ht' : dr.text = true) {j t : Nat} {want : Bool} (hg : o.guard = some (j, want)) (hj : (ops[j]?).bind (·.dst) = some t) (ht : okD N (some t) = true) (hb : look F t = some undef) (hd : okD N o.dst = true) (h : GoL P B N dr ops Q k rest (putF F o.dst undef) V L) : GoL P B N dr ops Q k (o :: rest) F V L := by
  have hw : ∀ a, Kn N F a → ¬ Region.wanted o (yielded ops a.tmps) = true := fun a ha => by
    have hy : yielded ops a.tmps j = none := by
      unfold yielded
      rw [hj, Option.bind_some, ha.tmp ht hb]
      rfl
    simp [Region.wanted, hg, hy]
  cases dr with
  | plain =>
    refine gl_plain.2 fun a w ha hs => ?_
    unfold wpList
    rw [if_neg (hw a ha)]
    exact gl_plain.1 h _ _ (ha.put hd _) hs
  | quiet =>
    refine gl_quiet.2 fun a ha => ?_
    unfold wpQuiet
    rw [if_neg (hw a ha)]
    exact gl_quiet.1 h _ (ha.put hd _)
  | held => cases ht'
theorem Kn.again {a : Act} {t : Nat} {v : Value} (ha : Kn N F a) (hl : look F t = some v) : Kn N ((t, v) :: F) a :=
  ⟨ha.1, ha.2.1, fun k u hk => by
    rw [look_cons] at hk
    by_cases h : t = k
    · rw [if_pos h] at hk; injection hk with hk; subst h; subst hk; exact ha.2.2 _ _ hl
    · rw [if_neg h] at hk; exact ha.2.2 _ _ hk⟩
theorem gl_again {dr : Mode} {l : List Oper} {t : Nat} {v : Value} (hl : look F t = some v) (h : GoL P B N dr ops Q k l ((t, v) :: F) V L) : GoL P B N dr ops Q k l F V L := by
  unfold GoL at *
  by_cases hd : dr.loud = true
  · rw [if_pos hd] at *
    exact fun a w ha hs => h a w (ha.again hl) hs
  · rw [if_neg hd] at *
    exact fun a ha => h a (ha.again hl)
theorem gl_split_p {dr : Mode} {j t : Nat} {want : Bool} {p : Prop} [Decidable p] (hg : o.guard = some (j, want)) (hj : (ops[j]?).bind (·.dst) = some t) (hb : look F t = some (.bool (decide p)))
    (h1 : p → GoL P B N dr ops Q k (o :: rest) ((t, .bool true) :: F) V L) (h2 : ¬ p → GoL P B N dr ops Q k (o :: rest) ((t, .bool false) :: F) V L) : GoL P B N dr ops Q k (o :: rest) F V L := by
  by_cases h : p
  · exact gl_again (by rw [hb, decide_eq_true h]) (h1 h)
  · exact gl_again (by rw [hb, decide_eq_false h]) (h2 h)
theorem gl_split_b {dr : Mode} {j t : Nat} {want b : Bool} (hg : o.guard = some (j, want)) (hj : (ops[j]?).bind (·.dst) = some t) (hb : look F t = some (.bool b))
    (h1 : b = true → GoL P B N dr ops Q k (o :: rest) ((t, .bool true) :: F) V L) (h2 : b = false → GoL P B N dr ops Q k (o :: rest) ((t, .bool false) :: F) V L) : GoL P B N dr ops Q k (o :: rest) F V L := by
  cases h : b
  · exact gl_again (by rw [hb, h]) (h2 h)
  · exact gl_again (by rw [hb, h]) (h1 h)
theorem gw_q' {dr : Mode} {v : Value} {t : Nat} {op : Op} {ty : TypeId} {pos : String} {af : Array Edge} {gd : Option (Nat × Bool)} (hd : okD N (some t) = true) (hq : QO P B N V L ⟨some t, op, ty, pos, af, gd⟩ F v) (h : GoL P B N dr ops Q k rest ((t, v) :: F) V L) : GoW P B N dr ops Q k ⟨some t, op, ty, pos, af, gd⟩ rest F V L := by
  unfold GoL at h
  unfold GoW
  by_cases hl : dr.loud = true
  · rw [if_pos hl] at *
    exact fun a w ha hs => Oper.wp_of_quiet (C := St B V L) (K := fun a' => Kn N (putF F (some t) v) a') hs (fun a' w' hw' ha' => h a' w' ha' hw') ⟨v, fun w' hw' => hq a w' ha hw', ha.put hd v⟩
  · rw [if_neg hl] at *
    exact fun a ha => ⟨v, fun w hw => hq a w ha hw, h _ (ha.put hd v)⟩
theorem QP.qo {o : Oper} {v : Value} (h : QP P B N V L o F v) : QO P B N V L o F v := fun a w ha hs => by
  unfold Oper.quietAt
  rw [h a w ha hs]
  exact ⟨rfl, rfl⟩
theorem gw_q {dr : Mode} {v : Value} {t : Nat} {op : Op} {ty : TypeId} {pos : String} {af : Array Edge} {gd : Option (Nat × Bool)} (hd : okD N (some t) = true) (hq : QP P B N V L ⟨some t, op, ty, pos, af, gd⟩ F v) (h : GoL P B N dr ops Q k rest ((t, v) :: F) V L) : GoW P B N dr ops Q k ⟨some t, op, ty, pos, af, gd⟩ rest F V L := gw_q' hd hq.qo h

/-! ### A region that draws its order and makes or writes memory: quiet operations first, then whichever may come up -/
def PanicOk (Q : Exit → Act → World → Prop) : Prop := ∀ c (a : Act) d v w, Q (.panic c) (a.put d v) w → Q (.panic c) a w
theorem put_defers (a : Act) (d : Option Tmp) (v : Value) : (a.put d v).defers = a.defers := by cases d <;> rfl
theorem panicOk_body {fn : Func} {R : Ending → World → Prop} : PanicOk (bodyPost P fn R) := fun c a d v w h => ⟨by have := h.1; rwa [put_defers] at this, h.2⟩
theorem PanicOk.evalQ (h : PanicOk Q) : ∀ k, PanicOk (evalQ P Q k)
  | [] => h
  | .seq y :: k => fun c a d v w hq => h.evalQ k c a d v w hq
  | .block i :: k => fun c a d v w hq => h.evalQ k c a d v w hq
  | .thn K :: k => fun c a d v w hq => h.evalQ k c a d v w hq
theorem St.drewn {w : World} (h : St B V L w) : St B V L { w with drawn := w.drawn + 1 } := ⟨Exc.dr h.ext, h.view, h.old, h.v0, h.own, h.nodup⟩
theorem St.sub {w : World} {L' : List Box} (hs : St B V L w) (h : L'.Sublist L) : St B V L' w :=
  ⟨hs.ext, fun p x hp => ⟨(hs.view p x hp).1, fun b hb => (hs.view p x hp).2 b (h.subset hb)⟩, hs.old, hs.v0, fun b hb => hs.own b (h.subset hb), List.Nodup.sublist (h.map Box.g) hs.nodup⟩
theorem St.view_le {w : World} {V' : View} (hs : St B V L w) (h : VLe V' V) (h0 : VLe B.v V') : St B V' L w := ⟨hs.ext, fun p x hp => hs.view p x (h p x hp), fun p x hp => hs.old p x (h p x hp), h0, hs.own, hs.nodup⟩
/-- The region begins; Lk: the boxes that its operations only read. -/
theorem gc_held {id : Nat} {l : List Oper} (Lk : List Box) (hm : P.follows .mixedOrders = true) (hk : Lk.Sublist L) (h : GoL P B N (.held V Lk l.toArray.size (Array.replicate l.toArray.size false)) l.toArray Q k [] F V L) : GoC P B N (.region id l.toArray true) Q k F V L := fun a w ha hs =>
  wp_region_held (S := St B V Lk) hm (gl_loud rfl h a _ ha hs.drewn).2
theorem gh_take {V0 : View} {Lk : List Box} {fuel : Nat} {listed : Array Bool} (i : Nat) {oi : Oper} {t : Nat} {v : Value} (hi : ops[i]? = some oi) (hP : PanicOk Q) (hsel : Region.noSelect ops = true) (hf : Region.free .any ops listed i = true) (hr : (Region.ready .any ops listed).contains i = true)
    (hg : oi.guard = none) (hdt : oi.dst = some t) (hd : okD N (some t) = true) (hV : VLe V0 V) (hk : Lk.Sublist L) (hq : QP P B N V0 Lk oi F v) (h : GoL P B N (.held V0 Lk fuel (listed.setIfInBounds i true)) ops Q k rest ((t, v) :: F) V L) : GoL P B N (.held V0 Lk (fuel + 1) listed) ops Q k rest F V L := by
  have h' := gl_loud rfl h
  refine gl_mk rfl fun a w ha hs => ?_
  by_cases h0 : VLe B.v V0
  · have hS : St B V0 Lk w := (hs.sub hk).view_le hV h0
    refine ⟨hS, wpAnyH_take (v := v) hi hsel hf hr (fun c a w hq => hP.evalQ k c a _ _ w hq) (.inl ⟨by simp [Region.wanted, hg], fun w' hw' => hq a w' ha hw'⟩) hS ?_⟩
    rw [hdt]
    exact (h' _ w (ha.put hd v) hs).2
  · exact absurd (h' _ w (ha.put hd v) hs).1.v0 h0
theorem gh_one {V0 : View} {Lk : List Box} {fuel : Nat} {listed : Array Bool} {i : Nat} {oi : Oper} (hr : Region.ready .any ops listed = [i]) (hi : ops[i]? = some oi) (hg : oi.guard = none) (h0 : VLe B.v V0) (hV : VLe V0 V) (hk : Lk.Sublist L) (h : GoW P B N (.held V0 Lk fuel (listed.setIfInBounds i true)) ops Q k oi rest F V L) : GoL P B N (.held V0 Lk (fuel + 1) listed) ops Q k rest F V L := by
  have h := gw_un rfl h
  refine gl_mk rfl fun a w ha hs => ?_
  refine ⟨(hs.sub hk).view_le hV h0, wpAnyH_all hr (by simp) fun j hj => ?_⟩
  simp at hj
  subst hj
  unfold wpOp
  simp only [hi]
  rw [if_pos (by simp [Region.wanted, hg])]
  exact .inl (h a w ha hs)
theorem gh_two {V0 : View} {Lk : List Box} {fuel : Nat} {listed : Array Bool} {i j : Nat} {oi oj : Oper} (hr : Region.ready .any ops listed = [i, j]) (hi : ops[i]? = some oi) (hj : ops[j]? = some oj) (hg : oi.guard = none) (hg' : oj.guard = none) (h0 : VLe B.v V0) (hV : VLe V0 V) (hk : Lk.Sublist L)
    (h : GoW P B N (.held V0 Lk fuel (listed.setIfInBounds i true)) ops Q k oi rest F V L) (h' : GoW P B N (.held V0 Lk fuel (listed.setIfInBounds j true)) ops Q k oj rest F V L) : GoL P B N (.held V0 Lk (fuel + 1) listed) ops Q k rest F V L := by
  have h := gw_un rfl h
  have h' := gw_un rfl h'
  refine gl_mk rfl fun a w ha hs => ?_
  refine ⟨(hs.sub hk).view_le hV h0, wpAnyH_all hr (by simp) fun m hm => ?_⟩
  simp at hm
  rcases hm with rfl | rfl
  · unfold wpOp
    simp only [hi]
    rw [if_pos (by simp [Region.wanted, hg])]
    exact .inl (h a w ha hs)
  · unfold wpOp
    simp only [hj]
    rw [if_pos (by simp [Region.wanted, hg'])]
    exact .inl (h' a w ha hs)
theorem gh_done {V0 : View} {Lk : List Box} {fuel : Nat} {listed : Array Bool} (hr : Region.ready .any ops listed = []) (h0 : VLe B.v V0) (hV : VLe V0 V) (hk : Lk.Sublist L) (h : AtQ P B N Q k .normal F V L) : GoL P B N (.held V0 Lk fuel listed) ops Q k rest F V L := by
  exact gl_mk rfl fun a w ha hs => ⟨(hs.sub hk).view_le hV h0, wpAnyH_done hr (h a w ha hs) _⟩

/-! ### A function's head and end -/
def argsF : List Value → Nat → List (Nat × Value)
  | [], _ => []
  | v :: l, i => (i, v) :: argsF l (i + 1)
theorem look_args : ∀ (l : List Value) (i t : Nat) (v : Value), look (argsF l i) t = some v → i ≤ t ∧ l[t - i]? = some v
  | [], _, _, _, h => by simp [argsF, look] at h
  | u :: l, i, t, v, h => by
    rw [argsF, look_cons] at h
    by_cases hi : i = t
    · subst hi; rw [if_pos rfl] at h; injection h with h; subst h; simp
    · rw [if_neg hi] at h
      obtain ⟨h1, h2⟩ := look_args l (i + 1) t v h
      refine ⟨by omega, ?_⟩
      rw [show t - i = (t - (i + 1)) + 1 by omega]
      simpa using h2
theorem fn_enter {f : FuncId} {fn : Func} {c : Code} {args : List Value} {R : Value → View → Prop} (hf : P.funcs[f]? = some fn) (hb : fn.body = some c) (hN : fn.ntmps = N) (hsz : Nat.ble args.length N = true)
    (h : ∀ w, GoC P ⟨V, w, []⟩ N c (bodyPost P fn (FnEnd V w R)) [] (argsF args 0) V []) : Fn P f args V R := fun w hV => by
  refine calls_of_wp hf hb (h w _ w ⟨rfl, ?_, fun t v hv => ?_⟩ ⟨Exc.refl _ w, fun p x hp => ⟨hV p x hp, by simp⟩, fun p x hp _ => hp, VLe.refl V, by simp, by simp⟩)
  · have := Nat.le_of_ble_eq_true hsz
    simp [hN]; omega
  · obtain ⟨_, h2⟩ := look_args args 0 t v hv
    have hlt : t < args.length := by
      rcases Nat.lt_or_ge t args.length with hl | hl
      · exact hl
      · rw [List.getElem?_eq_none (by omega)] at h2; cases h2
    rw [List.getElem?_eq_getElem (by omega)] at h2
    simp only [Nat.sub_zero] at h2
    injection h2 with h2
    simp [Array.getElem?_append, hlt, h2]
/-- A result, as the function hands it back. -/
def RV (P : Program) (B : Base) (N : Nat) (F : List (Nat × Value)) (V : View) (L : List Box) (r : ResultVar) (v : Value) : Prop :=
  ∀ a w, Kn N F a → St B V L w → (match r with | .tmp t => (pure (a.tmps.getD t undef) : Sem Value) | .cell x t => do loadVar t (← asAddr (a.tmps.getD x undef))).run P w = .ok v w
theorem rv_tmp {t : Nat} {v : Value} (h : look F t = some v) : RV P B N F V L (.tmp t) v := fun a w ha _ => by
  simp only []
  rw [ha.2.2 t v h]; rfl
variable {fn : Func} {R : Value → View → Prop} {w0 : World} {V0 : View}
theorem fnEnd_of {w : World} (hs : St ⟨V0, w0, []⟩ V L w) {v : Value} (hR : R v V) : FnEnd V0 w0 R (.returned v) w :=
  ⟨v, rfl, hs.ext.ext, V, hs.v0, fun p x hp => (hs.view p x hp).1, fun p x hp hb => hs.old p x hp hb, hR⟩
theorem at_ret0 (hr : fn.results = #[]) (hR : R (.tuple #[]) V) : AtQ P ⟨V0, w0, []⟩ N (bodyPost P fn (FnEnd V0 w0 R)) [] .ret F V L := fun a w ha hs =>
  ⟨ha.1, .tuple #[], by simp [results, hr], fnEnd_of hs hR⟩
theorem at_end0 (hr : fn.results = #[]) (hR : R (.tuple #[]) V) : AtQ P ⟨V0, w0, []⟩ N (bodyPost P fn (FnEnd V0 w0 R)) [] .normal F V L := fun a w ha hs =>
  ⟨ha.1, .tuple #[], by simp [results, hr], fnEnd_of hs hR⟩
theorem at_ret1 {r : ResultVar} {v : Value} (hr : fn.results = #[r]) (h1 : RV P ⟨V0, w0, []⟩ N F V L r v) (hR : R v V) : AtQ P ⟨V0, w0, []⟩ N (bodyPost P fn (FnEnd V0 w0 R)) [] .ret F V L := fun a w ha hs => by
  refine ⟨ha.1, v, ?_, fnEnd_of hs hR⟩
  have h1 := h1 a w ha hs
  unfold results
  rw [hr]
  cases r <;> simp_all
theorem run_res2 (g : ResultVar → Sem Value) {r s : ResultVar} {v u : Value} {w : World} (h1 : (g r).run P w = .ok v w) (h2 : (g s).run P w = .ok u w) :
    (do let vs ← (#[r, s] : Array ResultVar).mapM g; pure (if h : vs.size = 1 then vs[0] else .tuple vs) : Sem Value).run P w = .ok (.tuple #[v, u]) w := by
  simp [h1, h2]
theorem run_res3 (g : ResultVar → Sem Value) {r s q : ResultVar} {v u x : Value} {w : World} (h1 : (g r).run P w = .ok v w) (h2 : (g s).run P w = .ok u w) (h3 : (g q).run P w = .ok x w) :
    (do let vs ← (#[r, s, q] : Array ResultVar).mapM g; pure (if h : vs.size = 1 then vs[0] else .tuple vs) : Sem Value).run P w = .ok (.tuple #[v, u, x]) w := by
  simp [h1, h2, h3]
theorem at_ret2 {r s : ResultVar} {v u : Value} (hr : fn.results = #[r, s]) (h1 : RV P ⟨V0, w0, []⟩ N F V L r v) (h2 : RV P ⟨V0, w0, []⟩ N F V L s u) (hR : R (.tuple #[v, u]) V) : AtQ P ⟨V0, w0, []⟩ N (bodyPost P fn (FnEnd V0 w0 R)) [] .ret F V L := fun a w ha hs => by
  refine ⟨ha.1, _, ?_, fnEnd_of hs hR⟩
  unfold results
  rw [hr]
  exact run_res2 _ (h1 a w ha hs) (h2 a w ha hs)
theorem at_ret3 {r s q : ResultVar} {v u x : Value} (hr : fn.results = #[r, s, q]) (h1 : RV P ⟨V0, w0, []⟩ N F V L r v) (h2 : RV P ⟨V0, w0, []⟩ N F V L s u) (h3 : RV P ⟨V0, w0, []⟩ N F V L q x) (hR : R (.tuple #[v, u, x]) V) : AtQ P ⟨V0, w0, []⟩ N (bodyPost P fn (FnEnd V0 w0 R)) [] .ret F V L := fun a w ha hs => by
  refine ⟨ha.1, _, ?_, fnEnd_of hs hR⟩
  unfold results
  rw [hr]
  exact run_res3 _ (h1 a w ha hs) (h2 a w ha hs) (h3 a w ha hs)
end
end Go.Proofs.Ytejkmomfpidnbaa
