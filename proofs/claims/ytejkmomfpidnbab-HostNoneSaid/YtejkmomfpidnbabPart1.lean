/- Walks and plain laws, part 1: what functions compute, proved once each (Base, Eng, StrP, Ops, Ops2, Ops3, Rep, Mem, Row, El, AttrP, AttrT, Ops4, Mut). -/
import Derived.WalkKit
import Derived.WalkSpells
import Derived.WalkLawsBesides
import Derived.Lib.Hide
import Derived.Deep.QuietTactic
import Derived.BigQuiet
import Derived.Lib.QuietBelow
import Derived.Deep.Quiet
import Derived.OrdersHeld
import Derived.Lib.Strings
import Derived.IntWalk
import Derived.Below
import Derived.Maps.AppendAt
import Derived.Deep.AppendLies
import Derived.Laws.OwnMore
import Derived.Laws.StructEq
/- Worlds that grow, and what stands in memory as plain data: words for the walks. No program is named here. -/
namespace Go.Proofs.Ytejkmomfpidnbab
open Go.RowKit

/-- w' is w with new blocks; nothing that was there has changed. -/
def Ext (w w' : World) : Prop := Below w.heap.size w w'

theorem Ext.refl (w : World) : Ext w w := Below.refl _ _
theorem Ext.al {w x : World} (o : Obj) (h : Ext w x) : Ext w (x.alloc o) := Below.alloc h h.size o
theorem Ext.dr {w x : World} (h : Ext w x) : Ext w x.drew := Below.drew h
theorem Ext.set {w x : World} {p : Addr} (v : Value) (h : Ext w x) (hp : w.heap.size ≤ p.block) : Ext w (x.setCell p v) := Below.setCell h hp v
theorem Ext.via {w x y : World} (h : Ext w x) (k : Ext x y) : Ext w y := Below.trans h (Below.mono k h.size)
theorem Ext.sz {w x : World} (h : Ext w x) : w.heap.size ≤ x.heap.size := h.size
theorem Ext.cells {w x : World} (h : Ext w x) : ∀ b o, b < w.heap.size → x.cell? ⟨b, o, none⟩ = w.cell? ⟨b, o, none⟩ := fun b o hb => Below.cell h (p := ⟨b, o, none⟩) hb
theorem Ext.kept {w x : World} (h : Ext w x) {p : Addr} {v : Value} (hp : w.cell? p = some v) : x.cell? p = some v :=
  (Below.cell h (World.block_lt_of_cell? w p hp)).trans hp

/-! ### A slice of ints that reads as a list -/
def IntsAt (w : World) (A : Option Addr) (n : Nat) (xs : List Int) : Prop :=
  xs.length = n ∧ n ≤ maxLen ∧ (0 < n → ∃ b off, A = some ⟨b, off, none⟩ ∧ ∀ j z, xs[j]? = some z → w.cell? ⟨b, off + j, none⟩ = some (.int .i64 z))

theorem IntsAt.ext {w w' : World} {A : Option Addr} {n : Nat} {xs : List Int} (h : IntsAt w A n xs) (hx : Ext w w') : IntsAt w' A n xs :=
  ⟨h.1, h.2.1, fun hn => by
    obtain ⟨b, off, ha, hc⟩ := h.2.2 hn
    exact ⟨b, off, ha, fun j z hz => hx.kept (hc j z hz)⟩⟩
theorem IntsAt.le {w : World} {A : Option Addr} {n : Nat} {xs : List Int} (h : IntsAt w A n xs) : n ≤ 9223372036854775807 := by
  have := h.2.1; unfold maxLen at this; omega
theorem IntsAt.len {w : World} {A : Option Addr} {n : Nat} {xs : List Int} (h : IntsAt w A n xs) : Hid (xs.length = n) := h.1
/-- What a round that reads element k is told. -/
theorem IntsAt.round {w : World} {A : Option Addr} {n k : Nat} {xs : List Int} (h : IntsAt w A n xs) (hk : k < n) :
    ∃ b off z, A = some ⟨b, off, none⟩ ∧ b < w.heap.size ∧ w.cell? ⟨b, off + k, none⟩ = some (.int .i64 z) ∧ Hid (xs[k]? = some z) := by
  obtain ⟨hl, _, hc⟩ := h
  obtain ⟨b, off, ha, hz⟩ := hc (by omega)
  have hx : xs[k]? = some (xs[k]'(by omega)) := List.getElem?_eq_getElem (by omega)
  exact ⟨b, off, _, ha, World.block_lt_of_cell? w _ (hz k _ hx), hz k _ hx, hx⟩

theorem IntsAt.nil (w : World) : IntsAt w none 0 [] := ⟨rfl, Nat.zero_le _, fun h => absurd h (by omega)⟩

/-! ### What is left of a list behind its first k -/
theorem drop_at {α : Type} {xs : List α} {k : Nat} {x : α} (h : Hid (xs[k]? = some x)) : xs.drop k = x :: xs.drop (k + 1) := by
  have h := h.out
  have hk : k < xs.length := by
    rcases Nat.lt_or_ge k xs.length with hk | hk
    · exact hk
    · rw [List.getElem?_eq_none hk] at h; cases h
  rw [List.drop_eq_getElem_cons hk]
  congr 1
  rw [List.getElem?_eq_getElem hk] at h
  injection h
/-! ### A region that draws its order, whose operations read, and whose callees make memory: walked once, in the order of the text -/
end Go.Proofs.Ytejkmomfpidnbab

/- An engine for walks: what is known of memory is a view (cells that stay) and a list of boxes (blocks of the call's own that may be written); what is known of a frame is a list of slots. The world itself is never named. No program is named here. -/
namespace Go.Proofs.Ytejkmomfpidnbab
open Go.RowKit
set_option linter.unusedSimpArgs false
set_option linter.unusedVariables false

/-! ### Views, boxes, states -/
abbrev View := Addr → Option Value
def VLe (V V' : View) : Prop := ∀ p x, V p = some x → V' p = some x
theorem VLe.refl (V : View) : VLe V V := fun _ _ h => h
theorem VLe.trans {V V' V'' : View} (h : VLe V V') (k : VLe V' V'') : VLe V V'' := fun p x hp => k p x (h p x hp)
def VIn (V : View) (w : World) : Prop := ∀ p x, V p = some x → w.cell? p = some x
/-- What a block is: cells of a type, or a map. -/
inductive BT where
  | cells (E : TypeId)
  | map (es : Array MapEntry) (clock : Nat)
instance : Coe TypeId BT := ⟨BT.cells⟩
@[reducible] instance (n : Nat) : OfNat BT n := ⟨BT.cells n⟩
structure Box where
  g : Nat
  t : BT
  cs : List Value
/-- The object that a box stands for. -/
def BT.obj : BT → List Value → Obj
  | .cells E, cs => .cells cs.toArray E (0, 0)
  | .map es c, _ => .map es c
@[simp] theorem BT.obj_cells (E : TypeId) (cs : List Value) : BT.obj (.cells E) cs = .cells cs.toArray E (0, 0) := rfl
@[simp] theorem BT.obj_map (es : Array MapEntry) (c : Nat) (cs : List Value) : BT.obj (.map es c) cs = .map es c := rfl
structure Base where
  v : View
  w : World
  fl : List Nat
/-- w' is w with new blocks; of those that were there only fl may have changed. -/
structure Exc (fl : List Nat) (w w' : World) : Prop where
  os : w'.os = w.os
  tape : w'.tape = w.tape
  output : w'.output = w.output
  sz : w.heap.size ≤ w'.heap.size
  block : ∀ k, k < w.heap.size → ¬ k ∈ fl → w'.heap[k]? = w.heap[k]?
theorem Exc.refl (fl : List Nat) (w : World) : Exc fl w w := ⟨rfl, rfl, rfl, Nat.le_refl _, fun _ _ _ => rfl⟩
theorem Exc.trans {fl fl' : List Nat} {a b c : World} (h : Exc fl a b) (k : Exc fl' b c) (hf : ∀ x ∈ fl', a.heap.size ≤ x ∨ x ∈ fl) : Exc fl a c :=
  ⟨k.os.trans h.os, k.tape.trans h.tape, k.output.trans h.output, Nat.le_trans h.sz k.sz, fun i hi hn => by
    rw [k.block i (Nat.lt_of_lt_of_le hi h.sz) (fun hm => by
      rcases hf i hm with h1 | h1
      · omega
      · exact hn h1)]
    exact h.block i hi hn⟩
theorem Exc.of_ext {w w' : World} (h : Ext w w') : Exc [] w w' := ⟨h.os, h.tape, h.output, h.size, fun k hk _ => h.block k hk⟩
theorem Exc.ext {w w' : World} (h : Exc [] w w') : Ext w w' := ⟨h.os, h.tape, h.output, h.sz, fun k hk => h.block k hk (by simp)⟩
theorem Exc.via {fl : List Nat} {a b c : World} (h : Exc fl a b) (k : Ext b c) : Exc fl a c := h.trans (Exc.of_ext k) (by simp)
theorem Exc.dr {fl : List Nat} {w x : World} (h : Exc fl w x) : Exc fl w x.drew := h.via (Ext.dr (Ext.refl x))
theorem Exc.al {fl : List Nat} {w x : World} (o : Obj) (h : Exc fl w x) : Exc fl w (x.alloc o) := h.via (Ext.al o (Ext.refl x))
theorem Exc.set {fl : List Nat} {w x : World} {p : Addr} (v : Value) (h : Exc fl w x) (hp : w.heap.size ≤ p.block ∨ p.block ∈ fl) : Exc fl w (x.setCell p v) :=
  h.trans (fl' := [p.block]) ⟨rfl, rfl, rfl, by simp [World.setCell], fun k hk hn => Below.heap_setCell _ _ _ _ (by simpa using hn)⟩ (by intro y hy; simp at hy; subst hy; exact hp)
theorem Exc.grown {fl : List Nat} {w x y : World} {row : Option Nat} (h : Exc fl w x) (hg : x.grownBy y row) (hr : ∀ k, row = some k → w.heap.size ≤ k ∨ k ∈ fl) : Exc fl w y :=
  h.trans (fl' := row.toList) ⟨hg.os, hg.tape, hg.output, hg.size, fun k hk hn => hg.block k hk (fun e => hn (by rw [← e]; simp))⟩ (by intro z hz; exact hr z (by simpa using hz))
structure St (B : Base) (V : View) (L : List Box) (w : World) : Prop where
  ext : Exc B.fl B.w w
  view : ∀ p x, V p = some x → w.cell? p = some x ∧ ∀ b ∈ L, b.g ≠ p.block
  old : ∀ p x, V p = some x → p.block < B.w.heap.size → B.v p = some x
  v0 : VLe B.v V
  own : ∀ b ∈ L, w.heap[b.g]? = some (b.t.obj b.cs) ∧ (B.w.heap.size ≤ b.g ∨ b.g ∈ B.fl)
  nodup : (L.map Box.g).Nodup

/-- A call's contract: with what V knows of memory it returns v, memory only grows, and of v and of a greater view R holds. -/
def FnEnd (V : View) (w : World) (R : Value → View → Prop) (e : Ending) (w' : World) : Prop :=
  ∃ v, e = .returned v ∧ Ext w w' ∧ ∃ V', VLe V V' ∧ VIn V' w' ∧ (∀ p x, V' p = some x → p.block < w.heap.size → V p = some x) ∧ R v V'
def Fn (P : Program) (f : FuncId) (args : List Value) (V : View) (R : Value → View → Prop) : Prop :=
  ∀ w, VIn V w → Calls P f args.toArray w (FnEnd V w R)
theorem Fn.mono {P : Program} {f : FuncId} {args : List Value} {V : View} {R R' : Value → View → Prop} (h : Fn P f args V R) (hr : ∀ v V', VLe V V' → R v V' → R' v V') : Fn P f args V R' :=
  fun w hw => (h w hw).mono fun _ _ ⟨v, he, hx, V', h1, h2, h3, h4⟩ => ⟨v, he, hx, V', h1, h2, h3, hr v V' h1 h4⟩

/-! ### Frames -/
def look : List (Nat × Value) → Nat → Option Value
  | [], _ => none
  | (t, v) :: F, k => bif Nat.beq t k then some v else look F k
def Kn (N : Nat) (F : List (Nat × Value)) (a : Act) : Prop := a.defers = [] ∧ a.tmps.size = N ∧ ∀ t v, look F t = some v → a.tmps.getD t undef = v
def evF (F : List (Nat × Value)) : Operand → Option Value
  | .tmp t => look F t
  | .const v => some v
  | .global g => some (.pointer (some ⟨g, 0, none⟩))
  | .func f => some (.func (.func f) #[] #[])
def putF (F : List (Nat × Value)) (d : Option Nat) (v : Value) : List (Nat × Value) := match d with | some d => (d, v) :: F | none => F
def okD (N : Nat) : Option Nat → Bool
  | some d => Nat.blt d N
  | none => true
section
variable {N : Nat} {F : List (Nat × Value)} {a : Act}
theorem Kn.ev (h : Kn N F a) {x : Operand} {v : Value} (hx : evF F x = some v) : a.eval x = v := by
  cases x with
  | tmp t => exact h.2.2 t v hx
  | const u => simpa [evF, Act.eval] using hx
  | global g => simpa [evF, Act.eval] using hx
  | func f => simpa [evF, Act.eval] using hx
theorem look_cons (t : Nat) (v : Value) (F : List (Nat × Value)) (k : Nat) : look ((t, v) :: F) k = if t = k then some v else look F k := by
  simp only [look]
  by_cases h : t = k
  · subst h; simp [show Nat.beq t t = true from by simp]
  · rw [if_neg h]
    have : Nat.beq t k = false := by
      cases hb : Nat.beq t k
      · rfl
      · exact absurd (Nat.eq_of_beq_eq_true hb) h
    rw [this]; rfl
theorem Kn.put (h : Kn N F a) {d : Option Nat} (hd : okD N d = true) (v : Value) : Kn N (putF F d v) (a.put d v) := by
  cases d with
  | none => exact h
  | some d =>
    have hd : d < N := by simpa [okD, Nat.blt_eq] using hd
    refine ⟨h.1, by simpa [Act.put] using h.2.1, fun t u hu => ?_⟩
    have hu : look ((d, v) :: F) t = some u := hu
    rw [look_cons] at hu
    have hsz := h.2.1
    by_cases ht : d = t
    · subst ht
      rw [if_pos rfl] at hu
      injection hu with hu
      subst hu
      simp [Act.put, hsz, hd]
    · rw [if_neg ht] at hu
      have := h.2.2 t u hu
      simpa [Act.put, Array.getElem?_setIfInBounds_ne ht] using this
theorem Kn.tmp (h : Kn N F a) {t : Nat} {v : Value} (ht : okD N (some t) = true) (hl : look F t = some v) : a.tmps[t]? = some v := by
  have ht : t < N := by simpa [okD, Nat.blt_eq] using ht
  have h1 := h.2.2 t v hl
  have h2 := h.2.1
  rw [Array.getElem?_eq_getElem (by omega)]
  simpa [show t < a.tmps.size by omega] using h1
/-- Fewer slots are known. -/
theorem Kn.less {F' : List (Nat × Value)} (h : Kn N F a) (hs : ∀ p ∈ F', look F p.1 = some p.2) : Kn N F' a := by
  refine ⟨h.1, h.2.1, fun t v hv => h.2.2 t v ?_⟩
  have : (t, v) ∈ F' := by
    clear h hs
    induction F' with
    | nil => simp [look] at hv
    | cons p F' ih =>
      obtain ⟨k, u⟩ := p
      rw [look_cons] at hv
      by_cases hk : k = t
      · rw [if_pos hk] at hv; injection hv with hv; subst hk; subst hv; simp
      · rw [if_neg hk] at hv; exact List.mem_cons_of_mem _ (ih hv)
  exact hs _ this
end

theorem sub_nil {F : List (Nat × Value)} : ∀ p ∈ ([] : List (Nat × Value)), look F p.1 = some p.2 := by simp
theorem sub_cons {F G : List (Nat × Value)} {t : Nat} {v : Value} (h : look F t = some v) (hs : ∀ p ∈ G, look F p.1 = some p.2) : ∀ p ∈ ((t, v) :: G), look F p.1 = some p.2 := fun p hp => by
  rcases List.mem_cons.1 hp with rfl | hp
  · exact h
  · exact hs p hp

/-! ### What comes behind -/
inductive Cont where
  | seq (y : Code)
  | block (i : Nat)
  | thn (K : Act → World → Prop)
def evalQ (P : Program) (Q : Exit → Act → World → Prop) : List Cont → Exit → Act → World → Prop
  | [] => Q
  | .seq y :: k => Exit.then (y.wp P (evalQ P Q k)) (evalQ P Q k)
  | .block i :: k => Exit.inBlock i (evalQ P Q k)
  | .thn K :: k => Exit.then K (evalQ P Q k)

/-! ### What is to be shown -/
def AtQ (P : Program) (B : Base) (N : Nat) (Q : Exit → Act → World → Prop) (k : List Cont) (e : Exit) (F : List (Nat × Value)) (V : View) (L : List Box) : Prop := ∀ a w, Kn N F a → St B V L w → evalQ P Q k e a w
def GoC (P : Program) (B : Base) (N : Nat) (c : Code) (Q : Exit → Act → World → Prop) (k : List Cont) (F : List (Nat × Value)) (V : View) (L : List Box) : Prop := ∀ a w, Kn N F a → St B V L w → c.wp P (evalQ P Q k) a w
/-- How a region is walked: in the order of the text (plain); it draws its order, and its operations are quiet (quiet); it draws its order, and what V0 and Lk say is kept (held). -/
inductive Mode where
  | plain
  | quiet
  | held (V0 : View) (Lk : List Box) (fuel : Nat) (listed : Array Bool)
def Mode.loud : Mode → Bool
  | .quiet => false
  | _ => true
/-- What comes behind an operation. -/
def nextK (P : Program) (B : Base) (ops : Array Oper) (Q : Exit → Act → World → Prop) (rest : List Oper) : Mode → Act → World → Prop
  | .plain => wpList P ops Q rest
  | .quiet => fun _ _ => True
  | .held V0 Lk fuel listed => fun a w => St B V0 Lk w ∧ wpAnyH P .any ops Q (St B V0 Lk) fuel listed a w
/-- The rest of a region's operations. -/
def GoL (P : Program) (B : Base) (N : Nat) (dr : Mode) (ops : Array Oper) (Q : Exit → Act → World → Prop) (k : List Cont) (rest : List Oper) (F : List (Nat × Value)) (V : View) (L : List Box) : Prop :=
  if dr.loud = true then ∀ a w, Kn N F a → St B V L w → nextK P B ops (evalQ P Q k) rest dr a w
  else ∀ a, Kn N F a → wpQuiet P ops (St B V L) (fun a' => ∀ w', St B V L w' → evalQ P Q k .normal a' w') rest a
/-- The operation is carried out. -/
def GoW (P : Program) (B : Base) (N : Nat) (dr : Mode) (ops : Array Oper) (Q : Exit → Act → World → Prop) (k : List Cont) (o : Oper) (rest : List Oper) (F : List (Nat × Value)) (V : View) (L : List Box) : Prop :=
  if dr.loud = true then ∀ a w, Kn N F a → St B V L w → o.wp P a w (nextK P B ops (evalQ P Q k) rest dr) (evalQ P Q k)
  else ∀ a, Kn N F a → o.quiet P a (St B V L) (wpQuiet P ops (St B V L) (fun a' => ∀ w', St B V L w' → evalQ P Q k .normal a' w') rest)
/-- In every world of which so much is known the operation yields v and does nothing else. -/
def QP (P : Program) (B : Base) (N : Nat) (V : View) (L : List Box) (o : Oper) (F : List (Nat × Value)) (v : Value) : Prop := ∀ a w, Kn N F a → St B V L w → (execOp a.eval o).run P w = .ok (.value v) w
/-- In every world of which so much is known the operation yields v. -/
def QO (P : Program) (B : Base) (N : Nat) (V : View) (L : List Box) (o : Oper) (F : List (Nat × Value)) (v : Value) : Prop := ∀ a w, Kn N F a → St B V L w → o.quietAt P a (St B V L) w v

section
variable {P : Program} {B : Base} {N : Nat} {Q : Exit → Act → World → Prop} {F : List (Nat × Value)} {V : View} {L : List Box} {k : List Cont}

/-! ### Control -/
theorem gc_seq {x y : Code} (h : GoC P B N x Q (.seq y :: k) F V L) : GoC P B N (.seq x y) Q k F V L := fun a w ha hs => wp_seq (h a w ha hs)
theorem gc_skip (h : AtQ P B N Q k .normal F V L) : GoC P B N .skip Q k F V L := fun a w ha hs => wp_skip (h a w ha hs)
theorem gc_ret (h : AtQ P B N Q k .ret F V L) : GoC P B N .ret Q k F V L := fun a w ha hs => wp_ret (h a w ha hs)
theorem gc_exit {i : Nat} (h : AtQ P B N Q k (.exit i) F V L) : GoC P B N (.exit i) Q k F V L := fun a w ha hs => wp_exit (h a w ha hs)
theorem gc_block {i : Nat} {c : Code} (h : GoC P B N c Q (.block i :: k) F V L) : GoC P B N (.block i c) Q k F V L := fun a w ha hs => wp_block (h a w ha hs)
theorem gc_cond_t {c : Operand} {x y : Code} (hc : evF F c = some (.bool true)) (h : GoC P B N x Q k F V L) : GoC P B N (.cond c x y) Q k F V L := fun a w ha hs => wp_cond_true (ha.ev hc) (h a w ha hs)
theorem gc_cond_f {c : Operand} {x y : Code} (hc : evF F c = some (.bool false)) (h : GoC P B N y Q k F V L) : GoC P B N (.cond c x y) Q k F V L := fun a w ha hs => wp_cond_false (ha.ev hc) (h a w ha hs)
theorem gc_cond_p {c : Operand} {x y : Code} {p : Prop} [Decidable p] (hc : evF F c = some (.bool (decide p))) (h1 : p → GoC P B N x Q k F V L) (h2 : ¬ p → GoC P B N y Q k F V L) : GoC P B N (.cond c x y) Q k F V L :=
  fun a w ha hs => wp_cond_split (ha.ev hc) (fun h => h1 (of_decide_eq_true h) a w ha hs) (fun h => h2 (of_decide_eq_false h) a w ha hs)
theorem gc_cond_b {c : Operand} {x y : Code} {b : Bool} (hc : evF F c = some (.bool b)) (h1 : b = true → GoC P B N x Q k F V L) (h2 : b = false → GoC P B N y Q k F V L) : GoC P B N (.cond c x y) Q k F V L :=
  fun a w ha hs => wp_cond_split (ha.ev hc) (fun h => h1 h a w ha hs) (fun h => h2 h a w ha hs)
theorem gc_region {id : Nat} {l : List Oper} (h : GoL P B N .plain l.toArray Q k l F V L) : GoC P B N (.region id l.toArray false) Q k F V L := fun a w ha hs => wp_region_lit (by unfold GoL at h; exact h a w ha hs)
theorem St.drew {w : World} (h : St B V L w) : St B V L { w with drawn := w.drawn + 1 } := ⟨Exc.dr h.ext, h.view, h.old, h.v0, h.own, h.nodup⟩
theorem gc_quiet {id : Nat} {l : List Oper} (hm : P.follows .mixedOrders = true) (hB : Region.lexB .any l.toArray = true) (h : GoL P B N .quiet l.toArray Q k l F V L) : GoC P B N (.region id l.toArray true) Q k F V L :=
  fun a w ha hs => wp_region_quiet (C := St B V L) hm hB hs.drew (by
    have h' : ∀ a, Kn N F a → wpQuiet P l.toArray (St B V L) (fun a' => ∀ w', St B V L w' → evalQ P Q k .normal a' w') l a := by unfold GoL at h; exact h
    have := h' a ha
    simpa using this)

theorem at_seq {y : Code} (h : GoC P B N y Q k F V L) : AtQ P B N Q (.seq y :: k) .normal F V L := h
theorem at_then_ret {y : Code} (h : AtQ P B N Q k .ret F V L) : AtQ P B N Q (.seq y :: k) .ret F V L := h
theorem at_then_exit {y : Code} {i : Nat} (h : AtQ P B N Q k (.exit i) F V L) : AtQ P B N Q (.seq y :: k) (.exit i) F V L := h
theorem at_thn_ret {K : Act → World → Prop} (h : AtQ P B N Q k .ret F V L) : AtQ P B N Q (.thn K :: k) .ret F V L := h
theorem at_thn_exit {K : Act → World → Prop} {i : Nat} (h : AtQ P B N Q k (.exit i) F V L) : AtQ P B N Q (.thn K :: k) (.exit i) F V L := h
theorem at_block_normal {i : Nat} (h : AtQ P B N Q k .normal F V L) : AtQ P B N Q (.block i :: k) .normal F V L := h
theorem at_block_ret {i : Nat} (h : AtQ P B N Q k .ret F V L) : AtQ P B N Q (.block i :: k) .ret F V L := h
theorem at_block_hit {i : Nat} (h : AtQ P B N Q k .normal F V L) : AtQ P B N Q (.block i :: k) (.exit i) F V L := fun a w ha hs => by
  show if i = i then _ else _
  rw [if_pos rfl]; exact h a w ha hs
theorem at_block_miss {i j : Nat} (hne : Nat.beq j i = false) (h : AtQ P B N Q k (.exit j) F V L) : AtQ P B N Q (.block i :: k) (.exit j) F V L := fun a w ha hs => by
  show if j = i then _ else _
  rw [if_neg (fun e => by subst e; simp at hne)]; exact h a w ha hs

theorem St.drop {w : World} {L' : List Box} (hs : St B V L w) (h : L'.Sublist L) : St B V L' w :=
  ⟨hs.ext, fun p x hp => ⟨(hs.view p x hp).1, fun b hb => (hs.view p x hp).2 b (h.subset hb)⟩, hs.old, hs.v0, fun b hb => hs.own b (h.subset hb), List.Nodup.sublist (h.map Box.g) hs.nodup⟩
/-- A loop: J says what is known at each round's head; its number falls. -/
theorem gc_loop {c : Code} (J : List (Nat × Value) → View → List Box → Nat → Prop) {F' : List (Nat × Value)} {V' : View} {L' : List Box} {m : Nat} (h0 : J F' V' L' m) (hF : ∀ p ∈ F', look F p.1 = some p.2) (hV : V' = V) (hL : L'.Sublist L)
    (round : ∀ F V L m, J F V L m → GoC P B N c Q (.thn (fun a w => ∃ F' V' L' m', m' < m ∧ J F' V' L' m' ∧ Kn N F' a ∧ St B V' L' w) :: k) F V L) : GoC P B N (.loop c) Q k F V L := by
  subst hV
  intro a w ha hs
  have key : ∀ n F V L a w, J F V L n → Kn N F a → St B V L w → (Code.loop c).wp P (evalQ P Q k) a w := by
    intro n F V L a w hJ ha hs
    let I : Act → World → Nat → Prop := fun a w n => ∃ F V L, J F V L n ∧ Kn N F a ∧ St B V L w
    classical
    have hex : ∀ a w, (∃ n, I a w n) → ∃ n, I a w n ∧ ∀ k, k < n → ¬ I a w k := fun a w ⟨n, hn⟩ => by
      induction n using Nat.strongRecOn with
      | _ n ih =>
        by_cases h : ∃ k, k < n ∧ I a w k
        · obtain ⟨k, hk, hI⟩ := h; exact ih k hk hI
        · exact ⟨n, hn, fun k hk hI => h ⟨k, hk, hI⟩⟩
    let μ : Act → World → Nat := fun a w => if h : ∃ n, I a w n then Classical.choose (hex a w h) else 0
    refine wp_loop (fun a w => ∃ n, I a w n) μ ⟨n, F, V, L, hJ, ha, hs⟩ fun a w h => ?_
    have hμ := Classical.choose_spec (hex a w h)
    have hμe : μ a w = Classical.choose (hex a w h) := dif_pos h
    obtain ⟨⟨F, V, L, hJ, ha, hs⟩, _⟩ := hμ
    refine Code.wp_mono (fun e a' w' q => ?_) (round F V L _ hJ a w ha hs)
    cases e with
    | normal =>
      obtain ⟨F', V', L', m', hlt, hJ', ha', hs'⟩ := q
      have h' : ∃ n, I a' w' n := ⟨m', F', V', L', hJ', ha', hs'⟩
      refine ⟨h', ?_⟩
      have hμe' : μ a' w' = Classical.choose (hex a' w' h') := dif_pos h'
      have hmin := (Classical.choose_spec (hex a' w' h')).2 m'
      rw [hμe, hμe']
      rcases Nat.lt_or_ge m' (Classical.choose (hex a' w' h')) with hl | hl
      · exact absurd ⟨F', V', L', hJ', ha', hs'⟩ (hmin hl)
      · omega
    | exit i => exact q
    | goto l => exact q
    | ret => exact q
    | panic ch => exact q
    | outgrown => exact q
  exact key m F' V' L' a w h0 (ha.less hF) (hs.drop hL)
/-- A round's end. -/
theorem at_round {J : List (Nat × Value) → View → List Box → Nat → Prop} {m : Nat} (F' : List (Nat × Value)) {L' : List Box} (m' : Nat) (hJ : J F' V L' m') (hm : m' < m) (hF : ∀ p ∈ F', look F p.1 = some p.2) (hL : L'.Sublist L) :
    AtQ P B N Q (.thn (fun a w => ∃ F' V' L' m', m' < m ∧ J F' V' L' m' ∧ Kn N F' a ∧ St B V' L' w) :: k) .normal F V L := fun a w ha hs => ⟨F', V, L', m', hm, hJ, ha.less hF, hs.drop hL⟩
/-! ### Operations come up -/
variable {ops : Array Oper} {rest : List Oper} {o : Oper}
theorem gl_plain {rest : List Oper} : GoL P B N .plain ops Q k rest F V L ↔ ∀ a w, Kn N F a → St B V L w → wpList P ops (evalQ P Q k) rest a w := by unfold GoL; exact Iff.rfl
theorem gl_quiet {rest : List Oper} : GoL P B N .quiet ops Q k rest F V L ↔ ∀ a, Kn N F a → wpQuiet P ops (St B V L) (fun a' => ∀ w', St B V L w' → evalQ P Q k .normal a' w') rest a := by unfold GoL; exact Iff.rfl
theorem gw_plain {rest : List Oper} : GoW P B N .plain ops Q k o rest F V L ↔ ∀ a w, Kn N F a → St B V L w → o.wp P a w (wpList P ops (evalQ P Q k) rest) (evalQ P Q k) := by unfold GoW; exact Iff.rfl
theorem gw_quiet {rest : List Oper} : GoW P B N .quiet ops Q k o rest F V L ↔ ∀ a, Kn N F a → o.quiet P a (St B V L) (wpQuiet P ops (St B V L) (fun a' => ∀ w', St B V L w' → evalQ P Q k .normal a' w') rest) := by unfold GoW; exact Iff.rfl
theorem gw_loud {dr : Mode} (hdr : dr.loud = true) (h : ∀ a w, Kn N F a → St B V L w → o.wp P a w (nextK P B ops (evalQ P Q k) rest dr) (evalQ P Q k)) : GoW P B N dr ops Q k o rest F V L := by unfold GoW; rw [if_pos hdr]; exact h
theorem gl_loud {dr : Mode} (hdr : dr.loud = true) (h : GoL P B N dr ops Q k rest F V L) : ∀ a w, Kn N F a → St B V L w → nextK P B ops (evalQ P Q k) rest dr a w := by unfold GoL at h; rw [if_pos hdr] at h; exact h
theorem gl_mk {dr : Mode} (hdr : dr.loud = true) (h : ∀ a w, Kn N F a → St B V L w → nextK P B ops (evalQ P Q k) rest dr a w) : GoL P B N dr ops Q k rest F V L := by unfold GoL; rw [if_pos hdr]; exact h
theorem gw_un {dr : Mode} (hdr : dr.loud = true) (h : GoW P B N dr ops Q k o rest F V L) : ∀ a w, Kn N F a → St B V L w → o.wp P a w (nextK P B ops (evalQ P Q k) rest dr) (evalQ P Q k) := by unfold GoW at h; rw [if_pos hdr] at h; exact h
/-- A region that is walked in the order of its text. -/
def Mode.text : Mode → Bool
  | .held .. => false
  | _ => true
theorem gl_nil {dr : Mode} (ht : dr.text = true) (h : AtQ P B N Q k .normal F V L) : GoL P B N dr ops Q k [] F V L := by
  cases dr with
  | plain => exact gl_plain.2 fun a w ha hs => wpList_nil (h a w ha hs)
  | quiet => exact gl_quiet.2 fun a ha => wpQuiet_nil fun w' hw' => h a w' ha hw'
  | held => cases ht
theorem yielded_of {a : Act} {j t : Nat} {b : Bool} (ha : Kn N F a) (hj : (ops[j]?).bind (·.dst) = some t) (ht : okD N (some t) = true) (hb : look F t = some (.bool b)) : yielded ops a.tmps j = some b := by
  unfold yielded
  rw [hj, Option.bind_some, ha.tmp ht hb]
theorem gl_wanted {dr : Mode} (ht : dr.text = true) (hw : ∀ a, Kn N F a → Region.wanted o (yielded ops a.tmps) = true) (h : GoW P B N dr ops Q k o rest F V L) : GoL P B N dr ops Q k (o :: rest) F V L := by
  cases dr with
  | plain =>
    refine gl_plain.2 fun a w ha hs => ?_
    unfold wpList
    rw [if_pos (hw a ha)]
    exact .inl (gw_plain.1 h a w ha hs)
  | quiet =>
    refine gl_quiet.2 fun a ha => ?_
    unfold wpQuiet
    rw [if_pos (hw a ha)]
    exact gw_quiet.1 h a ha
  | held => cases ht
theorem gl_go {dr : Mode} (ht : dr.text = true) (hg : o.guard = none) (h : GoW P B N dr ops Q k o rest F V L) : GoL P B N dr ops Q k (o :: rest) F V L := gl_wanted ht (fun a ha => by simp [Region.wanted, hg]) h
theorem gl_yes {dr : Mode} (ht' : dr.text = true) {j t : Nat} {want : Bool} (hg : o.guard = some (j, want)) (hj : (ops[j]?).bind (·.dst) = some t) (ht : okD N (some t) = true) (hb : look F t = some (.bool want)) (h : GoW P B N dr ops Q k o rest F V L) : GoL P B N dr ops Q k (o :: rest) F V L :=
  gl_wanted ht' (fun a ha => by simp [Region.wanted, hg, yielded_of ha hj ht hb]) h
theorem gl_no {dr : Mode} (ht' : dr.text = true) {j t : Nat} {want b : Bool} (hg : o.guard = some (j, want)) (hj : (ops[j]?).bind (·.dst) = some t) (ht : okD N (some t) = true) (hb : look F t = some (.bool b)) (hne : (b == want) = false) (hd : okD N o.dst = true) (h : GoL P B N dr ops Q k rest (putF F o.dst undef) V L) : GoL P B N dr ops Q k (o :: rest) F V L := by
  have hw : ∀ a, Kn N F a → ¬ Region.wanted o (yielded ops a.tmps) = true := fun a ha => by simp [Region.wanted, hg, yielded_of ha hj ht hb]; simpa using hne
  cases dr with
  | plain =>
    refine gl_plain.2 fun a w ha hs => ?_
    unfold wpList
    rw [if_neg (hw a ha)]
    exact gl_plain.1 h _ _ (ha.put hd _) hs
  | quiet =>
    refine gl_quiet.2 fun a ha => ?_
    unfold wpQuiet
    rw [if_neg (hw a ha)]
    exact gl_quiet.1 h _ (ha.put hd _)
  | held => cases ht'
theorem gl_nou {dr : Mode} (ht' : dr.text = true) {j t : Nat} {want : Bool} (hg : o.guard = some (j, want)) (hj : (ops[j]?).bind (·.dst) = some t) (ht : okD N (some t) = true) (hb : look F t = some undef) (hd : okD N o.dst = true) (h : GoL P B N dr ops Q k rest (putF F o.dst undef) V L) : GoL P B N dr ops Q k (o :: rest) F V L := by
  have hw : ∀ a, Kn N F a → ¬ Region.wanted o (yielded ops a.tmps) = true := fun a ha => by
    have hy : yielded ops a.tmps j = none := by
      unfold yielded
      rw [hj, Option.bind_some, ha.tmp ht hb]
      rfl
    simp [Region.wanted, hg, hy]
  cases dr with
  | plain =>
    refine gl_plain.2 fun a w ha hs => ?_
    unfold wpList
    rw [if_neg (hw a ha)]
    exact gl_plain.1 h _ _ (ha.put hd _) hs
  | quiet =>
    refine gl_quiet.2 fun a ha => ?_
    unfold wpQuiet
    rw [if_neg (hw a ha)]
    exact gl_quiet.1 h _ (ha.put hd _)
  | held => cases ht'
theorem Kn.again {a : Act} {t : Nat} {v : Value} (ha : Kn N F a) (hl : look F t = some v) : Kn N ((t, v) :: F) a :=
  ⟨ha.1, ha.2.1, fun k u hk => by
    rw [look_cons] at hk
    by_cases h : t = k
    · rw [if_pos h] at hk; injection hk with hk; subst h; subst hk; exact ha.2.2 _ _ hl
    · rw [if_neg h] at hk; exact ha.2.2 _ _ hk⟩
theorem gl_again {dr : Mode} {l : List Oper} {t : Nat} {v : Value} (hl : look F t = some v) (h : GoL P B N dr ops Q k l ((t, v) :: F) V L) : GoL P B N dr ops Q k l F V L := by
  unfold GoL at *
  by_cases hd : dr.loud = true
  · rw [if_pos hd] at *
    exact fun a w ha hs => h a w (ha.again hl) hs
  · rw [if_neg hd] at *
    exact fun a ha => h a (ha.again hl)
theorem gl_split_p {dr : Mode} {j t : Nat} {want : Bool} {p : Prop} [Decidable p] (hg : o.guard = some (j, want)) (hj : (ops[j]?).bind (·.dst) = some t) (hb : look F t = some (.bool (decide p)))
    (h1 : p → GoL P B N dr ops Q k (o :: rest) ((t, .bool true) :: F) V L) (h2 : ¬ p → GoL P B N dr ops Q k (o :: rest) ((t, .bool false) :: F) V L) : GoL P B N dr ops Q k (o :: rest) F V L := by
  by_cases h : p
  · exact gl_again (by rw [hb, decide_eq_true h]) (h1 h)
  · exact gl_again (by rw [hb, decide_eq_false h]) (h2 h)
theorem gl_split_b {dr : Mode} {j t : Nat} {want b : Bool} (hg : o.guard = some (j, want)) (hj : (ops[j]?).bind (·.dst) = some t) (hb : look F t = some (.bool b))
    (h1 : b = true → GoL P B N dr ops Q k (o :: rest) ((t, .bool true) :: F) V L) (h2 : b = false → GoL P B N dr ops Q k (o :: rest) ((t, .bool false) :: F) V L) : GoL P B N dr ops Q k (o :: rest) F V L := by
  cases h : b
  · exact gl_again (by rw [hb, h]) (h2 h)
  · exact gl_again (by rw [hb, h]) (h1 h)
theorem gw_q' {dr : Mode} {v : Value} {t : Nat} {op : Op} {ty : TypeId} {pos : String} {af : Array Edge} {gd : Option (Nat × Bool)} (hd : okD N (some t) = true) (hq : QO P B N V L ⟨some t, op, ty, pos, af, gd⟩ F v) (h : GoL P B N dr ops Q k rest ((t, v) :: F) V L) : GoW P B N dr ops Q k ⟨some t, op, ty, pos, af, gd⟩ rest F V L := by
  unfold GoL at h
  unfold GoW
  by_cases hl : dr.loud = true
  · rw [if_pos hl] at *
    exact fun a w ha hs => Oper.wp_of_quiet (C := St B V L) (K := fun a' => Kn N (putF F (some t) v) a') hs (fun a' w' hw' ha' => h a' w' ha' hw') ⟨v, fun w' hw' => hq a w' ha hw', ha.put hd v⟩
  · rw [if_neg hl] at *
    exact fun a ha => ⟨v, fun w hw => hq a w ha hw, h _ (ha.put hd v)⟩
theorem QP.qo {o : Oper} {v : Value} (h : QP P B N V L o F v) : QO P B N V L o F v := fun a w ha hs => by
  unfold Oper.quietAt
  rw [h a w ha hs]
  exact ⟨rfl, rfl⟩
theorem gw_q {dr : Mode} {v : Value} {t : Nat} {op : Op} {ty : TypeId} {pos : String} {af : Array Edge} {gd : Option (Nat × Bool)} (hd : okD N (some t) = true) (hq : QP P B N V L ⟨some t, op, ty, pos, af, gd⟩ F v) (h : GoL P B N dr ops Q k rest ((t, v) :: F) V L) : GoW P B N dr ops Q k ⟨some t, op, ty, pos, af, gd⟩ rest F V L := gw_q' hd hq.qo h

/-! ### A region that draws its order and makes or writes memory: quiet operations first, then whichever may come up -/
def PanicOk (Q : Exit → Act → World → Prop) : Prop := ∀ c (a : Act) d v w, Q (.panic c) (a.put d v) w → Q (.panic c) a w
theorem put_defers (a : Act) (d : Option Tmp) (v : Value) : (a.put d v).defers = a.defers := by cases d <;> rfl
theorem panicOk_body {fn : Func} {R : Ending → World → Prop} : PanicOk (bodyPost P fn R) := fun c a d v w h => ⟨by have := h.1; rwa [put_defers] at this, h.2⟩
theorem PanicOk.evalQ (h : PanicOk Q) : ∀ k, PanicOk (evalQ P Q k)
  | [] => h
  | .seq y :: k => fun c a d v w hq => h.evalQ k c a d v w hq
  | .block i :: k => fun c a d v w hq => h.evalQ k c a d v w hq
  | .thn K :: k => fun c a d v w hq => h.evalQ k c a d v w hq
theorem St.drewn {w : World} (h : St B V L w) : St B V L { w with drawn := w.drawn + 1 } := ⟨Exc.dr h.ext, h.view, h.old, h.v0, h.own, h.nodup⟩
theorem St.sub {w : World} {L' : List Box} (hs : St B V L w) (h : L'.Sublist L) : St B V L' w :=
  ⟨hs.ext, fun p x hp => ⟨(hs.view p x hp).1, fun b hb => (hs.view p x hp).2 b (h.subset hb)⟩, hs.old, hs.v0, fun b hb => hs.own b (h.subset hb), List.Nodup.sublist (h.map Box.g) hs.nodup⟩
theorem St.view_le {w : World} {V' : View} (hs : St B V L w) (h : VLe V' V) (h0 : VLe B.v V') : St B V' L w := ⟨hs.ext, fun p x hp => hs.view p x (h p x hp), fun p x hp => hs.old p x (h p x hp), h0, hs.own, hs.nodup⟩
/-- The region begins; Lk: the boxes that its operations only read. -/
theorem gc_held {id : Nat} {l : List Oper} (Lk : List Box) (hm : P.follows .mixedOrders = true) (hk : Lk.Sublist L) (h : GoL P B N (.held V Lk l.toArray.size (Array.replicate l.toArray.size false)) l.toArray Q k [] F V L) : GoC P B N (.region id l.toArray true) Q k F V L := fun a w ha hs =>
  wp_region_held (S := St B V Lk) hm (gl_loud rfl h a _ ha hs.drewn).2
theorem gh_take {V0 : View} {Lk : List Box} {fuel : Nat} {listed : Array Bool} (i : Nat) {oi : Oper} {t : Nat} {v : Value} (hi : ops[i]? = some oi) (hP : PanicOk Q) (hsel : Region.noSelect ops = true) (hf : Region.free .any ops listed i = true) (hr : (Region.ready .any ops listed).contains i = true)
    (hg : oi.guard = none) (hdt : oi.dst = some t) (hd : okD N (some t) = true) (hV : VLe V0 V) (hk : Lk.Sublist L) (hq : QP P B N V0 Lk oi F v) (h : GoL P B N (.held V0 Lk fuel (listed.setIfInBounds i true)) ops Q k rest ((t, v) :: F) V L) : GoL P B N (.held V0 Lk (fuel + 1) listed) ops Q k rest F V L := by
  have h' := gl_loud rfl h
  refine gl_mk rfl fun a w ha hs => ?_
  by_cases h0 : VLe B.v V0
  · have hS : St B V0 Lk w := (hs.sub hk).view_le hV h0
    refine ⟨hS, wpAnyH_take (v := v) hi hsel hf hr (fun c a w hq => hP.evalQ k c a _ _ w hq) (.inl ⟨by simp [Region.wanted, hg], fun w' hw' => hq a w' ha hw'⟩) hS ?_⟩
    rw [hdt]
    exact (h' _ w (ha.put hd v) hs).2
  · exact absurd (h' _ w (ha.put hd v) hs).1.v0 h0
theorem gh_one {V0 : View} {Lk : List Box} {fuel : Nat} {listed : Array Bool} {i : Nat} {oi : Oper} (hr : Region.ready .any ops listed = [i]) (hi : ops[i]? = some oi) (hg : oi.guard = none) (h0 : VLe B.v V0) (hV : VLe V0 V) (hk : Lk.Sublist L) (h : GoW P B N (.held V0 Lk fuel (listed.setIfInBounds i true)) ops Q k oi rest F V L) : GoL P B N (.held V0 Lk (fuel + 1) listed) ops Q k rest F V L := by
  have h := gw_un rfl h
  refine gl_mk rfl fun a w ha hs => ?_
  refine ⟨(hs.sub hk).view_le hV h0, wpAnyH_all hr (by simp) fun j hj => ?_⟩
  simp at hj
  subst hj
  unfold wpOp
  simp only [hi]
  rw [if_pos (by simp [Region.wanted, hg])]
  exact .inl (h a w ha hs)
theorem gh_two {V0 : View} {Lk : List Box} {fuel : Nat} {listed : Array Bool} {i j : Nat} {oi oj : Oper} (hr : Region.ready .any ops listed = [i, j]) (hi : ops[i]? = some oi) (hj : ops[j]? = some oj) (hg : oi.guard = none) (hg' : oj.guard = none) (h0 : VLe B.v V0) (hV : VLe V0 V) (hk : Lk.Sublist L)
    (h : GoW P B N (.held V0 Lk fuel (listed.setIfInBounds i true)) ops Q k oi rest F V L) (h' : GoW P B N (.held V0 Lk fuel (listed.setIfInBounds j true)) ops Q k oj rest F V L) : GoL P B N (.held V0 Lk (fuel + 1) listed) ops Q k rest F V L := by
  have h := gw_un rfl h
  have h' := gw_un rfl h'
  refine gl_mk rfl fun a w ha hs => ?_
  refine ⟨(hs.sub hk).view_le hV h0, wpAnyH_all hr (by simp) fun m hm => ?_⟩
  simp at hm
  rcases hm with rfl | rfl
  · unfold wpOp
    simp only [hi]
    rw [if_pos (by simp [Region.wanted, hg])]
    exact .inl (h a w ha hs)
  · unfold wpOp
    simp only [hj]
    rw [if_pos (by simp [Region.wanted, hg'])]
    exact .inl (h' a w ha hs)
theorem gh_done {V0 : View} {Lk : List Box} {fuel : Nat} {listed : Array Bool} (hr : Region.ready .any ops listed = []) (h0 : VLe B.v V0) (hV : VLe V0 V) (hk : Lk.Sublist L) (h : AtQ P B N Q k .normal F V L) : GoL P B N (.held V0 Lk fuel listed) ops Q k rest F V L := by
  exact gl_mk rfl fun a w ha hs => ⟨(hs.sub hk).view_le hV h0, wpAnyH_done hr (h a w ha hs) _⟩

/-! ### A function's head and end -/
def argsF : List Value → Nat → List (Nat × Value)
  | [], _ => []
  | v :: l, i => (i, v) :: argsF l (i + 1)
theorem look_args : ∀ (l : List Value) (i t : Nat) (v : Value), look (argsF l i) t = some v → i ≤ t ∧ l[t - i]? = some v
  | [], _, _, _, h => by simp [argsF, look] at h
  | u :: l, i, t, v, h => by
    rw [argsF, look_cons] at h
    by_cases hi : i = t
    · subst hi; rw [if_pos rfl] at h; injection h with h; subst h; simp
    · rw [if_neg hi] at h
      obtain ⟨h1, h2⟩ := look_args l (i + 1) t v h
      refine ⟨by omega, ?_⟩
      rw [show t - i = (t - (i + 1)) + 1 by omega]
      simpa using h2
theorem fn_enter {f : FuncId} {fn : Func} {c : Code} {args : List Value} {R : Value → View → Prop} (hf : P.funcs[f]? = some fn) (hb : fn.body = some c) (hN : fn.ntmps = N) (hsz : Nat.ble args.length N = true)
    (h : ∀ w, GoC P ⟨V, w, []⟩ N c (bodyPost P fn (FnEnd V w R)) [] (argsF args 0) V []) : Fn P f args V R := fun w hV => by
  refine calls_of_wp hf hb (h w _ w ⟨rfl, ?_, fun t v hv => ?_⟩ ⟨Exc.refl _ w, fun p x hp => ⟨hV p x hp, by simp⟩, fun p x hp _ => hp, VLe.refl V, by simp, by simp⟩)
  · have := Nat.le_of_ble_eq_true hsz
    simp [hN]; omega
  · obtain ⟨_, h2⟩ := look_args args 0 t v hv
    have hlt : t < args.length := by
      rcases Nat.lt_or_ge t args.length with hl | hl
      · exact hl
      · rw [List.getElem?_eq_none (by omega)] at h2; cases h2
    rw [List.getElem?_eq_getElem (by omega)] at h2
    simp only [Nat.sub_zero] at h2
    injection h2 with h2
    simp [Array.getElem?_append, hlt, h2]
/-- A result, as the function hands it back. -/
def RV (P : Program) (B : Base) (N : Nat) (F : List (Nat × Value)) (V : View) (L : List Box) (r : ResultVar) (v : Value) : Prop :=
  ∀ a w, Kn N F a → St B V L w → (match r with | .tmp t => (pure (a.tmps.getD t undef) : Sem Value) | .cell x t => do loadVar t (← asAddr (a.tmps.getD x undef))).run P w = .ok v w
theorem rv_tmp {t : Nat} {v : Value} (h : look F t = some v) : RV P B N F V L (.tmp t) v := fun a w ha _ => by
  simp only []
  rw [ha.2.2 t v h]; rfl
variable {fn : Func} {R : Value → View → Prop} {w0 : World} {V0 : View}
theorem fnEnd_of {w : World} (hs : St ⟨V0, w0, []⟩ V L w) {v : Value} (hR : R v V) : FnEnd V0 w0 R (.returned v) w :=
  ⟨v, rfl, hs.ext.ext, V, hs.v0, fun p x hp => (hs.view p x hp).1, fun p x hp hb => hs.old p x hp hb, hR⟩
theorem at_ret1 {r : ResultVar} {v : Value} (hr : fn.results = #[r]) (h1 : RV P ⟨V0, w0, []⟩ N F V L r v) (hR : R v V) : AtQ P ⟨V0, w0, []⟩ N (bodyPost P fn (FnEnd V0 w0 R)) [] .ret F V L := fun a w ha hs => by
  refine ⟨ha.1, v, ?_, fnEnd_of hs hR⟩
  have h1 := h1 a w ha hs
  unfold results
  rw [hr]
  cases r <;> simp_all
theorem run_res2 (g : ResultVar → Sem Value) {r s : ResultVar} {v u : Value} {w : World} (h1 : (g r).run P w = .ok v w) (h2 : (g s).run P w = .ok u w) :
    (do let vs ← (#[r, s] : Array ResultVar).mapM g; pure (if h : vs.size = 1 then vs[0] else .tuple vs) : Sem Value).run P w = .ok (.tuple #[v, u]) w := by
  simp [h1, h2]
theorem run_res3 (g : ResultVar → Sem Value) {r s q : ResultVar} {v u x : Value} {w : World} (h1 : (g r).run P w = .ok v w) (h2 : (g s).run P w = .ok u w) (h3 : (g q).run P w = .ok x w) :
    (do let vs ← (#[r, s, q] : Array ResultVar).mapM g; pure (if h : vs.size = 1 then vs[0] else .tuple vs) : Sem Value).run P w = .ok (.tuple #[v, u, x]) w := by
  simp [h1, h2, h3]
theorem at_ret2 {r s : ResultVar} {v u : Value} (hr : fn.results = #[r, s]) (h1 : RV P ⟨V0, w0, []⟩ N F V L r v) (h2 : RV P ⟨V0, w0, []⟩ N F V L s u) (hR : R (.tuple #[v, u]) V) : AtQ P ⟨V0, w0, []⟩ N (bodyPost P fn (FnEnd V0 w0 R)) [] .ret F V L := fun a w ha hs => by
  refine ⟨ha.1, _, ?_, fnEnd_of hs hR⟩
  unfold results
  rw [hr]
  exact run_res2 _ (h1 a w ha hs) (h2 a w ha hs)
end
end Go.Proofs.Ytejkmomfpidnbab

/- Names and strings in plain terms. No program is named here. -/
namespace Go.Proofs.Ytejkmomfpidnbab
open Go.RowKit
set_option linter.unusedSimpArgs false
set_option linter.unusedVariables false

def okCh (c : UInt8) : Bool := (decide (97 ≤ c.toNat) && decide (c.toNat ≤ 122)) || (decide (48 ≤ c.toNat) && decide (c.toNat ≤ 57)) || c == 46 || c == 95 || c == 45
/-- May these bytes be a name? -/
def nameZ (l : List UInt8) : Bool := decide (1 ≤ l.length) && decide (l.length ≤ 12) && !(l == [46]) && !(l == [46, 46]) && l.all okCh

theorem bytesLess_lt : ∀ (x y : List UInt8), Op.bytesLess x y = decide (x < y)
  | [], [] => by simp [Op.bytesLess]
  | _ :: _, [] => by simp [Op.bytesLess]
  | [], _ :: _ => by simp [Op.bytesLess]
  | a :: x, b :: y => by
    rw [Op.bytesLess, bytesLess_lt x y]
    simp only [List.cons_lt_cons_iff]
    by_cases h1 : a < b <;> by_cases h2 : a = b <;> by_cases h3 : x < y <;> simp [h1, h2, h3]
theorem str_ext {a b : ByteArray} (h : a.toList = b.toList) : a = b := by
  have h1 : a.data.toList = b.data.toList := by rw [← Lib.toList_data, ← Lib.toList_data]; exact h
  cases a; cases b; congr 1
  exact Array.toList_inj.1 h1
theorem str_beq (a b : ByteArray) : (a.toList == b.toList) = decide (a = b) := by
  rw [Bool.eq_iff_iff]; simp
  exact ⟨str_ext, fun h => by rw [h]⟩
theorem ba_take' (s : ByteArray) (h' : Nat) (h : h' ≤ s.size) : (s.extract 0 h').toList = s.toList.take h' := by
  rw [Lib.toList_data, Lib.toList_data]
  apply List.ext_getElem?
  intro i
  rw [List.getElem?_take, Array.getElem?_toList, Array.getElem?_toList]
  have e : (s.extract 0 h').data = s.data.extract 0 h' := by simp [ByteArray.extract, ByteArray.copySlice]; try rfl
  rw [e, Array.getElem?_extract]
  have hs : s.data.size = s.size := rfl
  by_cases hi : i < h'
  · rw [if_pos (by omega), if_pos hi, Nat.zero_add]
  · rw [if_neg (by omega), if_neg hi]
end Go.Proofs.Ytejkmomfpidnbab

/- The engine's operations. No program is named here. -/
namespace Go.Proofs.Ytejkmomfpidnbab
open Go.RowKit
set_option linter.unusedSimpArgs false
set_option linter.unusedVariables false

theorem beq_dec {α : Type} [BEq α] [LawfulBEq α] [DecidableEq α] (a b : α) : (a == b) = decide (a = b) := by
  rw [Bool.eq_iff_iff]; simp

/-! ### Closed facts on the program's types -/
structure IsOne (P : Program) (T : TypeId) : Prop where
  h : ∀ w, (isAgg T).run P w = .ok false w
structure IsAg (P : Program) (T : TypeId) (n : Nat) : Prop where
  h : ∀ w, (isAgg T).run P w = .ok true w
  s : ∀ w, (sizeOf T).run P w = .ok n w
structure SizeIs (P : Program) (T : TypeId) (n : Nat) : Prop where
  h : ∀ w, (sizeOf T).run P w = .ok n w
structure UnderIs (P : Program) (T : TypeId) (dsc : TypeDesc) : Prop where
  u : P.underlying T = some dsc
theorem UnderIs.h {P : Program} {T : TypeId} {dsc : TypeDesc} (hu : UnderIs P T dsc) (w : World) : (underlying T).run P w = .ok dsc w := run_underlying hu.u w
structure ZeroIs (P : Program) (T : TypeId) (zs : List Value) : Prop where
  h : ∃ z, (∀ w, (zeroValue T).run P w = .ok z w) ∧ z.cells = zs.toArray
structure Enters (P : Program) (f : FuncId) : Prop where
  h : ∀ args w, (callFunc f args).run P w = .ok (.enter f args) w
structure FieldIs (P : Program) (S i off : Nat) : Prop where
  h : ∀ a w, (Instr.fieldAt S (.pointer (some a)) i).run P w = .ok (.pointer (some (a.add off))) w

section
variable {P : Program} {B : Base} {N : Nat} {F : List (Nat × Value)} {V : View} {L : List Box} {d : Option Tmp} {ty : TypeId} {pos : String} {af : Array Edge} {gd : Option (Nat × Bool)}

theorem q_of {o : Oper} {v : Value} (h : ∀ a w, Kn N F a → St B V L w → (execOp a.eval o).run P w = .ok (.value v) w) : QP P B N V L o F v := h

/-! ### Values -/
theorem q_move {x : Operand} {v : Value} (hx : evF F x = some v) : QP P B N V L ⟨d, .move x, ty, pos, af, gd⟩ F v := q_of fun a w ha _ => by simp [execOp, ha.ev hx]
theorem q_assign {x : Operand} {v : Value} (hx : evF F x = some v) : QP P B N V L ⟨d, .assign x, ty, pos, af, gd⟩ F v := q_of fun a w ha _ => by simp [execOp, ha.ev hx]
theorem q_pick_t {c x y : Operand} {v : Value} (hc : evF F c = some (.bool true)) (hx : evF F x = some v) : QP P B N V L ⟨d, .pick c x y, ty, pos, af, gd⟩ F v := q_of fun a w ha _ => by
  simp [execOp, ha.ev hc, ha.ev hx, asBool]
theorem q_pick_f {c x y : Operand} {v : Value} (hc : evF F c = some (.bool false)) (hx : evF F y = some v) : QP P B N V L ⟨d, .pick c x y, ty, pos, af, gd⟩ F v := q_of fun a w ha _ => by
  simp [execOp, ha.ev hc, ha.ev hx, asBool]
theorem q_not_t {x : Operand} {t : TypeId} (hx : evF F x = some (.bool true)) : QP P B N V L ⟨d, .unOp .not t x, ty, pos, af, gd⟩ F (.bool false) := q_of fun a w ha _ => by simp [execOp, ha.ev hx, Op.unary]
theorem q_not_f {x : Operand} {t : TypeId} (hx : evF F x = some (.bool false)) : QP P B N V L ⟨d, .unOp .not t x, ty, pos, af, gd⟩ F (.bool true) := q_of fun a w ha _ => by simp [execOp, ha.ev hx, Op.unary]
theorem q_not_p {x : Operand} {t : TypeId} {p : Prop} [Decidable p] (hx : evF F x = some (.bool (decide p))) : QP P B N V L ⟨d, .unOp .not t x, ty, pos, af, gd⟩ F (.bool (decide (¬ p))) := q_of fun a w ha _ => by simp [execOp, ha.ev hx, Op.unary]
theorem q_not_b {x : Operand} {t : TypeId} {b : Bool} (hx : evF F x = some (.bool b)) : QP P B N V L ⟨d, .unOp .not t x, ty, pos, af, gd⟩ F (.bool (!b)) := q_of fun a w ha _ => by simp [execOp, ha.ev hx, Op.unary]
theorem q_extract {x : Operand} {i : Nat} {vs : Array Value} {v : Value} (hx : evF F x = some (.tuple vs)) (hv : vs[i]? = some v) : QP P B N V L ⟨d, .extract x i, ty, pos, af, gd⟩ F v := q_of fun a w ha _ => by
  simp [execOp, ha.ev hx, Instr.extract, hv]
theorem q_mkiface {x : Operand} {t : TypeId} {v : Value} {dsc : TypeDesc} (hu : UnderIs P t dsc) (hn : (match dsc with | .interface _ => true | _ => false) = false) (hx : evF F x = some v) : QP P B N V L ⟨d, .makeInterface t x, ty, pos, af, gd⟩ F (.iface t v) := q_of fun a w ha _ => by
  have hu := hu.h w
  cases dsc <;> simp_all [execOp, ha.ev hx, Instr.makeInterface]
theorem q_nilCheck_p {x : Operand} {p : Addr} (hx : evF F x = some (.pointer (some p))) : QP P B N V L ⟨d, .nilCheck x, ty, pos, af, gd⟩ F (.pointer (some p)) := q_of fun a w ha _ => by simp [execOp, ha.ev hx]
theorem q_nilCheck_f {x : Operand} {f : FuncId} {c1 c2 : Array Value} (hx : evF F x = some (.func (.func f) c1 c2)) : QP P B N V L ⟨d, .nilCheck x, ty, pos, af, gd⟩ F (.func (.func f) c1 c2) := q_of fun a w ha _ => by simp [execOp, ha.ev hx]

/-! ### Ints -/
section ints
variable {x y : Operand} {t ty2 : TypeId} {a b : Int}
theorem run_bin {op : BinOp} {k : IntKind} {v : Value} {o : Oper} (ho : o.op = .binOp op t x y ty2) (hx : evF F x = some (.int k a)) (hy : evF F y = some (.int k b)) (h : ∀ w, (binOp op t (.int k a) (.int k b)).run P w = .ok v w) : QP P B N V L o F v := q_of fun ac w ha _ => by
  have e : (eqGuard op t x y (.int k a) (.int k b)) = pure () := by unfold eqGuard; cases op <;> rfl
  simp [execOp, ho, ha.ev hx, ha.ev hy, e, h w]
theorem q_add (hx : evF F x = some (.int .i64 a)) (hy : evF F y = some (.int .i64 b)) (h : -9223372036854775808 ≤ a + b ∧ a + b ≤ 9223372036854775807) : QP P B N V L ⟨d, .binOp .add t x y ty2, ty, pos, af, gd⟩ F (.int .i64 (a + b)) :=
  run_bin rfl hx hy fun w => by simp [binOp, Op.intArith, IntWalk.i64_in _ h]
theorem q_sub (hx : evF F x = some (.int .i64 a)) (hy : evF F y = some (.int .i64 b)) (h : -9223372036854775808 ≤ a - b ∧ a - b ≤ 9223372036854775807) : QP P B N V L ⟨d, .binOp .sub t x y ty2, ty, pos, af, gd⟩ F (.int .i64 (a - b)) :=
  run_bin rfl hx hy fun w => by simp [binOp, Op.intArith, IntWalk.i64_in _ h]
theorem q_mul (hx : evF F x = some (.int .i64 a)) (hy : evF F y = some (.int .i64 b)) (h : -9223372036854775808 ≤ a * b ∧ a * b ≤ 9223372036854775807) : QP P B N V L ⟨d, .binOp .mul t x y ty2, ty, pos, af, gd⟩ F (.int .i64 (a * b)) :=
  run_bin rfl hx hy fun w => by simp [binOp, Op.intArith, IntWalk.i64_in _ h]
theorem q_addw {k : IntKind} (hx : evF F x = some (.int k a)) (hy : evF F y = some (.int k b)) : QP P B N V L ⟨d, .binOp .add t x y ty2, ty, pos, af, gd⟩ F (.int k (k.wrap (a + b))) :=
  run_bin rfl hx hy fun w => by simp [binOp, Op.intArith]
theorem q_subw {k : IntKind} (hx : evF F x = some (.int k a)) (hy : evF F y = some (.int k b)) : QP P B N V L ⟨d, .binOp .sub t x y ty2, ty, pos, af, gd⟩ F (.int k (k.wrap (a - b))) :=
  run_bin rfl hx hy fun w => by simp [binOp, Op.intArith]
theorem q_quo (hx : evF F x = some (.int .i64 a)) (hy : evF F y = some (.int .i64 b)) (h : 0 ≤ a ∧ a ≤ 9223372036854775807 ∧ 0 < b) : QP P B N V L ⟨d, .binOp .quo t x y ty2, ty, pos, af, gd⟩ F (.int .i64 (a / b)) :=
  run_bin rfl hx hy fun w => by
    have e1 : a.tdiv b = a / b := Int.tdiv_eq_ediv_of_nonneg h.1
    have e2 : 0 ≤ a / b := Int.ediv_nonneg h.1 (by omega)
    have e3 : a / b ≤ a := Int.ediv_le_self b h.1
    have e4 : b ≠ 0 := by omega
    simp [binOp, Op.intDiv, e4, e1, IntWalk.i64_in (a / b) ⟨by omega, by omega⟩]
theorem q_lss {k : IntKind} (hx : evF F x = some (.int k a)) (hy : evF F y = some (.int k b)) : QP P B N V L ⟨d, .binOp .lss t x y ty2, ty, pos, af, gd⟩ F (.bool (decide (a < b))) := run_bin rfl hx hy fun w => by simp [binOp, Op.intCmp]
theorem q_leq {k : IntKind} (hx : evF F x = some (.int k a)) (hy : evF F y = some (.int k b)) : QP P B N V L ⟨d, .binOp .leq t x y ty2, ty, pos, af, gd⟩ F (.bool (decide (a ≤ b))) := run_bin rfl hx hy fun w => by simp [binOp, Op.intCmp]
theorem q_gtr {k : IntKind} (hx : evF F x = some (.int k a)) (hy : evF F y = some (.int k b)) : QP P B N V L ⟨d, .binOp .gtr t x y ty2, ty, pos, af, gd⟩ F (.bool (decide (b < a))) := run_bin rfl hx hy fun w => by simp [binOp, Op.intCmp]
theorem q_geq {k : IntKind} (hx : evF F x = some (.int k a)) (hy : evF F y = some (.int k b)) : QP P B N V L ⟨d, .binOp .geq t x y ty2, ty, pos, af, gd⟩ F (.bool (decide (b ≤ a))) := run_bin rfl hx hy fun w => by simp [binOp, Op.intCmp]
theorem q_eql {k : IntKind} (hx : evF F x = some (.int k a)) (hy : evF F y = some (.int k b)) : QP P B N V L ⟨d, .binOp .eql t x y ty2, ty, pos, af, gd⟩ F (.bool (decide (a = b))) := run_bin rfl hx hy fun w => by simp [binOp, Op.intCmp, beq_dec]
theorem q_neq {k : IntKind} (hx : evF F x = some (.int k a)) (hy : evF F y = some (.int k b)) : QP P B N V L ⟨d, .binOp .neq t x y ty2, ty, pos, af, gd⟩ F (.bool (decide (¬ a = b))) := run_bin rfl hx hy fun w => by
  have : (a != b) = decide (¬ a = b) := by simp [bne, beq_dec]
  simp [binOp, Op.intCmp, this]
end ints

/-- Whatever two operands, by the operation's run. -/
theorem q_bin {x y : Operand} {t ty2 : TypeId} {op : BinOp} {vx vy v : Value} (hx : evF F x = some vx) (hy : evF F y = some vy) (hg : ∀ w, (eqGuard op t x y vx vy).run P w = .ok () w) (h : ∀ w, (binOp op t vx vy).run P w = .ok v w) : QP P B N V L ⟨d, .binOp op t x y ty2, ty, pos, af, gd⟩ F v := q_of fun ac w ha _ => by
  simp [execOp, ha.ev hx, ha.ev hy, hg w, h w]

/-! ### Strings, bools -/
section strs
variable {x y : Operand} {t ty2 : TypeId} {a b : ByteArray}
theorem run_str {op : BinOp} {v : Value} {o : Oper} (ho : o.op = .binOp op t x y ty2) (hx : evF F x = some (.string a)) (hy : evF F y = some (.string b)) (h : ∀ w, (binOp op t (.string a) (.string b)).run P w = .ok v w) : QP P B N V L o F v := q_of fun ac w ha _ => by
  have e : (eqGuard op t x y (.string a) (.string b)) = pure () := by unfold eqGuard; cases op <;> rfl
  simp [execOp, ho, ha.ev hx, ha.ev hy, e, h w]
theorem q_seql (hx : evF F x = some (.string a)) (hy : evF F y = some (.string b)) : QP P B N V L ⟨d, .binOp .eql t x y ty2, ty, pos, af, gd⟩ F (.bool (decide (a = b))) := run_str rfl hx hy fun w => by simp only [binOp, Op.stringOp]; rw [str_beq]; rfl
theorem q_sneq (hx : evF F x = some (.string a)) (hy : evF F y = some (.string b)) : QP P B N V L ⟨d, .binOp .neq t x y ty2, ty, pos, af, gd⟩ F (.bool (decide (¬ a = b))) := run_str rfl hx hy fun w => by
  simp only [binOp, Op.stringOp]; rw [str_beq]
  have : (!decide (a = b)) = decide (¬ a = b) := by simp
  rw [this]; rfl
theorem q_sgeq (hx : evF F x = some (.string a)) (hy : evF F y = some (.string b)) : QP P B N V L ⟨d, .binOp .geq t x y ty2, ty, pos, af, gd⟩ F (.bool (decide (¬ a.toList < b.toList))) := run_str rfl hx hy fun w => by
  simp only [binOp, Op.stringOp]; rw [bytesLess_lt]
  have : (!decide (a.toList < b.toList)) = decide (¬ a.toList < b.toList) := decide_not.symm
  rw [this]; rfl
theorem q_sadd (hx : evF F x = some (.string a)) (hy : evF F y = some (.string b)) (h : ((a.size + b.size : Nat) : Int) ≤ 9223372036854775807) : QP P B N V L ⟨d, .binOp .add t x y ty2, ty, pos, af, gd⟩ F (.string (a ++ b)) := run_str rfl hx hy fun w => by
  simp only [binOp, Op.stringOp]
  rw [if_neg]
  · rfl
  · simp only [IntKind.max, IntKind.signed, IntKind.bits]
    omega
theorem q_sindex {ix : Operand} {i : Int} {s : ByteArray} {c : UInt8} (hu : UnderIs P t .string) (hx : evF F x = some (.string s)) (hi : evF F ix = some (.int .i64 i)) (h0 : 0 ≤ i) (hc : s[i.toNat]? = some c) : QP P B N V L ⟨d, .index t x ix, ty, pos, af, gd⟩ F (.int .u8 c.toNat) := q_of fun ac w ha _ => by
  simp [execOp, ha.ev hx, ha.ev hi, Instr.index, asIntOf, hu.h, h0, hc]
theorem q_slen {c : Call} (hc : c = ⟨.builtin .len, #[x], #[t]⟩) (hu : UnderIs P t .string) (hx : evF F x = some (.string a)) : QP P B N V L ⟨d, .call c, ty, pos, af, gd⟩ F (.int .i64 a.size) := q_of fun ac w ha _ => by
  subst hc
  simp [execOp, ha.ev hx, resolve, invoke, builtin, Builtin.len_, hu.h, goInt]
theorem run_sliceBound (w : World) {l y : Nat} (h : l ≤ y) (code : BoundsCode) : (Instr.sliceBound (.int .i64 (l : Int)) y code).run P w = .ok l w := by
  have : (l : Int) ≤ (y : Int) := by omega
  simp [Instr.sliceBound, asIntOf, this]
theorem q_sslice_n {hi : Operand} {h : Nat} (hu : UnderIs P t .string) (hx : evF F x = some (.string a)) (hh : evF F hi = some (.int .i64 (h : Int))) (h2 : h ≤ a.size) : QP P B N V L ⟨d, .slice t x none (some hi) none, ty, pos, af, gd⟩ F (.string (a.extract 0 h)) := q_of fun ac w ha _ => by
  simp [execOp, ha.ev hx, ha.ev hh, Instr.sliceAt, Instr.slice, Instr.sliceBounds, hu.h, run_sliceBound w h2]
theorem q_sslice_l {lo : Operand} {l : Nat} (hu : UnderIs P t .string) (hx : evF F x = some (.string a)) (hl : evF F lo = some (.int .i64 (l : Int))) (h2 : l ≤ a.size) : QP P B N V L ⟨d, .slice t x (some lo) none none, ty, pos, af, gd⟩ F (.string (a.extract l a.size)) := q_of fun ac w ha _ => by
  simp [execOp, ha.ev hx, ha.ev hl, Instr.sliceAt, Instr.slice, Instr.sliceBounds, hu.h, run_sliceBound w h2]
theorem q_sslice {lo hi : Operand} {l h : Nat} (hu : UnderIs P t .string) (hx : evF F x = some (.string a)) (hl : evF F lo = some (.int .i64 (l : Int))) (hh : evF F hi = some (.int .i64 (h : Int))) (h1 : l ≤ h) (h2 : h ≤ a.size) : QP P B N V L ⟨d, .slice t x (some lo) (some hi) none, ty, pos, af, gd⟩ F (.string (a.extract l h)) := q_of fun ac w ha _ => by
  simp [execOp, ha.ev hx, ha.ev hl, ha.ev hh, Instr.sliceAt, Instr.slice, Instr.sliceBounds, hu.h, run_sliceBound w h1, run_sliceBound w h2]
end strs
end
end Go.Proofs.Ytejkmomfpidnbab

/- The engine's operations on memory. No program is named here. -/
namespace Go.Proofs.Ytejkmomfpidnbab
open Go.RowKit
set_option linter.unusedSimpArgs false
set_option linter.unusedVariables false

theorem add_none (b o k : Nat) : (⟨b, o, none⟩ : Addr).add k = ⟨b, o + k, none⟩ := by unfold Addr.add; split <;> simp_all

/-! ### Boxes -/
def OwnAt (L : List Box) (g : Nat) (cs : List Value) : Prop := ∃ t : TypeId, ⟨g, t, cs⟩ ∈ L
theorem own_here {g : Nat} {t : TypeId} {cs : List Value} {L : List Box} : OwnAt (⟨g, t, cs⟩ :: L) g cs := ⟨t, by simp⟩
theorem own_next {g : Nat} {cs : List Value} {L : List Box} {b : Box} (h : OwnAt L g cs) : OwnAt (b :: L) g cs := let ⟨t, h⟩ := h; ⟨t, List.mem_cons_of_mem _ h⟩
theorem own_skip {g : Nat} {cs : List Value} {L M : List Box} (h : OwnAt L g cs) : OwnAt (M ++ L) g cs := let ⟨t, h⟩ := h; ⟨t, List.mem_append_right _ h⟩
def spl : List Value → Nat → List Value → List Value
  | cs, _, [] => cs
  | cs, i, v :: vs => spl (cs.set i v) (i + 1) vs
inductive PutAt : List Box → Nat → Nat → List Value → List Box → Prop
  | here (g : Nat) (t : TypeId) (cs : List Value) (L : List Box) (i : Nat) (vs : List Value) (h : i + vs.length ≤ cs.length) : PutAt (⟨g, t, cs⟩ :: L) g i vs (⟨g, t, spl cs i vs⟩ :: L)
  | next (b : Box) (L : List Box) (g i : Nat) (vs : List Value) (L' : List Box) (h : PutAt L g i vs L') : PutAt (b :: L) g i vs (b :: L')
theorem putAt_skip {L L' : List Box} {g i : Nat} {vs : List Value} (h : PutAt L g i vs L') : ∀ M : List Box, PutAt (M ++ L) g i vs (M ++ L')
  | [] => h
  | b :: M => .next b _ _ _ _ _ (putAt_skip h M)
def isOne : Value → Bool
  | .agg _ | .tuple _ => false
  | _ => true

theorem ones_of {vs : List Value} (h : vs.all isOne = true) : ∀ u ∈ vs, isOne u = true := fun u hu => List.all_eq_true.1 h u hu

section
variable {P : Program} {B : Base} {N : Nat} {Q : Exit → Act → World → Prop} {F : List (Nat × Value)} {V : View} {L : List Box} {w : World}
theorem St.lt (hs : St B V L w) {b : Box} (hb : b ∈ L) : b.g < w.heap.size := by
  have h := (hs.own b hb).1
  rcases Nat.lt_or_ge b.g w.heap.size with h1 | h1
  · exact h1
  · rw [Array.getElem?_eq_none h1] at h; cases h
theorem St.cell (hs : St B V L w) {g : Nat} {cs : List Value} (h : OwnAt L g cs) (i : Nat) : w.cell? ⟨g, i, none⟩ = cs[i]? := by
  obtain ⟨t, h⟩ := h
  have := (hs.own _ h).1
  simp [World.cell?, this]
theorem St.frozen (hs : St B V L w) {g : Nat} {cs : List Value} (h : OwnAt L g cs) (i : Nat) : w.frozen? ⟨g, i, none⟩ = false := by
  obtain ⟨t, h⟩ := h
  have := (hs.own _ h).1
  simp [World.frozen?, this]
theorem St.alloc (hs : St B V L w) (t : TypeId) (cs : List Value) : St B V (⟨w.heap.size, t, cs⟩ :: L) (w.alloc (.cells cs.toArray t)) := by
  refine ⟨Exc.al _ hs.ext, fun p x hp => ?_, hs.old, hs.v0, fun b hb => ?_, ?_⟩
  · obtain ⟨h1, h2⟩ := hs.view p x hp
    have hlt := World.block_lt_of_cell? w p h1
    refine ⟨(World.cell?_alloc_lt w _ p hlt).trans h1, fun b hb => ?_⟩
    rcases List.mem_cons.1 hb with rfl | hb
    · simp only []; omega
    · exact h2 b hb
  · rcases List.mem_cons.1 hb with rfl | hb
    · exact ⟨heap_alloc_new w _, .inl hs.ext.sz⟩
    · exact ⟨(Below.heap_alloc w _ b.g (hs.lt hb)).trans (hs.own b hb).1, (hs.own b hb).2⟩
  · rw [List.map_cons, List.nodup_cons]
    refine ⟨fun h => ?_, hs.nodup⟩
    obtain ⟨b, hb, he⟩ := List.mem_map.1 h
    have := hs.lt hb
    simp only [] at he; omega
theorem PutAt.map {L L' : List Box} {g i : Nat} {vs : List Value} (h : PutAt L g i vs L') : L'.map Box.g = L.map Box.g := by
  induction h with
  | here => rfl
  | next _ _ _ _ _ _ _ ih => simp [ih]
theorem PutAt.cases {L L' : List Box} {g i : Nat} {vs : List Value} (h : PutAt L g i vs L') (hn : (L.map Box.g).Nodup) : ∃ (t : TypeId) (cs : List Value), ⟨g, t, cs⟩ ∈ L ∧ i + vs.length ≤ cs.length ∧ ∀ b ∈ L', (b.g = g ∧ b.t = .cells t ∧ b.cs = spl cs i vs) ∨ (b.g ≠ g ∧ b ∈ L) := by
  induction h with
  | here g t cs L i vs h =>
    refine ⟨t, cs, by simp, h, fun b hb => ?_⟩
    rcases List.mem_cons.1 hb with rfl | hb
    · exact .inl ⟨rfl, rfl, rfl⟩
    · refine .inr ⟨fun e => ?_, by simp [hb]⟩
      rw [List.map_cons, List.nodup_cons] at hn
      exact hn.1 (List.mem_map.2 ⟨b, hb, e⟩)
  | next b0 L g i vs L' h ih =>
    rw [List.map_cons, List.nodup_cons] at hn
    obtain ⟨t, cs, h1, h2, h3⟩ := ih hn.2
    refine ⟨t, cs, by simp [h1], h2, fun b hb => ?_⟩
    rcases List.mem_cons.1 hb with rfl | hb
    · refine .inr ⟨fun e => ?_, by simp⟩
      exact hn.1 (List.mem_map.2 ⟨_, h1, e.symm⟩)
    · rcases h3 b hb with h | ⟨h, h'⟩
      · exact .inl h
      · exact .inr ⟨h, by simp [h']⟩
theorem St.set1 (hs : St B V L w) {L' : List Box} {g i : Nat} {v : Value} (h : PutAt L g i [v] L') : St B V L' (w.setCell ⟨g, i, none⟩ v) := by
  obtain ⟨t, cs, hm, hl, hb⟩ := h.cases hs.nodup
  refine ⟨Exc.set _ hs.ext (hs.own _ hm).2, fun p x hp => ?_, hs.old, hs.v0, fun b hb' => ?_, by rw [h.map]; exact hs.nodup⟩
  · obtain ⟨h1, h2⟩ := hs.view p x hp
    have hne := h2 _ hm
    refine ⟨(World.cell?_setCell_other w _ p v (fun e => by subst e; exact hne rfl)).trans h1, fun b hb' => ?_⟩
    rcases hb b hb' with h | h
    · rw [h.1]; exact hne
    · exact h2 b h.2
  · rcases hb b hb' with ⟨e1, e2, e3⟩ | ⟨e1, e2⟩
    · have ho := (hs.own _ hm).1
      simp only [] at ho
      refine ⟨?_, by rw [e1]; exact (hs.own _ hm).2⟩
      rw [e1, e2, e3]
      simp [World.setCell, Array.getElem?_modify, ho, spl]
    · exact ⟨(Below.heap_setCell w _ v b.g (fun e => e1 e)).trans (hs.own b e2).1, (hs.own b e2).2⟩
theorem PutAt.split {L L' : List Box} {g i : Nat} {v : Value} {vs : List Value} (h : PutAt L g i (v :: vs) L') : ∃ L1, PutAt L g i [v] L1 ∧ PutAt L1 g (i + 1) vs L' := by
  generalize hu : v :: vs = us at h
  induction h with
  | here g t cs L i us hle =>
    subst hu
    exact ⟨_, .here g t cs L i [v] (by simp at hle ⊢; omega), .here g t _ L (i + 1) vs (by simp [spl] at hle ⊢; omega)⟩
  | next b L g i us L' h ih =>
    obtain ⟨L1, h1, h2⟩ := ih hu
    exact ⟨_, .next b _ _ _ _ _ h1, .next b _ _ _ _ _ h2⟩
theorem PutAt.own {L L' : List Box} {g i : Nat} {vs : List Value} (h : PutAt L g i vs L') : ∃ cs, OwnAt L g cs ∧ i + vs.length ≤ cs.length := by
  induction h with
  | here g t cs L i vs h => exact ⟨cs, own_here, h⟩
  | next b L g i vs L' h ih => obtain ⟨cs, h1, h2⟩ := ih; exact ⟨cs, own_next h1, h2⟩
theorem run_store1 (hs : St B V L w) {L' : List Box} {g i : Nat} {v : Value} (h : PutAt L g i [v] L') (h1 : isOne v = true) : (store ⟨g, i, none⟩ v).run P w = .ok () (w.setCell ⟨g, i, none⟩ v) := by
  obtain ⟨cs, ho, hl⟩ := h.own
  have hc : w.cell? ⟨g, i, none⟩ = some cs[i] := by rw [hs.cell ho, List.getElem?_eq_getElem (by simp at hl; omega)]
  have hf := hs.frozen ho i
  unfold store
  cases v <;> simp_all [Sem.run, isOne]
theorem PutAt.nil {L L' : List Box} {g i : Nat} (h : PutAt L g i [] L') : L' = L := by
  generalize hu : ([] : List Value) = us at h
  induction h with
  | here g t cs L i us hle => subst hu; simp [spl]
  | next b L g i us L' h ih => rw [ih hu]
theorem run_storeCells : ∀ (vs : List Value) {L L' : List Box} {w : World} {g i k : Nat}, St B V L w → PutAt L g (i + k) vs L' → (∀ v ∈ vs, isOne v = true) → ∃ w', (storeCells ⟨g, i, none⟩ vs k).run P w = .ok () w' ∧ St B V L' w'
  | [], L, L', w, g, i, k, hs, hp, _ => by
    refine ⟨w, rfl, ?_⟩
    have := hp.nil
    rw [this]; exact hs
  | v :: vs, L, L', w, g, i, k, hs, hp, h1 => by
    obtain ⟨L1, hp1, hp2⟩ := hp.split
    obtain ⟨w', hr, hs'⟩ := run_storeCells vs (k := k + 1) (hs.set1 hp1) (by rw [show i + (k + 1) = i + k + 1 by omega]; exact hp2) (fun u hu => h1 u (by simp [hu]))
    refine ⟨w', ?_, hs'⟩
    rw [storeCells, Sem.run_bind, add_none, run_store1 hs hp1 (h1 v (by simp))]
    exact hr

theorem run_loadFrom (b o : Nat) (w : World) : ∀ (cs : List Value) (i : Nat) (acc : Array Value), (∀ j v, cs[j]? = some v → w.cell? ⟨b, o + (i + j), none⟩ = some v) → (loadCellsFrom ⟨b, o, none⟩ i cs.length acc).run P w = .ok (acc ++ cs.toArray) w
  | [], i, acc, _ => by simp [loadCellsFrom]
  | c :: cs, i, acc, h => by
    have h0 := h 0 c (by simp)
    rw [List.length_cons, loadCellsFrom, Sem.run_bind]
    have e : (load ((⟨b, o, none⟩ : Addr).add i)).run P w = .ok c w := by
      rw [add_none]
      unfold load
      simp only [Nat.add_zero] at h0
      simp [Sem.run, h0]
    rw [e]
    show (loadCellsFrom ⟨b, o, none⟩ (i + 1) cs.length (acc.push c)).run P w = _
    rw [run_loadFrom b o w cs (i + 1) (acc.push c) (fun j v hj => by
      have := h (j + 1) v (by simpa using hj)
      rw [show o + (i + 1 + j) = o + (i + (j + 1)) by omega]; exact this)]
    congr 1
    simp
def CellsFrom (V : View) (b o : Nat) (cs : List Value) : Prop := ∀ j v, cs[j]? = some v → V ⟨b, o + j, none⟩ = some v
theorem CellsFrom.le {V V' : View} {b o : Nat} {cs : List Value} (h : CellsFrom V b o cs) (hv : VLe V V') : CellsFrom V' b o cs := fun j v hj => hv _ _ (h j v hj)

/-! ### Loads -/
variable {d : Option Tmp} {ty : TypeId} {pos : String} {af : Array Edge} {gd : Option (Nat × Bool)} {x y : Operand} {T : TypeId}
theorem run_load_cell {a : Addr} {v : Value} {w : World} (hA : (isAgg T).run P w = .ok false w) (hc : w.cell? a = some v) : (loadVar T a).run P w = .ok v w := by
  unfold loadVar
  rw [Sem.run_bind, hA]
  show (load a).run P w = _
  unfold load
  simp [Sem.run, hc]
theorem run_load_cells {b o : Nat} {cs : List Value} {w : World} (hA : (isAgg T).run P w = .ok true w) (hS : (sizeOf T).run P w = .ok cs.length w) (hc : ∀ j v, cs[j]? = some v → w.cell? ⟨b, o + j, none⟩ = some v) : (loadVar T ⟨b, o, none⟩).run P w = .ok (.agg cs.toArray) w := by
  unfold loadVar
  rw [Sem.run_bind, hA]
  show (do let n ← sizeOf T; let c ← loadCells ⟨b, o, none⟩ n; pure (Value.agg c) : Sem Value).run P w = _
  rw [Sem.run_bind, hS]
  show (do let c ← loadCells ⟨b, o, none⟩ cs.length; pure (Value.agg c) : Sem Value).run P w = _
  rw [Sem.run_bind, loadCells, run_loadFrom b o w cs 0 #[] (fun j v hj => by simpa using hc j v hj)]
  simp
theorem q_load_of {v : Value} {a : Addr} (hx : evF F x = some (.pointer (some a))) (h : ∀ w, St B V L w → (loadVar T a).run P w = .ok v w) : QP P B N V L ⟨d, .load T x, ty, pos, af, gd⟩ F v := q_of fun ac w ha hs => by
  simp [execOp, ha.ev hx, Instr.loadAt, Instr.sureAddr, h w hs]
theorem q_load_v {v : Value} {a : Addr} (hA : IsOne P T) (hx : evF F x = some (.pointer (some a))) (hc : V a = some v) : QP P B N V L ⟨d, .load T x, ty, pos, af, gd⟩ F v :=
  q_load_of hx fun w hs => run_load_cell (hA.h w) (hs.view a v hc).1
theorem q_load_o {v : Value} {g i : Nat} {cs : List Value} (hA : IsOne P T) (hx : evF F x = some (.pointer (some ⟨g, i, none⟩))) (ho : OwnAt L g cs) (hc : cs[i]? = some v) : QP P B N V L ⟨d, .load T x, ty, pos, af, gd⟩ F v :=
  q_load_of hx fun w hs => run_load_cell (hA.h w) ((hs.cell ho i).trans hc)
theorem q_loadA_v {b o n : Nat} {cs : List Value} (hA : IsAg P T n) (hx : evF F x = some (.pointer (some ⟨b, o, none⟩))) (hc : CellsFrom V b o cs) (hn : n = cs.length) : QP P B N V L ⟨d, .load T x, ty, pos, af, gd⟩ F (.agg cs.toArray) :=
  q_load_of hx fun w hs => by subst hn; exact run_load_cells (hA.h w) (hA.s w) (fun j v hj => (hs.view _ v (hc j v hj)).1)
theorem q_loadA_o {g n : Nat} {cs : List Value} (hA : IsAg P T n) (hx : evF F x = some (.pointer (some ⟨g, 0, none⟩))) (ho : OwnAt L g cs) (hn : n = cs.length) : QP P B N V L ⟨d, .load T x, ty, pos, af, gd⟩ F (.agg cs.toArray) :=
  q_load_of hx fun w hs => by subst hn; exact run_load_cells (hA.h w) (hA.s w) (fun j v hj => by rw [Nat.zero_add, hs.cell ho]; exact hj)
theorem q_loadA_p {g i n : Nat} {cs us : List Value} (hA : IsAg P T n) (hx : evF F x = some (.pointer (some ⟨g, i, none⟩))) (ho : OwnAt L g cs) (hu : (cs.drop i).take n = us) (hn : n = us.length) : QP P B N V L ⟨d, .load T x, ty, pos, af, gd⟩ F (.agg us.toArray) :=
  q_load_of hx fun w hs => by
    subst hn
    exact run_load_cells (hA.h w) (hA.s w) (fun j v hj => by
      rw [hs.cell ho]
      have hj' := hj
      rw [← hu, List.getElem?_take, List.getElem?_drop] at hj'
      split at hj'
      · exact hj'
      · cases hj')

/-! ### Addresses -/
theorem q_fieldAddr {i off b o : Nat} (hf : FieldIs P T i off) (hx : evF F x = some (.pointer (some ⟨b, o, none⟩))) : QP P B N V L ⟨d, .fieldAddr T x i, ty, pos, af, gd⟩ F (.pointer (some ⟨b, o + off, none⟩)) := q_of fun ac w ha hs => by
  simp [execOp, ha.ev hx, hf.h ⟨b, o, none⟩ w, add_none]
theorem q_indexAddr {E sz b o n c k : Nat} (hu : UnderIs P T (.slice E)) (hS : SizeIs P E sz) (hx : evF F x = some (.slice (some ⟨b, o, none⟩) n c)) (hi : evF F y = some (.int .i64 (k : Int))) (hk : k < n) : QP P B N V L ⟨d, .indexAddr T x y, ty, pos, af, gd⟩ F (.pointer (some ⟨b, o + k * sz, none⟩)) := q_of fun ac w ha hs => by
  have h1 : ¬ n ≤ k := by omega
  simp [execOp, ha.ev hx, ha.ev hi, Instr.indexAt, asIntOf, hu.h, hS.h, hk, h1, add_none]
theorem q_indexAddr_i {E sz b o n c : Nat} {i : Int} (hu : UnderIs P T (.slice E)) (hS : SizeIs P E sz) (hx : evF F x = some (.slice (some ⟨b, o, none⟩) n c)) (hi : evF F y = some (.int .i64 i)) (hk : 0 ≤ i ∧ i < n) : QP P B N V L ⟨d, .indexAddr T x y, ty, pos, af, gd⟩ F (.pointer (some ⟨b, o + i.toNat * sz, none⟩)) := q_of fun ac w ha hs => by
  simp [execOp, ha.ev hx, ha.ev hi, Instr.indexAt, asIntOf, hu.h, hS.h, hk.1, hk.2, add_none]
theorem q_len {A : Option Addr} {n c E : Nat} {cl : Call} (hc : cl = ⟨.builtin .len, #[x], #[T]⟩) (hu : UnderIs P T (.slice E)) (hx : evF F x = some (.slice A n c)) : QP P B N V L ⟨d, .call cl, ty, pos, af, gd⟩ F (.int .i64 n) := q_of fun ac w ha _ => by
  subst hc
  simp [execOp, ha.ev hx, resolve, invoke, builtin, Builtin.len_, hu.h, goInt]

/-! ### Boxes of the call's own -/
variable {ops : Array Oper} {rest : List Oper} {k : List Cont}
theorem wp_value {o : Oper} {a : Act} {K : Act → World → Prop} {w w' : World} {v : Value} (h : (execOp a.eval o).run P w = .ok (.value v) w') (hK : K (a.put o.dst v) w') : o.wp P a w K Q := by
  unfold Oper.wp; rw [h]; exact hK
theorem wp_skip' {o : Oper} {a : Act} {K : Act → World → Prop} {w w' : World} (h : (execOp a.eval o).run P w = .ok .skip w') (hK : K (a.put o.dst undef) w') : o.wp P a w K Q := by
  unfold Oper.wp; rw [h]; exact hK
theorem run_newVar (w : World) (v : Value) : (newVar T v).run P w = .ok ⟨w.heap.size, 0, none⟩ (w.alloc (.cells v.cells T)) := rfl
theorem gw_alloc {dr : Mode} (hdr : dr.loud = true) {zs : List Value} (hz' : ZeroIs P T zs) (hd : okD N d = true) (h : ∀ g, GoL P B N dr ops Q k rest (putF F d (.pointer (some ⟨g, 0, none⟩))) V (⟨g, T, zs⟩ :: L)) : GoW P B N dr ops Q k ⟨d, .alloc T, ty, pos, af, gd⟩ rest F V L := gw_loud hdr fun a w ha hs => by
  obtain ⟨z, hz, hzs⟩ := hz'.h
  refine wp_value (w' := w.alloc (.cells zs.toArray T)) (v := .pointer (some ⟨w.heap.size, 0, none⟩)) ?_ (gl_loud hdr (h w.heap.size) _ _ (ha.put hd _) (hs.alloc T zs))
  simp [execOp, Instr.alloc, hz, run_newVar, hzs]
theorem gw_box {dr : Mode} (hdr : dr.loud = true) {v : Value} {cs : List Value} (hx : evF F x = some v) (hcs : v.cells = cs.toArray) (hd : okD N d = true) (h : ∀ g, GoL P B N dr ops Q k rest (putF F d (.pointer (some ⟨g, 0, none⟩))) V (⟨g, T, cs⟩ :: L)) : GoW P B N dr ops Q k ⟨d, .box T x, ty, pos, af, gd⟩ rest F V L := gw_loud hdr fun a w ha hs => by
  refine wp_value (w' := w.alloc (.cells cs.toArray T)) (v := .pointer (some ⟨w.heap.size, 0, none⟩)) ?_ (gl_loud hdr (h w.heap.size) _ _ (ha.put hd _) (hs.alloc T cs))
  simp [execOp, Instr.box, ha.ev hx, run_newVar, hcs]
theorem gw_store {dr : Mode} (hdr : dr.loud = true) {v : Value} {n g i : Nat} {vs : List Value} {L' : List Box} (hS : SizeIs P T n) (hx : evF F x = some (.pointer (some ⟨g, i, none⟩))) (hy : evF F y = some v) (hcs : v.cells = vs.toArray) (hn : n = vs.length) (h1 : ∀ u ∈ vs, isOne u = true) (hp : PutAt L g i vs L') (hd : okD N d = true)
    (h : GoL P B N dr ops Q k rest (putF F d undef) V L') : GoW P B N dr ops Q k ⟨d, .store T x y, ty, pos, af, gd⟩ rest F V L := gw_loud hdr fun a w ha hs => by
  obtain ⟨w', hr, hs'⟩ := run_storeCells (P := P) vs (k := 0) hs hp h1
  refine wp_skip' (w' := w') ?_ (gl_loud hdr h _ _ (ha.put hd _) hs')
  subst hn
  simp [execOp, ha.ev hx, ha.ev hy, Instr.storeAt, Instr.sureAddr, storeVar, hS.h, hcs, hr]

/-! ### Calls -/
def evL (F : List (Nat × Value)) : List Operand → Option (List Value)
  | [] => some []
  | x :: l => match evF F x, evL F l with
    | some v, some vs => some (v :: vs)
    | _, _ => none
theorem Kn.evL {a : Act} (ha : Kn N F a) : ∀ {l : List Operand} {vs : List Value}, evL F l = some vs → l.map a.eval = vs
  | [], vs, h => by simpa [Proofs.Ytejkmomfpidnbab.evL] using h
  | x :: l, vs, h => by
    rw [Proofs.Ytejkmomfpidnbab.evL] at h
    cases h1 : evF F x with
    | none => rw [h1] at h; cases h
    | some v =>
      cases h2 : Proofs.Ytejkmomfpidnbab.evL F l with
      | none => rw [h1, h2] at h; cases h
      | some us =>
        rw [h1, h2] at h
        simp only [Option.some.injEq] at h
        rw [List.map_cons, ha.ev h1, ha.evL h2, h]
theorem exec_call {f : FuncId} {args : List Operand} {ats : Array TypeId} {vs : List Value} {a : Act} {w : World} (he : Enters P f) (ha : Kn N F a) (hv : evL F args = some vs) :
    (execOp a.eval ⟨d, .call ⟨.value (.func f), args.toArray, ats⟩, ty, pos, af, gd⟩).run P w = .ok (.enter f vs.toArray) w := by
  have h := ha.evL hv
  simp [execOp, resolve, Deferred.ofValue, invoke, Act.eval, h, he.h vs.toArray w]
theorem St.call (hs : St B V L w) {w' : World} {V' : View} (hx : Ext w w') (h1 : VLe V V') (h2 : VIn V' w') (h3 : ∀ p x, V' p = some x → p.block < w.heap.size → V p = some x) : St B V' L w' := by
  refine ⟨Exc.via hs.ext hx, fun p x hp => ⟨h2 p x hp, fun b hb => ?_⟩, fun p x hp hb => hs.old p x (h3 p x hp (Nat.lt_of_lt_of_le hb hs.ext.sz)) hb, hs.v0.trans h1, fun b hb => ⟨(hx.block b.g (hs.lt hb)).trans (hs.own b hb).1, (hs.own b hb).2⟩, hs.nodup⟩
  rcases Nat.lt_or_ge p.block w.heap.size with h | h
  · exact (hs.view p x (h3 p x hp h)).2 b hb
  · have := hs.lt hb
    omega
theorem gw_call {dr : Mode} (hdr : dr.loud = true) {f : FuncId} {args : List Operand} {ats : Array TypeId} {vs : List Value} {R : Value → View → Prop} (he : Enters P f) (hv : evL F args = some vs) (hd : okD N d = true) (hc : Fn P f vs V R)
    (h : ∀ v V', VLe V V' → R v V' → GoL P B N dr ops Q k rest (putF F d v) V' L) : GoW P B N dr ops Q k ⟨d, .call ⟨.value (.func f), args.toArray, ats⟩, ty, pos, af, gd⟩ rest F V L := gw_loud hdr fun a w ha hs => by
  unfold Oper.wp
  rw [exec_call he ha hv]
  refine (hc w (fun p x hp => (hs.view p x hp).1)).mono fun e w' ⟨v, he', hx, V', h1, h2, h3, hR⟩ => ?_
  subst he'
  exact gl_loud hdr (h v V' h1 hR) _ _ (ha.put hd v) (hs.call hx h1 h2 h3)
theorem St.less (hs : St B V L w) {V' : View} (h : VLe V' V) (h0 : VLe B.v V') : St B V' L w := ⟨hs.ext, fun p x hp => hs.view p x (h p x hp), fun p x hp => hs.old p x (h p x hp), h0, hs.own, hs.nodup⟩
theorem q_call {f : FuncId} {args : List Operand} {ats : Array TypeId} {vs : List Value} {v : Value} (he : Enters P f) (hv : evL F args = some vs) (hc : Fn P f vs V fun u _ => u = v) : QO P B N V L ⟨d, .call ⟨.value (.func f), args.toArray, ats⟩, ty, pos, af, gd⟩ F v := fun a w ha hs => by
  unfold Oper.quietAt
  rw [exec_call he ha hv]
  refine ⟨rfl, (hc w (fun p x hp => (hs.view p x hp).1)).mono fun e w' ⟨u, he', hx, V', h1, h2, h3, hR⟩ => ?_⟩
  subst he' hR
  exact ⟨rfl, (hs.call hx h1 h2 h3).less h1 hs.v0⟩

/-! ### Results out of boxes -/
theorem rv_cellA {t g n : Nat} {cs : List Value} (hA : IsAg P T n) (hx : look F t = some (.pointer (some ⟨g, 0, none⟩))) (ho : OwnAt L g cs) (hn : n = cs.length) : RV P B N F V L (.cell t T) (.agg cs.toArray) := fun a w ha hs => by
  subst hn
  simp only []
  rw [ha.2.2 t _ hx, Sem.run_bind]
  show (loadVar T _).run P w = _
  exact run_load_cells (hA.h w) (hA.s w) (fun j v hj => by rw [Nat.zero_add, hs.cell ho]; exact hj)
end
end Go.Proofs.Ytejkmomfpidnbab

/- The engine's operations: literals, slices of slices. No program is named here. -/
namespace Go.Proofs.Ytejkmomfpidnbab
open Go.RowKit
set_option linter.unusedSimpArgs false
set_option linter.unusedVariables false

/-! ### Literals of structs and slices -/
def fillL (pl : Nat → Option (Nat × Nat)) : List Value → List (Nat × Value) → Option (List Value)
  | cs, [] => some cs
  | cs, (i, v) :: rest =>
    match pl i with
    | none => none
    | some (off, size) => bif Nat.beq v.cells.toList.length size && Nat.ble (off + size) cs.length then fillL pl (spl cs off v.cells.toList) rest else none
theorem fold_spl (off : Nat) : ∀ (vs : List Value) (k : Nat) (cs : List Value), (vs.zipIdx k).foldl (fun (c : Array Value) (p : Value × Nat) => c.setIfInBounds (off + p.2) p.1) cs.toArray = (spl cs (off + k) vs).toArray
  | [], k, cs => rfl
  | v :: vs, k, cs => by
    rw [List.zipIdx_cons, List.foldl_cons, spl]
    have := fold_spl off vs (k + 1) (cs.set (off + k) v)
    rw [show off + k + 1 = off + (k + 1) by omega, ← this]
    congr 1
    simp
theorem fill_fillL (pl : Nat → Option (Nat × Nat)) : ∀ (vs : List (Nat × Value)) (cs us : List Value), fillL pl cs vs = some us → Instr.fill pl cs.toArray vs = some us.toArray
  | [], cs, us, h => by simp [fillL] at h; simp [Instr.fill, h]
  | (i, v) :: rest, cs, us, h => by
    rw [fillL] at h
    rw [Instr.fill]
    cases hp : pl i with
    | none => rw [hp] at h; cases h
    | some p =>
      obtain ⟨off, size⟩ := p
      rw [hp] at h
      simp only [] at h ⊢
      cases hb : (Nat.beq v.cells.toList.length size && Nat.ble (off + size) cs.length) with
      | false => rw [hb] at h; cases h
      | true =>
        rw [hb] at h
        simp only [Bool.and_eq_true, cond_true] at hb h
        have h1 := Nat.eq_of_beq_eq_true hb.1
        have h2 := Nat.le_of_ble_eq_true hb.2
        rw [Array.length_toList] at h1
        rw [if_neg (by simp; omega)]
        have e : v.cells.zipIdx.foldl (fun (c : Array Value) (p : Value × Nat) => c.setIfInBounds (off + p.2) p.1) cs.toArray = (spl cs off v.cells.toList).toArray := by
          have := fold_spl off v.cells.toList 0 cs
          rw [Nat.add_zero] at this
          rw [← this, ← Array.foldl_toList]
          congr 1
          simp
        have e' : (v.cells.zipIdx.foldl (fun cs x => match x with | (c, j) => cs.setIfInBounds (off + j) c) cs.toArray) = (spl cs off v.cells.toList).toArray := e
        rw [e']
        exact fill_fillL pl rest _ us h
structure BuildIs (P : Program) (T : TypeId) (pl : List (Nat × Nat)) (zs : List Value) : Prop where
  h : (∃ fs, (∀ w, (underlying T).run P w = .ok (.struct fs) w) ∧ ∀ w, (fs.mapM fun f => do pure (f.offset, ← sizeOf f.type) : Sem _).run P w = .ok pl.toArray w) ∧ ∃ z, (∀ w, (zeroValue T).run P w = .ok z w) ∧ z.cells = zs.toArray
def evP (F : List (Nat × Value)) : List (Nat × Operand) → Option (List (Nat × Value))
  | [] => some []
  | (i, x) :: l => match evF F x, evP F l with
    | some v, some vs => some ((i, v) :: vs)
    | _, _ => none

section
variable {P : Program} {B : Base} {N : Nat} {Q : Exit → Act → World → Prop} {F : List (Nat × Value)} {V : View} {L : List Box}
variable {d : Option Tmp} {ty : TypeId} {pos : String} {af : Array Edge} {gd : Option (Nat × Bool)} {x y : Operand} {T : TypeId} {ops : Array Oper} {rest : List Oper} {k : List Cont}
theorem Kn.evP {a : Act} (ha : Kn N F a) : ∀ {l : List (Nat × Operand)} {vs : List (Nat × Value)}, evP F l = some vs → l.map (fun p => (p.1, a.eval p.2)) = vs
  | [], vs, h => by simpa [Proofs.Ytejkmomfpidnbab.evP] using h
  | (i, x) :: l, vs, h => by
    rw [Proofs.Ytejkmomfpidnbab.evP] at h
    cases h1 : evF F x with
    | none => rw [h1] at h; cases h
    | some v =>
      cases h2 : Proofs.Ytejkmomfpidnbab.evP F l with
      | none => rw [h1, h2] at h; cases h
      | some us =>
        rw [h1, h2] at h
        simp only [Option.some.injEq] at h
        rw [List.map_cons, ha.ev h1, ha.evP h2, h]
theorem run_build {pl : List (Nat × Nat)} {zs us : List Value} {vs : List (Nat × Value)} (hb : BuildIs P T pl zs) (hf : fillL (fun i => pl[i]?) zs vs = some us) (w : World) : (Instr.build T vs.toArray).run P w = .ok (.agg us.toArray) w := by
  obtain ⟨⟨fs, h1, h2⟩, z, h3, h4⟩ := hb.h
  have hfill := fill_fillL _ _ _ _ hf
  have hfill' : Instr.fill (fun i => pl.toArray[i]?) zs.toArray vs = some us.toArray := by simpa using hfill
  unfold Instr.build
  simp only [Sem.run_bind, h3, Result.andThen_ok, h1, h2, h4]
  rw [hfill']
  rfl
theorem q_build {pl : List (Nat × Nat)} {zs us : List Value} {ps : List (Nat × Operand)} {vs : List (Nat × Value)} (hb : BuildIs P T pl zs) (hp : evP F ps = some vs) (hf : fillL (fun i => pl[i]?) zs vs = some us) : QP P B N V L ⟨d, .build T ps.toArray, ty, pos, af, gd⟩ F (.agg us.toArray) := q_of fun a w ha hs => by
  have h := ha.evP hp
  have e : (ps.toArray.map fun (p : Nat × Operand) => (p.1, a.eval p.2)) = vs.toArray := by rw [← h]; simp
  have hr := run_build hb hf w
  rw [← e] at hr
  simp only [execOp]
  have e2 : (ps.toArray.map fun x => match x with | (i, x) => (i, a.eval x)) = (ps.toArray.map fun (p : Nat × Operand) => (p.1, a.eval p.2)) := rfl
  rw [e2, Sem.run_bind, hr]
  rfl
structure ZeroCells (P : Program) (T : TypeId) (z : Value) : Prop where
  h : ∀ w, (zeroValue T).run P w = .ok z w
def repL : Nat → List Value → List Value
  | 0, _ => []
  | n + 1, zc => zc ++ repL n zc
theorem repL_at (zc : List Value) : ∀ (n i : Nat), i < n * zc.length → (repL n zc)[i]? = zc[i % zc.length]?
  | 0, i, h => by simp at h
  | n + 1, i, h => by
    rw [repL]
    rcases Nat.lt_or_ge i zc.length with hi | hi
    · rw [List.getElem?_append_left hi, Nat.mod_eq_of_lt hi]
    · rw [List.getElem?_append_right hi, repL_at zc n (i - zc.length) (by rw [Nat.succ_mul] at h; omega), Nat.mod_eq_sub_mod hi]
theorem repL_len (zc : List Value) : ∀ n, (repL n zc).length = n * zc.length
  | 0 => by simp [repL]
  | n + 1 => by rw [repL, List.length_append, repL_len zc n, Nat.succ_mul]; omega
theorem rep_cells (zc : List Value) (n : Nat) : (Array.range (n * zc.length)).map (fun i => zc.toArray[i % zc.toArray.size]!) = (repL n zc).toArray := by
  apply Array.toList_inj.1
  apply List.ext_getElem?
  intro i
  rcases Nat.lt_or_ge i (n * zc.length) with h | h
  · have h0 : i % zc.length < zc.length := Nat.mod_lt _ (by
      rcases Nat.eq_zero_or_pos zc.length with h0 | h0
      · rw [h0] at h; simp at h
      · exact h0)
    have e := repL_at zc n i h
    rw [List.getElem?_eq_getElem h0] at e
    simp [h, h0, e]
  · rw [List.getElem?_eq_none (by simpa using h), List.getElem?_eq_none (by simpa [repL_len] using h)]
theorem gw_buildSlice {dr : Mode} (hdr : dr.loud = true) {E sz len : Nat} {z : Value} {zs us : List Value} {ps : List (Nat × Operand)} {vs : List (Nat × Value)} (hu : UnderIs P T (.slice E)) (hS : SizeIs P E sz) (hz' : ZeroCells P E z)
    {zc : List Value} (hzc : z.cells = zc.toArray) (hzl : sz = zc.length) (hzs : repL len zc = zs) (hp : evP F ps = some vs) (hf : fillL (fun i => some (i * sz, sz)) zs vs = some us) (hlen : (Nat.ble (len * sz) 16777216 && !Nat.beq (len * sz) 0) = true) (hd : okD N d = true)
    (h : ∀ g, GoL P B N dr ops Q k rest (putF F d (.slice (some ⟨g, 0, none⟩) len len)) V (⟨g, E, us⟩ :: L)) : GoW P B N dr ops Q k ⟨d, .buildSlice T len ps.toArray, ty, pos, af, gd⟩ rest F V L := gw_loud hdr fun a w ha hs => by
  refine wp_value (w' := w.alloc (.cells us.toArray E)) (v := .slice (some ⟨w.heap.size, 0, none⟩) len len) ?_ (gl_loud hdr (h w.heap.size) _ _ (ha.put hd _) (hs.alloc E us))
  have hh := ha.evP hp
  have e : (ps.toArray.map fun x => match x with | (i, x) => (i, a.eval x)) = vs.toArray := by rw [← hh]; simp
  have hz := hz'.h
  simp only [Bool.and_eq_true, Bool.not_eq_true'] at hlen
  have h1 := Nat.le_of_ble_eq_true hlen.1
  have h2 : len * sz ≠ 0 := fun e => by rw [e] at hlen; simp at hlen
  have hfill := fill_fillL _ _ _ _ hf
  simp only [execOp]
  rw [e]
  unfold Instr.buildSlice
  have e3 : ¬ (2 ^ 24 < len * sz) := by omega
  have h3 : len ≠ 0 ∧ sz ≠ 0 := ⟨fun e => h2 (by simp [e]), fun e => h2 (by simp [e])⟩
  have hrep : (Array.range (len * sz)).map (fun i => z.cells[i % z.cells.size]!) = zs.toArray := by rw [hzc, hzl, rep_cells, hzs]
  simp [hu.h, hS.h, hz, e3, h3.1, h3.2, hrep, hfill]
  rw [if_neg h2]
  rfl

/-! ### Slices of slices -/
/-- Where x[l:] begins. -/
def cutA (A : Option Addr) (c l sz : Nat) : Option Addr := if c = l then A else A.map (·.add (l * sz))
theorem q_slice_n {E sz n c h : Nat} {A : Option Addr} {hi : Operand} (hu : UnderIs P T (.slice E)) (hS : SizeIs P E sz) (hx : evF F x = some (.slice A n c)) (hh : evF F hi = some (.int .i64 (h : Int))) (h2 : h ≤ c) : QP P B N V L ⟨d, .slice T x none (some hi) none, ty, pos, af, gd⟩ F (.slice A h c) := q_of fun ac w ha hs => by
  have e : ∀ A : Option Addr, A.map (·.add 0) = A := fun A => by cases A <;> simp [Addr.add]
  simp [execOp, ha.ev hx, ha.ev hh, Instr.sliceAt, Instr.slice, Instr.sliceBounds, hu.h, hS.h, run_sliceBound w h2, e]
theorem q_slice_l {E sz n c l : Nat} {A : Option Addr} {lo : Operand} (hu : UnderIs P T (.slice E)) (hS : SizeIs P E sz) (hx : evF F x = some (.slice A n c)) (hl : evF F lo = some (.int .i64 (l : Int))) (h2 : l ≤ n) : QP P B N V L ⟨d, .slice T x (some lo) none none, ty, pos, af, gd⟩ F (.slice (cutA A c l sz) (n - l) (c - l)) := q_of fun ac w ha hs => by
  simp [execOp, ha.ev hx, ha.ev hl, Instr.sliceAt, Instr.slice, Instr.sliceBounds, hu.h, hS.h, run_sliceBound w h2, cutA]
theorem q_slice {E sz n c l h : Nat} {A : Option Addr} {lo hi : Operand} (hu : UnderIs P T (.slice E)) (hS : SizeIs P E sz) (hx : evF F x = some (.slice A n c)) (hl : evF F lo = some (.int .i64 (l : Int))) (hh : evF F hi = some (.int .i64 (h : Int))) (h1 : l ≤ h) (h2 : h ≤ c) : QP P B N V L ⟨d, .slice T x (some lo) (some hi) none, ty, pos, af, gd⟩ F (.slice (cutA A c l sz) (h - l) (c - l)) := q_of fun ac w ha hs => by
  simp [execOp, ha.ev hx, ha.ev hl, ha.ev hh, Instr.sliceAt, Instr.slice, Instr.sliceBounds, hu.h, hS.h, run_sliceBound w h1, run_sliceBound w h2, cutA]

/-! ### A box that is not written any more joins the view -/
def boxedV (V : View) (w : World) (g : Nat) : View := fun p => if p.block = g then w.cell? p else V p
theorem boxedV_in {V : View} {w : World} {g : Nat} {p : Addr} (h : p.block = g) : boxedV V w g p = w.cell? p := if_pos h
theorem boxedV_out {V : View} {w : World} {g : Nat} {p : Addr} (h : p.block ≠ g) : boxedV V w g p = V p := if_neg h
inductive Drop1 : List Box → Nat → List Value → List Box → Prop
  | here (g : Nat) (t : TypeId) (cs : List Value) (L : List Box) : Drop1 (⟨g, t, cs⟩ :: L) g cs L
  | next (b : Box) (L : List Box) (g : Nat) (cs : List Value) (L' : List Box) (h : Drop1 L g cs L') : Drop1 (b :: L) g cs (b :: L')
theorem Drop1.mem {L L' : List Box} {g : Nat} {cs : List Value} (h : Drop1 L g cs L') : (∃ t : TypeId, ⟨g, t, cs⟩ ∈ L) ∧ (∀ b ∈ L', b ∈ L) ∧ ((L.map Box.g).Nodup → (L'.map Box.g).Nodup ∧ ∀ b ∈ L', b.g ≠ g) := by
  induction h with
  | here g t cs L =>
    refine ⟨⟨t, by simp⟩, fun b hb => by simp [hb], fun hn => ?_⟩
    rw [List.map_cons, List.nodup_cons] at hn
    exact ⟨hn.2, fun b hb e => hn.1 (List.mem_map.2 ⟨b, hb, e⟩)⟩
  | next b L g cs L' h ih =>
    obtain ⟨⟨t, h1⟩, h2, h3⟩ := ih
    refine ⟨⟨t, by simp [h1]⟩, fun c hc => ?_, fun hn => ?_⟩
    · rcases List.mem_cons.1 hc with rfl | hc
      · simp
      · simp [h2 c hc]
    · rw [List.map_cons, List.nodup_cons] at hn
      obtain ⟨h4, h5⟩ := h3 hn.2
      refine ⟨?_, fun c hc => ?_⟩
      · rw [List.map_cons, List.nodup_cons]
        exact ⟨fun hm => by obtain ⟨c, hc, e⟩ := List.mem_map.1 hm; exact hn.1 (List.mem_map.2 ⟨c, h2 c hc, e⟩), h4⟩
      · rcases List.mem_cons.1 hc with rfl | hc
        · exact fun e => hn.1 (e ▸ List.mem_map_of_mem (f := Box.g) h1)
        · exact h5 c hc
theorem St.retire {w : World} (hs : St B V L w) {L' : List Box} {g : Nat} {cs : List Value} (h : Drop1 L g cs L') (hfl : ∀ x ∈ B.fl, ∃ cs, OwnAt L' x cs) : ∃ V', VLe V V' ∧ CellsFrom V' g 0 cs ∧ St B V' L' w := by
  obtain ⟨⟨t, hm⟩, h2, h3⟩ := h.mem
  obtain ⟨h4, h5⟩ := h3 hs.nodup
  have ho := hs.own _ hm
  have hne : ∀ p x, V p = some x → p.block ≠ g := fun p x hp e => (hs.view p x hp).2 _ hm e.symm
  refine ⟨boxedV V w g, fun p x hp => ?_, fun j v hj => ?_, ⟨hs.ext, fun p x hp => ?_, fun p x hp hb => ?_, fun p x hp => ?_, fun b hb => hs.own b (h2 b hb), h4⟩⟩
  · rw [boxedV_out (hne p x hp)]; exact hp
  · rw [boxedV_in (g := g) (p := ⟨g, 0 + j, none⟩) rfl, Nat.zero_add, hs.cell ⟨t, hm⟩]; exact hj
  · by_cases e : p.block = g
    · rw [boxedV_in e] at hp
      exact ⟨hp, fun b hb => by rw [e]; exact h5 b hb⟩
    · rw [boxedV_out e] at hp
      exact ⟨(hs.view p x hp).1, fun b hb => (hs.view p x hp).2 b (h2 b hb)⟩
  · by_cases e : p.block = g
    · rcases ho.2 with h6 | h6
      · simp only [] at h6
        omega
      · obtain ⟨cs', t', hm'⟩ := hfl _ h6
        exact absurd rfl (h5 _ hm')
    · rw [boxedV_out e] at hp
      exact hs.old p x hp hb
  · rw [boxedV_out (hne p x (hs.v0 p x hp))]; exact hs.v0 p x hp
theorem gc_retire {L' : List Box} {g : Nat} {cs : List Value} (hd : Drop1 L g cs L') {c : Code} (h : ∀ V', VLe V V' → CellsFrom V' g 0 cs → GoC P B N c Q k F V' L') (hfl : ∀ x ∈ B.fl, ∃ cs, OwnAt L' x cs := by simp) : GoC P B N c Q k F V L := fun a w ha hs => by
  obtain ⟨V', h1, h2, h3⟩ := hs.retire hd hfl
  exact h V' h1 h2 a w ha h3
end

/-! ### What kind of goal, of operation it is: for a walk that looks before it tries -/
section
variable {P : Program} {B : Base} {N : Nat} {Q : Exit → Act → World → Prop} {k : List Cont} {F : List (Nat × Value)} {V : View} {L : List Box} {dr : Mode} {ops : Array Oper} {o : Oper} {rest : List Oper} {c : Code} {e : Exit} {d : Option Tmp} {ty : TypeId} {pos : String} {af : Array Edge} {gd : Option (Nat × Bool)}
theorem k_gw (h : GoW P B N dr ops Q k o rest F V L) : GoW P B N dr ops Q k o rest F V L := h
theorem k_gl (h : GoL P B N dr ops Q k rest F V L) : GoL P B N dr ops Q k rest F V L := h
theorem k_gc (h : GoC P B N c Q k F V L) : GoC P B N c Q k F V L := h
theorem k_at (h : AtQ P B N Q k e F V L) : AtQ P B N Q k e F V L := h
theorem k_move {x : Operand} (h : GoW P B N dr ops Q k ⟨d, .move x, ty, pos, af, gd⟩ rest F V L) : GoW P B N dr ops Q k ⟨d, .move x, ty, pos, af, gd⟩ rest F V L := h
theorem k_assign {x : Operand} (h : GoW P B N dr ops Q k ⟨d, .assign x, ty, pos, af, gd⟩ rest F V L) : GoW P B N dr ops Q k ⟨d, .assign x, ty, pos, af, gd⟩ rest F V L := h
theorem k_pick {x y z : Operand} (h : GoW P B N dr ops Q k ⟨d, .pick x y z, ty, pos, af, gd⟩ rest F V L) : GoW P B N dr ops Q k ⟨d, .pick x y z, ty, pos, af, gd⟩ rest F V L := h
theorem k_alloc {T : TypeId} (h : GoW P B N dr ops Q k ⟨d, .alloc T, ty, pos, af, gd⟩ rest F V L) : GoW P B N dr ops Q k ⟨d, .alloc T, ty, pos, af, gd⟩ rest F V L := h
theorem k_box {T : TypeId} {x : Operand} (h : GoW P B N dr ops Q k ⟨d, .box T x, ty, pos, af, gd⟩ rest F V L) : GoW P B N dr ops Q k ⟨d, .box T x, ty, pos, af, gd⟩ rest F V L := h
theorem k_build {T : TypeId} {ps : Array (Nat × Operand)} (h : GoW P B N dr ops Q k ⟨d, .build T ps, ty, pos, af, gd⟩ rest F V L) : GoW P B N dr ops Q k ⟨d, .build T ps, ty, pos, af, gd⟩ rest F V L := h
theorem k_buildSlice {T n : Nat} {ps : Array (Nat × Operand)} (h : GoW P B N dr ops Q k ⟨d, .buildSlice T n ps, ty, pos, af, gd⟩ rest F V L) : GoW P B N dr ops Q k ⟨d, .buildSlice T n ps, ty, pos, af, gd⟩ rest F V L := h
theorem k_load {T : TypeId} {x : Operand} (h : GoW P B N dr ops Q k ⟨d, .load T x, ty, pos, af, gd⟩ rest F V L) : GoW P B N dr ops Q k ⟨d, .load T x, ty, pos, af, gd⟩ rest F V L := h
theorem k_store {T : TypeId} {x y : Operand} (h : GoW P B N dr ops Q k ⟨d, .store T x y, ty, pos, af, gd⟩ rest F V L) : GoW P B N dr ops Q k ⟨d, .store T x y, ty, pos, af, gd⟩ rest F V L := h
theorem k_nilCheck {x : Operand} (h : GoW P B N dr ops Q k ⟨d, .nilCheck x, ty, pos, af, gd⟩ rest F V L) : GoW P B N dr ops Q k ⟨d, .nilCheck x, ty, pos, af, gd⟩ rest F V L := h
theorem k_binOp {b : BinOp} {T T2 : TypeId} {x y : Operand} (h : GoW P B N dr ops Q k ⟨d, .binOp b T x y T2, ty, pos, af, gd⟩ rest F V L) : GoW P B N dr ops Q k ⟨d, .binOp b T x y T2, ty, pos, af, gd⟩ rest F V L := h
theorem k_unOp {u : UnOp} {T : TypeId} {x : Operand} (h : GoW P B N dr ops Q k ⟨d, .unOp u T x, ty, pos, af, gd⟩ rest F V L) : GoW P B N dr ops Q k ⟨d, .unOp u T x, ty, pos, af, gd⟩ rest F V L := h
theorem k_convert {T T2 : TypeId} {x : Operand} (h : GoW P B N dr ops Q k ⟨d, .convert T T2 x, ty, pos, af, gd⟩ rest F V L) : GoW P B N dr ops Q k ⟨d, .convert T T2 x, ty, pos, af, gd⟩ rest F V L := h
theorem k_makeInterface {T : TypeId} {x : Operand} (h : GoW P B N dr ops Q k ⟨d, .makeInterface T x, ty, pos, af, gd⟩ rest F V L) : GoW P B N dr ops Q k ⟨d, .makeInterface T x, ty, pos, af, gd⟩ rest F V L := h
theorem k_makeFunc {f : Go.Fn} {x y : Array Operand} (h : GoW P B N dr ops Q k ⟨d, .makeFunc f x y, ty, pos, af, gd⟩ rest F V L) : GoW P B N dr ops Q k ⟨d, .makeFunc f x y, ty, pos, af, gd⟩ rest F V L := h
theorem k_makeMap {T : TypeId} {x : Option Operand} (h : GoW P B N dr ops Q k ⟨d, .makeMap T x, ty, pos, af, gd⟩ rest F V L) : GoW P B N dr ops Q k ⟨d, .makeMap T x, ty, pos, af, gd⟩ rest F V L := h
theorem k_makeSlice {T : TypeId} {x y : Operand} (h : GoW P B N dr ops Q k ⟨d, .makeSlice T x y, ty, pos, af, gd⟩ rest F V L) : GoW P B N dr ops Q k ⟨d, .makeSlice T x y, ty, pos, af, gd⟩ rest F V L := h
theorem k_slice {T : TypeId} {x : Operand} {l u m : Option Operand} (h : GoW P B N dr ops Q k ⟨d, .slice T x l u m, ty, pos, af, gd⟩ rest F V L) : GoW P B N dr ops Q k ⟨d, .slice T x l u m, ty, pos, af, gd⟩ rest F V L := h
theorem k_fieldAddr {T : TypeId} {x : Operand} {n : Nat} (h : GoW P B N dr ops Q k ⟨d, .fieldAddr T x n, ty, pos, af, gd⟩ rest F V L) : GoW P B N dr ops Q k ⟨d, .fieldAddr T x n, ty, pos, af, gd⟩ rest F V L := h
theorem k_indexAddr {T : TypeId} {x y : Operand} (h : GoW P B N dr ops Q k ⟨d, .indexAddr T x y, ty, pos, af, gd⟩ rest F V L) : GoW P B N dr ops Q k ⟨d, .indexAddr T x y, ty, pos, af, gd⟩ rest F V L := h
theorem k_index {T : TypeId} {x y : Operand} (h : GoW P B N dr ops Q k ⟨d, .index T x y, ty, pos, af, gd⟩ rest F V L) : GoW P B N dr ops Q k ⟨d, .index T x y, ty, pos, af, gd⟩ rest F V L := h
theorem k_lookup {T : TypeId} {x y : Operand} {b : Bool} (h : GoW P B N dr ops Q k ⟨d, .lookup T x y b, ty, pos, af, gd⟩ rest F V L) : GoW P B N dr ops Q k ⟨d, .lookup T x y b, ty, pos, af, gd⟩ rest F V L := h
theorem k_mapUpdate {T : TypeId} {x y z : Operand} (h : GoW P B N dr ops Q k ⟨d, .mapUpdate T x y z, ty, pos, af, gd⟩ rest F V L) : GoW P B N dr ops Q k ⟨d, .mapUpdate T x y z, ty, pos, af, gd⟩ rest F V L := h
theorem k_extract {x : Operand} {n : Nat} (h : GoW P B N dr ops Q k ⟨d, .extract x n, ty, pos, af, gd⟩ rest F V L) : GoW P B N dr ops Q k ⟨d, .extract x n, ty, pos, af, gd⟩ rest F V L := h
theorem k_call {c : Call} (h : GoW P B N dr ops Q k ⟨d, .call c, ty, pos, af, gd⟩ rest F V L) : GoW P B N dr ops Q k ⟨d, .call c, ty, pos, af, gd⟩ rest F V L := h
end
end Go.Proofs.Ytejkmomfpidnbab

/- What a view knows of slices. No program is named here. -/
namespace Go.Proofs.Ytejkmomfpidnbab
open Go.RowKit
set_option linter.unusedSimpArgs false
set_option linter.unusedVariables false

/-- The cells of a slice of n elements, sz cells each, are the list cs. -/
def CellsV (V : View) (sz : Nat) (A : Option Addr) (n : Nat) (cs : List Value) : Prop :=
  cs.length = n * sz ∧ (0 < n → ∃ b off, A = some ⟨b, off, none⟩ ∧ CellsFrom V b off cs)
theorem CellsV.le {V V' : View} {sz n : Nat} {A : Option Addr} {cs : List Value} (h : CellsV V sz A n cs) (hv : VLe V V') : CellsV V' sz A n cs :=
  ⟨h.1, fun hn => let ⟨b, off, ha, hc⟩ := h.2 hn; ⟨b, off, ha, hc.le hv⟩⟩
theorem CellsV.nil {V : View} {sz : Nat} {A : Option Addr} : CellsV V sz A 0 [] := ⟨by simp, fun h => absurd h (by omega)⟩

/-- A slice of ints. -/
def IntsV (V : View) (A : Option Addr) (n : Nat) (xs : List Int) : Prop := xs.length = n ∧ n ≤ maxLen ∧ CellsV V 1 A n (xs.map (.int .i64))
theorem IntsV.le {V V' : View} {n : Nat} {A : Option Addr} {xs : List Int} (h : IntsV V A n xs) (hv : VLe V V') : IntsV V' A n xs := ⟨h.1, h.2.1, h.2.2.le hv⟩
theorem IntsV.nil {V : View} {A : Option Addr} : IntsV V A 0 [] := ⟨rfl, Nat.zero_le _, CellsV.nil⟩
theorem IntsV.max {V : View} {n : Nat} {A : Option Addr} {xs : List Int} (h : IntsV V A n xs) : n ≤ 9223372036854775807 := by
  have := h.2.1; unfold maxLen at this; omega
/-- What a round that reads element k is told. -/
theorem IntsV.at_ {V : View} {n k : Nat} {A : Option Addr} {xs : List Int} (h : IntsV V A n xs) (hk : k < n) : ∃ b off z, A = some ⟨b, off, none⟩ ∧ xs[k]? = some z ∧ V ⟨b, off + k * 1, none⟩ = some (.int .i64 z) := by
  obtain ⟨h1, _, _, h3⟩ := h
  obtain ⟨b, off, ha, hc⟩ := h3 (by omega)
  have hx : xs[k]? = some (xs[k]'(by omega)) := List.getElem?_eq_getElem (by omega)
  exact ⟨b, off, _, ha, hx, by rw [Nat.mul_one]; exact hc k _ (by rw [List.getElem?_map, hx]; rfl)⟩
end Go.Proofs.Ytejkmomfpidnbab

/- Memory that a call makes: slices that are appended to. No program is named here. -/
namespace Go.Proofs.Ytejkmomfpidnbab
open Go.RowKit
set_option linter.unusedVariables false

theorem addr_add (b off k : Nat) : (⟨b, off, none⟩ : Addr).add k = ⟨b, off + k, none⟩ := by unfold Addr.add; split <;> simp_all

/-- The cells of a slice value of n elements of a size are the list cs; nothing is said of the address where there is no element. -/
def CellsAt (w : World) (size : Nat) (A : Option Addr) (n : Nat) (cs : List Value) : Prop :=
  cs.length = n * size ∧ (0 < n → ∃ b off, A = some ⟨b, off, none⟩ ∧ ∀ j u, cs[j]? = some u → w.cell? ⟨b, off + j, none⟩ = some u)

theorem IntsAt.cells {w : World} {A : Option Addr} {n : Nat} {xs : List Int} (h : IntsAt w A n xs) : CellsAt w 1 A n (xs.map (.int .i64)) := by
  obtain ⟨hl, hm, hc⟩ := h
  refine ⟨by simp [hl], fun hn => ?_⟩
  obtain ⟨b, off, ha, hz⟩ := hc hn
  refine ⟨b, off, ha, fun j u hu => ?_⟩
  rw [List.getElem?_map] at hu
  cases hx : xs[j]? with
  | none => rw [hx] at hu; cases hu
  | some z => rw [hx] at hu; cases hu; exact hz j z hx
theorem CellsAt.ext {w w' : World} {size n : Nat} {A : Option Addr} {cs : List Value} (h : CellsAt w size A n cs) (hx : Ext w w') : CellsAt w' size A n cs :=
  ⟨h.1, fun hn => by
    obtain ⟨b, off, ha, hc⟩ := h.2 hn
    exact ⟨b, off, ha, fun j u hu => hx.kept (hc j u hu)⟩⟩
theorem CellsAt.of_own {w : World} {base : Nat} {e : TypeId} {size n : Nat} {A : Option Addr} {c : Nat} {cs : List Value} (h : w.ownsRow base e size (.slice A n c) n cs) : CellsAt w size A n cs := by
  refine ⟨h.1, fun hn => ?_⟩
  obtain ⟨g, cap, hv, _, _⟩ := h.form hn
  injection hv with hA
  subst hA
  refine ⟨g, 0, rfl, fun j u hu => ?_⟩
  have := h.cells (g := g) rfl j u hu
  rwa [addr_add] at this
theorem IntsAt.of_cells {w : World} {A : Option Addr} {n : Nat} {xs : List Int} (h : CellsAt w 1 A n (xs.map (.int .i64))) (hm : n ≤ maxLen) : IntsAt w A n xs := by
  refine ⟨by simpa using h.1, hm, fun hn => ?_⟩
  obtain ⟨b, off, ha, hc⟩ := h.2 hn
  exact ⟨b, off, ha, fun j z hz => hc j _ (by rw [List.getElem?_map, hz]; rfl)⟩
section
variable {P : Program} (w : World)
theorem run_append_nil (base : Nat) (t ty e : TypeId) (i : TypeInfo) (size : Nat) (ht : P.underlying t = some (.slice e)) (hi : P.info? e = some i)
    (v : Value) (n : Nat) (cs : List Value) (hown : w.ownsRow base e size v n cs) (c : Nat) : (Builtin.append_ #[t, t] ty #[v, .slice none 0 c]).run P w = .ok v w := by
  rcases hown.2 with ⟨rfl, rfl⟩ | ⟨g, cap, cur, rfl, _, _, hnc, _⟩
  · simp [Builtin.append_, run_underlying ht, sizeOf, typeInfo, hi, Builtin.lenOf, Builtin.firstCells]
  · simp [Builtin.append_, run_underlying ht, sizeOf, typeInfo, hi, Builtin.lenOf, Builtin.firstCells, hnc, storeCells]

/-- 'append(v, src...)', v a row of the call's own, src whatever reads as cells. -/
theorem run_append_cells (base : Nat) (t ty e : TypeId) (i : TypeInfo) (z : Value) (size bytes : Nat) (ht : P.underlying t = some (.slice e)) (hi : P.info? e = some i) (hz : i.zero = some z)
    (hsize : i.size = size) (hby : i.bytes = bytes) (hzs : z.cells.size = size) (hsz : 0 < size)
    (v : Value) (n : Nat) (xs : List Value) (hown : w.ownsRow base e size v n xs)
    (A : Option Addr) (m c : Nat) (news : List Value) (hr : CellsAt w size A m news) (h1 : ∀ u ∈ news, u.oneCell' = true)
    (h63 : n + m ≤ maxLen) (hbytes : (n + m) * bytes ≤ 140737488355328) (hbase : base ≤ w.heap.size) :
    ∃ v' w', (Builtin.append_ #[t, t] ty #[v, .slice A m c]).run P w = .ok v' w' ∧ w'.ownsRow base e size v' (n + m) (xs ++ news) ∧ w.grownBy w' v.ownBlock ∧ (v'.ownBlock = v.ownBlock ∨ v'.ownBlock = some w.heap.size) := by
  rcases A with _ | ad
  · have hm : m = 0 := by
      rcases Nat.eq_zero_or_pos m with h0 | h0
      · exact h0
      · obtain ⟨_, _, h, _⟩ := hr.2 h0; cases h
    subst hm
    have hn : news = [] := List.eq_nil_of_length_eq_zero (by simpa using hr.1)
    subst hn
    exact ⟨v, w, run_append_nil w base t ty e i size ht hi v n xs hown c, by simpa using hown, World.grownBy.refl w _, .inl rfl⟩
  · have hcells : ∀ j u, news[j]? = some u → w.cell? (ad.add j) = some u := by
      intro j u hu
      rcases Nat.eq_zero_or_pos m with h0 | h0
      · have hn : news = [] := List.eq_nil_of_length_eq_zero (by simpa [h0] using hr.1)
        rw [hn] at hu; simp at hu
      · obtain ⟨b, off, h, hc⟩ := hr.2 h0
        injection h with h
        subst h
        rw [addr_add]
        exact hc j u hu
    obtain ⟨v', w', hrun, h2, h3, _, h5⟩ := run_append_own_at (P := P) w base t ty e i z size bytes ht hi hz hsize hby hzs hsz v n xs hown ad m c news hr.1 hcells h1 h63 hbytes hbase
    exact ⟨v', w', hrun, h2, h3, h5⟩

end
/-- What grew on a row of the call's own leaves all below as it was. -/
theorem Ext.grown {w x y : World} {row : Option Nat} (h : Ext w x) (hg : x.grownBy y row) (hr : ∀ k, row = some k → w.heap.size ≤ k) : Ext w y := Below.grown h hg h.size hr
end Go.Proofs.Ytejkmomfpidnbab

/- The engine's append: rows of the call's own. No program is named here. -/
namespace Go.Proofs.Ytejkmomfpidnbab
open Go.RowKit
set_option linter.unusedSimpArgs false
set_option linter.unusedVariables false

/-- A slice of the call's own, n elements (the cells xs), its block (if there is one) among the boxes as L1. -/
def RowL (A : Option Addr) (n c : Nat) (E : TypeId) (sz : Nat) (xs : List Value) (L1 : List Box) : Prop :=
  xs.length = n * sz ∧ ((L1 = [] ∧ A = none ∧ n = 0 ∧ c = 0) ∨ ∃ g cs, A = some ⟨g, 0, none⟩ ∧ L1 = [⟨g, E, cs⟩] ∧ n ≤ c ∧ c ≤ maxLen ∧ cs.length = c * sz ∧ cs.take (n * sz) = xs)
theorem RowL.nil {E sz : Nat} : RowL none 0 0 E sz [] [] := ⟨by simp, .inl ⟨rfl, rfl, rfl, rfl⟩⟩
/-- L with L1 in it replaced. -/
structure Repl (L L1 : List Box) (f : List Box → List Box) : Prop where
  h : ∃ X Y, L = X ++ (L1 ++ Y) ∧ ∀ l, f l = X ++ (l ++ Y)
theorem repl_nil {L : List Box} : Repl L [] (fun l => l ++ L) := ⟨[], L, rfl, fun _ => rfl⟩
theorem repl_one {b : Box} {L : List Box} : Repl (b :: L) [b] (fun l => l ++ L) := ⟨[], L, rfl, fun _ => rfl⟩
theorem repl_here {L1 L : List Box} : Repl (L1 ++ L) L1 (fun l => l ++ L) := ⟨[], L, rfl, fun _ => rfl⟩
theorem repl_all {L1 : List Box} : Repl L1 L1 (fun l => l) := ⟨[], [], by simp, fun _ => by simp⟩
theorem repl_next {b : Box} {L L1 : List Box} {f : List Box → List Box} (h : Repl L L1 f) : Repl (b :: L) L1 (fun l => b :: f l) := by
  obtain ⟨X, Y, h1, h2⟩ := h.h
  exact ⟨b :: X, Y, by rw [h1]; rfl, fun l => by rw [h2]; rfl⟩
theorem repl_skip {M L L1 : List Box} {f : List Box → List Box} (h : Repl L L1 f) : Repl (M ++ L) L1 (fun l => M ++ f l) := by
  obtain ⟨X, Y, h1, h2⟩ := h.h
  exact ⟨M ++ X, Y, by rw [h1, List.append_assoc], fun l => by rw [h2, List.append_assoc]⟩

section
variable {P : Program} {B : Base} {N : Nat} {Q : Exit → Act → World → Prop} {k : List Cont} {F : List (Nat × Value)} {V : View} {L : List Box} {w : World}
variable {d : Nat} {ty : TypeId} {pos : String} {af : Array Edge} {gd : Option (Nat × Bool)} {x y : Operand} {T : TypeId} {ops : Array Oper} {rest : List Oper}
theorem RowL.owns {A : Option Addr} {n c E sz : Nat} {xs : List Value} {L1 : List Box} (h : RowL A n c E sz xs L1) (hs : St B V L w) (hm : ∀ b ∈ L1, b ∈ L) : w.ownsRow 0 E sz (.slice A n c) n xs := by
  obtain ⟨h1, h | h⟩ := h
  · obtain ⟨rfl, rfl, rfl, rfl⟩ := h
    exact ⟨h1, .inl ⟨rfl, rfl⟩⟩
  · obtain ⟨g, cs, rfl, rfl, h2, h3, h4, h5⟩ := h
    have ho := hs.own ⟨g, E, cs⟩ (hm _ (by simp))
    exact ⟨h1, .inr ⟨g, c, cs.toArray, rfl, Nat.zero_le _, ho.1, h2, h3, by simpa using h4, by simpa using h5⟩⟩
theorem isOne_cell {v : Value} (h : isOne v = true) : v.oneCell' = true := by cases v <;> simp_all [isOne, Value.oneCell']
/-- What a row becomes. -/
theorem St.grown {w' : World} {A : Option Addr} {n c n' E sz : Nat} {v' : Value} {xs xs' : List Value} {L1 X Y : List Box} (hs : St B V (X ++ (L1 ++ Y)) w) (h : RowL A n c E sz xs L1) (hg : w.grownBy w' (Value.slice A n c).ownBlock) (ho : w'.ownsRow 0 E sz v' n' xs')
    (hat : v'.ownBlock = (Value.slice A n c).ownBlock ∨ v'.ownBlock = some w.heap.size) : ∃ A' c' L1', v' = .slice A' n' c' ∧ RowL A' n' c' E sz xs' L1' ∧ St B V (X ++ (L1' ++ Y)) w' := by
  -- the row's block, if there is one, is in L1
  have hrow : ∀ g, (Value.slice A n c).ownBlock = some g → ∃ cs, L1 = [⟨g, E, cs⟩] := by
    intro g hgr
    rcases h.2 with ⟨_, rfl, _, _⟩ | ⟨g', cs, rfl, rfl, _⟩
    · simp [Value.ownBlock] at hgr
    · simp [Value.ownBlock] at hgr; subst hgr; exact ⟨cs, rfl⟩
  have hlow : ∀ g, (Value.slice A n c).ownBlock = some g → (B.w.heap.size ≤ g ∨ g ∈ B.fl) := by
    intro g hgr
    obtain ⟨cs, rfl⟩ := hrow g hgr
    exact (hs.own ⟨g, E, cs⟩ (by simp)).2
  have hnd := hs.nodup
  have hkeep : ∀ p x, V p = some x → w'.cell? p = some x := by
    intro p x hp
    obtain ⟨h1, h2⟩ := hs.view p x hp
    rw [World.cell?_of_block (hg.block p.block (World.block_lt_of_cell? w p h1) (fun e => ?_))]
    · exact h1
    · obtain ⟨cs, rfl⟩ := hrow p.block e.symm
      exact h2 ⟨p.block, E, cs⟩ (by simp) rfl
  have hother : ∀ b, b ∈ X ∨ b ∈ Y → w'.heap[b.g]? = some (b.t.obj b.cs) ∧ (B.w.heap.size ≤ b.g ∨ b.g ∈ B.fl) := by
    intro b hb
    have hbm : b ∈ X ++ (L1 ++ Y) := by rcases hb with hb | hb <;> simp [hb]
    have hob := hs.own b hbm
    refine ⟨?_, hob.2⟩
    rw [hg.block b.g (hs.lt hbm) (fun e => ?_)]
    · exact hob.1
    · obtain ⟨cs, rfl⟩ := hrow b.g e.symm
      simp only [List.map_append, List.map_cons, List.map_nil] at hnd
      rw [List.nodup_append] at hnd
      obtain ⟨_, h2, h3⟩ := hnd
      rcases hb with hb | hb
      · exact h3 b.g (List.mem_map_of_mem (f := Box.g) hb) b.g (by simp) rfl
      · simp only [List.cons_append, List.nil_append, List.nodup_cons] at h2
        exact h2.1 (List.mem_map_of_mem (f := Box.g) hb)
  have hext : Exc B.fl B.w w' := Exc.grown hs.ext hg hlow
  have hndXY : ((X ++ Y).map Box.g).Nodup := List.Nodup.sublist (List.Sublist.map _ (List.Sublist.append (List.Sublist.refl X) (List.sublist_append_right L1 Y))) hnd
  rcases ho.2 with ⟨rfl, rfl⟩ | ⟨g', cap, cur, rfl, hb, hh, hnc, hcm, hcs, htk⟩
  · refine ⟨none, 0, [], rfl, ⟨ho.1, .inl ⟨rfl, rfl, rfl, rfl⟩⟩, ⟨hext, fun p x hp => ⟨hkeep p x hp, fun b hb => (hs.view p x hp).2 b ?_⟩, hs.old, hs.v0, fun b hb => hother b ?_, ?_⟩⟩
    · simp at hb ⊢; rcases hb with hb | hb <;> simp [hb]
    · simp at hb; exact hb
    · simpa using hndXY
  · have hnew : ∀ b, b ∈ X ∨ b ∈ Y → b.g ≠ g' := by
      intro b hb e
      rcases hat with hat | hat
      · simp [Value.ownBlock] at hat
        have hat' : (Value.slice A n c).ownBlock = some g' := hat.symm
        obtain ⟨cs, rfl⟩ := hrow g' hat'
        simp only [List.map_append, List.map_cons, List.map_nil] at hnd
        rw [List.nodup_append] at hnd
        obtain ⟨_, h2, h3⟩ := hnd
        rcases hb with hb | hb
        · exact h3 b.g (List.mem_map_of_mem (f := Box.g) hb) g' (by simp) e
        · simp only [List.cons_append, List.nil_append, List.nodup_cons] at h2
          exact h2.1 (e ▸ List.mem_map_of_mem (f := Box.g) hb)
      · simp [Value.ownBlock] at hat
        have hbm : b ∈ X ++ (L1 ++ Y) := by rcases hb with hb | hb <;> simp [hb]
        have := hs.lt hbm
        omega
    refine ⟨some ⟨g', 0, none⟩, cap, [⟨g', E, cur.toList⟩], rfl, ⟨ho.1, .inr ⟨g', cur.toList, rfl, rfl, hnc, hcm, by simpa using hcs, htk⟩⟩, ⟨hext, fun p x hp => ⟨hkeep p x hp, fun b hb => ?_⟩, hs.old, hs.v0, fun b hb => ?_, ?_⟩⟩
    · simp at hb
      rcases hb with hb | rfl | hb
      · exact (hs.view p x hp).2 b (by simp [hb])
      · intro e
        simp only [] at e
        obtain ⟨h1, h2⟩ := hs.view p x hp
        rcases hat with hat | hat
        · simp [Value.ownBlock] at hat
          obtain ⟨cs, rfl⟩ := hrow g' hat.symm
          exact h2 ⟨g', E, cs⟩ (by simp) e
        · simp [Value.ownBlock] at hat
          have := World.block_lt_of_cell? w p h1
          omega
      · exact (hs.view p x hp).2 b (by simp [hb])
    · simp at hb
      rcases hb with hb | rfl | hb
      · exact hother b (.inl hb)
      · refine ⟨by simpa using hh, ?_⟩
        rcases hat with hat | hat
        · simp [Value.ownBlock] at hat
          exact hlow g' hat.symm
        · simp [Value.ownBlock] at hat
          exact .inl (by have := hs.ext.sz; simp only []; omega)
      · exact hother b (.inr hb)
    · simp only [List.map_append, List.map_cons, List.map_nil, List.cons_append, List.nil_append]
      rw [List.map_append, List.nodup_append] at hndXY
      obtain ⟨q1, q2, q3⟩ := hndXY
      rw [List.nodup_append]
      refine ⟨q1, ?_, ?_⟩
      · rw [List.nodup_cons]
        exact ⟨fun hm => by obtain ⟨b, hb, e⟩ := List.mem_map.1 hm; exact hnew b (.inr hb) e, q2⟩
      · intro a ha b hb e
        rcases List.mem_cons.1 hb with rfl | hb
        · obtain ⟨b', hb', e'⟩ := List.mem_map.1 ha; exact hnew b' (.inl hb') (e'.trans e)
        · exact q3 a ha b hb e

structure InfoIs (P : Program) (E : TypeId) (sz bytes : Nat) : Prop where
  h : ∃ i z, P.info? E = some i ∧ i.zero = some z ∧ i.size = sz ∧ i.bytes = bytes ∧ z.cells.size = sz
/-- What is appended: cells that the view has, or those of a box. -/
def SrcIs (B : Base) (V : View) (L : List Box) (sz : Nat) (A : Option Addr) (m : Nat) (news : List Value) : Prop := ∀ w, St B V L w → CellsAt w sz A m news
theorem src_v {sz m : Nat} {A : Option Addr} {news : List Value} (h : CellsV V sz A m news) : SrcIs B V L sz A m news := fun w hs =>
  ⟨h.1, fun hm => let ⟨b, off, ha, hc⟩ := h.2 hm; ⟨b, off, ha, fun j u hj => (hs.view _ u (hc j u hj)).1⟩⟩
theorem src_o {sz m g : Nat} {news : List Value} (ho : OwnAt L g news) (hl : news.length = m * sz) : SrcIs B V L sz (some ⟨g, 0, none⟩) m news := fun w hs =>
  ⟨hl, fun _ => ⟨g, 0, rfl, fun j u hj => by rw [hs.cell ho, Nat.zero_add]; exact hj⟩⟩
theorem gw_append {dr : Mode} (hdr : dr.loud = true) {E sz bytes n c m c2 : Nat} {A As : Option Addr} {xs news : List Value} {L1 : List Box} (hu : UnderIs P T (.slice E)) (hi : InfoIs P E sz bytes) (hx : evF F x = some (.slice A n c)) (hy : evF F y = some (.slice As m c2)) (hsz : Nat.blt 0 sz = true)
    (hr : RowL A n c E sz xs L1) {f : List Box → List Box} (hL : Repl L L1 f) (hsrc : SrcIs B V L sz As m news) (h1 : ∀ u ∈ news, isOne u = true) (h63 : n + m ≤ 1000000000) (hby : Nat.ble bytes 100000 = true) (hd : okD N (some d) = true)
    (h : ∀ A' c' L1', RowL A' (n + m) c' E sz (xs ++ news) L1' → GoL P B N dr ops Q k rest ((d, .slice A' (n + m) c') :: F) V (f L1')) : GoW P B N dr ops Q k ⟨some d, .call ⟨.builtin .append, #[x, y], #[T, T]⟩, ty, pos, af, gd⟩ rest F V L := gw_loud hdr fun a w ha hs => by
  obtain ⟨i, z, hinfo, hz, e1, e2, e3⟩ := hi.h
  obtain ⟨X, Y, hX, hf⟩ := hL.h
  have hbytes : (n + m) * bytes ≤ 140737488355328 := by
    have hb := Nat.le_of_ble_eq_true hby
    exact Nat.le_trans (Nat.mul_le_mul h63 hb) (by omega)
  have hown := hr.owns hs (fun b hb => by rw [hX]; simp [hb])
  have hsz' : 0 < sz := by simpa [Nat.blt_eq] using hsz
  obtain ⟨v', w', hrun, ho, hg, hat⟩ := run_append_cells (P := P) w 0 T ty E i z sz bytes hu.u hinfo hz e1 e2 e3 hsz' (.slice A n c) n xs hown As m c2 news (hsrc w hs) (fun u hu' => isOne_cell (h1 u hu')) (by simp only [maxLen]; omega) hbytes (Nat.zero_le _)
  subst hX
  obtain ⟨A', c', L1', rfl, hr', hs'⟩ := hs.grown hr hg ho hat
  refine wp_value (w' := w') (v := .slice A' (n + m) c') ?_ (gl_loud hdr (h A' c' L1' hr') _ w' (ha.put hd _) (by rw [hf]; exact hs'))
  have hrun' : (Builtin.append_ #[T, T] ty #[.slice A n c, .slice As m c2]).run P w = .ok (.slice A' (n + m) c') w' := hrun
  simp [execOp, ha.ev hx, ha.ev hy, resolve, invoke, builtin, hrun']
/-- A row that is not written any more joins the view. -/
theorem St.shut {A : Option Addr} {n c E sz : Nat} {xs : List Value} {L1 : List Box} {f : List Box → List Box} (hs : St B V L w) (h : RowL A n c E sz xs L1) (hL : Repl L L1 f) (hfl : ∀ x ∈ B.fl, ∃ cs, OwnAt (f []) x cs) : ∃ V', VLe V V' ∧ CellsV V' sz A n xs ∧ St B V' (f []) w := by
  obtain ⟨X, Y, hX, hf⟩ := hL.h
  rcases h.2 with ⟨rfl, rfl, rfl, rfl⟩ | ⟨g, cs, rfl, rfl, h2, h3, h4, h5⟩
  · refine ⟨V, VLe.refl V, ⟨h.1, fun h => absurd h (by omega)⟩, ?_⟩
    rw [hf, ← hX]; exact hs
  · have hd : ∀ X Y : List Box, Drop1 (X ++ ([⟨g, E, cs⟩] ++ Y)) g cs (X ++ ([] ++ Y)) := by
      intro X Y
      induction X with
      | nil => exact .here g E cs Y
      | cons b X ih => exact .next b _ g cs _ ih
    obtain ⟨V', q1, q2, q3⟩ := hs.retire (hX ▸ hd X Y) (by rw [hf] at hfl; exact hfl)
    refine ⟨V', q1, ⟨h.1, fun _ => ⟨g, 0, rfl, fun j v hj => ?_⟩⟩, by rw [hf]; exact q3⟩
    rw [← h5, List.getElem?_take] at hj
    split at hj
    · exact q2 j v hj
    · cases hj
theorem gl_shut {dr : Mode} (hdr : dr.loud = true) {A : Option Addr} {n c E sz : Nat} {xs : List Value} {L1 : List Box} {f : List Box → List Box} (h : RowL A n c E sz xs L1) (hL : Repl L L1 f) {l : List Oper} (hK : ∀ V', VLe V V' → CellsV V' sz A n xs → GoL P B N dr ops Q k l F V' (f [])) (hfl : ∀ x ∈ B.fl, ∃ cs, OwnAt (f []) x cs := by simp) : GoL P B N dr ops Q k l F V L := gl_mk hdr fun a w ha hs => by
  obtain ⟨V', h1, h2, h3⟩ := hs.shut h hL hfl
  exact gl_loud hdr (hK V' h1 h2) a w ha h3
theorem gc_shut {A : Option Addr} {n c E sz : Nat} {xs : List Value} {L1 : List Box} {f : List Box → List Box} (h : RowL A n c E sz xs L1) (hL : Repl L L1 f) {c' : Code} (hK : ∀ V', VLe V V' → CellsV V' sz A n xs → GoC P B N c' Q k F V' (f [])) (hfl : ∀ x ∈ B.fl, ∃ cs, OwnAt (f []) x cs := by simp) : GoC P B N c' Q k F V L := fun a w ha hs => by
  obtain ⟨V', h1, h2, h3⟩ := hs.shut h hL hfl
  exact hK V' h1 h2 a w ha h3
theorem at_shut {e : Exit} {A : Option Addr} {n c E sz : Nat} {xs : List Value} {L1 : List Box} {f : List Box → List Box} (h : RowL A n c E sz xs L1) (hL : Repl L L1 f) (hK : ∀ V', VLe V V' → CellsV V' sz A n xs → AtQ P B N Q k e F V' (f [])) (hfl : ∀ x ∈ B.fl, ∃ cs, OwnAt (f []) x cs := by simp) : AtQ P B N Q k e F V L := fun a w ha hs => by
  obtain ⟨V', h1, h2, h3⟩ := hs.shut h hL hfl
  exact hK V' h1 h2 a w ha h3
end
end Go.Proofs.Ytejkmomfpidnbab

/- Slices of elements of any kind, as a view knows them. No program is named here. -/
namespace Go.Proofs.Ytejkmomfpidnbab
open Go.RowKit
set_option linter.unusedSimpArgs false
set_option linter.unusedVariables false

/-- The elements of a slice are the list xs, each sz cells as f says. -/
def ElsV {α : Type} (V : View) (sz : Nat) (f : α → List Value) (A : Option Addr) (n : Nat) (xs : List α) : Prop :=
  xs.length = n ∧ n ≤ maxLen ∧ (0 < n → ∃ b off, A = some ⟨b, off, none⟩ ∧ ∀ k x, xs[k]? = some x → CellsFrom V b (off + k * sz) (f x))
section
variable {α : Type} {V V' : View} {sz n : Nat} {f : α → List Value} {A : Option Addr} {xs : List α}
theorem ElsV.le (h : ElsV V sz f A n xs) (hv : VLe V V') : ElsV V' sz f A n xs := ⟨h.1, h.2.1, fun hn => let ⟨b, off, ha, hc⟩ := h.2.2 hn; ⟨b, off, ha, fun k x hk => (hc k x hk).le hv⟩⟩
theorem ElsV.nil : ElsV V sz f A 0 [] := ⟨rfl, Nat.zero_le _, fun h => absurd h (by omega)⟩
theorem ElsV.max (h : ElsV V sz f A n xs) : n ≤ 9223372036854775807 := by
  have := h.2.1; unfold maxLen at this; omega
theorem ElsV.at_ (h : ElsV V sz f A n xs) {k : Nat} (hk : k < n) : ∃ b off x, A = some ⟨b, off, none⟩ ∧ xs[k]? = some x ∧ CellsFrom V b (off + k * sz) (f x) := by
  obtain ⟨h1, _, h3⟩ := h
  obtain ⟨b, off, ha, hc⟩ := h3 (by omega)
  have hx : xs[k]? = some (xs[k]'(by omega)) := List.getElem?_eq_getElem (by omega)
  exact ⟨b, off, _, ha, hx, hc k _ hx⟩
theorem flat_at (f : α → List Value) (hf : ∀ x, (f x).length = sz) : ∀ (xs : List α) (k j : Nat) (x : α) (v : Value), xs[k]? = some x → (f x)[j]? = some v → (xs.flatMap f)[k * sz + j]? = some v
  | [], _, _, _, _, h, _ => by simp at h
  | y :: xs, 0, j, x, v, h, hv => by
    simp at h; subst h
    have hj : j < (f y).length := by
      rcases Nat.lt_or_ge j (f y).length with h | h
      · exact h
      · rw [List.getElem?_eq_none h] at hv; cases hv
    rw [List.flatMap_cons, Nat.zero_mul, Nat.zero_add, List.getElem?_append_left hj]; exact hv
  | y :: xs, k + 1, j, x, v, h, hv => by
    have := flat_at f hf xs k j x v (by simpa using h) hv
    rw [List.flatMap_cons, List.getElem?_append_right (by rw [hf]; rw [Nat.succ_mul]; omega), hf, show (k + 1) * sz + j - sz = k * sz + j by rw [Nat.succ_mul]; omega]
    exact this
theorem flat_len (f : α → List Value) (hf : ∀ x, (f x).length = sz) (xs : List α) : (xs.flatMap f).length = xs.length * sz := by
  induction xs with
  | nil => simp
  | cons y xs ih => rw [List.flatMap_cons, List.length_append, hf, ih, List.length_cons, Nat.succ_mul]; omega
theorem flat_inv (f : α → List Value) (hf : ∀ x, (f x).length = sz) : ∀ (xs : List α) (i : Nat) (v : Value), (xs.flatMap f)[i]? = some v → ∃ k j x, i = k * sz + j ∧ xs[k]? = some x ∧ (f x)[j]? = some v
  | [], i, v, h => by simp at h
  | y :: xs, i, v, h => by
    rw [List.flatMap_cons] at h
    rcases Nat.lt_or_ge i sz with hi | hi
    · rw [List.getElem?_append_left (by rw [hf]; exact hi)] at h
      exact ⟨0, i, y, by omega, rfl, h⟩
    · rw [List.getElem?_append_right (by rw [hf]; exact hi), hf] at h
      obtain ⟨k, j, x, h1, h2, h3⟩ := flat_inv f hf xs (i - sz) v h
      exact ⟨k + 1, j, x, by rw [Nat.succ_mul]; omega, by simpa using h2, h3⟩
theorem ElsV.cells (h : ElsV V sz f A n xs) (hf : ∀ x, (f x).length = sz) : CellsV V sz A n (xs.flatMap f) := by
  obtain ⟨h1, _, h3⟩ := h
  refine ⟨by rw [flat_len f hf, h1], fun hn => ?_⟩
  obtain ⟨b, off, ha, hc⟩ := h3 hn
  refine ⟨b, off, ha, fun i v hi => ?_⟩
  obtain ⟨k, j, x, rfl, hx, hv⟩ := flat_inv f hf xs i v hi
  have := hc k x hx j v hv
  rw [show off + (k * sz + j) = off + k * sz + j by omega]; exact this
theorem ElsV.of_cells (h : CellsV V sz A n (xs.flatMap f)) (hf : ∀ x, (f x).length = sz) (hl : xs.length = n) (hm : n ≤ maxLen) : ElsV V sz f A n xs := by
  refine ⟨hl, hm, fun hn => ?_⟩
  obtain ⟨b, off, ha, hc⟩ := h.2 hn
  refine ⟨b, off, ha, fun k x hx j v hv => ?_⟩
  have := hc (k * sz + j) v (flat_at f hf xs k j x v hx hv)
  rw [show off + k * sz + j = off + (k * sz + j) by omega]; exact this
/-- x[:h] and x[l:]. -/
theorem ElsV.take (h : ElsV V sz f A n xs) {k : Nat} (hk : k ≤ n) : ElsV V sz f A k (xs.take k) := by
  refine ⟨by rw [List.length_take, h.1]; omega, Nat.le_trans hk h.2.1, fun hn => ?_⟩
  obtain ⟨b, off, ha, hc⟩ := h.2.2 (by omega)
  refine ⟨b, off, ha, fun j x hj => hc j x ?_⟩
  rw [List.getElem?_take] at hj
  split at hj
  · exact hj
  · cases hj
theorem ElsV.drop (h : ElsV V sz f A n xs) {k c : Nat} (hk : k ≤ n) (hc' : n ≤ c) : ElsV V sz f (cutA A c k sz) (n - k) (xs.drop k) := by
  refine ⟨by rw [List.length_drop, h.1], Nat.le_trans (Nat.sub_le _ _) h.2.1, fun hn => ?_⟩
  obtain ⟨b, off, ha, hc⟩ := h.2.2 (by omega)
  refine ⟨b, off + k * sz, ?_, fun j x hj => ?_⟩
  · unfold cutA
    rw [if_neg (by omega), ha]
    simp [add_none]
  · rw [List.getElem?_drop] at hj
    have := hc (k + j) x hj
    rw [show off + k * sz + j * sz = off + (k + j) * sz by rw [Nat.add_mul]; omega]; exact this
theorem RowL.cap {A : Option Addr} {n c E sz : Nat} {xs : List Value} {L1 : List Box} (h : RowL A n c E sz xs L1) : n ≤ c := by
  rcases h.2 with ⟨_, _, rfl, _⟩ | ⟨_, _, _, _, h, _⟩
  · omega
  · exact h
theorem map_flat {α : Type} (g : α → Value) : ∀ xs : List α, xs.map g = xs.flatMap (fun z => [g z])
  | [] => rfl
  | x :: xs => by rw [List.map_cons, List.flatMap_cons, map_flat g xs]; rfl
end
end Go.Proofs.Ytejkmomfpidnbab

/- Package attr in plain terms, and that the reference's loop makes the same of a list that is right. No program is named here. -/
namespace Go.Proofs.Ytejkmomfpidnbab
open Go.RowKit
set_option linter.unusedSimpArgs false
set_option linter.unusedVariables false

/-- An attribute: its name, its value. -/
@[ext] structure PA where
  n : ByteArray
  v : ByteArray
instance : DecidableEq PA := fun a b => decidable_of_iff (a.n = b.n ∧ a.v = b.v) ⟨fun ⟨h1, h2⟩ => PA.ext h1 h2, fun h => by subst h; exact ⟨rfl, rfl⟩⟩
abbrev paC (a : PA) : List Value := [.string a.n, .string a.v]
abbrev AttrsV (V : View) (A : Option Addr) (n : Nat) (xs : List PA) : Prop := ElsV V 2 paC A n xs
/-- Which class of name; 0: it is none. -/
def classZ (s : ByteArray) : Int :=
  if 2 ≤ s.size ∧ nameZ (s.toList.drop 2) = true then (if s.toList.take 2 = [117, 46] then 1 else if s.toList.take 2 = [116, 46] then 2 else 0) else 0
def aF (prev : Option ByteArray) : List PA → Int
  | [] => 0
  | a :: l => if classZ a.n = 0 then 4 else if 20 < a.v.size then 1 else if (∃ y, prev = some y ∧ ¬ y.toList < a.n.toList) then 3 else aF (some a.n) l
def attrF (xs : List PA) : Int := if 4 < xs.length then 2 else aF none xs
def prevA (xs : List PA) (k : Nat) : Option ByteArray := if k = 0 then none else (xs[k - 1]?).map PA.n
theorem prevA_pos {xs : List PA} {k : Nat} (h : ¬ k = 0) : prevA xs k = (xs[k - 1]?).map PA.n := if_neg h
theorem prevA_succ {xs : List PA} {k : Nat} : prevA xs (k + 1) = (xs[k]?).map PA.n := by rw [prevA, if_neg (by omega)]; rfl
theorem aF_name {p : Option ByteArray} {a : PA} {l : List PA} (h : classZ a.n = 0) : aF p (a :: l) = 4 := by rw [aF, if_pos h]
theorem aF_big {p : Option ByteArray} {a : PA} {l : List PA} (h : ¬ classZ a.n = 0) (h2 : 20 < a.v.size) : aF p (a :: l) = 1 := by rw [aF, if_neg h, if_pos h2]
theorem aF_down {y : ByteArray} {a : PA} {l : List PA} (h : ¬ classZ a.n = 0) (h2 : ¬ 20 < a.v.size) (h3 : ¬ y.toList < a.n.toList) : aF (some y) (a :: l) = 3 := by rw [aF, if_neg h, if_neg h2, if_pos ⟨y, rfl, h3⟩]
theorem aF_on {y : ByteArray} {a : PA} {l : List PA} (h : ¬ classZ a.n = 0) (h2 : ¬ 20 < a.v.size) (h3 : y.toList < a.n.toList) : aF (some y) (a :: l) = aF (some a.n) l := by
  rw [aF, if_neg h, if_neg h2, if_neg (by rintro ⟨z, hz, hl⟩; injection hz with hz; subst hz; exact hl h3)]
theorem aF_first {a : PA} {l : List PA} (h : ¬ classZ a.n = 0) (h2 : ¬ 20 < a.v.size) : aF none (a :: l) = aF (some a.n) l := by
  rw [aF, if_neg h, if_neg h2, if_neg (by rintro ⟨z, hz, hl⟩; cases hz)]
theorem aF_bd : ∀ (l : List PA) (p : Option ByteArray), 0 ≤ aF p l ∧ aF p l ≤ 4
  | [], _ => by simp [aF]
  | a :: l, p => by
    rw [aF]
    (repeat' split) <;> first | omega | exact aF_bd l _
theorem attrF_bd (xs : List PA) : 0 ≤ attrF xs ∧ attrF xs ≤ 4 := by
  unfold attrF; split
  · omega
  · exact aF_bd xs _

/-! ### A list that is right rises -/
theorem lt_trans' {a b c : List UInt8} (h : a < b) (k : b < c) : a < c := List.lt_trans h k
def ltA (a b : PA) : Prop := a.n.toList < b.n.toList
theorem aF_rises : ∀ (l : List PA) (p : Option ByteArray), aF p l = 0 → l.Pairwise ltA ∧ (∀ a ∈ l, ¬ classZ a.n = 0 ∧ a.v.size ≤ 20) ∧ ∀ y, p = some y → ∀ a ∈ l, y.toList < a.n.toList
  | [], _, _ => by simp
  | a :: l, p, h => by
    rw [aF] at h
    split at h
    · omega
    · rename_i h1
      split at h
      · omega
      · rename_i h2
        split at h
        · omega
        · rename_i h3
          obtain ⟨q1, q2, q3⟩ := aF_rises l _ h
          refine ⟨List.pairwise_cons.2 ⟨fun b hb => q3 a.n rfl b hb, q1⟩, fun b hb => ?_, fun y hy b hb => ?_⟩
          · rcases List.mem_cons.1 hb with rfl | hb
            · exact ⟨h1, by omega⟩
            · exact q2 b hb
          · have hya : y.toList < a.n.toList := by
              apply Classical.byContradiction; intro hn; exact h3 ⟨y, hy, hn⟩
            rcases List.mem_cons.1 hb with rfl | hb
            · exact hya
            · exact lt_trans' hya (q3 a.n rfl b hb)
theorem attrF_rises {xs : List PA} (h : attrF xs = 0) : xs.length ≤ 4 ∧ xs.Pairwise ltA ∧ ∀ a ∈ xs, ¬ classZ a.n = 0 ∧ a.v.size ≤ 20 := by
  unfold attrF at h
  split at h
  · omega
  · obtain ⟨a, b, _⟩ := aF_rises xs none h
    exact ⟨by omega, a, b⟩
/-! ### Where a name is -/
/-! ### Get, set, drop -/
/-! ### The reference's loop -/
end Go.Proofs.Ytejkmomfpidnbab

/- Attributes: what is set is what one gets, what is dropped is none, nothing else is moved. No program is named here. -/
namespace Go.Proofs.Ytejkmomfpidnbab
open Go.RowKit
set_option linter.unusedSimpArgs false
set_option linter.unusedVariables false

end Go.Proofs.Ytejkmomfpidnbab

/- The engine's operations: copy, calls of function values, structs compared; rows of the call's own, opened and closed. No program is named here. -/
namespace Go.Proofs.Ytejkmomfpidnbab
open Go.RowKit
set_option linter.unusedSimpArgs false
set_option linter.unusedVariables false

section
variable {P : Program} {B : Base} {N : Nat} {Q : Exit → Act → World → Prop} {k : List Cont} {F : List (Nat × Value)} {V : View} {L : List Box} {w : World}
variable {d : Option Tmp} {ty : TypeId} {pos : String} {af : Array Edge} {gd : Option (Nat × Bool)} {x y : Operand} {T T2 : TypeId} {ops : Array Oper} {rest : List Oper}

/-! ### copy -/
/-! ### Function values -/
theorem q_makeFunc {fn : Go.Fn} {fs cs : List Operand} {vs us : List Value} (h1 : evL F fs = some vs) (h2 : evL F cs = some us) : QP P B N V L ⟨d, .makeFunc fn fs.toArray cs.toArray, ty, pos, af, gd⟩ F (.func fn vs.toArray us.toArray) := q_of fun a w ha _ => by
  have e1 := ha.evL h1
  have e2 := ha.evL h2
  simp [execOp, Instr.makeFunc, e1, e2]
theorem exec_callv {f : FuncId} {fo : Operand} {args : List Operand} {ats : Array TypeId} {vs fs cs : List Value} {a : Act} {w : World} (he : Enters P f) (ha : Kn N F a) (hf : evF F fo = some (.func (.func f) fs.toArray cs.toArray)) (hv : evL F args = some vs) :
    (execOp a.eval ⟨d, .call ⟨.value fo, args.toArray, ats⟩, ty, pos, af, gd⟩).run P w = .ok (.enter f (fs ++ vs ++ cs).toArray) w := by
  have h := ha.evL hv
  have hf := ha.ev hf
  simp [execOp, resolve, Deferred.ofValue, invoke, h, hf, he.h (fs ++ (vs ++ cs)).toArray w]
theorem q_callv {f : FuncId} {fo : Operand} {args : List Operand} {ats : Array TypeId} {vs fs cs : List Value} {v : Value} (he : Enters P f) (hf : evF F fo = some (.func (.func f) fs.toArray cs.toArray)) (hv : evL F args = some vs) (hc : Fn P f (fs ++ vs ++ cs) V fun u _ => u = v) : QO P B N V L ⟨d, .call ⟨.value fo, args.toArray, ats⟩, ty, pos, af, gd⟩ F v := fun a w ha hs => by
  unfold Oper.quietAt
  rw [exec_callv he ha hf hv]
  refine ⟨rfl, (hc w (fun p x hp => (hs.view p x hp).1)).mono fun e w' ⟨u, he', hx, V', h1, h2, h3, hR⟩ => ?_⟩
  subst he' hR
  exact ⟨rfl, (hs.call hx h1 h2 h3).less h1 hs.v0⟩

/-! ### Slices whose bounds are reckoned -/
theorem q_sslice_li {lo : Operand} {i : Int} {s : ByteArray} {t : TypeId} (hu : UnderIs P t .string) (hx : evF F x = some (.string s)) (hl : evF F lo = some (.int .i64 i)) (h : 0 ≤ i ∧ i ≤ (s.size : Int)) : QP P B N V L ⟨d, .slice t x (some lo) none none, ty, pos, af, gd⟩ F (.string (s.extract i.toNat s.size)) :=
  q_sslice_l hu hx (by rw [hl, Int.toNat_of_nonneg h.1]) (by omega)
theorem q_sslice_ni {hi : Operand} {i : Int} {s : ByteArray} {t : TypeId} (hu : UnderIs P t .string) (hx : evF F x = some (.string s)) (hl : evF F hi = some (.int .i64 i)) (h : 0 ≤ i ∧ i ≤ (s.size : Int)) : QP P B N V L ⟨d, .slice t x none (some hi) none, ty, pos, af, gd⟩ F (.string (s.extract 0 i.toNat)) :=
  q_sslice_n hu hx (by rw [hl, Int.toNat_of_nonneg h.1]) (by omega)
theorem q_slice_ni {E sz n c : Nat} {A : Option Addr} {hi : Operand} {i : Int} (hu : UnderIs P T (.slice E)) (hS : SizeIs P E sz) (hx : evF F x = some (.slice A n c)) (hh : evF F hi = some (.int .i64 i)) (h : 0 ≤ i ∧ i ≤ (c : Int)) : QP P B N V L ⟨d, .slice T x none (some hi) none, ty, pos, af, gd⟩ F (.slice A i.toNat c) :=
  q_slice_n hu hS hx (by rw [hh, Int.toNat_of_nonneg h.1]) (by omega)
theorem q_slice_li {E sz n c : Nat} {A : Option Addr} {lo : Operand} {i : Int} (hu : UnderIs P T (.slice E)) (hS : SizeIs P E sz) (hx : evF F x = some (.slice A n c)) (hl : evF F lo = some (.int .i64 i)) (h : 0 ≤ i ∧ i ≤ (n : Int)) : QP P B N V L ⟨d, .slice T x (some lo) none none, ty, pos, af, gd⟩ F (.slice (cutA A c i.toNat sz) (n - i.toNat) (c - i.toNat)) :=
  q_slice_l hu hS hx (by rw [hl, Int.toNat_of_nonneg h.1]) (by omega)
theorem q_slice_i {E sz n c : Nat} {A : Option Addr} {lo hi : Operand} {i j : Int} (hu : UnderIs P T (.slice E)) (hS : SizeIs P E sz) (hx : evF F x = some (.slice A n c)) (hl : evF F lo = some (.int .i64 i)) (hh : evF F hi = some (.int .i64 j)) (h1 : 0 ≤ i ∧ i ≤ j) (h2 : j ≤ (c : Int)) : QP P B N V L ⟨d, .slice T x (some lo) (some hi) none, ty, pos, af, gd⟩ F (.slice (cutA A c i.toNat sz) (j.toNat - i.toNat) (c - i.toNat)) :=
  q_slice hu hS hx (by rw [hl, Int.toNat_of_nonneg h1.1]) (by rw [hh, Int.toNat_of_nonneg (by omega)]) (by omega) (by omega)

/-! ### The greater, the smaller; shifts to the right; ints of other kinds -/
theorem q_min {c : Call} {k : IntKind} {a b : Int} (hc : c = ⟨.builtin .min, #[x, y], #[T, T2]⟩) (hx : evF F x = some (.int k a)) (hy : evF F y = some (.int k b)) : QP P B N V L ⟨d, .call c, ty, pos, af, gd⟩ F (.int k (min a b)) := q_of fun ac w ha _ => by
  subst hc
  have e : (if b < a then b else a) = min a b := by split <;> omega
  simp [execOp, ha.ev hx, ha.ev hy, resolve, invoke, builtin, Builtin.min_, Builtin.min2, e]
theorem q_conv {k : IntKind} {k0 : IntKind} {s t : TypeId} {ds : TypeDesc} {a : Int} (hs : UnderIs P s ds) (ht : UnderIs P t (.int k)) (hx : evF F x = some (.int k0 a)) (h : k.wrap a = a) : QP P B N V L ⟨d, .convert s t x, ty, pos, af, gd⟩ F (.int k a) := q_of fun ac w ha _ => by
  have e : (Conv.intToInt k a) = pure (.int k a) := by unfold Conv.intToInt; rw [h]
  simp [execOp, ha.ev hx, convert, hs.h, ht.h, e]
theorem wrap_i64 {a : Int} (h : -9223372036854775808 ≤ a ∧ a ≤ 9223372036854775807) : IntKind.wrap .i64 a = a := IntWalk.i64_in _ h

/-! ### Structs compared -/
/-! ### Rows, opened and closed -/
theorem RowL.open {α : Type} {f : α → List Value} {A : Option Addr} {n c E sz : Nat} {xs : List α} {L1 : List Box} (h : RowL A n c E sz (xs.flatMap f) L1) (hn : 0 < n) : ∃ g rest, A = some ⟨g, 0, none⟩ ∧ L1 = [⟨g, E, xs.flatMap f ++ rest⟩] ∧ (xs.flatMap f ++ rest).length = c * sz ∧ n ≤ c ∧ c ≤ maxLen := by
  obtain ⟨h1, h | h⟩ := h
  · omega
  · obtain ⟨g, cs, rfl, rfl, h2, h3, h4, h5⟩ := h
    refine ⟨g, cs.drop (n * sz), rfl, ?_, ?_, h2, h3⟩
    · rw [← h5, List.take_append_drop]
    · rw [← h5, List.take_append_drop]; exact h4
theorem RowL.close {α : Type} {f : α → List Value} {sz : Nat} (hf : ∀ x, (f x).length = sz) {n c E g : Nat} {xs : List α} {rest : List Value} (hl : xs.length = n) (hc : (xs.flatMap f ++ rest).length = c * sz) (hn : n ≤ c) (hm : c ≤ maxLen) : RowL (some ⟨g, 0, none⟩) n c E sz (xs.flatMap f) [⟨g, E, xs.flatMap f ++ rest⟩] := by
  have e := flat_len f hf xs
  rw [hl] at e
  exact ⟨e, .inr ⟨g, _, rfl, rfl, hn, hm, hc, by rw [List.take_left' e]⟩⟩
theorem flat_cut {α : Type} {f : α → List Value} {sz : Nat} (hf : ∀ x, (f x).length = sz) (xs : List α) (k : Nat) : (xs.flatMap f).take (k * sz) = (xs.take k).flatMap f ∧ (xs.flatMap f).drop (k * sz) = (xs.drop k).flatMap f := by
  rcases Nat.lt_or_ge k xs.length with h | h
  · have e : xs.flatMap f = (xs.take k).flatMap f ++ (xs.drop k).flatMap f := by rw [← List.flatMap_append, List.take_append_drop]
    have hl : ((xs.take k).flatMap f).length = k * sz := by rw [flat_len f hf, List.length_take]; congr 1; omega
    rw [e]
    exact ⟨List.take_left' hl, List.drop_left' hl⟩
  · have hl : (xs.flatMap f).length ≤ k * sz := by rw [flat_len f hf]; exact Nat.mul_le_mul_right sz h
    rw [List.take_of_length_le hl, List.drop_eq_nil_of_le hl, List.take_of_length_le h, List.drop_eq_nil_of_le h]
    exact ⟨rfl, rfl⟩
theorem spl_app (vs : List Value) : ∀ (cs : List Value) (i : Nat), i + vs.length ≤ cs.length → spl cs i vs = cs.take i ++ vs ++ cs.drop (i + vs.length) := by
  induction vs with
  | nil => intro cs i h; simp [spl]
  | cons v vs ih =>
    intro cs i h
    simp at h
    rw [spl, ih _ _ (by simp; omega)]
    apply List.ext_getElem?
    intro j
    simp only [List.getElem?_append, List.length_append, List.length_take, List.length_set, List.length_cons, List.getElem?_take, List.getElem?_set, List.getElem?_drop, List.getElem?_cons]
    rcases Nat.lt_trichotomy j i with hj | hj | hj
    · rw [if_pos (by omega), if_pos (by omega), if_pos (by omega), if_neg (by omega), if_pos (by omega), if_pos (by omega), if_pos (by omega)]
    · subst hj
      rw [if_pos (by omega), if_pos (by omega), if_pos (by omega), if_pos rfl, if_pos (by omega), if_pos (by omega), if_neg (by omega), if_pos (by omega)]
    · by_cases h2 : j < i + (vs.length + 1)
      · rw [if_pos (by omega), if_neg (by omega), if_pos (by omega), if_neg (by omega), if_neg (by omega)]
        congr 1; omega
      · rw [if_neg (by omega), if_neg (by omega), if_neg (by omega)]
        congr 1; omega
/-- An element that is written over. -/
theorem row_set {α : Type} {f : α → List Value} {sz : Nat} (hf : ∀ x, (f x).length = sz) {xs : List α} {rest : List Value} {k : Nat} (hk : k < xs.length) (x : α) : spl (xs.flatMap f ++ rest) (0 + k * sz) (f x) = (xs.set k x).flatMap f ++ rest := by
  have hle : k * sz + sz ≤ (xs.flatMap f).length := by
    rw [flat_len f hf]
    have := Nat.mul_le_mul_right sz (show k + 1 ≤ xs.length by omega)
    rw [Nat.succ_mul] at this; exact this
  rw [spl_app _ _ _ (by rw [hf, List.length_append]; omega), Nat.zero_add, hf, List.take_append_of_le_length (by omega), List.drop_append_of_le_length (by omega), show k * sz + sz = (k + 1) * sz by rw [Nat.succ_mul], (flat_cut hf xs k).1, (flat_cut hf xs (k + 1)).2, List.set_eq_take_append_cons_drop, if_pos hk, List.flatMap_append, List.flatMap_cons]
  simp [List.append_assoc]
end
end Go.Proofs.Ytejkmomfpidnbab

/- The engine: callees that write boxes which they are handed, and hand back new ones. No program is named here. -/
namespace Go.Proofs.Ytejkmomfpidnbab
open Go.RowKit
set_option linter.unusedSimpArgs false
set_option linter.unusedVariables false
def gsOf (Bs : List Box) : List Nat := Bs.map Box.g
@[simp] theorem gsOf_nil : gsOf [] = [] := rfl
/-- How a call ends that was handed the boxes Bs: with those and perhaps new ones, written or not. -/
def FnBEnd (V : View) (w : World) (Bs : List Box) (R : Value → View → List Box → Prop) (e : Ending) (w' : World) : Prop :=
  ∃ v V' Bs', e = .returned v ∧ St ⟨V, w, gsOf Bs⟩ V' Bs' w' ∧ R v V' Bs'
def FnB (P : Program) (f : FuncId) (args : List Value) (V : View) (Bs : List Box) (R : Value → View → List Box → Prop) : Prop :=
  ∀ w, St ⟨V, w, gsOf Bs⟩ V Bs w → Calls P f args.toArray w (FnBEnd V w Bs R)
section
variable {P : Program} {B : Base} {N : Nat} {Q : Exit → Act → World → Prop} {k : List Cont} {F : List (Nat × Value)} {V : View} {L : List Box} {w : World}
variable {d : Option Tmp} {ty : TypeId} {pos : String} {af : Array Edge} {gd : Option (Nat × Bool)} {x y : Operand} {T T2 : TypeId} {ops : Array Oper} {rest : List Oper}
theorem fn_enterB {f : FuncId} {fn : Func} {c : Code} {args : List Value} {Bs : List Box} {R : Value → View → List Box → Prop} (hf : P.funcs[f]? = some fn) (hb : fn.body = some c) (hN : fn.ntmps = N) (hsz : Nat.ble args.length N = true)
    (h : ∀ w, GoC P ⟨V, w, gsOf Bs⟩ N c (bodyPost P fn (FnBEnd V w Bs R)) [] (argsF args 0) V Bs) : FnB P f args V Bs R := fun w hV => by
  refine calls_of_wp hf hb (h w _ w ⟨rfl, ?_, fun t v hv => ?_⟩ hV)
  · have := Nat.le_of_ble_eq_true hsz
    simp [hN]; omega
  · obtain ⟨_, h2⟩ := look_args args 0 t v hv
    have hlt : t < args.length := by
      rcases Nat.lt_or_ge t args.length with hl | hl
      · exact hl
      · rw [List.getElem?_eq_none (by omega)] at h2; cases h2
    rw [List.getElem?_eq_getElem (by omega)] at h2
    simp only [Nat.sub_zero] at h2
    injection h2 with h2
    simp [Array.getElem?_append, hlt, h2]
variable {fn : Func} {w0 : World} {V0 : View} {Bs : List Box} {R : Value → View → List Box → Prop}
theorem atB_ret0 (hr : fn.results = #[]) {L' : List Box} (hL : L'.Sublist L) (hR : R (.tuple #[]) V L') : AtQ P ⟨V0, w0, gsOf Bs⟩ N (bodyPost P fn (FnBEnd V0 w0 Bs R)) [] .ret F V L := fun a w ha hs =>
  ⟨ha.1, .tuple #[], by simp [results, hr], _, V, L', rfl, hs.sub hL, hR⟩
theorem atB_end0 (hr : fn.results = #[]) {L' : List Box} (hL : L'.Sublist L) (hR : R (.tuple #[]) V L') : AtQ P ⟨V0, w0, gsOf Bs⟩ N (bodyPost P fn (FnBEnd V0 w0 Bs R)) [] .normal F V L := fun a w ha hs =>
  ⟨ha.1, .tuple #[], by simp [results, hr], _, V, L', rfl, hs.sub hL, hR⟩
theorem atB_ret1 {r : ResultVar} {v : Value} (hr : fn.results = #[r]) (h1 : RV P ⟨V0, w0, gsOf Bs⟩ N F V L r v) {L' : List Box} (hL : L'.Sublist L) (hR : R v V L') : AtQ P ⟨V0, w0, gsOf Bs⟩ N (bodyPost P fn (FnBEnd V0 w0 Bs R)) [] .ret F V L := fun a w ha hs => by
  refine ⟨ha.1, v, ?_, _, V, L', rfl, hs.sub hL, hR⟩
  have h1 := h1 a w ha hs
  unfold results
  rw [hr]
  cases r <;> simp_all
theorem atB_ret2 {r s : ResultVar} {v u : Value} (hr : fn.results = #[r, s]) (h1 : RV P ⟨V0, w0, gsOf Bs⟩ N F V L r v) (h2 : RV P ⟨V0, w0, gsOf Bs⟩ N F V L s u) {L' : List Box} (hL : L'.Sublist L) (hR : R (.tuple #[v, u]) V L') : AtQ P ⟨V0, w0, gsOf Bs⟩ N (bodyPost P fn (FnBEnd V0 w0 Bs R)) [] .ret F V L := fun a w ha hs => by
  refine ⟨ha.1, _, ?_, _, V, L', rfl, hs.sub hL, hR⟩
  unfold results
  rw [hr]
  exact run_res2 _ (h1 a w ha hs) (h2 a w ha hs)
theorem St.sub' {L' : List Box} (hs : St B V L w) (h : L'.Sublist L) : St ⟨V, w, gsOf L'⟩ V L' w :=
  ⟨Exc.refl _ w, fun p x hp => ⟨(hs.view p x hp).1, fun b hb => (hs.view p x hp).2 b (h.subset hb)⟩, fun p x hp _ => hp, VLe.refl V, fun b hb => ⟨(hs.own b (h.subset hb)).1, .inr (List.mem_map_of_mem (f := Box.g) hb)⟩, List.Nodup.sublist (h.map Box.g) hs.nodup⟩
theorem St.callB {X Y Bs Bs' : List Box} {w' : World} {V' : View} (hs : St B V (X ++ (Bs ++ Y)) w) (hc : St ⟨V, w, gsOf Bs⟩ V' Bs' w') : St B V' (X ++ (Bs' ++ Y)) w' := by
  have hnd := hs.nodup
  rw [List.map_append, List.map_append, List.nodup_append] at hnd
  obtain ⟨n1, n2, n3⟩ := hnd
  rw [List.nodup_append] at n2
  obtain ⟨n4, n5, n6⟩ := n2
  have hlo : ∀ g ∈ gsOf Bs, B.w.heap.size ≤ g ∨ g ∈ B.fl := by
    intro g hg
    obtain ⟨b, hb, rfl⟩ := List.mem_map.1 hg
    exact (hs.own b (by simp [hb])).2
  have hother : ∀ b, b ∈ X ∨ b ∈ Y → b ∈ X ++ (Bs ++ Y) ∧ ¬ b.g ∈ gsOf Bs := by
    intro b hb
    refine ⟨by rcases hb with hb | hb <;> simp [hb], fun hm => ?_⟩
    obtain ⟨q, hq, he⟩ := List.mem_map.1 hm
    rcases hb with hb | hb
    · exact n3 b.g (List.mem_map_of_mem (f := Box.g) hb) q.g (by simp; exact .inl ⟨q, hq, rfl⟩) he.symm
    · exact n6 q.g (List.mem_map_of_mem (f := Box.g) hq) b.g (List.mem_map_of_mem (f := Box.g) hb) he
  have hsz : ∀ b ∈ Bs', b.g ∈ gsOf Bs ∨ w.heap.size ≤ b.g := fun b hb => by
    rcases (hc.own b hb).2 with h | h
    · exact .inr h
    · exact .inl h
  refine ⟨hs.ext.trans hc.ext hlo, fun p x hp => ⟨(hc.view p x hp).1, fun b hb => ?_⟩, fun p x hp hb => ?_, hs.v0.trans hc.v0, fun b hb => ?_, ?_⟩
  · simp only [List.mem_append] at hb
    rcases hb with hb | hb | hb
    · obtain ⟨h1, h2⟩ := hother b (.inl hb)
      rcases Nat.lt_or_ge p.block w.heap.size with h | h
      · exact (hs.view p x (hc.old p x hp h)).2 b h1
      · have := hs.lt h1; omega
    · exact (hc.view p x hp).2 b hb
    · obtain ⟨h1, h2⟩ := hother b (.inr hb)
      rcases Nat.lt_or_ge p.block w.heap.size with h | h
      · exact (hs.view p x (hc.old p x hp h)).2 b h1
      · have := hs.lt h1; omega
  · exact hs.old p x (hc.old p x hp (Nat.lt_of_lt_of_le hb hs.ext.sz)) hb
  · simp only [List.mem_append] at hb
    rcases hb with hb | hb | hb
    · obtain ⟨h1, h2⟩ := hother b (.inl hb)
      exact ⟨(hc.ext.block b.g (hs.lt h1) h2).trans (hs.own b h1).1, (hs.own b h1).2⟩
    · refine ⟨(hc.own b hb).1, ?_⟩
      rcases hsz b hb with h | h
      · exact hlo _ h
      · exact .inl (Nat.le_trans hs.ext.sz h)
    · obtain ⟨h1, h2⟩ := hother b (.inr hb)
      exact ⟨(hc.ext.block b.g (hs.lt h1) h2).trans (hs.own b h1).1, (hs.own b h1).2⟩
  · rw [List.map_append, List.map_append, List.nodup_append, List.nodup_append]
    refine ⟨n1, ⟨hc.nodup, n5, ?_⟩, ?_⟩
    · intro a ha b hb e
      obtain ⟨p, hp, rfl⟩ := List.mem_map.1 ha
      obtain ⟨q, hq, rfl⟩ := List.mem_map.1 hb
      obtain ⟨h1, h2⟩ := hother q (.inr hq)
      rcases hsz p hp with h | h
      · exact h2 (e ▸ h)
      · have := hs.lt h1; omega
    · intro a ha b hb e
      obtain ⟨q, hq, rfl⟩ := List.mem_map.1 ha
      obtain ⟨h1, h2⟩ := hother q (.inl hq)
      rcases List.mem_append.1 hb with hb | hb
      · obtain ⟨p, hp, rfl⟩ := List.mem_map.1 hb
        rcases hsz p hp with h | h
        · exact h2 (e ▸ h)
        · have := hs.lt h1; omega
      · exact n3 q.g ha b (by rw [List.mem_append]; exact .inr hb) e
theorem gw_callB {dr : Mode} (hdr : dr.loud = true) {f : FuncId} {args : List Operand} {ats : Array TypeId} {vs : List Value} {Bs : List Box} {R : Value → View → List Box → Prop} {g : List Box → List Box} (he : Enters P f) (hv : evL F args = some vs) (hL : Repl L Bs g) (hd : okD N d = true) (hc : FnB P f vs V Bs R)
    (h : ∀ v V' Bs', VLe V V' → R v V' Bs' → GoL P B N dr ops Q k rest (putF F d v) V' (g Bs')) : GoW P B N dr ops Q k ⟨d, .call ⟨.value (.func f), args.toArray, ats⟩, ty, pos, af, gd⟩ rest F V L := gw_loud hdr fun a w ha hs => by
  obtain ⟨X, Y, hX, hg⟩ := hL.h
  subst hX
  unfold Oper.wp
  rw [exec_call he ha hv]
  have hsub : Bs.Sublist (X ++ (Bs ++ Y)) := (List.sublist_append_left Bs Y).trans (List.sublist_append_right X (Bs ++ Y))
  refine (hc w (hs.sub' hsub)).mono fun e w' ⟨v, V', Bs', he', hst, hR⟩ => ?_
  subst he'
  have h1 := h v V' Bs' hst.v0 hR
  rw [hg] at h1
  exact gl_loud hdr h1 _ _ (ha.put hd v) (hs.callB hst)
/-- A call that is handed no box. -/
theorem FnB.pure {f : FuncId} {args : List Value} {V : View} {R : Value → View → Prop} (h : FnB P f args V [] fun v V' _ => R v V') : Fn P f args V R := fun w hV => by
  have hs : St ⟨V, w, gsOf []⟩ V [] w := ⟨Exc.refl _ w, fun p x hp => ⟨hV p x hp, by simp⟩, fun p x hp _ => hp, VLe.refl V, by simp, by simp⟩
  exact (h w hs).mono fun e w' ⟨v, V', Bs', he, hst, hR⟩ => ⟨v, he, hst.ext.ext, V', hst.v0, fun p x hp => (hst.view p x hp).1, hst.old, hR⟩
end
end Go.Proofs.Ytejkmomfpidnbab

