/- Walks and plain laws, part 1: what functions compute, proved once each (Base, Eng, StrP, Ops, Ops2, Ops3, Rep, Mem, Row, Ty, ErrE, PermP, CredQ, CredE, CredE2, Names, El, Open, Fn). -/
import Derived.WalkKit
import Derived.WalkSpells
import Derived.WalkLawsBesides
import Derived.Lib.Hide
import Derived.Deep.QuietTactic
import Derived.BigQuiet
import Derived.Lib.QuietBelow
import Derived.Deep.Quiet
import Derived.OrdersHeld
import Derived.Lib.Strings
import Derived.IntWalk
import Derived.Below
import Derived.Maps.AppendAt
import Derived.Deep.AppendLies
import Derived.Laws.OwnMore
import Derived.Test.YtejkmomfpidnbaaDoorProg
import Derived.Test.YtejkmomfpidnbaaDoorChecked
import Derived.KernelRfl
import Derived.ProofKit
import Derived.OpenShut
import Derived.ShutString
import Derived.ChangeOld
import Derived.Deep.Slices
/- Worlds that grow, and what stands in memory as plain data: words for the walks. No program is named here. -/
namespace Go.Proofs.YtejkmomfpidnbaaDoor
open Go.RowKit

/-- w' is w with new blocks; nothing that was there has changed. -/
def Ext (w w' : World) : Prop := Below w.heap.size w w'

theorem Ext.refl (w : World) : Ext w w := Below.refl _ _
theorem Ext.al {w x : World} (o : Obj) (h : Ext w x) : Ext w (x.alloc o) := Below.alloc h h.size o
theorem Ext.dr {w x : World} (h : Ext w x) : Ext w x.drew := Below.drew h
theorem Ext.set {w x : World} {p : Addr} (v : Value) (h : Ext w x) (hp : w.heap.size ≤ p.block) : Ext w (x.setCell p v) := Below.setCell h hp v
theorem Ext.via {w x y : World} (h : Ext w x) (k : Ext x y) : Ext w y := Below.trans h (Below.mono k h.size)
theorem Ext.sz {w x : World} (h : Ext w x) : w.heap.size ≤ x.heap.size := h.size
theorem Ext.cells {w x : World} (h : Ext w x) : ∀ b o, b < w.heap.size → x.cell? ⟨b, o, none⟩ = w.cell? ⟨b, o, none⟩ := fun b o hb => Below.cell h (p := ⟨b, o, none⟩) hb
theorem Ext.kept {w x : World} (h : Ext w x) {p : Addr} {v : Value} (hp : w.cell? p = some v) : x.cell? p = some v :=
  (Below.cell h (World.block_lt_of_cell? w p hp)).trans hp

/-! ### A slice of ints that reads as a list -/
def IntsAt (w : World) (A : Option Addr) (n : Nat) (xs : List Int) : Prop :=
  xs.length = n ∧ n ≤ maxLen ∧ (0 < n → ∃ b off, A = some ⟨b, off, none⟩ ∧ ∀ j z, xs[j]? = some z → w.cell? ⟨b, off + j, none⟩ = some (.int .i64 z))

theorem IntsAt.ext {w w' : World} {A : Option Addr} {n : Nat} {xs : List Int} (h : IntsAt w A n xs) (hx : Ext w w') : IntsAt w' A n xs :=
  ⟨h.1, h.2.1, fun hn => by
    obtain ⟨b, off, ha, hc⟩ := h.2.2 hn
    exact ⟨b, off, ha, fun j z hz => hx.kept (hc j z hz)⟩⟩
theorem IntsAt.le {w : World} {A : Option Addr} {n : Nat} {xs : List Int} (h : IntsAt w A n xs) : n ≤ 9223372036854775807 := by
  have := h.2.1; unfold maxLen at this; omega
theorem IntsAt.len {w : World} {A : Option Addr} {n : Nat} {xs : List Int} (h : IntsAt w A n xs) : Hid (xs.length = n) := h.1
/-- What a round that reads element k is told. -/
theorem IntsAt.round {w : World} {A : Option Addr} {n k : Nat} {xs : List Int} (h : IntsAt w A n xs) (hk : k < n) :
    ∃ b off z, A = some ⟨b, off, none⟩ ∧ b < w.heap.size ∧ w.cell? ⟨b, off + k, none⟩ = some (.int .i64 z) ∧ Hid (xs[k]? = some z) := by
  obtain ⟨hl, _, hc⟩ := h
  obtain ⟨b, off, ha, hz⟩ := hc (by omega)
  have hx : xs[k]? = some (xs[k]'(by omega)) := List.getElem?_eq_getElem (by omega)
  exact ⟨b, off, _, ha, World.block_lt_of_cell? w _ (hz k _ hx), hz k _ hx, hx⟩

theorem IntsAt.nil (w : World) : IntsAt w none 0 [] := ⟨rfl, Nat.zero_le _, fun h => absurd h (by omega)⟩

/-! ### What is left of a list behind its first k -/
theorem drop_at {α : Type} {xs : List α} {k : Nat} {x : α} (h : Hid (xs[k]? = some x)) : xs.drop k = x :: xs.drop (k + 1) := by
  have h := h.out
  have hk : k < xs.length := by
    rcases Nat.lt_or_ge k xs.length with hk | hk
    · exact hk
    · rw [List.getElem?_eq_none hk] at h; cases h
  rw [List.drop_eq_getElem_cons hk]
  congr 1
  rw [List.getElem?_eq_getElem hk] at h
  injection h
/-! ### A region that draws its order, whose operations read, and whose callees make memory: walked once, in the order of the text -/
end Go.Proofs.YtejkmomfpidnbaaDoor

/- An engine for walks: what is known of memory is a view (cells that stay) and a list of boxes (blocks of the call's own that may be written); what is known of a frame is a list of slots. The world itself is never named. No program is named here. -/
namespace Go.Proofs.YtejkmomfpidnbaaDoor
open Go.RowKit
set_option linter.unusedSimpArgs false
set_option linter.unusedVariables false

/-! ### Views, boxes, states -/
abbrev View := Addr → Option Value
def VLe (V V' : View) : Prop := ∀ p x, V p = some x → V' p = some x
theorem VLe.refl (V : View) : VLe V V := fun _ _ h => h
theorem VLe.trans {V V' V'' : View} (h : VLe V V') (k : VLe V' V'') : VLe V V'' := fun p x hp => k p x (h p x hp)
def VIn (V : View) (w : World) : Prop := ∀ p x, V p = some x → w.cell? p = some x
/-- What a block is: cells of a type, or a map. -/
inductive BT where
  | cells (E : TypeId)
  | map (es : Array MapEntry) (clock : Nat)
instance : Coe TypeId BT := ⟨BT.cells⟩
@[reducible] instance (n : Nat) : OfNat BT n := ⟨BT.cells n⟩
structure Box where
  g : Nat
  t : BT
  cs : List Value
/-- The object that a box stands for. -/
def BT.obj : BT → List Value → Obj
  | .cells E, cs => .cells cs.toArray E (0, 0)
  | .map es c, _ => .map es c
@[simp] theorem BT.obj_cells (E : TypeId) (cs : List Value) : BT.obj (.cells E) cs = .cells cs.toArray E (0, 0) := rfl
@[simp] theorem BT.obj_map (es : Array MapEntry) (c : Nat) (cs : List Value) : BT.obj (.map es c) cs = .map es c := rfl
structure Base where
  v : View
  w : World
  fl : List Nat
/-- w' is w with new blocks; of those that were there only fl may have changed. -/
structure Exc (fl : List Nat) (w w' : World) : Prop where
  os : w'.os = w.os
  tape : w'.tape = w.tape
  output : w'.output = w.output
  sz : w.heap.size ≤ w'.heap.size
  block : ∀ k, k < w.heap.size → ¬ k ∈ fl → w'.heap[k]? = w.heap[k]?
theorem Exc.refl (fl : List Nat) (w : World) : Exc fl w w := ⟨rfl, rfl, rfl, Nat.le_refl _, fun _ _ _ => rfl⟩
theorem Exc.trans {fl fl' : List Nat} {a b c : World} (h : Exc fl a b) (k : Exc fl' b c) (hf : ∀ x ∈ fl', a.heap.size ≤ x ∨ x ∈ fl) : Exc fl a c :=
  ⟨k.os.trans h.os, k.tape.trans h.tape, k.output.trans h.output, Nat.le_trans h.sz k.sz, fun i hi hn => by
    rw [k.block i (Nat.lt_of_lt_of_le hi h.sz) (fun hm => by
      rcases hf i hm with h1 | h1
      · omega
      · exact hn h1)]
    exact h.block i hi hn⟩
theorem Exc.of_ext {w w' : World} (h : Ext w w') : Exc [] w w' := ⟨h.os, h.tape, h.output, h.size, fun k hk _ => h.block k hk⟩
theorem Exc.ext {w w' : World} (h : Exc [] w w') : Ext w w' := ⟨h.os, h.tape, h.output, h.sz, fun k hk => h.block k hk (by simp)⟩
theorem Exc.via {fl : List Nat} {a b c : World} (h : Exc fl a b) (k : Ext b c) : Exc fl a c := h.trans (Exc.of_ext k) (by simp)
theorem Exc.dr {fl : List Nat} {w x : World} (h : Exc fl w x) : Exc fl w x.drew := h.via (Ext.dr (Ext.refl x))
theorem Exc.al {fl : List Nat} {w x : World} (o : Obj) (h : Exc fl w x) : Exc fl w (x.alloc o) := h.via (Ext.al o (Ext.refl x))
theorem Exc.set {fl : List Nat} {w x : World} {p : Addr} (v : Value) (h : Exc fl w x) (hp : w.heap.size ≤ p.block ∨ p.block ∈ fl) : Exc fl w (x.setCell p v) :=
  h.trans (fl' := [p.block]) ⟨rfl, rfl, rfl, by simp [World.setCell], fun k hk hn => Below.heap_setCell _ _ _ _ (by simpa using hn)⟩ (by intro y hy; simp at hy; subst hy; exact hp)
structure St (B : Base) (V : View) (L : List Box) (w : World) : Prop where
  ext : Exc B.fl B.w w
  view : ∀ p x, V p = some x → w.cell? p = some x ∧ ∀ b ∈ L, b.g ≠ p.block
  old : ∀ p x, V p = some x → p.block < B.w.heap.size → B.v p = some x
  v0 : VLe B.v V
  own : ∀ b ∈ L, w.heap[b.g]? = some (b.t.obj b.cs) ∧ (B.w.heap.size ≤ b.g ∨ b.g ∈ B.fl)
  nodup : (L.map Box.g).Nodup

/-- A call's contract: with what V knows of memory it returns v, memory only grows, and of v and of a greater view R holds. -/
def FnEnd (V : View) (w : World) (R : Value → View → Prop) (e : Ending) (w' : World) : Prop :=
  ∃ v, e = .returned v ∧ Ext w w' ∧ ∃ V', VLe V V' ∧ VIn V' w' ∧ (∀ p x, V' p = some x → p.block < w.heap.size → V p = some x) ∧ R v V'
def Fn (P : Program) (f : FuncId) (args : List Value) (V : View) (R : Value → View → Prop) : Prop :=
  ∀ w, VIn V w → Calls P f args.toArray w (FnEnd V w R)
theorem Fn.mono {P : Program} {f : FuncId} {args : List Value} {V : View} {R R' : Value → View → Prop} (h : Fn P f args V R) (hr : ∀ v V', VLe V V' → R v V' → R' v V') : Fn P f args V R' :=
  fun w hw => (h w hw).mono fun _ _ ⟨v, he, hx, V', h1, h2, h3, h4⟩ => ⟨v, he, hx, V', h1, h2, h3, hr v V' h1 h4⟩

/-! ### Frames -/
def look : List (Nat × Value) → Nat → Option Value
  | [], _ => none
  | (t, v) :: F, k => bif Nat.beq t k then some v else look F k
def Kn (N : Nat) (F : List (Nat × Value)) (a : Act) : Prop := a.defers = [] ∧ a.tmps.size = N ∧ ∀ t v, look F t = some v → a.tmps.getD t undef = v
def evF (F : List (Nat × Value)) : Operand → Option Value
  | .tmp t => look F t
  | .const v => some v
  | .global g => some (.pointer (some ⟨g, 0, none⟩))
  | .func f => some (.func (.func f) #[] #[])
def putF (F : List (Nat × Value)) (d : Option Nat) (v : Value) : List (Nat × Value) := match d with | some d => (d, v) :: F | none => F
def okD (N : Nat) : Option Nat → Bool
  | some d => Nat.blt d N
  | none => true
section
variable {N : Nat} {F : List (Nat × Value)} {a : Act}
theorem Kn.ev (h : Kn N F a) {x : Operand} {v : Value} (hx : evF F x = some v) : a.eval x = v := by
  cases x with
  | tmp t => exact h.2.2 t v hx
  | const u => simpa [evF, Act.eval] using hx
  | global g => simpa [evF, Act.eval] using hx
  | func f => simpa [evF, Act.eval] using hx
theorem look_cons (t : Nat) (v : Value) (F : List (Nat × Value)) (k : Nat) : look ((t, v) :: F) k = if t = k then some v else look F k := by
  simp only [look]
  by_cases h : t = k
  · subst h; simp [show Nat.beq t t = true from by simp]
  · rw [if_neg h]
    have : Nat.beq t k = false := by
      cases hb : Nat.beq t k
      · rfl
      · exact absurd (Nat.eq_of_beq_eq_true hb) h
    rw [this]; rfl
theorem Kn.put (h : Kn N F a) {d : Option Nat} (hd : okD N d = true) (v : Value) : Kn N (putF F d v) (a.put d v) := by
  cases d with
  | none => exact h
  | some d =>
    have hd : d < N := by simpa [okD, Nat.blt_eq] using hd
    refine ⟨h.1, by simpa [Act.put] using h.2.1, fun t u hu => ?_⟩
    have hu : look ((d, v) :: F) t = some u := hu
    rw [look_cons] at hu
    have hsz := h.2.1
    by_cases ht : d = t
    · subst ht
      rw [if_pos rfl] at hu
      injection hu with hu
      subst hu
      simp [Act.put, hsz, hd]
    · rw [if_neg ht] at hu
      have := h.2.2 t u hu
      simpa [Act.put, Array.getElem?_setIfInBounds_ne ht] using this
theorem Kn.tmp (h : Kn N F a) {t : Nat} {v : Value} (ht : okD N (some t) = true) (hl : look F t = some v) : a.tmps[t]? = some v := by
  have ht : t < N := by simpa [okD, Nat.blt_eq] using ht
  have h1 := h.2.2 t v hl
  have h2 := h.2.1
  rw [Array.getElem?_eq_getElem (by omega)]
  simpa [show t < a.tmps.size by omega] using h1
/-- Fewer slots are known. -/
theorem Kn.less {F' : List (Nat × Value)} (h : Kn N F a) (hs : ∀ p ∈ F', look F p.1 = some p.2) : Kn N F' a := by
  refine ⟨h.1, h.2.1, fun t v hv => h.2.2 t v ?_⟩
  have : (t, v) ∈ F' := by
    clear h hs
    induction F' with
    | nil => simp [look] at hv
    | cons p F' ih =>
      obtain ⟨k, u⟩ := p
      rw [look_cons] at hv
      by_cases hk : k = t
      · rw [if_pos hk] at hv; injection hv with hv; subst hk; subst hv; simp
      · rw [if_neg hk] at hv; exact List.mem_cons_of_mem _ (ih hv)
  exact hs _ this
end

theorem sub_nil {F : List (Nat × Value)} : ∀ p ∈ ([] : List (Nat × Value)), look F p.1 = some p.2 := by simp
theorem sub_cons {F G : List (Nat × Value)} {t : Nat} {v : Value} (h : look F t = some v) (hs : ∀ p ∈ G, look F p.1 = some p.2) : ∀ p ∈ ((t, v) :: G), look F p.1 = some p.2 := fun p hp => by
  rcases List.mem_cons.1 hp with rfl | hp
  · exact h
  · exact hs p hp

/-! ### What comes behind -/
inductive Cont where
  | seq (y : Code)
  | block (i : Nat)
  | thn (K : Act → World → Prop)
def evalQ (P : Program) (Q : Exit → Act → World → Prop) : List Cont → Exit → Act → World → Prop
  | [] => Q
  | .seq y :: k => Exit.then (y.wp P (evalQ P Q k)) (evalQ P Q k)
  | .block i :: k => Exit.inBlock i (evalQ P Q k)
  | .thn K :: k => Exit.then K (evalQ P Q k)

/-! ### What is to be shown -/
def AtQ (P : Program) (B : Base) (N : Nat) (Q : Exit → Act → World → Prop) (k : List Cont) (e : Exit) (F : List (Nat × Value)) (V : View) (L : List Box) : Prop := ∀ a w, Kn N F a → St B V L w → evalQ P Q k e a w
def GoC (P : Program) (B : Base) (N : Nat) (c : Code) (Q : Exit → Act → World → Prop) (k : List Cont) (F : List (Nat × Value)) (V : View) (L : List Box) : Prop := ∀ a w, Kn N F a → St B V L w → c.wp P (evalQ P Q k) a w
/-- How a region is walked: in the order of the text (plain); it draws its order, and its operations are quiet (quiet); it draws its order, and what V0 and Lk say is kept (held). -/
inductive Mode where
  | plain
  | quiet
  | held (V0 : View) (Lk : List Box) (fuel : Nat) (listed : Array Bool)
def Mode.loud : Mode → Bool
  | .quiet => false
  | _ => true
/-- What comes behind an operation. -/
def nextK (P : Program) (B : Base) (ops : Array Oper) (Q : Exit → Act → World → Prop) (rest : List Oper) : Mode → Act → World → Prop
  | .plain => wpList P ops Q rest
  | .quiet => fun _ _ => True
  | .held V0 Lk fuel listed => fun a w => St B V0 Lk w ∧ wpAnyH P .any ops Q (St B V0 Lk) fuel listed a w
/-- The rest of a region's operations. -/
def GoL (P : Program) (B : Base) (N : Nat) (dr : Mode) (ops : Array Oper) (Q : Exit → Act → World → Prop) (k : List Cont) (rest : List Oper) (F : List (Nat × Value)) (V : View) (L : List Box) : Prop :=
  if dr.loud = true then ∀ a w, Kn N F a → St B V L w → nextK P B ops (evalQ P Q k) rest dr a w
  else ∀ a, Kn N F a → wpQuiet P ops (St B V L) (fun a' => ∀ w', St B V L w' → evalQ P Q k .normal a' w') rest a
/-- The operation is carried out. -/
def GoW (P : Program) (B : Base) (N : Nat) (dr : Mode) (ops : Array Oper) (Q : Exit → Act → World → Prop) (k : List Cont) (o : Oper) (rest : List Oper) (F : List (Nat × Value)) (V : View) (L : List Box) : Prop :=
  if dr.loud = true then ∀ a w, Kn N F a → St B V L w → o.wp P a w (nextK P B ops (evalQ P Q k) rest dr) (evalQ P Q k)
  else ∀ a, Kn N F a → o.quiet P a (St B V L) (wpQuiet P ops (St B V L) (fun a' => ∀ w', St B V L w' → evalQ P Q k .normal a' w') rest)
/-- In every world of which so much is known the operation yields v and does nothing else. -/
def QP (P : Program) (B : Base) (N : Nat) (V : View) (L : List Box) (o : Oper) (F : List (Nat × Value)) (v : Value) : Prop := ∀ a w, Kn N F a → St B V L w → (execOp a.eval o).run P w = .ok (.value v) w
/-- In every world of which so much is known the operation yields v. -/
def QO (P : Program) (B : Base) (N : Nat) (V : View) (L : List Box) (o : Oper) (F : List (Nat × Value)) (v : Value) : Prop := ∀ a w, Kn N F a → St B V L w → o.quietAt P a (St B V L) w v

section
variable {P : Program} {B : Base} {N : Nat} {Q : Exit → Act → World → Prop} {F : List (Nat × Value)} {V : View} {L : List Box} {k : List Cont}

/-! ### Control -/
theorem gc_seq {x y : Code} (h : GoC P B N x Q (.seq y :: k) F V L) : GoC P B N (.seq x y) Q k F V L := fun a w ha hs => wp_seq (h a w ha hs)
theorem gc_skip (h : AtQ P B N Q k .normal F V L) : GoC P B N .skip Q k F V L := fun a w ha hs => wp_skip (h a w ha hs)
theorem gc_ret (h : AtQ P B N Q k .ret F V L) : GoC P B N .ret Q k F V L := fun a w ha hs => wp_ret (h a w ha hs)
theorem gc_exit {i : Nat} (h : AtQ P B N Q k (.exit i) F V L) : GoC P B N (.exit i) Q k F V L := fun a w ha hs => wp_exit (h a w ha hs)
theorem gc_block {i : Nat} {c : Code} (h : GoC P B N c Q (.block i :: k) F V L) : GoC P B N (.block i c) Q k F V L := fun a w ha hs => wp_block (h a w ha hs)
theorem gc_cond_t {c : Operand} {x y : Code} (hc : evF F c = some (.bool true)) (h : GoC P B N x Q k F V L) : GoC P B N (.cond c x y) Q k F V L := fun a w ha hs => wp_cond_true (ha.ev hc) (h a w ha hs)
theorem gc_cond_f {c : Operand} {x y : Code} (hc : evF F c = some (.bool false)) (h : GoC P B N y Q k F V L) : GoC P B N (.cond c x y) Q k F V L := fun a w ha hs => wp_cond_false (ha.ev hc) (h a w ha hs)
theorem gc_cond_p {c : Operand} {x y : Code} {p : Prop} [Decidable p] (hc : evF F c = some (.bool (decide p))) (h1 : p → GoC P B N x Q k F V L) (h2 : ¬ p → GoC P B N y Q k F V L) : GoC P B N (.cond c x y) Q k F V L :=
  fun a w ha hs => wp_cond_split (ha.ev hc) (fun h => h1 (of_decide_eq_true h) a w ha hs) (fun h => h2 (of_decide_eq_false h) a w ha hs)
theorem gc_cond_b {c : Operand} {x y : Code} {b : Bool} (hc : evF F c = some (.bool b)) (h1 : b = true → GoC P B N x Q k F V L) (h2 : b = false → GoC P B N y Q k F V L) : GoC P B N (.cond c x y) Q k F V L :=
  fun a w ha hs => wp_cond_split (ha.ev hc) (fun h => h1 h a w ha hs) (fun h => h2 h a w ha hs)
theorem gc_region {id : Nat} {l : List Oper} (h : GoL P B N .plain l.toArray Q k l F V L) : GoC P B N (.region id l.toArray false) Q k F V L := fun a w ha hs => wp_region_lit (by unfold GoL at h; exact h a w ha hs)
theorem St.drew {w : World} (h : St B V L w) : St B V L { w with drawn := w.drawn + 1 } := ⟨Exc.dr h.ext, h.view, h.old, h.v0, h.own, h.nodup⟩
theorem gc_quiet {id : Nat} {l : List Oper} (hm : P.follows .mixedOrders = true) (hB : Region.lexB .any l.toArray = true) (h : GoL P B N .quiet l.toArray Q k l F V L) : GoC P B N (.region id l.toArray true) Q k F V L :=
  fun a w ha hs => wp_region_quiet (C := St B V L) hm hB hs.drew (by
    have h' : ∀ a, Kn N F a → wpQuiet P l.toArray (St B V L) (fun a' => ∀ w', St B V L w' → evalQ P Q k .normal a' w') l a := by unfold GoL at h; exact h
    have := h' a ha
    simpa using this)

theorem at_seq {y : Code} (h : GoC P B N y Q k F V L) : AtQ P B N Q (.seq y :: k) .normal F V L := h
theorem at_then_ret {y : Code} (h : AtQ P B N Q k .ret F V L) : AtQ P B N Q (.seq y :: k) .ret F V L := h
theorem at_then_exit {y : Code} {i : Nat} (h : AtQ P B N Q k (.exit i) F V L) : AtQ P B N Q (.seq y :: k) (.exit i) F V L := h
theorem at_thn_ret {K : Act → World → Prop} (h : AtQ P B N Q k .ret F V L) : AtQ P B N Q (.thn K :: k) .ret F V L := h
theorem at_thn_exit {K : Act → World → Prop} {i : Nat} (h : AtQ P B N Q k (.exit i) F V L) : AtQ P B N Q (.thn K :: k) (.exit i) F V L := h
theorem at_block_normal {i : Nat} (h : AtQ P B N Q k .normal F V L) : AtQ P B N Q (.block i :: k) .normal F V L := h
theorem at_block_ret {i : Nat} (h : AtQ P B N Q k .ret F V L) : AtQ P B N Q (.block i :: k) .ret F V L := h
theorem at_block_hit {i : Nat} (h : AtQ P B N Q k .normal F V L) : AtQ P B N Q (.block i :: k) (.exit i) F V L := fun a w ha hs => by
  show if i = i then _ else _
  rw [if_pos rfl]; exact h a w ha hs
theorem at_block_miss {i j : Nat} (hne : Nat.beq j i = false) (h : AtQ P B N Q k (.exit j) F V L) : AtQ P B N Q (.block i :: k) (.exit j) F V L := fun a w ha hs => by
  show if j = i then _ else _
  rw [if_neg (fun e => by subst e; simp at hne)]; exact h a w ha hs

theorem St.drop {w : World} {L' : List Box} (hs : St B V L w) (h : L'.Sublist L) : St B V L' w :=
  ⟨hs.ext, fun p x hp => ⟨(hs.view p x hp).1, fun b hb => (hs.view p x hp).2 b (h.subset hb)⟩, hs.old, hs.v0, fun b hb => hs.own b (h.subset hb), List.Nodup.sublist (h.map Box.g) hs.nodup⟩
/-- A loop: J says what is known at each round's head; its number falls. -/
theorem gc_loop {c : Code} (J : List (Nat × Value) → View → List Box → Nat → Prop) {F' : List (Nat × Value)} {V' : View} {L' : List Box} {m : Nat} (h0 : J F' V' L' m) (hF : ∀ p ∈ F', look F p.1 = some p.2) (hV : V' = V) (hL : L'.Sublist L)
    (round : ∀ F V L m, J F V L m → GoC P B N c Q (.thn (fun a w => ∃ F' V' L' m', m' < m ∧ J F' V' L' m' ∧ Kn N F' a ∧ St B V' L' w) :: k) F V L) : GoC P B N (.loop c) Q k F V L := by
  subst hV
  intro a w ha hs
  have key : ∀ n F V L a w, J F V L n → Kn N F a → St B V L w → (Code.loop c).wp P (evalQ P Q k) a w := by
    intro n F V L a w hJ ha hs
    let I : Act → World → Nat → Prop := fun a w n => ∃ F V L, J F V L n ∧ Kn N F a ∧ St B V L w
    classical
    have hex : ∀ a w, (∃ n, I a w n) → ∃ n, I a w n ∧ ∀ k, k < n → ¬ I a w k := fun a w ⟨n, hn⟩ => by
      induction n using Nat.strongRecOn with
      | _ n ih =>
        by_cases h : ∃ k, k < n ∧ I a w k
        · obtain ⟨k, hk, hI⟩ := h; exact ih k hk hI
        · exact ⟨n, hn, fun k hk hI => h ⟨k, hk, hI⟩⟩
    let μ : Act → World → Nat := fun a w => if h : ∃ n, I a w n then Classical.choose (hex a w h) else 0
    refine wp_loop (fun a w => ∃ n, I a w n) μ ⟨n, F, V, L, hJ, ha, hs⟩ fun a w h => ?_
    have hμ := Classical.choose_spec (hex a w h)
    have hμe : μ a w = Classical.choose (hex a w h) := dif_pos h
    obtain ⟨⟨F, V, L, hJ, ha, hs⟩, _⟩ := hμ
    refine Code.wp_mono (fun e a' w' q => ?_) (round F V L _ hJ a w ha hs)
    cases e with
    | normal =>
      obtain ⟨F', V', L', m', hlt, hJ', ha', hs'⟩ := q
      have h' : ∃ n, I a' w' n := ⟨m', F', V', L', hJ', ha', hs'⟩
      refine ⟨h', ?_⟩
      have hμe' : μ a' w' = Classical.choose (hex a' w' h') := dif_pos h'
      have hmin := (Classical.choose_spec (hex a' w' h')).2 m'
      rw [hμe, hμe']
      rcases Nat.lt_or_ge m' (Classical.choose (hex a' w' h')) with hl | hl
      · exact absurd ⟨F', V', L', hJ', ha', hs'⟩ (hmin hl)
      · omega
    | exit i => exact q
    | goto l => exact q
    | ret => exact q
    | panic ch => exact q
    | outgrown => exact q
  exact key m F' V' L' a w h0 (ha.less hF) (hs.drop hL)
/-- A round's end. -/
theorem at_round {J : List (Nat × Value) → View → List Box → Nat → Prop} {m : Nat} (F' : List (Nat × Value)) {L' : List Box} (m' : Nat) (hJ : J F' V L' m') (hm : m' < m) (hF : ∀ p ∈ F', look F p.1 = some p.2) (hL : L'.Sublist L) :
    AtQ P B N Q (.thn (fun a w => ∃ F' V' L' m', m' < m ∧ J F' V' L' m' ∧ Kn N F' a ∧ St B V' L' w) :: k) .normal F V L := fun a w ha hs => ⟨F', V, L', m', hm, hJ, ha.less hF, hs.drop hL⟩
/-! ### Operations come up -/
variable {ops : Array Oper} {rest : List Oper} {o : Oper}
theorem gl_plain {rest : List Oper} : GoL P B N .plain ops Q k rest F V L ↔ ∀ a w, Kn N F a → St B V L w → wpList P ops (evalQ P Q k) rest a w := by unfold GoL; exact Iff.rfl
theorem gl_quiet {rest : List Oper} : GoL P B N .quiet ops Q k rest F V L ↔ ∀ a, Kn N F a → wpQuiet P ops (St B V L) (fun a' => ∀ w', St B V L w' → evalQ P Q k .normal a' w') rest a := by unfold GoL; exact Iff.rfl
theorem gw_plain {rest : List Oper} : GoW P B N .plain ops Q k o rest F V L ↔ ∀ a w, Kn N F a → St B V L w → o.wp P a w (wpList P ops (evalQ P Q k) rest) (evalQ P Q k) := by unfold GoW; exact Iff.rfl
theorem gw_quiet {rest : List Oper} : GoW P B N .quiet ops Q k o rest F V L ↔ ∀ a, Kn N F a → o.quiet P a (St B V L) (wpQuiet P ops (St B V L) (fun a' => ∀ w', St B V L w' → evalQ P Q k .normal a' w') rest) := by unfold GoW; exact Iff.rfl
theorem gw_loud {dr : Mode} (hdr : dr.loud = true) (h : ∀ a w, Kn N F a → St B V L w → o.wp P a w (nextK P B ops (evalQ P Q k) rest dr) (evalQ P Q k)) : GoW P B N dr ops Q k o rest F V L := by unfold GoW; rw [if_pos hdr]; exact h
theorem gl_loud {dr : Mode} (hdr : dr.loud = true) (h : GoL P B N dr ops Q k rest F V L) : ∀ a w, Kn N F a → St B V L w → nextK P B ops (evalQ P Q k) rest dr a w := by unfold GoL at h; rw [if_pos hdr] at h; exact h
/-- A region that is walked in the order of its text. -/
def Mode.text : Mode → Bool
  | .held .. => false
  | _ => true
theorem gl_nil {dr : Mode} (ht : dr.text = true) (h : AtQ P B N Q k .normal F V L) : GoL P B N dr ops Q k [] F V L := by
  cases dr with
  | plain => exact gl_plain.2 fun a w ha hs => wpList_nil (h a w ha hs)
  | quiet => exact gl_quiet.2 fun a ha => wpQuiet_nil fun w' hw' => h a w' ha hw'
  | held => cases ht
theorem yielded_of {a : Act} {j t : Nat} {b : Bool} (ha : Kn N F a) (hj : (ops[j]?).bind (·.dst) = some t) (ht : okD N (some t) = true) (hb : look F t = some (.bool b)) : yielded ops a.tmps j = some b := by
  unfold yielded
  rw [hj, Option.bind_some, ha.tmp ht hb]
theorem gl_wanted {dr : Mode} (ht : dr.text = true) (hw : ∀ a, Kn N F a → Region.wanted o (yielded ops a.tmps) = true) (h : GoW P B N dr ops Q k o rest F V L) : GoL P B N dr ops Q k (o :: rest) F V L := by
  cases dr with
  | plain =>
    refine gl_plain.2 fun a w ha hs => ?_
    unfold wpList
    rw [if_pos (hw a ha)]
    exact .inl (gw_plain.1 h a w ha hs)
  | quiet =>
    refine gl_quiet.2 fun a ha => ?_
    unfold wpQuiet
    rw [if_pos (hw a ha)]
    exact gw_quiet.1 h a ha
  | held => cases ht
theorem gl_go {dr : Mode} (ht : dr.text = true) (hg : o.guard = none) (h : GoW P B N dr ops Q k o rest F V L) : GoL P B N dr ops Q k (o :: rest) F V L := gl_wanted ht (fun a ha => by simp [Region.wanted, hg]) h
theorem gl_yes {dr : Mode} (ht' : dr.text = true) {j t : Nat} {want : Bool} (hg : o.guard = some (j, want)) (hj : (ops[j]?).bind (·.dst) = some t) (ht : okD N (some t) = true) (hb : look F t = some (.bool want)) (h : GoW P B N dr ops Q k o rest F V L) : GoL P B N dr ops Q k (o :: rest) F V L :=
  gl_wanted ht' (fun a ha => by simp [Region.wanted, hg, yielded_of ha hj ht hb]) h
theorem gl_no {dr : Mode} (ht' : dr.text = true) {j t : Nat} {want b : Bool} (hg : o.guard = some (j, want)) (hj : (ops[j]?).bind (·.dst) = some t) (ht : okD N (some t) = true) (hb : look F t = some (.bool b)) (hne : (b == want) = false) (hd : okD N o.dst = true) (h : GoL P B N dr ops Q k rest (putF F o.dst undef) V L) : GoL P B N dr ops Q k (o :: rest) F V L := by
  have hw : ∀ a, Kn N F a → ¬ Region.wanted o (yielded ops a.tmps) = true := fun a ha => by simp [Region.wanted, hg, yielded_of ha hj ht hb]; simpa using hne
  cases dr with
  | plain =>
    refine gl_plain.2 fun a w ha hs => ?_
    unfold wpList
    rw [if_neg (hw a ha)]
    exact gl_plain.1 h _ _ (ha.put hd _) hs
  | quiet =>
    refine gl_quiet.2 fun a ha => ?_
    unfold wpQuiet
    rw [if_neg (hw a ha)]
    exact gl_quiet.1 h _ (ha.put hd _)
  | held => cases ht'
theorem gl_nou {dr : Mode} (ht' : dr.text = true) {j t : Nat} {want : Bool} (hg : o.guard = some (j, want)) (hj : (ops[j]?).bind (·.dst) = some t) (ht : okD N (some t) = true) (hb : look F t = some undef) (hd : okD N o.dst = true) (h : GoL P B N dr ops Q k rest (putF F o.dst undef) V L) : GoL P B N dr ops Q k (o :: rest) F V L := by
  have hw : ∀ a, Kn N F a → ¬ Region.wanted o (yielded ops a.tmps) = true := fun a ha => by
    have hy : yielded ops a.tmps j = none := by
      unfold yielded
      rw [hj, Option.bind_some, ha.tmp ht hb]
      rfl
    simp [Region.wanted, hg, hy]
  cases dr with
  | plain =>
    refine gl_plain.2 fun a w ha hs => ?_
    unfold wpList
    rw [if_neg (hw a ha)]
    exact gl_plain.1 h _ _ (ha.put hd _) hs
  | quiet =>
    refine gl_quiet.2 fun a ha => ?_
    unfold wpQuiet
    rw [if_neg (hw a ha)]
    exact gl_quiet.1 h _ (ha.put hd _)
  | held => cases ht'
theorem Kn.again {a : Act} {t : Nat} {v : Value} (ha : Kn N F a) (hl : look F t = some v) : Kn N ((t, v) :: F) a :=
  ⟨ha.1, ha.2.1, fun k u hk => by
    rw [look_cons] at hk
    by_cases h : t = k
    · rw [if_pos h] at hk; injection hk with hk; subst h; subst hk; exact ha.2.2 _ _ hl
    · rw [if_neg h] at hk; exact ha.2.2 _ _ hk⟩
theorem gl_again {dr : Mode} {l : List Oper} {t : Nat} {v : Value} (hl : look F t = some v) (h : GoL P B N dr ops Q k l ((t, v) :: F) V L) : GoL P B N dr ops Q k l F V L := by
  unfold GoL at *
  by_cases hd : dr.loud = true
  · rw [if_pos hd] at *
    exact fun a w ha hs => h a w (ha.again hl) hs
  · rw [if_neg hd] at *
    exact fun a ha => h a (ha.again hl)
theorem gl_split_p {dr : Mode} {j t : Nat} {want : Bool} {p : Prop} [Decidable p] (hg : o.guard = some (j, want)) (hj : (ops[j]?).bind (·.dst) = some t) (hb : look F t = some (.bool (decide p)))
    (h1 : p → GoL P B N dr ops Q k (o :: rest) ((t, .bool true) :: F) V L) (h2 : ¬ p → GoL P B N dr ops Q k (o :: rest) ((t, .bool false) :: F) V L) : GoL P B N dr ops Q k (o :: rest) F V L := by
  by_cases h : p
  · exact gl_again (by rw [hb, decide_eq_true h]) (h1 h)
  · exact gl_again (by rw [hb, decide_eq_false h]) (h2 h)
theorem gl_split_b {dr : Mode} {j t : Nat} {want b : Bool} (hg : o.guard = some (j, want)) (hj : (ops[j]?).bind (·.dst) = some t) (hb : look F t = some (.bool b))
    (h1 : b = true → GoL P B N dr ops Q k (o :: rest) ((t, .bool true) :: F) V L) (h2 : b = false → GoL P B N dr ops Q k (o :: rest) ((t, .bool false) :: F) V L) : GoL P B N dr ops Q k (o :: rest) F V L := by
  cases h : b
  · exact gl_again (by rw [hb, h]) (h2 h)
  · exact gl_again (by rw [hb, h]) (h1 h)
theorem gw_q' {dr : Mode} {v : Value} {t : Nat} {op : Op} {ty : TypeId} {pos : String} {af : Array Edge} {gd : Option (Nat × Bool)} (hd : okD N (some t) = true) (hq : QO P B N V L ⟨some t, op, ty, pos, af, gd⟩ F v) (h : GoL P B N dr ops Q k rest ((t, v) :: F) V L) : GoW P B N dr ops Q k ⟨some t, op, ty, pos, af, gd⟩ rest F V L := by
  unfold GoL at h
  unfold GoW
  by_cases hl : dr.loud = true
  · rw [if_pos hl] at *
    exact fun a w ha hs => Oper.wp_of_quiet (C := St B V L) (K := fun a' => Kn N (putF F (some t) v) a') hs (fun a' w' hw' ha' => h a' w' ha' hw') ⟨v, fun w' hw' => hq a w' ha hw', ha.put hd v⟩
  · rw [if_neg hl] at *
    exact fun a ha => ⟨v, fun w hw => hq a w ha hw, h _ (ha.put hd v)⟩
theorem QP.qo {o : Oper} {v : Value} (h : QP P B N V L o F v) : QO P B N V L o F v := fun a w ha hs => by
  unfold Oper.quietAt
  rw [h a w ha hs]
  exact ⟨rfl, rfl⟩
theorem gw_q {dr : Mode} {v : Value} {t : Nat} {op : Op} {ty : TypeId} {pos : String} {af : Array Edge} {gd : Option (Nat × Bool)} (hd : okD N (some t) = true) (hq : QP P B N V L ⟨some t, op, ty, pos, af, gd⟩ F v) (h : GoL P B N dr ops Q k rest ((t, v) :: F) V L) : GoW P B N dr ops Q k ⟨some t, op, ty, pos, af, gd⟩ rest F V L := gw_q' hd hq.qo h

/-! ### A region that draws its order and makes or writes memory: quiet operations first, then whichever may come up -/
def PanicOk (Q : Exit → Act → World → Prop) : Prop := ∀ c (a : Act) d v w, Q (.panic c) (a.put d v) w → Q (.panic c) a w
theorem PanicOk.evalQ (h : PanicOk Q) : ∀ k, PanicOk (evalQ P Q k)
  | [] => h
  | .seq y :: k => fun c a d v w hq => h.evalQ k c a d v w hq
  | .block i :: k => fun c a d v w hq => h.evalQ k c a d v w hq
  | .thn K :: k => fun c a d v w hq => h.evalQ k c a d v w hq
/-! ### A function's head and end -/
def argsF : List Value → Nat → List (Nat × Value)
  | [], _ => []
  | v :: l, i => (i, v) :: argsF l (i + 1)
theorem look_args : ∀ (l : List Value) (i t : Nat) (v : Value), look (argsF l i) t = some v → i ≤ t ∧ l[t - i]? = some v
  | [], _, _, _, h => by simp [argsF, look] at h
  | u :: l, i, t, v, h => by
    rw [argsF, look_cons] at h
    by_cases hi : i = t
    · subst hi; rw [if_pos rfl] at h; injection h with h; subst h; simp
    · rw [if_neg hi] at h
      obtain ⟨h1, h2⟩ := look_args l (i + 1) t v h
      refine ⟨by omega, ?_⟩
      rw [show t - i = (t - (i + 1)) + 1 by omega]
      simpa using h2
theorem fn_enter {f : FuncId} {fn : Func} {c : Code} {args : List Value} {R : Value → View → Prop} (hf : P.funcs[f]? = some fn) (hb : fn.body = some c) (hN : fn.ntmps = N) (hsz : Nat.ble args.length N = true)
    (h : ∀ w, GoC P ⟨V, w, []⟩ N c (bodyPost P fn (FnEnd V w R)) [] (argsF args 0) V []) : Fn P f args V R := fun w hV => by
  refine calls_of_wp hf hb (h w _ w ⟨rfl, ?_, fun t v hv => ?_⟩ ⟨Exc.refl _ w, fun p x hp => ⟨hV p x hp, by simp⟩, fun p x hp _ => hp, VLe.refl V, by simp, by simp⟩)
  · have := Nat.le_of_ble_eq_true hsz
    simp [hN]; omega
  · obtain ⟨_, h2⟩ := look_args args 0 t v hv
    have hlt : t < args.length := by
      rcases Nat.lt_or_ge t args.length with hl | hl
      · exact hl
      · rw [List.getElem?_eq_none (by omega)] at h2; cases h2
    rw [List.getElem?_eq_getElem (by omega)] at h2
    simp only [Nat.sub_zero] at h2
    injection h2 with h2
    simp [Array.getElem?_append, hlt, h2]
/-- A result, as the function hands it back. -/
def RV (P : Program) (B : Base) (N : Nat) (F : List (Nat × Value)) (V : View) (L : List Box) (r : ResultVar) (v : Value) : Prop :=
  ∀ a w, Kn N F a → St B V L w → (match r with | .tmp t => (pure (a.tmps.getD t undef) : Sem Value) | .cell x t => do loadVar t (← asAddr (a.tmps.getD x undef))).run P w = .ok v w
theorem rv_tmp {t : Nat} {v : Value} (h : look F t = some v) : RV P B N F V L (.tmp t) v := fun a w ha _ => by
  simp only []
  rw [ha.2.2 t v h]; rfl
variable {fn : Func} {R : Value → View → Prop} {w0 : World} {V0 : View}
theorem fnEnd_of {w : World} (hs : St ⟨V0, w0, []⟩ V L w) {v : Value} (hR : R v V) : FnEnd V0 w0 R (.returned v) w :=
  ⟨v, rfl, hs.ext.ext, V, hs.v0, fun p x hp => (hs.view p x hp).1, fun p x hp hb => hs.old p x hp hb, hR⟩
theorem at_ret1 {r : ResultVar} {v : Value} (hr : fn.results = #[r]) (h1 : RV P ⟨V0, w0, []⟩ N F V L r v) (hR : R v V) : AtQ P ⟨V0, w0, []⟩ N (bodyPost P fn (FnEnd V0 w0 R)) [] .ret F V L := fun a w ha hs => by
  refine ⟨ha.1, v, ?_, fnEnd_of hs hR⟩
  have h1 := h1 a w ha hs
  unfold results
  rw [hr]
  cases r <;> simp_all
end
end Go.Proofs.YtejkmomfpidnbaaDoor

/- Names and strings in plain terms. No program is named here. -/
namespace Go.Proofs.YtejkmomfpidnbaaDoor
open Go.RowKit
set_option linter.unusedSimpArgs false
set_option linter.unusedVariables false

theorem str_ext {a b : ByteArray} (h : a.toList = b.toList) : a = b := by
  have h1 : a.data.toList = b.data.toList := by rw [← Lib.toList_data, ← Lib.toList_data]; exact h
  cases a; cases b; congr 1
  exact Array.toList_inj.1 h1
theorem str_beq (a b : ByteArray) : (a.toList == b.toList) = decide (a = b) := by
  rw [Bool.eq_iff_iff]; simp
  exact ⟨str_ext, fun h => by rw [h]⟩
end Go.Proofs.YtejkmomfpidnbaaDoor

/- The engine's operations. No program is named here. -/
namespace Go.Proofs.YtejkmomfpidnbaaDoor
open Go.RowKit
set_option linter.unusedSimpArgs false
set_option linter.unusedVariables false

theorem beq_dec {α : Type} [BEq α] [LawfulBEq α] [DecidableEq α] (a b : α) : (a == b) = decide (a = b) := by
  rw [Bool.eq_iff_iff]; simp

/-! ### Closed facts on the program's types -/
structure IsOne (P : Program) (T : TypeId) : Prop where
  h : ∀ w, (isAgg T).run P w = .ok false w
structure SizeIs (P : Program) (T : TypeId) (n : Nat) : Prop where
  h : ∀ w, (sizeOf T).run P w = .ok n w
structure UnderIs (P : Program) (T : TypeId) (dsc : TypeDesc) : Prop where
  u : P.underlying T = some dsc
theorem UnderIs.h {P : Program} {T : TypeId} {dsc : TypeDesc} (hu : UnderIs P T dsc) (w : World) : (underlying T).run P w = .ok dsc w := run_underlying hu.u w
structure Enters (P : Program) (f : FuncId) : Prop where
  h : ∀ args w, (callFunc f args).run P w = .ok (.enter f args) w
section
variable {P : Program} {B : Base} {N : Nat} {F : List (Nat × Value)} {V : View} {L : List Box} {d : Option Tmp} {ty : TypeId} {pos : String} {af : Array Edge} {gd : Option (Nat × Bool)}

theorem q_of {o : Oper} {v : Value} (h : ∀ a w, Kn N F a → St B V L w → (execOp a.eval o).run P w = .ok (.value v) w) : QP P B N V L o F v := h

/-! ### Values -/
theorem q_move {x : Operand} {v : Value} (hx : evF F x = some v) : QP P B N V L ⟨d, .move x, ty, pos, af, gd⟩ F v := q_of fun a w ha _ => by simp [execOp, ha.ev hx]
theorem q_assign {x : Operand} {v : Value} (hx : evF F x = some v) : QP P B N V L ⟨d, .assign x, ty, pos, af, gd⟩ F v := q_of fun a w ha _ => by simp [execOp, ha.ev hx]
theorem q_pick_t {c x y : Operand} {v : Value} (hc : evF F c = some (.bool true)) (hx : evF F x = some v) : QP P B N V L ⟨d, .pick c x y, ty, pos, af, gd⟩ F v := q_of fun a w ha _ => by
  simp [execOp, ha.ev hc, ha.ev hx, asBool]
theorem q_pick_f {c x y : Operand} {v : Value} (hc : evF F c = some (.bool false)) (hx : evF F y = some v) : QP P B N V L ⟨d, .pick c x y, ty, pos, af, gd⟩ F v := q_of fun a w ha _ => by
  simp [execOp, ha.ev hc, ha.ev hx, asBool]
theorem q_not_t {x : Operand} {t : TypeId} (hx : evF F x = some (.bool true)) : QP P B N V L ⟨d, .unOp .not t x, ty, pos, af, gd⟩ F (.bool false) := q_of fun a w ha _ => by simp [execOp, ha.ev hx, Op.unary]
theorem q_not_f {x : Operand} {t : TypeId} (hx : evF F x = some (.bool false)) : QP P B N V L ⟨d, .unOp .not t x, ty, pos, af, gd⟩ F (.bool true) := q_of fun a w ha _ => by simp [execOp, ha.ev hx, Op.unary]
theorem q_not_p {x : Operand} {t : TypeId} {p : Prop} [Decidable p] (hx : evF F x = some (.bool (decide p))) : QP P B N V L ⟨d, .unOp .not t x, ty, pos, af, gd⟩ F (.bool (decide (¬ p))) := q_of fun a w ha _ => by simp [execOp, ha.ev hx, Op.unary]
theorem q_not_b {x : Operand} {t : TypeId} {b : Bool} (hx : evF F x = some (.bool b)) : QP P B N V L ⟨d, .unOp .not t x, ty, pos, af, gd⟩ F (.bool (!b)) := q_of fun a w ha _ => by simp [execOp, ha.ev hx, Op.unary]
theorem q_extract {x : Operand} {i : Nat} {vs : Array Value} {v : Value} (hx : evF F x = some (.tuple vs)) (hv : vs[i]? = some v) : QP P B N V L ⟨d, .extract x i, ty, pos, af, gd⟩ F v := q_of fun a w ha _ => by
  simp [execOp, ha.ev hx, Instr.extract, hv]
theorem q_mkiface {x : Operand} {t : TypeId} {v : Value} {dsc : TypeDesc} (hu : UnderIs P t dsc) (hn : (match dsc with | .interface _ => true | _ => false) = false) (hx : evF F x = some v) : QP P B N V L ⟨d, .makeInterface t x, ty, pos, af, gd⟩ F (.iface t v) := q_of fun a w ha _ => by
  have hu := hu.h w
  cases dsc <;> simp_all [execOp, ha.ev hx, Instr.makeInterface]
/-! ### Ints -/
section ints
variable {x y : Operand} {t ty2 : TypeId} {a b : Int}
theorem run_bin {op : BinOp} {k : IntKind} {v : Value} {o : Oper} (ho : o.op = .binOp op t x y ty2) (hx : evF F x = some (.int k a)) (hy : evF F y = some (.int k b)) (h : ∀ w, (binOp op t (.int k a) (.int k b)).run P w = .ok v w) : QP P B N V L o F v := q_of fun ac w ha _ => by
  have e : (eqGuard op t x y (.int k a) (.int k b)) = pure () := by unfold eqGuard; cases op <;> rfl
  simp [execOp, ho, ha.ev hx, ha.ev hy, e, h w]
theorem q_add (hx : evF F x = some (.int .i64 a)) (hy : evF F y = some (.int .i64 b)) (h : -9223372036854775808 ≤ a + b ∧ a + b ≤ 9223372036854775807) : QP P B N V L ⟨d, .binOp .add t x y ty2, ty, pos, af, gd⟩ F (.int .i64 (a + b)) :=
  run_bin rfl hx hy fun w => by simp [binOp, Op.intArith, IntWalk.i64_in _ h]
theorem q_mul (hx : evF F x = some (.int .i64 a)) (hy : evF F y = some (.int .i64 b)) (h : -9223372036854775808 ≤ a * b ∧ a * b ≤ 9223372036854775807) : QP P B N V L ⟨d, .binOp .mul t x y ty2, ty, pos, af, gd⟩ F (.int .i64 (a * b)) :=
  run_bin rfl hx hy fun w => by simp [binOp, Op.intArith, IntWalk.i64_in _ h]
theorem q_addw {k : IntKind} (hx : evF F x = some (.int k a)) (hy : evF F y = some (.int k b)) : QP P B N V L ⟨d, .binOp .add t x y ty2, ty, pos, af, gd⟩ F (.int k (k.wrap (a + b))) :=
  run_bin rfl hx hy fun w => by simp [binOp, Op.intArith]
theorem q_lss {k : IntKind} (hx : evF F x = some (.int k a)) (hy : evF F y = some (.int k b)) : QP P B N V L ⟨d, .binOp .lss t x y ty2, ty, pos, af, gd⟩ F (.bool (decide (a < b))) := run_bin rfl hx hy fun w => by simp [binOp, Op.intCmp]
theorem q_leq {k : IntKind} (hx : evF F x = some (.int k a)) (hy : evF F y = some (.int k b)) : QP P B N V L ⟨d, .binOp .leq t x y ty2, ty, pos, af, gd⟩ F (.bool (decide (a ≤ b))) := run_bin rfl hx hy fun w => by simp [binOp, Op.intCmp]
theorem q_gtr {k : IntKind} (hx : evF F x = some (.int k a)) (hy : evF F y = some (.int k b)) : QP P B N V L ⟨d, .binOp .gtr t x y ty2, ty, pos, af, gd⟩ F (.bool (decide (b < a))) := run_bin rfl hx hy fun w => by simp [binOp, Op.intCmp]
theorem q_eql {k : IntKind} (hx : evF F x = some (.int k a)) (hy : evF F y = some (.int k b)) : QP P B N V L ⟨d, .binOp .eql t x y ty2, ty, pos, af, gd⟩ F (.bool (decide (a = b))) := run_bin rfl hx hy fun w => by simp [binOp, Op.intCmp, beq_dec]
theorem q_neq {k : IntKind} (hx : evF F x = some (.int k a)) (hy : evF F y = some (.int k b)) : QP P B N V L ⟨d, .binOp .neq t x y ty2, ty, pos, af, gd⟩ F (.bool (decide (¬ a = b))) := run_bin rfl hx hy fun w => by
  have : (a != b) = decide (¬ a = b) := by simp [bne, beq_dec]
  simp [binOp, Op.intCmp, this]
end ints

/-- Whatever two operands, by the operation's run. -/
theorem q_bin {x y : Operand} {t ty2 : TypeId} {op : BinOp} {vx vy v : Value} (hx : evF F x = some vx) (hy : evF F y = some vy) (hg : ∀ w, (eqGuard op t x y vx vy).run P w = .ok () w) (h : ∀ w, (binOp op t vx vy).run P w = .ok v w) : QP P B N V L ⟨d, .binOp op t x y ty2, ty, pos, af, gd⟩ F v := q_of fun ac w ha _ => by
  simp [execOp, ha.ev hx, ha.ev hy, hg w, h w]

/-! ### Strings, bools -/
section strs
variable {x y : Operand} {t ty2 : TypeId} {a b : ByteArray}
theorem run_str {op : BinOp} {v : Value} {o : Oper} (ho : o.op = .binOp op t x y ty2) (hx : evF F x = some (.string a)) (hy : evF F y = some (.string b)) (h : ∀ w, (binOp op t (.string a) (.string b)).run P w = .ok v w) : QP P B N V L o F v := q_of fun ac w ha _ => by
  have e : (eqGuard op t x y (.string a) (.string b)) = pure () := by unfold eqGuard; cases op <;> rfl
  simp [execOp, ho, ha.ev hx, ha.ev hy, e, h w]
theorem q_seql (hx : evF F x = some (.string a)) (hy : evF F y = some (.string b)) : QP P B N V L ⟨d, .binOp .eql t x y ty2, ty, pos, af, gd⟩ F (.bool (decide (a = b))) := run_str rfl hx hy fun w => by simp only [binOp, Op.stringOp]; rw [str_beq]; rfl
theorem q_sadd (hx : evF F x = some (.string a)) (hy : evF F y = some (.string b)) (h : ((a.size + b.size : Nat) : Int) ≤ 9223372036854775807) : QP P B N V L ⟨d, .binOp .add t x y ty2, ty, pos, af, gd⟩ F (.string (a ++ b)) := run_str rfl hx hy fun w => by
  simp only [binOp, Op.stringOp]
  rw [if_neg]
  · rfl
  · simp only [IntKind.max, IntKind.signed, IntKind.bits]
    omega
theorem run_sliceBound (w : World) {l y : Nat} (h : l ≤ y) (code : BoundsCode) : (Instr.sliceBound (.int .i64 (l : Int)) y code).run P w = .ok l w := by
  have : (l : Int) ≤ (y : Int) := by omega
  simp [Instr.sliceBound, asIntOf, this]
theorem q_sslice {lo hi : Operand} {l h : Nat} (hu : UnderIs P t .string) (hx : evF F x = some (.string a)) (hl : evF F lo = some (.int .i64 (l : Int))) (hh : evF F hi = some (.int .i64 (h : Int))) (h1 : l ≤ h) (h2 : h ≤ a.size) : QP P B N V L ⟨d, .slice t x (some lo) (some hi) none, ty, pos, af, gd⟩ F (.string (a.extract l h)) := q_of fun ac w ha _ => by
  simp [execOp, ha.ev hx, ha.ev hl, ha.ev hh, Instr.sliceAt, Instr.slice, Instr.sliceBounds, hu.h, run_sliceBound w h1, run_sliceBound w h2]
end strs
end
end Go.Proofs.YtejkmomfpidnbaaDoor

/- The engine's operations on memory. No program is named here. -/
namespace Go.Proofs.YtejkmomfpidnbaaDoor
open Go.RowKit
set_option linter.unusedSimpArgs false
set_option linter.unusedVariables false

theorem add_none (b o k : Nat) : (⟨b, o, none⟩ : Addr).add k = ⟨b, o + k, none⟩ := by unfold Addr.add; split <;> simp_all

/-! ### Boxes -/
def OwnAt (L : List Box) (g : Nat) (cs : List Value) : Prop := ∃ t : TypeId, ⟨g, t, cs⟩ ∈ L
theorem own_here {g : Nat} {t : TypeId} {cs : List Value} {L : List Box} : OwnAt (⟨g, t, cs⟩ :: L) g cs := ⟨t, by simp⟩
theorem own_next {g : Nat} {cs : List Value} {L : List Box} {b : Box} (h : OwnAt L g cs) : OwnAt (b :: L) g cs := let ⟨t, h⟩ := h; ⟨t, List.mem_cons_of_mem _ h⟩
def spl : List Value → Nat → List Value → List Value
  | cs, _, [] => cs
  | cs, i, v :: vs => spl (cs.set i v) (i + 1) vs
inductive PutAt : List Box → Nat → Nat → List Value → List Box → Prop
  | here (g : Nat) (t : TypeId) (cs : List Value) (L : List Box) (i : Nat) (vs : List Value) (h : i + vs.length ≤ cs.length) : PutAt (⟨g, t, cs⟩ :: L) g i vs (⟨g, t, spl cs i vs⟩ :: L)
  | next (b : Box) (L : List Box) (g i : Nat) (vs : List Value) (L' : List Box) (h : PutAt L g i vs L') : PutAt (b :: L) g i vs (b :: L')
section
variable {P : Program} {B : Base} {N : Nat} {Q : Exit → Act → World → Prop} {F : List (Nat × Value)} {V : View} {L : List Box} {w : World}
theorem St.lt (hs : St B V L w) {b : Box} (hb : b ∈ L) : b.g < w.heap.size := by
  have h := (hs.own b hb).1
  rcases Nat.lt_or_ge b.g w.heap.size with h1 | h1
  · exact h1
  · rw [Array.getElem?_eq_none h1] at h; cases h
theorem St.cell (hs : St B V L w) {g : Nat} {cs : List Value} (h : OwnAt L g cs) (i : Nat) : w.cell? ⟨g, i, none⟩ = cs[i]? := by
  obtain ⟨t, h⟩ := h
  have := (hs.own _ h).1
  simp [World.cell?, this]
theorem St.alloc (hs : St B V L w) (t : TypeId) (cs : List Value) : St B V (⟨w.heap.size, t, cs⟩ :: L) (w.alloc (.cells cs.toArray t)) := by
  refine ⟨Exc.al _ hs.ext, fun p x hp => ?_, hs.old, hs.v0, fun b hb => ?_, ?_⟩
  · obtain ⟨h1, h2⟩ := hs.view p x hp
    have hlt := World.block_lt_of_cell? w p h1
    refine ⟨(World.cell?_alloc_lt w _ p hlt).trans h1, fun b hb => ?_⟩
    rcases List.mem_cons.1 hb with rfl | hb
    · simp only []; omega
    · exact h2 b hb
  · rcases List.mem_cons.1 hb with rfl | hb
    · exact ⟨heap_alloc_new w _, .inl hs.ext.sz⟩
    · exact ⟨(Below.heap_alloc w _ b.g (hs.lt hb)).trans (hs.own b hb).1, (hs.own b hb).2⟩
  · rw [List.map_cons, List.nodup_cons]
    refine ⟨fun h => ?_, hs.nodup⟩
    obtain ⟨b, hb, he⟩ := List.mem_map.1 h
    have := hs.lt hb
    simp only [] at he; omega
theorem PutAt.map {L L' : List Box} {g i : Nat} {vs : List Value} (h : PutAt L g i vs L') : L'.map Box.g = L.map Box.g := by
  induction h with
  | here => rfl
  | next _ _ _ _ _ _ _ ih => simp [ih]
theorem PutAt.cases {L L' : List Box} {g i : Nat} {vs : List Value} (h : PutAt L g i vs L') (hn : (L.map Box.g).Nodup) : ∃ (t : TypeId) (cs : List Value), ⟨g, t, cs⟩ ∈ L ∧ i + vs.length ≤ cs.length ∧ ∀ b ∈ L', (b.g = g ∧ b.t = .cells t ∧ b.cs = spl cs i vs) ∨ (b.g ≠ g ∧ b ∈ L) := by
  induction h with
  | here g t cs L i vs h =>
    refine ⟨t, cs, by simp, h, fun b hb => ?_⟩
    rcases List.mem_cons.1 hb with rfl | hb
    · exact .inl ⟨rfl, rfl, rfl⟩
    · refine .inr ⟨fun e => ?_, by simp [hb]⟩
      rw [List.map_cons, List.nodup_cons] at hn
      exact hn.1 (List.mem_map.2 ⟨b, hb, e⟩)
  | next b0 L g i vs L' h ih =>
    rw [List.map_cons, List.nodup_cons] at hn
    obtain ⟨t, cs, h1, h2, h3⟩ := ih hn.2
    refine ⟨t, cs, by simp [h1], h2, fun b hb => ?_⟩
    rcases List.mem_cons.1 hb with rfl | hb
    · refine .inr ⟨fun e => ?_, by simp⟩
      exact hn.1 (List.mem_map.2 ⟨_, h1, e.symm⟩)
    · rcases h3 b hb with h | ⟨h, h'⟩
      · exact .inl h
      · exact .inr ⟨h, by simp [h']⟩
theorem PutAt.split {L L' : List Box} {g i : Nat} {v : Value} {vs : List Value} (h : PutAt L g i (v :: vs) L') : ∃ L1, PutAt L g i [v] L1 ∧ PutAt L1 g (i + 1) vs L' := by
  generalize hu : v :: vs = us at h
  induction h with
  | here g t cs L i us hle =>
    subst hu
    exact ⟨_, .here g t cs L i [v] (by simp at hle ⊢; omega), .here g t _ L (i + 1) vs (by simp [spl] at hle ⊢; omega)⟩
  | next b L g i us L' h ih =>
    obtain ⟨L1, h1, h2⟩ := ih hu
    exact ⟨_, .next b _ _ _ _ _ h1, .next b _ _ _ _ _ h2⟩
theorem PutAt.own {L L' : List Box} {g i : Nat} {vs : List Value} (h : PutAt L g i vs L') : ∃ cs, OwnAt L g cs ∧ i + vs.length ≤ cs.length := by
  induction h with
  | here g t cs L i vs h => exact ⟨cs, own_here, h⟩
  | next b L g i vs L' h ih => obtain ⟨cs, h1, h2⟩ := ih; exact ⟨cs, own_next h1, h2⟩
theorem PutAt.nil {L L' : List Box} {g i : Nat} (h : PutAt L g i [] L') : L' = L := by
  generalize hu : ([] : List Value) = us at h
  induction h with
  | here g t cs L i us hle => subst hu; simp [spl]
  | next b L g i us L' h ih => rw [ih hu]
def CellsFrom (V : View) (b o : Nat) (cs : List Value) : Prop := ∀ j v, cs[j]? = some v → V ⟨b, o + j, none⟩ = some v
theorem CellsFrom.le {V V' : View} {b o : Nat} {cs : List Value} (h : CellsFrom V b o cs) (hv : VLe V V') : CellsFrom V' b o cs := fun j v hj => hv _ _ (h j v hj)

/-! ### Loads -/
variable {d : Option Tmp} {ty : TypeId} {pos : String} {af : Array Edge} {gd : Option (Nat × Bool)} {x y : Operand} {T : TypeId}
theorem run_load_cell {a : Addr} {v : Value} {w : World} (hA : (isAgg T).run P w = .ok false w) (hc : w.cell? a = some v) : (loadVar T a).run P w = .ok v w := by
  unfold loadVar
  rw [Sem.run_bind, hA]
  show (load a).run P w = _
  unfold load
  simp [Sem.run, hc]
theorem q_load_of {v : Value} {a : Addr} (hx : evF F x = some (.pointer (some a))) (h : ∀ w, St B V L w → (loadVar T a).run P w = .ok v w) : QP P B N V L ⟨d, .load T x, ty, pos, af, gd⟩ F v := q_of fun ac w ha hs => by
  simp [execOp, ha.ev hx, Instr.loadAt, Instr.sureAddr, h w hs]
theorem q_load_v {v : Value} {a : Addr} (hA : IsOne P T) (hx : evF F x = some (.pointer (some a))) (hc : V a = some v) : QP P B N V L ⟨d, .load T x, ty, pos, af, gd⟩ F v :=
  q_load_of hx fun w hs => run_load_cell (hA.h w) (hs.view a v hc).1
/-! ### Addresses -/
theorem q_indexAddr {E sz b o n c k : Nat} (hu : UnderIs P T (.slice E)) (hS : SizeIs P E sz) (hx : evF F x = some (.slice (some ⟨b, o, none⟩) n c)) (hi : evF F y = some (.int .i64 (k : Int))) (hk : k < n) : QP P B N V L ⟨d, .indexAddr T x y, ty, pos, af, gd⟩ F (.pointer (some ⟨b, o + k * sz, none⟩)) := q_of fun ac w ha hs => by
  have h1 : ¬ n ≤ k := by omega
  simp [execOp, ha.ev hx, ha.ev hi, Instr.indexAt, asIntOf, hu.h, hS.h, hk, h1, add_none]
theorem q_len {A : Option Addr} {n c E : Nat} {cl : Call} (hc : cl = ⟨.builtin .len, #[x], #[T]⟩) (hu : UnderIs P T (.slice E)) (hx : evF F x = some (.slice A n c)) : QP P B N V L ⟨d, .call cl, ty, pos, af, gd⟩ F (.int .i64 n) := q_of fun ac w ha _ => by
  subst hc
  simp [execOp, ha.ev hx, resolve, invoke, builtin, Builtin.len_, hu.h, goInt]

/-! ### Boxes of the call's own -/
variable {ops : Array Oper} {rest : List Oper} {k : List Cont}
theorem wp_value {o : Oper} {a : Act} {K : Act → World → Prop} {w w' : World} {v : Value} (h : (execOp a.eval o).run P w = .ok (.value v) w') (hK : K (a.put o.dst v) w') : o.wp P a w K Q := by
  unfold Oper.wp; rw [h]; exact hK
/-! ### Calls -/
def evL (F : List (Nat × Value)) : List Operand → Option (List Value)
  | [] => some []
  | x :: l => match evF F x, evL F l with
    | some v, some vs => some (v :: vs)
    | _, _ => none
theorem Kn.evL {a : Act} (ha : Kn N F a) : ∀ {l : List Operand} {vs : List Value}, evL F l = some vs → l.map a.eval = vs
  | [], vs, h => by simpa [Proofs.YtejkmomfpidnbaaDoor.evL] using h
  | x :: l, vs, h => by
    rw [Proofs.YtejkmomfpidnbaaDoor.evL] at h
    cases h1 : evF F x with
    | none => rw [h1] at h; cases h
    | some v =>
      cases h2 : Proofs.YtejkmomfpidnbaaDoor.evL F l with
      | none => rw [h1, h2] at h; cases h
      | some us =>
        rw [h1, h2] at h
        simp only [Option.some.injEq] at h
        rw [List.map_cons, ha.ev h1, ha.evL h2, h]
theorem exec_call {f : FuncId} {args : List Operand} {ats : Array TypeId} {vs : List Value} {a : Act} {w : World} (he : Enters P f) (ha : Kn N F a) (hv : evL F args = some vs) :
    (execOp a.eval ⟨d, .call ⟨.value (.func f), args.toArray, ats⟩, ty, pos, af, gd⟩).run P w = .ok (.enter f vs.toArray) w := by
  have h := ha.evL hv
  simp [execOp, resolve, Deferred.ofValue, invoke, Act.eval, h, he.h vs.toArray w]
theorem St.call (hs : St B V L w) {w' : World} {V' : View} (hx : Ext w w') (h1 : VLe V V') (h2 : VIn V' w') (h3 : ∀ p x, V' p = some x → p.block < w.heap.size → V p = some x) : St B V' L w' := by
  refine ⟨Exc.via hs.ext hx, fun p x hp => ⟨h2 p x hp, fun b hb => ?_⟩, fun p x hp hb => hs.old p x (h3 p x hp (Nat.lt_of_lt_of_le hb hs.ext.sz)) hb, hs.v0.trans h1, fun b hb => ⟨(hx.block b.g (hs.lt hb)).trans (hs.own b hb).1, (hs.own b hb).2⟩, hs.nodup⟩
  rcases Nat.lt_or_ge p.block w.heap.size with h | h
  · exact (hs.view p x (h3 p x hp h)).2 b hb
  · have := hs.lt hb
    omega
theorem St.less (hs : St B V L w) {V' : View} (h : VLe V' V) (h0 : VLe B.v V') : St B V' L w := ⟨hs.ext, fun p x hp => hs.view p x (h p x hp), fun p x hp => hs.old p x (h p x hp), h0, hs.own, hs.nodup⟩
theorem q_call {f : FuncId} {args : List Operand} {ats : Array TypeId} {vs : List Value} {v : Value} (he : Enters P f) (hv : evL F args = some vs) (hc : Fn P f vs V fun u _ => u = v) : QO P B N V L ⟨d, .call ⟨.value (.func f), args.toArray, ats⟩, ty, pos, af, gd⟩ F v := fun a w ha hs => by
  unfold Oper.quietAt
  rw [exec_call he ha hv]
  refine ⟨rfl, (hc w (fun p x hp => (hs.view p x hp).1)).mono fun e w' ⟨u, he', hx, V', h1, h2, h3, hR⟩ => ?_⟩
  subst he' hR
  exact ⟨rfl, (hs.call hx h1 h2 h3).less h1 hs.v0⟩

/-! ### Results out of boxes -/
end
end Go.Proofs.YtejkmomfpidnbaaDoor

/- The engine's operations: literals, slices of slices. No program is named here. -/
namespace Go.Proofs.YtejkmomfpidnbaaDoor
open Go.RowKit
set_option linter.unusedSimpArgs false
set_option linter.unusedVariables false

/-! ### Literals of structs and slices -/
def fillL (pl : Nat → Option (Nat × Nat)) : List Value → List (Nat × Value) → Option (List Value)
  | cs, [] => some cs
  | cs, (i, v) :: rest =>
    match pl i with
    | none => none
    | some (off, size) => bif Nat.beq v.cells.toList.length size && Nat.ble (off + size) cs.length then fillL pl (spl cs off v.cells.toList) rest else none
theorem fold_spl (off : Nat) : ∀ (vs : List Value) (k : Nat) (cs : List Value), (vs.zipIdx k).foldl (fun (c : Array Value) (p : Value × Nat) => c.setIfInBounds (off + p.2) p.1) cs.toArray = (spl cs (off + k) vs).toArray
  | [], k, cs => rfl
  | v :: vs, k, cs => by
    rw [List.zipIdx_cons, List.foldl_cons, spl]
    have := fold_spl off vs (k + 1) (cs.set (off + k) v)
    rw [show off + k + 1 = off + (k + 1) by omega, ← this]
    congr 1
    simp
theorem fill_fillL (pl : Nat → Option (Nat × Nat)) : ∀ (vs : List (Nat × Value)) (cs us : List Value), fillL pl cs vs = some us → Instr.fill pl cs.toArray vs = some us.toArray
  | [], cs, us, h => by simp [fillL] at h; simp [Instr.fill, h]
  | (i, v) :: rest, cs, us, h => by
    rw [fillL] at h
    rw [Instr.fill]
    cases hp : pl i with
    | none => rw [hp] at h; cases h
    | some p =>
      obtain ⟨off, size⟩ := p
      rw [hp] at h
      simp only [] at h ⊢
      cases hb : (Nat.beq v.cells.toList.length size && Nat.ble (off + size) cs.length) with
      | false => rw [hb] at h; cases h
      | true =>
        rw [hb] at h
        simp only [Bool.and_eq_true, cond_true] at hb h
        have h1 := Nat.eq_of_beq_eq_true hb.1
        have h2 := Nat.le_of_ble_eq_true hb.2
        rw [Array.length_toList] at h1
        rw [if_neg (by simp; omega)]
        have e : v.cells.zipIdx.foldl (fun (c : Array Value) (p : Value × Nat) => c.setIfInBounds (off + p.2) p.1) cs.toArray = (spl cs off v.cells.toList).toArray := by
          have := fold_spl off v.cells.toList 0 cs
          rw [Nat.add_zero] at this
          rw [← this, ← Array.foldl_toList]
          congr 1
          simp
        have e' : (v.cells.zipIdx.foldl (fun cs x => match x with | (c, j) => cs.setIfInBounds (off + j) c) cs.toArray) = (spl cs off v.cells.toList).toArray := e
        rw [e']
        exact fill_fillL pl rest _ us h
def evP (F : List (Nat × Value)) : List (Nat × Operand) → Option (List (Nat × Value))
  | [] => some []
  | (i, x) :: l => match evF F x, evP F l with
    | some v, some vs => some ((i, v) :: vs)
    | _, _ => none

section
variable {P : Program} {B : Base} {N : Nat} {Q : Exit → Act → World → Prop} {F : List (Nat × Value)} {V : View} {L : List Box}
variable {d : Option Tmp} {ty : TypeId} {pos : String} {af : Array Edge} {gd : Option (Nat × Bool)} {x y : Operand} {T : TypeId} {ops : Array Oper} {rest : List Oper} {k : List Cont}
theorem Kn.evP {a : Act} (ha : Kn N F a) : ∀ {l : List (Nat × Operand)} {vs : List (Nat × Value)}, evP F l = some vs → l.map (fun p => (p.1, a.eval p.2)) = vs
  | [], vs, h => by simpa [Proofs.YtejkmomfpidnbaaDoor.evP] using h
  | (i, x) :: l, vs, h => by
    rw [Proofs.YtejkmomfpidnbaaDoor.evP] at h
    cases h1 : evF F x with
    | none => rw [h1] at h; cases h
    | some v =>
      cases h2 : Proofs.YtejkmomfpidnbaaDoor.evP F l with
      | none => rw [h1, h2] at h; cases h
      | some us =>
        rw [h1, h2] at h
        simp only [Option.some.injEq] at h
        rw [List.map_cons, ha.ev h1, ha.evP h2, h]
structure ZeroCells (P : Program) (T : TypeId) (z : Value) : Prop where
  h : ∀ w, (zeroValue T).run P w = .ok z w
def repL : Nat → List Value → List Value
  | 0, _ => []
  | n + 1, zc => zc ++ repL n zc
theorem repL_at (zc : List Value) : ∀ (n i : Nat), i < n * zc.length → (repL n zc)[i]? = zc[i % zc.length]?
  | 0, i, h => by simp at h
  | n + 1, i, h => by
    rw [repL]
    rcases Nat.lt_or_ge i zc.length with hi | hi
    · rw [List.getElem?_append_left hi, Nat.mod_eq_of_lt hi]
    · rw [List.getElem?_append_right hi, repL_at zc n (i - zc.length) (by rw [Nat.succ_mul] at h; omega), Nat.mod_eq_sub_mod hi]
theorem repL_len (zc : List Value) : ∀ n, (repL n zc).length = n * zc.length
  | 0 => by simp [repL]
  | n + 1 => by rw [repL, List.length_append, repL_len zc n, Nat.succ_mul]; omega
theorem rep_cells (zc : List Value) (n : Nat) : (Array.range (n * zc.length)).map (fun i => zc.toArray[i % zc.toArray.size]!) = (repL n zc).toArray := by
  apply Array.toList_inj.1
  apply List.ext_getElem?
  intro i
  rcases Nat.lt_or_ge i (n * zc.length) with h | h
  · have h0 : i % zc.length < zc.length := Nat.mod_lt _ (by
      rcases Nat.eq_zero_or_pos zc.length with h0 | h0
      · rw [h0] at h; simp at h
      · exact h0)
    have e := repL_at zc n i h
    rw [List.getElem?_eq_getElem h0] at e
    simp [h, h0, e]
  · rw [List.getElem?_eq_none (by simpa using h), List.getElem?_eq_none (by simpa [repL_len] using h)]
theorem gw_buildSlice {dr : Mode} (hdr : dr.loud = true) {E sz len : Nat} {z : Value} {zs us : List Value} {ps : List (Nat × Operand)} {vs : List (Nat × Value)} (hu : UnderIs P T (.slice E)) (hS : SizeIs P E sz) (hz' : ZeroCells P E z)
    {zc : List Value} (hzc : z.cells = zc.toArray) (hzl : sz = zc.length) (hzs : repL len zc = zs) (hp : evP F ps = some vs) (hf : fillL (fun i => some (i * sz, sz)) zs vs = some us) (hlen : (Nat.ble (len * sz) 16777216 && !Nat.beq (len * sz) 0) = true) (hd : okD N d = true)
    (h : ∀ g, GoL P B N dr ops Q k rest (putF F d (.slice (some ⟨g, 0, none⟩) len len)) V (⟨g, E, us⟩ :: L)) : GoW P B N dr ops Q k ⟨d, .buildSlice T len ps.toArray, ty, pos, af, gd⟩ rest F V L := gw_loud hdr fun a w ha hs => by
  refine wp_value (w' := w.alloc (.cells us.toArray E)) (v := .slice (some ⟨w.heap.size, 0, none⟩) len len) ?_ (gl_loud hdr (h w.heap.size) _ _ (ha.put hd _) (hs.alloc E us))
  have hh := ha.evP hp
  have e : (ps.toArray.map fun x => match x with | (i, x) => (i, a.eval x)) = vs.toArray := by rw [← hh]; simp
  have hz := hz'.h
  simp only [Bool.and_eq_true, Bool.not_eq_true'] at hlen
  have h1 := Nat.le_of_ble_eq_true hlen.1
  have h2 : len * sz ≠ 0 := fun e => by rw [e] at hlen; simp at hlen
  have hfill := fill_fillL _ _ _ _ hf
  simp only [execOp]
  rw [e]
  unfold Instr.buildSlice
  have e3 : ¬ (2 ^ 24 < len * sz) := by omega
  have h3 : len ≠ 0 ∧ sz ≠ 0 := ⟨fun e => h2 (by simp [e]), fun e => h2 (by simp [e])⟩
  have hrep : (Array.range (len * sz)).map (fun i => z.cells[i % z.cells.size]!) = zs.toArray := by rw [hzc, hzl, rep_cells, hzs]
  simp [hu.h, hS.h, hz, e3, h3.1, h3.2, hrep, hfill]
  rw [if_neg h2]
  rfl

/-! ### Slices of slices -/
/-- Where x[l:] begins. -/
def cutA (A : Option Addr) (c l sz : Nat) : Option Addr := if c = l then A else A.map (·.add (l * sz))
/-! ### A box that is not written any more joins the view -/
def boxedV (V : View) (w : World) (g : Nat) : View := fun p => if p.block = g then w.cell? p else V p
theorem boxedV_in {V : View} {w : World} {g : Nat} {p : Addr} (h : p.block = g) : boxedV V w g p = w.cell? p := if_pos h
theorem boxedV_out {V : View} {w : World} {g : Nat} {p : Addr} (h : p.block ≠ g) : boxedV V w g p = V p := if_neg h
inductive Drop1 : List Box → Nat → List Value → List Box → Prop
  | here (g : Nat) (t : TypeId) (cs : List Value) (L : List Box) : Drop1 (⟨g, t, cs⟩ :: L) g cs L
  | next (b : Box) (L : List Box) (g : Nat) (cs : List Value) (L' : List Box) (h : Drop1 L g cs L') : Drop1 (b :: L) g cs (b :: L')
theorem Drop1.mem {L L' : List Box} {g : Nat} {cs : List Value} (h : Drop1 L g cs L') : (∃ t : TypeId, ⟨g, t, cs⟩ ∈ L) ∧ (∀ b ∈ L', b ∈ L) ∧ ((L.map Box.g).Nodup → (L'.map Box.g).Nodup ∧ ∀ b ∈ L', b.g ≠ g) := by
  induction h with
  | here g t cs L =>
    refine ⟨⟨t, by simp⟩, fun b hb => by simp [hb], fun hn => ?_⟩
    rw [List.map_cons, List.nodup_cons] at hn
    exact ⟨hn.2, fun b hb e => hn.1 (List.mem_map.2 ⟨b, hb, e⟩)⟩
  | next b L g cs L' h ih =>
    obtain ⟨⟨t, h1⟩, h2, h3⟩ := ih
    refine ⟨⟨t, by simp [h1]⟩, fun c hc => ?_, fun hn => ?_⟩
    · rcases List.mem_cons.1 hc with rfl | hc
      · simp
      · simp [h2 c hc]
    · rw [List.map_cons, List.nodup_cons] at hn
      obtain ⟨h4, h5⟩ := h3 hn.2
      refine ⟨?_, fun c hc => ?_⟩
      · rw [List.map_cons, List.nodup_cons]
        exact ⟨fun hm => by obtain ⟨c, hc, e⟩ := List.mem_map.1 hm; exact hn.1 (List.mem_map.2 ⟨c, h2 c hc, e⟩), h4⟩
      · rcases List.mem_cons.1 hc with rfl | hc
        · exact fun e => hn.1 (e ▸ List.mem_map_of_mem (f := Box.g) h1)
        · exact h5 c hc
theorem St.retire {w : World} (hs : St B V L w) {L' : List Box} {g : Nat} {cs : List Value} (h : Drop1 L g cs L') (hfl : ∀ x ∈ B.fl, ∃ cs, OwnAt L' x cs) : ∃ V', VLe V V' ∧ CellsFrom V' g 0 cs ∧ St B V' L' w := by
  obtain ⟨⟨t, hm⟩, h2, h3⟩ := h.mem
  obtain ⟨h4, h5⟩ := h3 hs.nodup
  have ho := hs.own _ hm
  have hne : ∀ p x, V p = some x → p.block ≠ g := fun p x hp e => (hs.view p x hp).2 _ hm e.symm
  refine ⟨boxedV V w g, fun p x hp => ?_, fun j v hj => ?_, ⟨hs.ext, fun p x hp => ?_, fun p x hp hb => ?_, fun p x hp => ?_, fun b hb => hs.own b (h2 b hb), h4⟩⟩
  · rw [boxedV_out (hne p x hp)]; exact hp
  · rw [boxedV_in (g := g) (p := ⟨g, 0 + j, none⟩) rfl, Nat.zero_add, hs.cell ⟨t, hm⟩]; exact hj
  · by_cases e : p.block = g
    · rw [boxedV_in e] at hp
      exact ⟨hp, fun b hb => by rw [e]; exact h5 b hb⟩
    · rw [boxedV_out e] at hp
      exact ⟨(hs.view p x hp).1, fun b hb => (hs.view p x hp).2 b (h2 b hb)⟩
  · by_cases e : p.block = g
    · rcases ho.2 with h6 | h6
      · simp only [] at h6
        omega
      · obtain ⟨cs', t', hm'⟩ := hfl _ h6
        exact absurd rfl (h5 _ hm')
    · rw [boxedV_out e] at hp
      exact hs.old p x hp hb
  · rw [boxedV_out (hne p x (hs.v0 p x hp))]; exact hs.v0 p x hp
theorem gc_retire {L' : List Box} {g : Nat} {cs : List Value} (hd : Drop1 L g cs L') {c : Code} (h : ∀ V', VLe V V' → CellsFrom V' g 0 cs → GoC P B N c Q k F V' L') (hfl : ∀ x ∈ B.fl, ∃ cs, OwnAt L' x cs := by simp) : GoC P B N c Q k F V L := fun a w ha hs => by
  obtain ⟨V', h1, h2, h3⟩ := hs.retire hd hfl
  exact h V' h1 h2 a w ha h3
end

/-! ### What kind of goal, of operation it is: for a walk that looks before it tries -/
section
variable {P : Program} {B : Base} {N : Nat} {Q : Exit → Act → World → Prop} {k : List Cont} {F : List (Nat × Value)} {V : View} {L : List Box} {dr : Mode} {ops : Array Oper} {o : Oper} {rest : List Oper} {c : Code} {e : Exit} {d : Option Tmp} {ty : TypeId} {pos : String} {af : Array Edge} {gd : Option (Nat × Bool)}
theorem k_gw (h : GoW P B N dr ops Q k o rest F V L) : GoW P B N dr ops Q k o rest F V L := h
theorem k_gl (h : GoL P B N dr ops Q k rest F V L) : GoL P B N dr ops Q k rest F V L := h
theorem k_gc (h : GoC P B N c Q k F V L) : GoC P B N c Q k F V L := h
theorem k_at (h : AtQ P B N Q k e F V L) : AtQ P B N Q k e F V L := h
theorem k_move {x : Operand} (h : GoW P B N dr ops Q k ⟨d, .move x, ty, pos, af, gd⟩ rest F V L) : GoW P B N dr ops Q k ⟨d, .move x, ty, pos, af, gd⟩ rest F V L := h
theorem k_assign {x : Operand} (h : GoW P B N dr ops Q k ⟨d, .assign x, ty, pos, af, gd⟩ rest F V L) : GoW P B N dr ops Q k ⟨d, .assign x, ty, pos, af, gd⟩ rest F V L := h
theorem k_pick {x y z : Operand} (h : GoW P B N dr ops Q k ⟨d, .pick x y z, ty, pos, af, gd⟩ rest F V L) : GoW P B N dr ops Q k ⟨d, .pick x y z, ty, pos, af, gd⟩ rest F V L := h
theorem k_buildSlice {T n : Nat} {ps : Array (Nat × Operand)} (h : GoW P B N dr ops Q k ⟨d, .buildSlice T n ps, ty, pos, af, gd⟩ rest F V L) : GoW P B N dr ops Q k ⟨d, .buildSlice T n ps, ty, pos, af, gd⟩ rest F V L := h
theorem k_load {T : TypeId} {x : Operand} (h : GoW P B N dr ops Q k ⟨d, .load T x, ty, pos, af, gd⟩ rest F V L) : GoW P B N dr ops Q k ⟨d, .load T x, ty, pos, af, gd⟩ rest F V L := h
theorem k_binOp {b : BinOp} {T T2 : TypeId} {x y : Operand} (h : GoW P B N dr ops Q k ⟨d, .binOp b T x y T2, ty, pos, af, gd⟩ rest F V L) : GoW P B N dr ops Q k ⟨d, .binOp b T x y T2, ty, pos, af, gd⟩ rest F V L := h
theorem k_unOp {u : UnOp} {T : TypeId} {x : Operand} (h : GoW P B N dr ops Q k ⟨d, .unOp u T x, ty, pos, af, gd⟩ rest F V L) : GoW P B N dr ops Q k ⟨d, .unOp u T x, ty, pos, af, gd⟩ rest F V L := h
theorem k_makeInterface {T : TypeId} {x : Operand} (h : GoW P B N dr ops Q k ⟨d, .makeInterface T x, ty, pos, af, gd⟩ rest F V L) : GoW P B N dr ops Q k ⟨d, .makeInterface T x, ty, pos, af, gd⟩ rest F V L := h
theorem k_slice {T : TypeId} {x : Operand} {l u m : Option Operand} (h : GoW P B N dr ops Q k ⟨d, .slice T x l u m, ty, pos, af, gd⟩ rest F V L) : GoW P B N dr ops Q k ⟨d, .slice T x l u m, ty, pos, af, gd⟩ rest F V L := h
theorem k_indexAddr {T : TypeId} {x y : Operand} (h : GoW P B N dr ops Q k ⟨d, .indexAddr T x y, ty, pos, af, gd⟩ rest F V L) : GoW P B N dr ops Q k ⟨d, .indexAddr T x y, ty, pos, af, gd⟩ rest F V L := h
theorem k_extract {x : Operand} {n : Nat} (h : GoW P B N dr ops Q k ⟨d, .extract x n, ty, pos, af, gd⟩ rest F V L) : GoW P B N dr ops Q k ⟨d, .extract x n, ty, pos, af, gd⟩ rest F V L := h
theorem k_call {c : Call} (h : GoW P B N dr ops Q k ⟨d, .call c, ty, pos, af, gd⟩ rest F V L) : GoW P B N dr ops Q k ⟨d, .call c, ty, pos, af, gd⟩ rest F V L := h
end
end Go.Proofs.YtejkmomfpidnbaaDoor

/- What a view knows of slices. No program is named here. -/
namespace Go.Proofs.YtejkmomfpidnbaaDoor
open Go.RowKit
set_option linter.unusedSimpArgs false
set_option linter.unusedVariables false

/-- The cells of a slice of n elements, sz cells each, are the list cs. -/
def CellsV (V : View) (sz : Nat) (A : Option Addr) (n : Nat) (cs : List Value) : Prop :=
  cs.length = n * sz ∧ (0 < n → ∃ b off, A = some ⟨b, off, none⟩ ∧ CellsFrom V b off cs)
theorem CellsV.le {V V' : View} {sz n : Nat} {A : Option Addr} {cs : List Value} (h : CellsV V sz A n cs) (hv : VLe V V') : CellsV V' sz A n cs :=
  ⟨h.1, fun hn => let ⟨b, off, ha, hc⟩ := h.2 hn; ⟨b, off, ha, hc.le hv⟩⟩
theorem CellsV.nil {V : View} {sz : Nat} {A : Option Addr} : CellsV V sz A 0 [] := ⟨by simp, fun h => absurd h (by omega)⟩

/-- A slice of ints. -/
def IntsV (V : View) (A : Option Addr) (n : Nat) (xs : List Int) : Prop := xs.length = n ∧ n ≤ maxLen ∧ CellsV V 1 A n (xs.map (.int .i64))
theorem IntsV.le {V V' : View} {n : Nat} {A : Option Addr} {xs : List Int} (h : IntsV V A n xs) (hv : VLe V V') : IntsV V' A n xs := ⟨h.1, h.2.1, h.2.2.le hv⟩
theorem IntsV.nil {V : View} {A : Option Addr} : IntsV V A 0 [] := ⟨rfl, Nat.zero_le _, CellsV.nil⟩
theorem IntsV.max {V : View} {n : Nat} {A : Option Addr} {xs : List Int} (h : IntsV V A n xs) : n ≤ 9223372036854775807 := by
  have := h.2.1; unfold maxLen at this; omega
/-- What a round that reads element k is told. -/
theorem IntsV.at_ {V : View} {n k : Nat} {A : Option Addr} {xs : List Int} (h : IntsV V A n xs) (hk : k < n) : ∃ b off z, A = some ⟨b, off, none⟩ ∧ xs[k]? = some z ∧ V ⟨b, off + k * 1, none⟩ = some (.int .i64 z) := by
  obtain ⟨h1, _, _, h3⟩ := h
  obtain ⟨b, off, ha, hc⟩ := h3 (by omega)
  have hx : xs[k]? = some (xs[k]'(by omega)) := List.getElem?_eq_getElem (by omega)
  exact ⟨b, off, _, ha, hx, by rw [Nat.mul_one]; exact hc k _ (by rw [List.getElem?_map, hx]; rfl)⟩
end Go.Proofs.YtejkmomfpidnbaaDoor

/- Memory that a call makes: slices that are appended to. No program is named here. -/
namespace Go.Proofs.YtejkmomfpidnbaaDoor
open Go.RowKit
set_option linter.unusedVariables false

/-- The cells of a slice value of n elements of a size are the list cs; nothing is said of the address where there is no element. -/
def CellsAt (w : World) (size : Nat) (A : Option Addr) (n : Nat) (cs : List Value) : Prop :=
  cs.length = n * size ∧ (0 < n → ∃ b off, A = some ⟨b, off, none⟩ ∧ ∀ j u, cs[j]? = some u → w.cell? ⟨b, off + j, none⟩ = some u)

theorem IntsAt.cells {w : World} {A : Option Addr} {n : Nat} {xs : List Int} (h : IntsAt w A n xs) : CellsAt w 1 A n (xs.map (.int .i64)) := by
  obtain ⟨hl, hm, hc⟩ := h
  refine ⟨by simp [hl], fun hn => ?_⟩
  obtain ⟨b, off, ha, hz⟩ := hc hn
  refine ⟨b, off, ha, fun j u hu => ?_⟩
  rw [List.getElem?_map] at hu
  cases hx : xs[j]? with
  | none => rw [hx] at hu; cases hu
  | some z => rw [hx] at hu; cases hu; exact hz j z hx
theorem CellsAt.ext {w w' : World} {size n : Nat} {A : Option Addr} {cs : List Value} (h : CellsAt w size A n cs) (hx : Ext w w') : CellsAt w' size A n cs :=
  ⟨h.1, fun hn => by
    obtain ⟨b, off, ha, hc⟩ := h.2 hn
    exact ⟨b, off, ha, fun j u hu => hx.kept (hc j u hu)⟩⟩
section
variable {P : Program} (w : World)
end
end Go.Proofs.YtejkmomfpidnbaaDoor

/- The engine's append: rows of the call's own. No program is named here. -/
namespace Go.Proofs.YtejkmomfpidnbaaDoor
open Go.RowKit
set_option linter.unusedSimpArgs false
set_option linter.unusedVariables false

/-- A slice of the call's own, n elements (the cells xs), its block (if there is one) among the boxes as L1. -/
def RowL (A : Option Addr) (n c : Nat) (E : TypeId) (sz : Nat) (xs : List Value) (L1 : List Box) : Prop :=
  xs.length = n * sz ∧ ((L1 = [] ∧ A = none ∧ n = 0 ∧ c = 0) ∨ ∃ g cs, A = some ⟨g, 0, none⟩ ∧ L1 = [⟨g, E, cs⟩] ∧ n ≤ c ∧ c ≤ maxLen ∧ cs.length = c * sz ∧ cs.take (n * sz) = xs)
theorem RowL.nil {E sz : Nat} : RowL none 0 0 E sz [] [] := ⟨by simp, .inl ⟨rfl, rfl, rfl, rfl⟩⟩
section
variable {P : Program} {B : Base} {N : Nat} {Q : Exit → Act → World → Prop} {k : List Cont} {F : List (Nat × Value)} {V : View} {L : List Box} {w : World}
variable {d : Nat} {ty : TypeId} {pos : String} {af : Array Edge} {gd : Option (Nat × Bool)} {x y : Operand} {T : TypeId} {ops : Array Oper} {rest : List Oper}
/-- What is appended: cells that the view has, or those of a box. -/
def SrcIs (B : Base) (V : View) (L : List Box) (sz : Nat) (A : Option Addr) (m : Nat) (news : List Value) : Prop := ∀ w, St B V L w → CellsAt w sz A m news
end
end Go.Proofs.YtejkmomfpidnbaaDoor

/- Closed facts on the types of the program. Printed by a program of our own (steps.py). -/
namespace Go.Proofs.YtejkmomfpidnbaaDoor
open Go.RowKit
theorem mixed : Tryd.prog.follows .mixedOrders = true := by kernel_rfl
theorem one_3 : IsOne Tryd.prog 3 := ⟨Tryd.isAgg3⟩
theorem siz_3 : SizeIs Tryd.prog 3 1 := ⟨Tryd.sizeOf3⟩
theorem zec_3 : ZeroCells Tryd.prog 3 (.int .i64 0) := ⟨Tryd.zeroValue3⟩
theorem und_9 : UnderIs Tryd.prog 9 .string := ⟨Tryd.underlying9⟩
theorem und_22 : UnderIs Tryd.prog 22 (.slice 3) := ⟨Tryd.underlying22⟩
theorem und_23 : UnderIs Tryd.prog 23 (.int .i64) := ⟨Tryd.underlying23⟩
theorem und_24 : UnderIs Tryd.prog 24 (.slice 27) := ⟨Tryd.underlying24⟩
theorem one_27 : IsOne Tryd.prog 27 := ⟨Tryd.isAgg27⟩
theorem siz_27 : SizeIs Tryd.prog 27 1 := ⟨Tryd.sizeOf27⟩
theorem zec_27 : ZeroCells Tryd.prog 27 (.nilIface) := ⟨Tryd.zeroValue27⟩
end Go.Proofs.YtejkmomfpidnbaaDoor

/- Errors, by the engine: a number told as an error. -/
namespace Go.Proofs.YtejkmomfpidnbaaDoor
open Go.RowKit
set_option linter.unusedSimpArgs false
set_option linter.unusedVariables false

/-- An error by its number; 0: nil. -/
def errV (e : Int) : Value := if e = 0 then .nilIface else .iface 23 (.int .i64 e)
theorem errV_zero : errV 0 = .nilIface := by simp [errV]
theorem errV_pos {e : Int} (h : e ≠ 0) : errV e = .iface 23 (.int .i64 e) := by simp [errV, h]
theorem run_eql_err (e : Int) (w : World) : (binOp .eql 27 (errV e) .nilIface).run Tryd.prog w = .ok (.bool (decide (e = 0))) w := by
  by_cases h : e = 0
  · subst h; rw [errV_zero]; kernel_rfl
  · rw [errV_pos h, decide_eq_false h]; kernel_rfl
theorem guard_eql_err (x : Operand) (e : Int) (w : World) : (eqGuard .eql 27 x (.const .nilIface) (errV e) .nilIface).run Tryd.prog w = .ok () w := by
  by_cases h : e = 0
  · subst h; rw [errV_zero]; simp [eqGuard]
  · rw [errV_pos h]; rfl
section
variable {B : Base} {N : Nat} {F : List (Nat × Value)} {V : View} {L : List Box} {d : Option Tmp} {ty ty2 : TypeId} {pos : String} {af : Array Edge} {gd : Option (Nat × Bool)} {x : Operand} {e : Int}
theorem q_eeql (hx : evF F x = some (errV e)) : QP Tryd.prog B N V L ⟨d, .binOp .eql 27 x (.const .nilIface) ty2, ty, pos, af, gd⟩ F (.bool (decide (e = 0))) :=
  q_bin (y := .const .nilIface) hx rfl (guard_eql_err x e) (run_eql_err e)
theorem run_assert (e : Int) (w : World) : (Instr.typeAssert (.iface 23 (.int .i64 e)) 27 23 true).run Tryd.prog w = .ok (.tuple #[.int .i64 e, .bool true]) w := by kernel_rfl
theorem q_assert (hx : evF F x = some (.iface 23 (.int .i64 e))) : QP Tryd.prog B N V L ⟨d, .typeAssert x 27 23 true, ty, pos, af, gd⟩ F (.tuple #[.int .i64 e, .bool true]) := q_of fun a w ha _ => by
  simp [execOp, ha.ev hx, run_assert]
end
attribute [local irreducible] AtQ GoC GoL GoW QO QP Fn RV OwnAt CellsFrom VLe SrcIs
set_option maxRecDepth 100000
theorem same_c (V : View) (e f : Int) (he : 0 ≤ e ∧ e ≤ 1000) : Fn Tryd.prog 4 [errV e, .int .i64 f] V fun v _ => v = .bool (decide (e = f)) := by
  by_cases h0 : e = 0
  · subst h0
    (refine fn_enter Tryd.func4 rfl Tryd.ntmps4 rfl ?_; intro w0)
    repeat' (first | (refine k_gw ?_; (first | (refine k_assign ?_; (first | refine gw_q rfl (q_assign rfl) ?_)) | (refine k_move ?_; (first | refine gw_q rfl (q_move rfl) ?_)) | (refine k_binOp ?_; (first | refine gw_q rfl (q_eeql rfl) ?_ | refine gw_q rfl (q_eql rfl rfl) ?_ | refine gw_q rfl (q_gtr rfl rfl) ?_)) | (refine k_extract ?_; (first | refine gw_q rfl (q_extract rfl rfl) ?_)) | (refine k_pick ?_; (first | refine gw_q rfl (q_pick_t rfl rfl) ?_ | refine gw_q rfl (q_pick_f rfl rfl) ?_)))) | (refine k_gl ?_; (first | refine gl_nil rfl ?_ | refine gl_go rfl rfl ?_ | refine gl_yes rfl rfl rfl rfl rfl ?_ | refine gl_no rfl rfl rfl rfl rfl rfl rfl ?_ | refine gl_nou rfl rfl rfl rfl rfl rfl ?_ | (refine gl_split_p rfl rfl rfl ?_ ?_ <;> intro hq <;> try (exfalso; first | exact hq rfl | omega)) | (refine gl_split_b rfl rfl rfl ?_ ?_ <;> intro hq))) | (refine k_gc ?_; (first | refine gc_seq ?_ | refine gc_region ?_ | refine gc_cond_t rfl ?_ | refine gc_cond_f rfl ?_ | (refine gc_cond_p rfl ?_ ?_ <;> intro hq <;> try (exfalso; first | exact hq rfl | omega)) | (refine gc_cond_b rfl ?_ ?_ <;> intro hq) | refine gc_block ?_ | refine gc_exit ?_ | refine gc_ret ?_ | refine gc_skip ?_)) | (refine k_at ?_; (first | refine at_seq ?_ | refine at_then_ret ?_ | refine at_then_exit ?_ | refine at_thn_ret ?_ | refine at_thn_exit ?_ | refine at_block_normal ?_ | refine at_block_ret ?_ | refine at_block_hit ?_ | refine at_block_miss rfl ?_)))
    all_goals (refine at_ret1 Tryd.results4 (rv_tmp rfl) ?_)
    all_goals simp_all [eq_comm]
  · rw [errV_pos h0]
    have hnn := run_eql_err e
    rw [errV_pos h0] at hnn
    have hng := fun x => guard_eql_err x e
    rw [errV_pos h0] at hng
    (refine fn_enter Tryd.func4 rfl Tryd.ntmps4 rfl ?_; intro w0)
    repeat' (first | (refine k_gw ?_; (first | (refine k_assign ?_; (first | refine gw_q rfl (q_assign rfl) ?_)) | (refine k_move ?_; (first | refine gw_q rfl (q_move rfl) ?_)) | (refine k_binOp ?_; (first | refine gw_q rfl (q_eeql rfl) ?_ | refine gw_q rfl (q_eql rfl rfl) ?_ | refine gw_q rfl (q_gtr rfl rfl) ?_)) | (refine k_extract ?_; (first | refine gw_q rfl (q_extract rfl rfl) ?_)) | (refine k_pick ?_; (first | refine gw_q rfl (q_pick_t rfl rfl) ?_ | refine gw_q rfl (q_pick_f rfl rfl) ?_)) | refine gw_q rfl (q_assert rfl) ?_ | refine gw_q rfl (q_bin (y := .const .nilIface) rfl rfl (hng _) hnn) ?_)) | (refine k_gl ?_; (first | refine gl_nil rfl ?_ | refine gl_go rfl rfl ?_ | refine gl_yes rfl rfl rfl rfl rfl ?_ | refine gl_no rfl rfl rfl rfl rfl rfl rfl ?_ | (refine gl_split_p rfl rfl rfl ?_ ?_ <;> intro hq <;> try (exfalso; first | exact hq rfl | omega)))) | (refine k_gc ?_; (first | refine gc_seq ?_ | refine gc_region ?_ | (refine gc_cond_p rfl ?_ ?_ <;> intro hq <;> try (exfalso; first | exact hq rfl | omega)) | refine gc_ret ?_ | refine gc_skip ?_)) | (refine k_at ?_; (first | refine at_seq ?_ | refine at_then_ret ?_ | refine at_then_exit ?_ | refine at_thn_ret ?_ | refine at_thn_exit ?_ | refine at_block_normal ?_ | refine at_block_ret ?_ | refine at_block_hit ?_ | refine at_block_miss rfl ?_)))
    all_goals first | (exfalso; omega) | skip
    all_goals (refine at_ret1 Tryd.results4 (rv_tmp rfl) ?_)
    all_goals (simp [*]; try omega)
end Go.Proofs.YtejkmomfpidnbaaDoor

/- What package perm and its reference reckon, as plain functions; and that they agree. No program is named here. -/
namespace Go.Proofs.YtejkmomfpidnbaaDoor
open Go.RowKit
set_option linter.unusedSimpArgs false
set_option linter.unusedVariables false

/-! ### Small numbers, bit by bit: all of them are asked. -/
end Go.Proofs.YtejkmomfpidnbaaDoor

/- Package cred in plain terms. No program is named here. -/
namespace Go.Proofs.YtejkmomfpidnbaaDoor
open Go.RowKit
set_option linter.unusedSimpArgs false
set_option linter.unusedVariables false

/-! ### Bits of a capability, of a mode -/
end Go.Proofs.YtejkmomfpidnbaaDoor

/- The walks of package cred and of its reference, by the engine. -/
namespace Go.Proofs.YtejkmomfpidnbaaDoor
open Go.RowKit
set_option linter.unusedSimpArgs false
set_option linter.unusedVariables false
attribute [local irreducible] AtQ GoC GoL GoW QO QP Fn RV OwnAt CellsFrom VLe SrcIs
set_option maxRecDepth 100000
end Go.Proofs.YtejkmomfpidnbaaDoor

/- The walks of package cred and of its reference, by the engine: what is wrong with a cred; modes. -/
namespace Go.Proofs.YtejkmomfpidnbaaDoor
open Go.RowKit
set_option linter.unusedSimpArgs false
set_option linter.unusedVariables false
attribute [local irreducible] AtQ GoC GoL GoW QO QP Fn RV OwnAt CellsFrom VLe SrcIs
set_option maxRecDepth 100000
theorem SameNumbers_c (V : View) (A B : Option Addr) (n m c1 c2 : Nat) (xs ys : List Int) (h : IntsV V A n xs) (k : IntsV V B m ys) :
    Fn Tryd.prog 5 [.slice A n c1, .slice B m c2] V fun v _ => v = .bool (decide (xs = ys)) := by
  have hm := h.max
  have hl := h.1
  have hl2 := k.1
  (refine fn_enter Tryd.func5 rfl Tryd.ntmps5 rfl ?_; intro w0)
  repeat' (first | (refine k_gw ?_; (first | (refine k_assign ?_; (first | refine gw_q rfl (q_assign rfl) ?_)) | (refine k_move ?_; (first | refine gw_q rfl (q_move rfl) ?_)) | (refine k_call ?_; (first | refine gw_q rfl (q_len rfl und_22 rfl) ?_)) | (refine k_binOp ?_; (first | refine gw_q rfl (q_neq rfl rfl) ?_ | refine gw_q rfl (q_lss rfl rfl) ?_ | refine gw_q rfl (q_add rfl rfl (by omega)) ?_ | refine gw_q rfl (q_addw rfl rfl) ?_)))) | (refine k_gl ?_; (first | refine gl_nil rfl ?_ | refine gl_go rfl rfl ?_)) | (refine k_gc ?_; (first | refine gc_seq ?_ | refine gc_region ?_ | (refine gc_cond_p rfl ?_ ?_ <;> intro hq <;> try (exfalso; first | exact hq rfl | omega)) | refine gc_block ?_ | refine gc_ret ?_ | refine gc_skip ?_)) | (refine k_at ?_; (first | refine at_seq ?_ | refine at_then_ret ?_ | refine at_then_exit ?_ | refine at_thn_ret ?_ | refine at_thn_exit ?_ | refine at_block_normal ?_ | refine at_block_ret ?_ | refine at_block_hit ?_ | refine at_block_miss rfl ?_)))
  · (refine at_ret1 Tryd.results5 (rv_tmp rfl) ?_)
    rw [decide_eq_false (fun e => by subst e; omega)]
  · have hnm : n = m := by omega
    subst hnm
    refine gc_loop (fun F V' L' m => ∃ i : Nat, i ≤ n ∧ m = n - i ∧ V' = V ∧ L' = [] ∧ xs.take i = ys.take i ∧ F = [(0, .slice A n c1), (1, .slice B n c2), (5, .int .i64 i)]) (m := n) ⟨0, Nat.zero_le _, by omega, rfl, rfl, by simp, rfl⟩ (by repeat (first | exact sub_nil | refine sub_cons (by exact rfl) ?_)) rfl (by repeat (first | exact List.Sublist.refl _ | refine List.Sublist.cons _ ?_ | refine List.sublist_append_of_sublist_right ?_)) ?_
    rintro F V' L' m ⟨i, hi, rfl, rfl, rfl, he, rfl⟩
    by_cases hlt : i < n
    · obtain ⟨b1, o1, x, rfl, hx, hcx⟩ := h.at_ hlt
      obtain ⟨b2, o2, y, rfl, hy, hcy⟩ := k.at_ hlt
      repeat' (first | (refine k_gw ?_; (first | (refine k_assign ?_; (first | refine gw_q rfl (q_assign rfl) ?_)) | (refine k_move ?_; (first | refine gw_q rfl (q_move rfl) ?_)) | (refine k_call ?_; (first | refine gw_q rfl (q_len rfl und_22 rfl) ?_)) | (refine k_binOp ?_; (first | refine gw_q rfl (q_neq rfl rfl) ?_ | refine gw_q rfl (q_lss rfl rfl) ?_ | refine gw_q rfl (q_add rfl rfl (by omega)) ?_ | refine gw_q rfl (q_addw rfl rfl) ?_)) | (refine k_indexAddr ?_; (first | refine gw_q rfl (q_indexAddr und_22 siz_3 rfl rfl (by omega)) ?_)) | (refine k_load ?_; (first | refine gw_q rfl (q_load_v one_3 rfl (by assumption)) ?_)))) | (refine k_gl ?_; (first | refine gl_nil rfl ?_ | refine gl_go rfl rfl ?_)) | (refine k_gc ?_; (first | refine gc_seq ?_ | refine gc_region ?_ | (refine gc_cond_p rfl ?_ ?_ <;> intro hq <;> try (exfalso; first | exact hq rfl | omega)) | refine gc_block ?_ | refine gc_ret ?_ | refine gc_skip ?_ | refine gc_quiet (id := 6) mixed (by kernel_rfl) ?_)) | (refine k_at ?_; (first | refine at_seq ?_ | refine at_then_ret ?_ | refine at_then_exit ?_ | refine at_thn_ret ?_ | refine at_thn_exit ?_ | refine at_block_normal ?_ | refine at_block_ret ?_ | refine at_block_hit ?_ | refine at_block_miss rfl ?_)))
      · (refine at_ret1 Tryd.results5 (rv_tmp rfl) ?_)
        rw [decide_eq_false (fun e => by subst e; rw [hx] at hy; injection hy; contradiction)]
      · refine at_round _ (n - (i + 1)) ⟨i + 1, by omega, rfl, rfl, rfl, ?_, rfl⟩ (by omega) (by repeat (first | exact sub_nil | refine sub_cons (by exact rfl) ?_)) (by repeat (first | exact List.Sublist.refl _ | refine List.Sublist.cons _ ?_ | refine List.sublist_append_of_sublist_right ?_))
        rw [List.take_add_one, List.take_add_one, he, hx, hy, show x = y by omega]
    · repeat' (first | (refine k_gw ?_; (first | (refine k_assign ?_; (first | refine gw_q rfl (q_assign rfl) ?_)) | (refine k_move ?_; (first | refine gw_q rfl (q_move rfl) ?_)) | (refine k_call ?_; (first | refine gw_q rfl (q_len rfl und_22 rfl) ?_)) | (refine k_binOp ?_; (first | refine gw_q rfl (q_neq rfl rfl) ?_ | refine gw_q rfl (q_lss rfl rfl) ?_ | refine gw_q rfl (q_add rfl rfl (by omega)) ?_ | refine gw_q rfl (q_addw rfl rfl) ?_)))) | (refine k_gl ?_; (first | refine gl_nil rfl ?_ | refine gl_go rfl rfl ?_)) | (refine k_gc ?_; (first | refine gc_seq ?_ | refine gc_region ?_ | (refine gc_cond_p rfl ?_ ?_ <;> intro hq <;> try (exfalso; first | exact hq rfl | omega)) | refine gc_exit ?_ | refine gc_ret ?_)) | (refine k_at ?_; (first | refine at_seq ?_ | refine at_then_ret ?_ | refine at_then_exit ?_ | refine at_thn_ret ?_ | refine at_thn_exit ?_ | refine at_block_normal ?_ | refine at_block_ret ?_ | refine at_block_hit ?_ | refine at_block_miss rfl ?_)))
      (refine at_ret1 Tryd.results5 (rv_tmp rfl) ?_)
      rw [List.take_of_length_le (by omega), List.take_of_length_le (by omega)] at he
      rw [decide_eq_true he]
end Go.Proofs.YtejkmomfpidnbaaDoor

/- The walk of Names, by the engine: numbers and errors held against the document's. -/
namespace Go.Proofs.YtejkmomfpidnbaaDoor
open Go.RowKit
set_option linter.unusedSimpArgs false
set_option linter.unusedVariables false
theorem cells_at9 {V : View} {b o j : Nat} {cs : List Value} {v : Value} (h : CellsFrom V b o cs) (hj : cs[j]? = some v) : V ⟨b, o + j, none⟩ = some v := h j v hj
attribute [local irreducible] AtQ GoC GoL GoW QO QP Fn RV OwnAt CellsFrom VLe SrcIs
set_option maxRecDepth 100000
set_option maxRecDepth 100000 in
set_option maxHeartbeats 4000000 in
theorem small_c (V : View) : Fn Tryd.prog 10 [.int .i64 17] V fun v _ => v = .string ⟨#[49, 55]⟩ := by
  (refine fn_enter Tryd.func10 rfl Tryd.ntmps10 rfl ?_; intro w0)
  repeat' (first | (refine k_gw ?_; (first | (refine k_assign ?_; (first | refine gw_q rfl (q_assign rfl) ?_)) | (refine k_move ?_; (first | refine gw_q rfl (q_move rfl) ?_)) | (refine k_binOp ?_; (first | refine gw_q rfl (q_lss rfl rfl) ?_ | refine gw_q rfl (q_add rfl rfl (by omega)) ?_ | refine gw_q rfl (q_addw rfl rfl) ?_ | refine gw_q rfl (q_mul rfl rfl (by omega)) ?_)) | (refine k_slice ?_; (first | refine gw_q rfl (q_sslice (l := 34) (h := 36) und_9 rfl rfl rfl (by decide) (by decide +kernel)) ?_ | refine gw_q rfl (q_sslice und_9 rfl rfl rfl (by omega) (by omega)) ?_ | refine gw_q rfl (q_sslice_i und_9 rfl rfl rfl (by omega) (by omega)) ?_)))) | (refine k_gl ?_; (first | refine gl_nil rfl ?_ | refine gl_go rfl rfl ?_)) | (refine k_gc ?_; (first | refine gc_seq ?_ | refine gc_region ?_ | refine gc_cond_f rfl ?_ | refine gc_ret ?_ | refine gc_skip ?_)) | (refine k_at ?_; (first | refine at_seq ?_ | refine at_then_ret ?_ | refine at_then_exit ?_ | refine at_thn_ret ?_ | refine at_thn_exit ?_ | refine at_block_normal ?_ | refine at_block_ret ?_ | refine at_block_hit ?_ | refine at_block_miss rfl ?_)))
  all_goals first | (exfalso; omega) | skip
  all_goals (refine at_ret1 Tryd.results10 (rv_tmp rfl) ?_)
  all_goals kernel_rfl
set_option maxRecDepth 100000 in
set_option maxHeartbeats 4000000 in
theorem FormatInt_c (V : View) : Fn Tryd.prog 9 [.int .i64 17, .int .i64 10] V fun v _ => v = .string ⟨#[49, 55]⟩ := by
  (refine fn_enter Tryd.func9 rfl Tryd.ntmps9 rfl ?_; intro w0)
  repeat' (first | (refine k_gw ?_; (first | (refine k_assign ?_; (first | refine gw_q rfl (q_assign rfl) ?_)) | (refine k_move ?_; (first | refine gw_q rfl (q_move rfl) ?_)) | (refine k_binOp ?_; (first | refine gw_q rfl (q_eql rfl rfl) ?_ | refine gw_q rfl (q_leq rfl rfl) ?_ | refine gw_q rfl (q_lss rfl rfl) ?_ | refine gw_q rfl (q_add rfl rfl (by omega)) ?_ | refine gw_q rfl (q_addw rfl rfl) ?_)) | (refine k_pick ?_; (first | refine gw_q rfl (q_pick_t rfl rfl) ?_ | refine gw_q rfl (q_pick_f rfl rfl) ?_)) | (refine k_call ?_; (first | refine gw_q' rfl (q_call ⟨Tryd.call10⟩ rfl (small_c _)) ?_)))) | (refine k_gl ?_; (first | refine gl_nil rfl ?_ | refine gl_go rfl rfl ?_ | refine gl_yes rfl rfl rfl rfl rfl ?_)) | (refine k_gc ?_; (first | refine gc_seq ?_ | refine gc_region ?_ | refine gc_cond_t rfl ?_ | refine gc_ret ?_)) | (refine k_at ?_; (first | refine at_seq ?_ | refine at_then_ret ?_ | refine at_then_exit ?_ | refine at_thn_ret ?_ | refine at_thn_exit ?_ | refine at_block_normal ?_ | refine at_block_ret ?_ | refine at_block_hit ?_ | refine at_block_miss rfl ?_)))
  all_goals first | (exfalso; omega) | skip
  all_goals ((refine at_ret1 Tryd.results9 (rv_tmp rfl) ?_); rfl)
theorem IItoa_c (V : View) : Fn Tryd.prog 8 [.int .i64 17] V fun v _ => v = .string ⟨#[49, 55]⟩ := by
  (refine fn_enter Tryd.func8 rfl Tryd.ntmps8 rfl ?_; intro w0)
  repeat' (first | (refine k_gw ?_; (first | (refine k_assign ?_; (first | refine gw_q rfl (q_assign rfl) ?_)) | (refine k_move ?_; (first | refine gw_q rfl (q_move rfl) ?_)) | (refine k_call ?_; (first | refine gw_q' rfl (q_call ⟨Tryd.call9⟩ rfl (FormatInt_c _)) ?_)))) | (refine k_gl ?_; (first | refine gl_nil rfl ?_ | refine gl_go rfl rfl ?_ | refine gl_yes rfl rfl rfl rfl rfl ?_ | refine gl_no rfl rfl rfl rfl rfl rfl rfl ?_ | refine gl_nou rfl rfl rfl rfl rfl rfl ?_ | (refine gl_split_p rfl rfl rfl ?_ ?_ <;> intro hq <;> try (exfalso; first | exact hq rfl | omega)) | (refine gl_split_b rfl rfl rfl ?_ ?_ <;> intro hq))) | (refine k_gc ?_; (first | refine gc_seq ?_ | refine gc_region ?_ | refine gc_cond_t rfl ?_ | refine gc_cond_f rfl ?_ | (refine gc_cond_p rfl ?_ ?_ <;> intro hq <;> try (exfalso; first | exact hq rfl | omega)) | (refine gc_cond_b rfl ?_ ?_ <;> intro hq) | refine gc_block ?_ | refine gc_exit ?_ | refine gc_ret ?_ | refine gc_skip ?_)) | (refine k_at ?_; (first | refine at_seq ?_ | refine at_then_ret ?_ | refine at_then_exit ?_ | refine at_thn_ret ?_ | refine at_thn_exit ?_ | refine at_block_normal ?_ | refine at_block_ret ?_ | refine at_block_hit ?_ | refine at_block_miss rfl ?_)))
  all_goals ((refine at_ret1 Tryd.results8 (rv_tmp rfl) ?_); rfl)
theorem Itoa_c (V : View) : Fn Tryd.prog 7 [.int .i64 17] V fun v _ => v = .string ⟨#[49, 55]⟩ := by
  (refine fn_enter Tryd.func7 rfl Tryd.ntmps7 rfl ?_; intro w0)
  repeat' (first | (refine k_gw ?_; (first | (refine k_assign ?_; (first | refine gw_q rfl (q_assign rfl) ?_)) | (refine k_move ?_; (first | refine gw_q rfl (q_move rfl) ?_)) | (refine k_call ?_; (first | refine gw_q' rfl (q_call ⟨Tryd.call8⟩ rfl (IItoa_c _)) ?_)))) | (refine k_gl ?_; (first | refine gl_nil rfl ?_ | refine gl_go rfl rfl ?_ | refine gl_yes rfl rfl rfl rfl rfl ?_ | refine gl_no rfl rfl rfl rfl rfl rfl rfl ?_ | refine gl_nou rfl rfl rfl rfl rfl rfl ?_ | (refine gl_split_p rfl rfl rfl ?_ ?_ <;> intro hq <;> try (exfalso; first | exact hq rfl | omega)) | (refine gl_split_b rfl rfl rfl ?_ ?_ <;> intro hq))) | (refine k_gc ?_; (first | refine gc_seq ?_ | refine gc_region ?_ | refine gc_cond_t rfl ?_ | refine gc_cond_f rfl ?_ | (refine gc_cond_p rfl ?_ ?_ <;> intro hq <;> try (exfalso; first | exact hq rfl | omega)) | (refine gc_cond_b rfl ?_ ?_ <;> intro hq) | refine gc_block ?_ | refine gc_exit ?_ | refine gc_ret ?_ | refine gc_skip ?_)) | (refine k_at ?_; (first | refine at_seq ?_ | refine at_then_ret ?_ | refine at_then_exit ?_ | refine at_thn_ret ?_ | refine at_thn_exit ?_ | refine at_block_normal ?_ | refine at_block_ret ?_ | refine at_block_hit ?_ | refine at_block_miss rfl ?_)))
  all_goals ((refine at_ret1 Tryd.results7 (rv_tmp rfl) ?_); rfl)
set_option maxRecDepth 100000 in
set_option maxHeartbeats 4000000 in
theorem Error_c (V : View) : Fn Tryd.prog 6 [.int .i64 17] V fun v _ => v = .string ⟨#[105, 100, 115, 104, 105, 102, 116, 58, 32, 101, 114, 114, 111, 114, 32, 49, 55]⟩ := by
  (refine fn_enter Tryd.func6 rfl Tryd.ntmps6 rfl ?_; intro w0)
  repeat' (first | (refine k_gw ?_; (first | (refine k_assign ?_; (first | refine gw_q rfl (q_assign rfl) ?_)) | (refine k_move ?_; (first | refine gw_q rfl (q_move rfl) ?_)) | (refine k_call ?_; (first | refine gw_q' rfl (q_call ⟨Tryd.call7⟩ rfl (Itoa_c _)) ?_)) | (refine k_binOp ?_; (first | refine gw_q rfl (q_sadd rfl rfl (by decide)) ?_ | refine gw_q rfl (q_sadd rfl rfl (by first | omega | (simp only [ByteArray.size_append, ByteArray.size_extract]; omega) | fail)) ?_)))) | (refine k_gl ?_; (first | refine gl_nil rfl ?_ | refine gl_go rfl rfl ?_ | refine gl_yes rfl rfl rfl rfl rfl ?_ | refine gl_no rfl rfl rfl rfl rfl rfl rfl ?_ | refine gl_nou rfl rfl rfl rfl rfl rfl ?_ | (refine gl_split_p rfl rfl rfl ?_ ?_ <;> intro hq <;> try (exfalso; first | exact hq rfl | omega)) | (refine gl_split_b rfl rfl rfl ?_ ?_ <;> intro hq))) | (refine k_gc ?_; (first | refine gc_seq ?_ | refine gc_region ?_ | refine gc_cond_t rfl ?_ | refine gc_cond_f rfl ?_ | (refine gc_cond_p rfl ?_ ?_ <;> intro hq <;> try (exfalso; first | exact hq rfl | omega)) | (refine gc_cond_b rfl ?_ ?_ <;> intro hq) | refine gc_block ?_ | refine gc_exit ?_ | refine gc_ret ?_ | refine gc_skip ?_)) | (refine k_at ?_; (first | refine at_seq ?_ | refine at_then_ret ?_ | refine at_then_exit ?_ | refine at_thn_ret ?_ | refine at_thn_exit ?_ | refine at_block_normal ?_ | refine at_block_ret ?_ | refine at_block_hit ?_ | refine at_block_miss rfl ?_)))
  all_goals (refine at_ret1 Tryd.results6 (rv_tmp rfl) ?_)
  all_goals kernel_rfl
abbrev numsN : List Int := [65535, 65534, 4, 4, 12, 6, 200, 4, 20, 60, 3, 64, 64, 5, 5, 200, 2000, 60, 400, 15, 4095, 1, 2, 4, 8, 2048, 1024, 512, 1, 2, 4, 1, 2, 3, 1, 14]
set_option maxRecDepth 100000 in
set_option maxHeartbeats 40000000 in
theorem Names_c (V : View) : Fn Tryd.prog 3 [] V fun v _ => v = .bool true := by
  (refine fn_enter Tryd.func3 rfl Tryd.ntmps3 rfl ?_; intro w0)
  repeat' (first | (refine k_gw ?_; (first | (refine k_assign ?_; (first | refine gw_q rfl (q_assign rfl) ?_)) | (refine k_buildSlice ?_; (first | (refine gw_buildSlice rfl und_22 siz_3 zec_3 rfl rfl rfl rfl rfl rfl rfl ?_; intro γ) | (refine gw_buildSlice rfl und_24 siz_27 zec_27 rfl rfl rfl rfl rfl rfl rfl ?_; intro γ))) | (refine k_makeInterface ?_; (first | refine gw_q rfl (q_mkiface und_23 rfl rfl) ?_)))) | (refine k_gl ?_; (first | refine gl_nil rfl ?_ | refine gl_go rfl rfl ?_)) | (refine k_gc ?_; (first | refine gc_seq ?_ | refine gc_region ?_)) | (refine k_at ?_; (first | refine at_seq ?_ | refine at_then_ret ?_ | refine at_then_exit ?_ | refine at_thn_ret ?_ | refine at_thn_exit ?_ | refine at_block_normal ?_ | refine at_block_ret ?_ | refine at_block_hit ?_ | refine at_block_miss rfl ?_)))
  rename_i γl γw
  refine gc_retire (Drop1.here _ _ _ _) ?_
  intro V1 hV1 he1
  refine gc_retire (Drop1.here _ _ _ _) ?_
  intro V2 hV2 hw1
  refine gc_retire (Drop1.here _ _ _ _) ?_
  intro V3 hV3 hl1
  obtain ⟨cs, hcs, he⟩ : ∃ cs, cs = (List.range 17).map (fun k : Nat => Value.iface 23 (.int .i64 ((k : Int) + 1))) ∧ CellsFrom V3 γ 0 cs := ⟨_, by kernel_rfl, he1.le (hV2.trans hV3)⟩
  subst hcs
  obtain ⟨cw, hcw, hw⟩ : ∃ cs, cs = numsN.map (fun k => Value.int .i64 k) ∧ CellsFrom V3 γw 0 cs := ⟨_, by kernel_rfl, hw1.le hV3⟩
  subst hcw
  obtain ⟨cl, hcl, hl⟩ : ∃ cs, cs = numsN.map (fun k => Value.int .i64 k) ∧ CellsFrom V3 γl 0 cs := ⟨_, by kernel_rfl, hl1⟩
  subst hcl
  clear he1 hw1 hl1
  have hIl : IntsV V3 (some ⟨γl, 0, none⟩) 36 numsN := ⟨rfl, by decide, rfl, fun _ => ⟨γl, 0, rfl, hl⟩⟩
  have hIw : IntsV V3 (some ⟨γw, 0, none⟩) 36 numsN := ⟨rfl, by decide, rfl, fun _ => ⟨γw, 0, rfl, hw⟩⟩
  have hSN : Fn Tryd.prog 5 [.slice (some ⟨γl, 0, none⟩) 36 36, .slice (some ⟨γw, 0, none⟩) 36 36] V3 fun v _ => v = .bool true := (SameNumbers_c V3 _ _ 36 36 36 36 numsN numsN hIl hIw).mono fun v V' _ h => by rw [h, decide_eq_true rfl]
  repeat' (first | (refine k_gc ?_; (first | refine gc_block ?_)))
  refine gc_loop (fun F V' L' m => ∃ k : Nat, k ≤ 17 ∧ m = 17 - k ∧ V3 = V' ∧ [] = L' ∧ F = [(1, .slice (some ⟨γl, 0, none⟩) 36 36), (2, .slice (some ⟨γw, 0, none⟩) 36 36), (3, .slice (some ⟨γ, 0, none⟩) 17 17), (4, .int .i64 (k : Int))]) (m := 17) ⟨0, by omega, rfl, rfl, rfl, rfl⟩ (by repeat (first | exact sub_nil | refine sub_cons (by exact rfl) ?_)) rfl (by repeat (first | exact List.Sublist.refl _ | refine List.Sublist.cons _ ?_ | refine List.sublist_append_of_sublist_right ?_)) ?_
  rintro F V' L' m ⟨k, hk, rfl, rfl, rfl, rfl⟩
  by_cases hlt : k < 17
  · have hcell : V3 ⟨γ, 0 + k * 1, none⟩ = some (.iface 23 (.int .i64 ((k : Int) + 1))) := by
      have := cells_at9 (j := k) (v := .iface 23 (.int .i64 ((k : Int) + 1))) he (by simp [hlt])
      rw [Nat.mul_one]; exact this
    have hS : Fn Tryd.prog 4 [.iface 23 (.int .i64 ((k : Int) + 1)), .int .i64 ((k : Int) + 1)] V3 fun v _ => v = .bool true := by
      have h9 := same_c V3 ((k : Int) + 1) ((k : Int) + 1) (by omega)
      rw [errV_pos (by omega)] at h9
      exact h9.mono fun v V' _ h => by rw [h, decide_eq_true rfl]
    repeat' (first | (refine k_gw ?_; (first | (refine k_assign ?_; (first | refine gw_q rfl (q_assign rfl) ?_)) | (refine k_move ?_; (first | refine gw_q rfl (q_move rfl) ?_)) | (refine k_call ?_; (first | refine gw_q rfl (q_len rfl und_24 rfl) ?_ | refine gw_q' rfl (q_call ⟨Tryd.call4⟩ rfl (hS)) ?_)) | (refine k_binOp ?_; (first | refine gw_q rfl (q_lss rfl rfl) ?_ | refine gw_q rfl (q_add rfl rfl (by omega)) ?_ | refine gw_q rfl (q_addw rfl rfl) ?_ | refine gw_q rfl (q_seql rfl rfl) ?_)) | (refine k_indexAddr ?_; (first | refine gw_q rfl (q_indexAddr und_24 siz_27 rfl rfl (by omega)) ?_)) | (refine k_load ?_; (first | refine gw_q rfl (q_load_v one_27 rfl (by assumption)) ?_)) | (refine k_unOp ?_; (first | refine gw_q rfl (q_not_t rfl) ?_ | refine gw_q rfl (q_not_f rfl) ?_ | refine gw_q rfl (q_not_p rfl) ?_ | refine gw_q rfl (q_not_b rfl) ?_)))) | (refine k_gl ?_; (first | refine gl_nil rfl ?_ | refine gl_go rfl rfl ?_)) | (refine k_gc ?_; (first | refine gc_seq ?_ | refine gc_region ?_ | refine gc_cond_f rfl ?_ | (refine gc_cond_p rfl ?_ ?_ <;> intro hq <;> try (exfalso; first | exact hq rfl | omega)) | refine gc_block ?_ | refine gc_skip ?_)) | (refine k_at ?_; (first | refine at_seq ?_ | refine at_then_ret ?_ | refine at_then_exit ?_ | refine at_thn_ret ?_ | refine at_thn_exit ?_ | refine at_block_normal ?_ | refine at_block_ret ?_ | refine at_block_hit ?_ | refine at_block_miss rfl ?_)))
    all_goals first | (exfalso; omega) | skip
    refine at_round _ (17 - (k + 1)) ⟨k + 1, by omega, rfl, rfl, rfl, rfl⟩ (by omega) (by repeat (first | exact sub_nil | refine sub_cons (by exact rfl) ?_)) (by repeat (first | exact List.Sublist.refl _ | refine List.Sublist.cons _ ?_ | refine List.sublist_append_of_sublist_right ?_))
  · obtain rfl : k = 17 := by omega
    repeat' (first | (refine k_gw ?_; (first | (refine k_assign ?_; (first | refine gw_q rfl (q_assign rfl) ?_)) | (refine k_move ?_; (first | refine gw_q rfl (q_move rfl) ?_)) | (refine k_call ?_; (first | refine gw_q rfl (q_len rfl und_24 rfl) ?_ | refine gw_q' rfl (q_call ⟨Tryd.call5⟩ rfl (hSN)) ?_ | refine gw_q' rfl (q_call ⟨Tryd.call6⟩ rfl (Error_c _)) ?_)) | (refine k_binOp ?_; (first | refine gw_q rfl (q_lss rfl rfl) ?_ | refine gw_q rfl (q_add rfl rfl (by omega)) ?_ | refine gw_q rfl (q_addw rfl rfl) ?_ | refine gw_q rfl (q_seql rfl rfl) ?_)) | (refine k_pick ?_; (first | refine gw_q rfl (q_pick_t rfl rfl) ?_ | refine gw_q rfl (q_pick_f rfl rfl) ?_)))) | (refine k_gl ?_; (first | refine gl_nil rfl ?_ | refine gl_go rfl rfl ?_ | refine gl_yes rfl rfl rfl rfl rfl ?_)) | (refine k_gc ?_; (first | refine gc_seq ?_ | refine gc_region ?_ | refine gc_cond_f rfl ?_ | refine gc_exit ?_ | refine gc_ret ?_)) | (refine k_at ?_; (first | refine at_seq ?_ | refine at_then_ret ?_ | refine at_then_exit ?_ | refine at_thn_ret ?_ | refine at_thn_exit ?_ | refine at_block_normal ?_ | refine at_block_ret ?_ | refine at_block_hit ?_ | refine at_block_miss rfl ?_)))
    all_goals first | (exfalso; omega) | skip
    all_goals ((refine at_ret1 Tryd.results3 (rv_tmp rfl) ?_); first | rfl | trace_state)
end Go.Proofs.YtejkmomfpidnbaaDoor

/- Slices of elements of any kind, as a view knows them. No program is named here. -/
namespace Go.Proofs.YtejkmomfpidnbaaDoor
open Go.RowKit
set_option linter.unusedSimpArgs false
set_option linter.unusedVariables false

/-- The elements of a slice are the list xs, each sz cells as f says. -/
def ElsV {α : Type} (V : View) (sz : Nat) (f : α → List Value) (A : Option Addr) (n : Nat) (xs : List α) : Prop :=
  xs.length = n ∧ n ≤ maxLen ∧ (0 < n → ∃ b off, A = some ⟨b, off, none⟩ ∧ ∀ k x, xs[k]? = some x → CellsFrom V b (off + k * sz) (f x))
section
variable {α : Type} {V V' : View} {sz n : Nat} {f : α → List Value} {A : Option Addr} {xs : List α}
theorem ElsV.le (h : ElsV V sz f A n xs) (hv : VLe V V') : ElsV V' sz f A n xs := ⟨h.1, h.2.1, fun hn => let ⟨b, off, ha, hc⟩ := h.2.2 hn; ⟨b, off, ha, fun k x hk => (hc k x hk).le hv⟩⟩
theorem ElsV.nil : ElsV V sz f A 0 [] := ⟨rfl, Nat.zero_le _, fun h => absurd h (by omega)⟩
theorem ElsV.max (h : ElsV V sz f A n xs) : n ≤ 9223372036854775807 := by
  have := h.2.1; unfold maxLen at this; omega
theorem ElsV.at_ (h : ElsV V sz f A n xs) {k : Nat} (hk : k < n) : ∃ b off x, A = some ⟨b, off, none⟩ ∧ xs[k]? = some x ∧ CellsFrom V b (off + k * sz) (f x) := by
  obtain ⟨h1, _, h3⟩ := h
  obtain ⟨b, off, ha, hc⟩ := h3 (by omega)
  have hx : xs[k]? = some (xs[k]'(by omega)) := List.getElem?_eq_getElem (by omega)
  exact ⟨b, off, _, ha, hx, hc k _ hx⟩
theorem flat_len (f : α → List Value) (hf : ∀ x, (f x).length = sz) (xs : List α) : (xs.flatMap f).length = xs.length * sz := by
  induction xs with
  | nil => simp
  | cons y xs ih => rw [List.flatMap_cons, List.length_append, hf, ih, List.length_cons, Nat.succ_mul]; omega
theorem flat_inv (f : α → List Value) (hf : ∀ x, (f x).length = sz) : ∀ (xs : List α) (i : Nat) (v : Value), (xs.flatMap f)[i]? = some v → ∃ k j x, i = k * sz + j ∧ xs[k]? = some x ∧ (f x)[j]? = some v
  | [], i, v, h => by simp at h
  | y :: xs, i, v, h => by
    rw [List.flatMap_cons] at h
    rcases Nat.lt_or_ge i sz with hi | hi
    · rw [List.getElem?_append_left (by rw [hf]; exact hi)] at h
      exact ⟨0, i, y, by omega, rfl, h⟩
    · rw [List.getElem?_append_right (by rw [hf]; exact hi), hf] at h
      obtain ⟨k, j, x, h1, h2, h3⟩ := flat_inv f hf xs (i - sz) v h
      exact ⟨k + 1, j, x, by rw [Nat.succ_mul]; omega, by simpa using h2, h3⟩
theorem ElsV.cells (h : ElsV V sz f A n xs) (hf : ∀ x, (f x).length = sz) : CellsV V sz A n (xs.flatMap f) := by
  obtain ⟨h1, _, h3⟩ := h
  refine ⟨by rw [flat_len f hf, h1], fun hn => ?_⟩
  obtain ⟨b, off, ha, hc⟩ := h3 hn
  refine ⟨b, off, ha, fun i v hi => ?_⟩
  obtain ⟨k, j, x, rfl, hx, hv⟩ := flat_inv f hf xs i v hi
  have := hc k x hx j v hv
  rw [show off + (k * sz + j) = off + k * sz + j by omega]; exact this
/-- x[:h] and x[l:]. -/
theorem ElsV.take (h : ElsV V sz f A n xs) {k : Nat} (hk : k ≤ n) : ElsV V sz f A k (xs.take k) := by
  refine ⟨by rw [List.length_take, h.1]; omega, Nat.le_trans hk h.2.1, fun hn => ?_⟩
  obtain ⟨b, off, ha, hc⟩ := h.2.2 (by omega)
  refine ⟨b, off, ha, fun j x hj => hc j x ?_⟩
  rw [List.getElem?_take] at hj
  split at hj
  · exact hj
  · cases hj
theorem ElsV.drop (h : ElsV V sz f A n xs) {k c : Nat} (hk : k ≤ n) (hc' : n ≤ c) : ElsV V sz f (cutA A c k sz) (n - k) (xs.drop k) := by
  refine ⟨by rw [List.length_drop, h.1], Nat.le_trans (Nat.sub_le _ _) h.2.1, fun hn => ?_⟩
  obtain ⟨b, off, ha, hc⟩ := h.2.2 (by omega)
  refine ⟨b, off + k * sz, ?_, fun j x hj => ?_⟩
  · unfold cutA
    rw [if_neg (by omega), ha]
    simp [add_none]
  · rw [List.getElem?_drop] at hj
    have := hc (k + j) x hj
    rw [show off + k * sz + j * sz = off + (k + j) * sz by rw [Nat.add_mul]; omega]; exact this
theorem RowL.cap {A : Option Addr} {n c E sz : Nat} {xs : List Value} {L1 : List Box} (h : RowL A n c E sz xs L1) : n ≤ c := by
  rcases h.2 with ⟨_, _, rfl, _⟩ | ⟨_, _, _, _, h, _⟩
  · omega
  · exact h
end
end Go.Proofs.YtejkmomfpidnbaaDoor

/- Arguments opened: from what the reader says of a value to the words of our walks. No program is named here. -/

namespace Go.Proofs.YtejkmomfpidnbaaDoor
open Go.ChangeShapes Go.WideShapes Go.ChangeAt Go.RowKit
open Go.Deep
set_option linter.unusedVariables false

section
variable {H : Type} {enc : TypeId × Value → H} {P : Program} {w : World} {base : Nat} {spare : Nat → Bool} {held : Bool}

/-- Two values that are of an int's bounds. -/
theorem i64_of_wf {x : Int} (h : (Lit.int .i64 x).wf = true) : -9223372036854775808 ≤ x ∧ x ≤ 9223372036854775807 := by
  simp [Lit.wf, IntKind.min, IntKind.max, IntKind.signed, IntKind.bits] at h
  exact ⟨by omega, by omega⟩

theorem ints_of_trod {t e : TypeId} {fuel : Nat} {v : Value} {x : DataW H × List MemPlace} (ht : P.underlying t = some (.slice e)) (he : P.underlying e = some (.int .i64)) (hc : P.cellsOf e = 1)
    (h : DataW.trod enc P w base spare held fuel t [v] = some x) : ∃ A n c xs, v = .slice A n c ∧ IntsAt w A n xs ∧ ∀ z ∈ xs, -9223372036854775808 ≤ z ∧ z ≤ 9223372036854775807 := by
  rcases open_ints ht he hc h with ⟨hcs, _⟩ | ⟨a, len, cap, zs, hcs, _, hl, hm, hz, _, hcell, hwz⟩
  · obtain rfl : v = .slice none 0 0 := by simpa using hcs
    exact ⟨none, 0, 0, [], rfl, IntsAt.nil w, by simp⟩
  · obtain rfl : v = .slice (some a) len cap := by simpa using hcs
    have hlz : len ≤ zs.length := by rw [hz]; split <;> omega
    refine ⟨some a, len, cap, zs.take len, rfl, ⟨by simp; omega, by omega, fun hn => ?_⟩, fun z hz' => i64_of_wf (hwz z (List.mem_of_mem_take hz'))⟩
    obtain ⟨b, off, spot⟩ := a
    have hc0 := hcell 0 (by omega)
    have hs : spot = none := by simpa [Addr.add] using World.cell?_spot hc0
    subst hs
    refine ⟨b, off, rfl, fun j z hj => ?_⟩
    have hjl : j < len := by
      rcases Nat.lt_or_ge j len with h | h
      · exact h
      · rw [List.getElem?_eq_none (by simp; omega)] at hj; cases hj
    rw [List.getElem?_take_of_lt hjl] at hj
    have hcj := hcell j (by omega)
    rw [List.getD_eq_getElem?_getD, hj] at hcj
    have ha : (⟨b, off, none⟩ : Addr).add j = ⟨b, off + j, none⟩ := by unfold Addr.add; split <;> simp_all
    rw [ha] at hcj
    exact hcj

/-- A struct's cells, and each field's reading off its own part of them. -/
def FieldsRead {H : Type} (enc : TypeId × Value → H) (P : Program) (w : World) (base : Nat) (spare : Nat → Bool) (held : Bool) (fs : Array Field) (cs : List Value) : Prop :=
  ∃ n, ∀ (j : Nat) (f : Field), fs[j]? = some f → ∃ y, DataW.trod enc P w base spare held n f.type ((cs.drop f.offset).take (P.cellsOf f.type)) = some y

/-- One field that is an int. -/
theorem FieldsRead.int {fs : Array Field} {cs : List Value} (h : FieldsRead enc P w base spare held fs cs) (j : Nat) {f : Field} (hj : fs[j]? = some f) {k : IntKind} (ht : P.underlying f.type = some (.int k)) (hc : P.cellsOf f.type = 1) {v : Value} (hv : cs[f.offset]? = some v) :
    ∃ n, v = .int k n ∧ (Lit.int k n).wf = true := by
  obtain ⟨m, hm⟩ := h
  obtain ⟨y, hy⟩ := hm j f hj
  obtain ⟨n, he, _, hwf⟩ := DataW.trod_int ht hy
  rw [hc, drop_at (Lib.hid hv)] at he
  exact ⟨n, by simpa using he, hwf⟩
theorem FieldsRead.bool {fs : Array Field} {cs : List Value} (h : FieldsRead enc P w base spare held fs cs) (j : Nat) {f : Field} (hj : fs[j]? = some f) (ht : P.underlying f.type = some .bool) (hc : P.cellsOf f.type = 1) {v : Value} (hv : cs[f.offset]? = some v) :
    ∃ b, v = .bool b := by
  obtain ⟨m, hm⟩ := h
  obtain ⟨y, hy⟩ := hm j f hj
  obtain ⟨n, he, _⟩ := DataW.trod_bool ht hy
  rw [hc, drop_at (Lib.hid hv)] at he
  exact ⟨n, by simpa using he⟩
theorem FieldsRead.string {fs : Array Field} {cs : List Value} (h : FieldsRead enc P w base spare held fs cs) (j : Nat) {f : Field} (hj : fs[j]? = some f) (ht : P.underlying f.type = some .string) (hc : P.cellsOf f.type = 1) {v : Value} (hv : cs[f.offset]? = some v) :
    ∃ s, v = .string s ∧ s.size ≤ maxLen := by
  obtain ⟨m, hm⟩ := h
  obtain ⟨y, hy⟩ := hm j f hj
  obtain ⟨n, he, hx⟩ := DataW.trod_string ht hy
  rw [hc, drop_at (Lib.hid hv)] at he
  exact ⟨n, by simpa using he, by simpa using hx.2⟩
theorem FieldsRead.ints {fs : Array Field} {cs : List Value} (h : FieldsRead enc P w base spare held fs cs) (j : Nat) {f : Field} (hj : fs[j]? = some f) {e : TypeId} (ht : P.underlying f.type = some (.slice e)) (he : P.underlying e = some (.int .i64)) (hc : P.cellsOf f.type = 1) (hce : P.cellsOf e = 1) {v : Value} (hv : cs[f.offset]? = some v) :
    ∃ A n c xs, v = .slice A n c ∧ IntsAt w A n xs ∧ ∀ z ∈ xs, -9223372036854775808 ≤ z ∧ z ≤ 9223372036854775807 := by
  obtain ⟨m, hm⟩ := h
  obtain ⟨y, hy⟩ := hm j f hj
  rw [hc, drop_at (Lib.hid hv)] at hy
  exact ints_of_trod ht he hce hy

end
end Go.Proofs.YtejkmomfpidnbaaDoor

/- From the engine's contracts to a call in a given world. No program is named here. -/
namespace Go.Proofs.YtejkmomfpidnbaaDoor
open Go.RowKit
set_option linter.unusedVariables false

/-- All that a world has. -/
def fullV (w : World) : View := fun p => w.cell? p
theorem fullV_in (w : World) : VIn (fullV w) w := fun p x h => h
theorem Fn.any {P : Program} {f : FuncId} {args : List Value} {w : World} {v : Value} (h : Fn P f args (fullV w) fun u _ => u = v) : Calls P f args.toArray w fun e w' => e = .returned v ∧ Ext w w' :=
  (h w (fullV_in w)).mono fun e w' ⟨u, he, hx, _, _, _, _, hu⟩ => ⟨by rw [he, hu], hx⟩
theorem IntsAt.view {w : World} {A : Option Addr} {n : Nat} {xs : List Int} (h : IntsAt w A n xs) : IntsV (fullV w) A n xs := by
  refine ⟨h.1, h.2.1, h.cells.1, fun hn => ?_⟩
  obtain ⟨b, off, ha, hc⟩ := h.cells.2 hn
  exact ⟨b, off, ha, hc⟩
end Go.Proofs.YtejkmomfpidnbaaDoor

