/- Walks and plain laws, part 1: what functions compute, proved once each (Base, Eng, StrP, Ops, Ops2, Ops3, Rep, Mem, Row, El, AttrP, AttrT). -/
import Derived.WalkKit
import Derived.WalkSpells
import Derived.WalkLawsBesides
import Derived.Lib.Hide
import Derived.Deep.QuietTactic
import Derived.BigQuiet
import Derived.Lib.QuietBelow
import Derived.Deep.Quiet
import Derived.OrdersHeld
import Derived.Lib.Strings
import Derived.IntWalk
import Derived.Below
import Derived.Maps.AppendAt
import Derived.Deep.AppendLies
import Derived.Laws.OwnMore
set_option linter.unusedSimpArgs false
set_option linter.unusedVariables false
set_option maxRecDepth 100000
set_option maxHeartbeats 40000000
namespace Go.Proofs.YtejkmomfpidnbacGreat
open Go.RowKit
section

def Ext (w w':World):Prop:=Below w.heap.size w w'

theorem Ext.refl (w:World):Ext w w:=Below.refl _ _
theorem Ext.al {w x:World} (o:Obj) (h:Ext w x):Ext w (x.alloc o):=Below.alloc h h.size o
theorem Ext.dr {w x:World} (h:Ext w x):Ext w x.drew:=Below.drew h
theorem Ext.set {w x:World} {p:Addr} (v:Value) (h:Ext w x) (hp:w.heap.size≤p.block):Ext w (x.setCell p v):=Below.setCell h hp v
theorem Ext.via {w x y:World} (h:Ext w x) (k:Ext x y):Ext w y:=Below.trans h (Below.mono k h.size)
theorem Ext.sz {w x:World} (h:Ext w x):w.heap.size≤x.heap.size:=h.size
theorem Ext.cells {w x:World} (h:Ext w x):∀ b o,b<w.heap.size→x.cell? ⟨b,o,none⟩=w.cell? ⟨b,o,none⟩:=fun b o hb=>Below.cell h (p:=⟨b,o,none⟩) hb
theorem Ext.kept {w x:World} (h:Ext w x) {p:Addr} {v:Value} (hp:w.cell? p=some v):x.cell? p=some v :=
  (Below.cell h (World.block_lt_of_cell? w p hp)).trans hp

def jB (w:World) (A:Option Addr) (n:Nat) (xs:List Int):Prop :=
  xs.length=n∧n≤maxLen∧(0<n→∃ b off,A=some ⟨b,off,none⟩∧∀ j z,xs[j]?=some z→w.cell? ⟨b,off+j,none⟩=some (.int .i64 z))

theorem jB.ext {w w':World} {A:Option Addr} {n:Nat} {xs:List Int} (h:jB w A n xs) (hx:Ext w w'):jB w' A n xs :=
  ⟨h.1,h.2.1,fun hn=>by
    obtain⟨b,off,ha,hc⟩:=h.2.2 hn
    exact⟨b,off,ha,fun j z hz=>hx.kept (hc j z hz)⟩⟩
theorem jB.le {w:World} {A:Option Addr} {n:Nat} {xs:List Int} (h:jB w A n xs):n≤9223372036854775807:=by
  have:=h.2.1;unfold maxLen at this;omega
theorem jB.len {w:World} {A:Option Addr} {n:Nat} {xs:List Int} (h:jB w A n xs):Hid (xs.length=n):=h.1
theorem jB.round {w:World} {A:Option Addr} {n k:Nat} {xs:List Int} (h:jB w A n xs) (hk:k<n) :
    ∃ b off z,A=some ⟨b,off,none⟩∧b<w.heap.size∧w.cell? ⟨b,off+k,none⟩=some (.int .i64 z)∧Hid (xs[k]?=some z):=by
  obtain⟨hl,_,hc⟩:=h
  obtain⟨b,off,ha,hz⟩:=hc (by omega)
  have hx:xs[k]?=some (xs[k]'(by omega)):=List.getElem?_eq_getElem (by omega)
  exact⟨b,off,_,ha,World.block_lt_of_cell? w _ (hz k _ hx),hz k _ hx,hx⟩

theorem jB.nil (w:World):jB w none 0 []:=⟨rfl,Nat.zero_le _,fun h=>absurd h (by omega)⟩

theorem nV {α:Type} {xs:List α} {k:Nat} {x:α} (h:Hid (xs[k]?=some x)):xs.drop k=x :: xs.drop (k+1):=by
  have h:=h.out
  have hk:k<xs.length:=by
    rcases Nat.lt_or_ge k xs.length with hk|hk
    · exact hk
    · rw [List.getElem?_eq_none hk] at h;cases h
  rw [List.drop_eq_getElem_cons hk]
  congr 1
  rw [List.getElem?_eq_getElem hk] at h
  injection h
end
section

abbrev aE:=Addr→Option Value
def VLe (V V':aE):Prop:=∀ p x,V p=some x→V' p=some x
theorem VLe.refl (V:aE):VLe V V:=fun _ _ h=>h
theorem VLe.trans {V V' V'':aE} (h:VLe V V') (k:VLe V' V''):VLe V V'':=fun p x hp=>k p x (h p x hp)
def VIn (V:aE) (w:World):Prop:=∀ p x,V p=some x→w.cell? p=some x
inductive BT where
  | cells (E:TypeId)
  | map (es:Array MapEntry) (clock:Nat)
instance : Coe TypeId BT := ⟨BT.cells⟩
@[reducible] instance (n:Nat):OfNat BT n:=⟨BT.cells n⟩
structure Box where
  g:Nat
  t:BT
  cs:List Value
def BT.obj:BT→List Value→Obj
  | .cells E,cs=>.cells cs.toArray E (0,0)
  | .map es c,_=>.map es c
@[simp] theorem BT.obj_cells (E:TypeId) (cs:List Value):BT.obj (.cells E) cs=.cells cs.toArray E (0,0):=rfl
@[simp] theorem BT.obj_map (es:Array MapEntry) (c:Nat) (cs:List Value):BT.obj (.map es c) cs=.map es c:=rfl
structure Base where
  v:aE
  w:World
  fl:List Nat
structure Exc (fl:List Nat) (w w':World):Prop where
  os:w'.os=w.os
  tape:w'.tape=w.tape
  output:w'.output=w.output
  sz:w.heap.size≤w'.heap.size
  block:∀ k,k<w.heap.size→¬k∈fl→w'.heap[k]?=w.heap[k]?
theorem Exc.refl (fl:List Nat) (w:World):Exc fl w w:=⟨rfl,rfl,rfl,Nat.le_refl _,fun _ _ _=>rfl⟩
theorem Exc.trans {fl fl':List Nat} {a b c:World} (h:Exc fl a b) (k:Exc fl' b c) (hf:∀ x∈fl',a.heap.size≤x∨x∈fl):Exc fl a c :=
  ⟨k.os.trans h.os,k.tape.trans h.tape,k.output.trans h.output,Nat.le_trans h.sz k.sz,fun i hi hn=>by
    rw [k.block i (Nat.lt_of_lt_of_le hi h.sz) (fun hm=>by
      rcases hf i hm with h1|h1
      · omega
      · exact hn h1)]
    exact h.block i hi hn⟩
theorem Exc.of_ext {w w':World} (h:Ext w w'):Exc [] w w':=⟨h.os,h.tape,h.output,h.size,fun k hk _=>h.block k hk⟩
theorem Exc.ext {w w':World} (h:Exc [] w w'):Ext w w':=⟨h.os,h.tape,h.output,h.sz,fun k hk=>h.block k hk (by simp)⟩
theorem Exc.via {fl:List Nat} {a b c:World} (h:Exc fl a b) (k:Ext b c):Exc fl a c:=h.trans (Exc.of_ext k) (by simp)
theorem Exc.dr {fl:List Nat} {w x:World} (h:Exc fl w x):Exc fl w x.drew:=h.via (Ext.dr (Ext.refl x))
theorem Exc.al {fl:List Nat} {w x:World} (o:Obj) (h:Exc fl w x):Exc fl w (x.alloc o):=h.via (Ext.al o (Ext.refl x))
theorem Exc.set {fl:List Nat} {w x:World} {p:Addr} (v:Value) (h:Exc fl w x) (hp:w.heap.size≤p.block∨p.block∈fl):Exc fl w (x.setCell p v) :=
  h.trans (fl':=[p.block]) ⟨rfl,rfl,rfl,by simp [World.setCell],fun k hk hn=>Below.heap_setCell _ _ _ _ (by simpa using hn)⟩ (by intro y hy;simp at hy;subst hy;exact hp)
theorem Exc.grown {fl:List Nat} {w x y:World} {row:Option Nat} (h:Exc fl w x) (hg:x.grownBy y row) (hr:∀ k,row=some k→w.heap.size≤k∨k∈fl):Exc fl w y :=
  h.trans (fl':=row.toList) ⟨hg.os,hg.tape,hg.output,hg.size,fun k hk hn=>hg.block k hk (fun e=>hn (by rw [←e];simp))⟩ (by intro z hz;exact hr z (by simpa using hz))
structure St (B:Base) (V:aE) (L:List Box) (w:World):Prop where
  ext:Exc B.fl B.w w
  view:∀ p x,V p=some x→w.cell? p=some x∧∀ b∈L,b.g≠p.block
  old:∀ p x,V p=some x→p.block<B.w.heap.size→B.v p=some x
  v0:VLe B.v V
  own:∀ b∈L,w.heap[b.g]?=some (b.t.obj b.cs)∧(B.w.heap.size≤b.g∨b.g∈B.fl)
  nodup:(L.map Box.g).Nodup

def FnEnd (V:aE) (w:World) (R:Value→aE→Prop) (e:Ending) (w':World):Prop :=
  ∃ v,e=.returned v∧Ext w w'∧∃ V',VLe V V'∧VIn V' w'∧(∀ p x,V' p=some x→p.block<w.heap.size→V p=some x)∧R v V'
def Fn (P:Program) (f:FuncId) (args:List Value) (V:aE) (R:Value→aE→Prop):Prop :=
  ∀ w,VIn V w→Calls P f args.toArray w (FnEnd V w R)
theorem Fn.mono {P:Program} {f:FuncId} {args:List Value} {V:aE} {R R':Value→aE→Prop} (h:Fn P f args V R) (hr:∀ v V',VLe V V'→R v V'→R' v V'):Fn P f args V R' :=
  fun w hw=>(h w hw).mono fun _ _ ⟨v,he,hx,V',h1,h2,h3,h4⟩=>⟨v,he,hx,V',h1,h2,h3,hr v V' h1 h4⟩

def jM:List (Nat×Value)→Nat→Option Value
  | [],_=>none
  | (t,v) :: F,k=>bif Nat.beq t k then some v else jM F k
def Kn (N:Nat) (F:List (Nat×Value)) (a:Act):Prop:=a.defers=[]∧a.tmps.size=N∧∀ t v,jM F t=some v→a.tmps.getD t undef=v
def evF (F:List (Nat×Value)):Operand→Option Value
  | .tmp t=>jM F t
  | .const v=>some v
  | .global g=>some (.pointer (some ⟨g,0,none⟩))
  | .func f=>some (.func (.func f) #[] #[])
def qQ (F:List (Nat×Value)) (d:Option Nat) (v:Value):List (Nat×Value):=match d with|some d=>(d,v) :: F|none=>F
def okD (N:Nat):Option Nat→Bool
  | some d=>Nat.blt d N
  | none=>true
section
variable {N : Nat} {F : List (Nat × Value)} {a : Act}
theorem Kn.ev (h:Kn N F a) {x:Operand} {v:Value} (hx:evF F x=some v):a.eval x=v:=by
  cases x with
  | tmp t=>exact h.2.2 t v hx
  | const u=>simpa [evF,Act.eval] using hx
  | global g=>simpa [evF,Act.eval] using hx
  | func f=>simpa [evF,Act.eval] using hx
theorem kD (t:Nat) (v:Value) (F:List (Nat×Value)) (k:Nat):jM ((t,v) :: F) k=if t=k then some v else jM F k:=by
  simp only [jM]
  by_cases h:t=k
  · subst h;simp [show Nat.beq t t=true from by simp]
  · rw [if_neg h]
    have:Nat.beq t k=false:=by
      cases hb:Nat.beq t k
      · rfl
      · exact absurd (Nat.eq_of_beq_eq_true hb) h
    rw [this];rfl
theorem Kn.put (h:Kn N F a) {d:Option Nat} (hd:okD N d=true) (v:Value):Kn N (qQ F d v) (a.put d v):=by
  cases d with
  | none=>exact h
  | some d =>
    have hd:d<N:=by simpa [okD,Nat.blt_eq] using hd
    refine⟨h.1,by simpa [Act.put] using h.2.1,fun t u hu=>?_⟩
    have hu:jM ((d,v) :: F) t=some u:=hu
    rw [kD] at hu
    have hsz:=h.2.1
    by_cases ht:d=t
    · subst ht
      rw [if_pos rfl] at hu
      injection hu with hu
      subst hu
      simp [Act.put,hsz,hd]
    · rw [if_neg ht] at hu
      have:=h.2.2 t u hu
      simpa [Act.put,Array.getElem?_setIfInBounds_ne ht] using this
theorem Kn.tmp (h:Kn N F a) {t:Nat} {v:Value} (ht:okD N (some t)=true) (hl:jM F t=some v):a.tmps[t]?=some v:=by
  have ht:t<N:=by simpa [okD,Nat.blt_eq] using ht
  have h1:=h.2.2 t v hl
  have h2:=h.2.1
  rw [Array.getElem?_eq_getElem (by omega)]
  simpa [show t<a.tmps.size by omega] using h1
theorem Kn.less {F':List (Nat×Value)} (h:Kn N F a) (hs:∀ p∈F',jM F p.1=some p.2):Kn N F' a:=by
  refine⟨h.1,h.2.1,fun t v hv=>h.2.2 t v ?_⟩
  have:(t,v)∈F':=by
    clear h hs
    induction F' with
    | nil=>simp [jM] at hv
    | cons p F' ih =>
      obtain⟨k,u⟩:=p
      rw [kD] at hv
      by_cases hk:k=t
      · rw [if_pos hk] at hv;injection hv with hv;subst hk;subst hv;simp
      · rw [if_neg hk] at hv;exact List.mem_cons_of_mem _ (ih hv)
  exact hs _ this
end

theorem sub_nil {F:List (Nat×Value)}:∀ p∈([]:List (Nat×Value)),jM F p.1=some p.2:=by simp
theorem sub_cons {F G:List (Nat×Value)} {t:Nat} {v:Value} (h:jM F t=some v) (hs:∀ p∈G,jM F p.1=some p.2):∀ p∈((t,v) :: G),jM F p.1=some p.2:=fun p hp=>by
  rcases List.mem_cons.1 hp with rfl|hp
  · exact h
  · exact hs p hp

inductive kC where
  | seq (y:Code)
  | block (i:Nat)
  | thn (K:Act→World→Prop)
def evalQ (P:Program) (Q:Exit→Act→World→Prop):List kC→Exit→Act→World→Prop
  | []=>Q
  | .seq y :: k=>Exit.then (y.wp P (evalQ P Q k)) (evalQ P Q k)
  | .block i :: k=>Exit.inBlock i (evalQ P Q k)
  | .thn K :: k=>Exit.then K (evalQ P Q k)

def AtQ (P:Program) (B:Base) (N:Nat) (Q:Exit→Act→World→Prop) (k:List kC) (e:Exit) (F:List (Nat×Value)) (V:aE) (L:List Box):Prop:=∀ a w,Kn N F a→St B V L w→evalQ P Q k e a w
def GoC (P:Program) (B:Base) (N:Nat) (c:Code) (Q:Exit→Act→World→Prop) (k:List kC) (F:List (Nat×Value)) (V:aE) (L:List Box):Prop:=∀ a w,Kn N F a→St B V L w→c.wp P (evalQ P Q k) a w
inductive iM where
  | plain
  | quiet
  | held (V0:aE) (Lk:List Box) (fuel:Nat) (listed:Array Bool)
def iM.loud:iM→Bool
  | .quiet=>false
  | _=>true
def nextK (P:Program) (B:Base) (ops:Array Oper) (Q:Exit→Act→World→Prop) (rest:List Oper):iM→Act→World→Prop
  | .plain=>wpList P ops Q rest
  | .quiet=>fun _ _=>True
  | .held V0 Lk fuel listed=>fun a w=>St B V0 Lk w∧wpAnyH P .any ops Q (St B V0 Lk) fuel listed a w
def GoL (P:Program) (B:Base) (N:Nat) (dr:iM) (ops:Array Oper) (Q:Exit→Act→World→Prop) (k:List kC) (rest:List Oper) (F:List (Nat×Value)) (V:aE) (L:List Box):Prop :=
  if dr.loud=true then ∀ a w,Kn N F a→St B V L w→nextK P B ops (evalQ P Q k) rest dr a w
  else ∀ a,Kn N F a→wpQuiet P ops (St B V L) (fun a'=>∀ w',St B V L w'→evalQ P Q k .normal a' w') rest a
def GoW (P:Program) (B:Base) (N:Nat) (dr:iM) (ops:Array Oper) (Q:Exit→Act→World→Prop) (k:List kC) (o:Oper) (rest:List Oper) (F:List (Nat×Value)) (V:aE) (L:List Box):Prop :=
  if dr.loud=true then ∀ a w,Kn N F a→St B V L w→o.wp P a w (nextK P B ops (evalQ P Q k) rest dr) (evalQ P Q k)
  else ∀ a,Kn N F a→o.quiet P a (St B V L) (wpQuiet P ops (St B V L) (fun a'=>∀ w',St B V L w'→evalQ P Q k .normal a' w') rest)
def QP (P:Program) (B:Base) (N:Nat) (V:aE) (L:List Box) (o:Oper) (F:List (Nat×Value)) (v:Value):Prop:=∀ a w,Kn N F a→St B V L w→(execOp a.eval o).run P w=.ok (.value v) w
def QO (P:Program) (B:Base) (N:Nat) (V:aE) (L:List Box) (o:Oper) (F:List (Nat×Value)) (v:Value):Prop:=∀ a w,Kn N F a→St B V L w→o.quietAt P a (St B V L) w v

section
variable {P : Program} {B : Base} {N : Nat} {Q : Exit → Act → World → Prop} {F : List (Nat × Value)} {V : aE} {L : List Box} {k : List kC}

theorem jO {x y:Code} (h:GoC P B N x Q (.seq y :: k) F V L):GoC P B N (.seq x y) Q k F V L:=fun a w ha hs=>wp_seq (h a w ha hs)
theorem jR (h:AtQ P B N Q k .normal F V L):GoC P B N .skip Q k F V L:=fun a w ha hs=>wp_skip (h a w ha hs)
theorem lN (h:AtQ P B N Q k .ret F V L):GoC P B N .ret Q k F V L:=fun a w ha hs=>wp_ret (h a w ha hs)
theorem tS {i:Nat} (h:AtQ P B N Q k (.exit i) F V L):GoC P B N (.exit i) Q k F V L:=fun a w ha hs=>wp_exit (h a w ha hs)
theorem cS {i:Nat} {c:Code} (h:GoC P B N c Q (.block i :: k) F V L):GoC P B N (.block i c) Q k F V L:=fun a w ha hs=>wp_block (h a w ha hs)
theorem mK {c:Operand} {x y:Code} (hc:evF F c=some (.bool true)) (h:GoC P B N x Q k F V L):GoC P B N (.cond c x y) Q k F V L:=fun a w ha hs=>wp_cond_true (ha.ev hc) (h a w ha hs)
theorem mB {c:Operand} {x y:Code} (hc:evF F c=some (.bool false)) (h:GoC P B N y Q k F V L):GoC P B N (.cond c x y) Q k F V L:=fun a w ha hs=>wp_cond_false (ha.ev hc) (h a w ha hs)
theorem aA {c:Operand} {x y:Code} {p:Prop} [Decidable p] (hc:evF F c=some (.bool (decide p))) (h1:p→GoC P B N x Q k F V L) (h2:¬p→GoC P B N y Q k F V L):GoC P B N (.cond c x y) Q k F V L :=
  fun a w ha hs=>wp_cond_split (ha.ev hc) (fun h=>h1 (of_decide_eq_true h) a w ha hs) (fun h=>h2 (of_decide_eq_false h) a w ha hs)
theorem bY {c:Operand} {x y:Code} {b:Bool} (hc:evF F c=some (.bool b)) (h1:b=true→GoC P B N x Q k F V L) (h2:b=false→GoC P B N y Q k F V L):GoC P B N (.cond c x y) Q k F V L :=
  fun a w ha hs=>wp_cond_split (ha.ev hc) (fun h=>h1 h a w ha hs) (fun h=>h2 h a w ha hs)
theorem dW {id:Nat} {l:List Oper} (h:GoL P B N .plain l.toArray Q k l F V L):GoC P B N (.region id l.toArray false) Q k F V L:=fun a w ha hs=>wp_region_lit (by unfold GoL at h;exact h a w ha hs)
theorem St.drew {w:World} (h:St B V L w):St B V L { w with drawn:=w.drawn+1 }:=⟨Exc.dr h.ext,h.view,h.old,h.v0,h.own,h.nodup⟩
theorem cO {id:Nat} {l:List Oper} (hm:P.follows .mixedOrders=true) (hB:Region.lexB .any l.toArray=true) (h:GoL P B N .quiet l.toArray Q k l F V L):GoC P B N (.region id l.toArray true) Q k F V L :=
  fun a w ha hs=>wp_region_quiet (C:=St B V L) hm hB hs.drew (by
    have h':∀ a,Kn N F a→wpQuiet P l.toArray (St B V L) (fun a'=>∀ w',St B V L w'→evalQ P Q k .normal a' w') l a:=by unfold GoL at h;exact h
    have:=h' a ha
    simpa using this)

theorem jJ {y:Code} (h:GoC P B N y Q k F V L):AtQ P B N Q (.seq y :: k) .normal F V L:=h
theorem at_then_ret {y:Code} (h:AtQ P B N Q k .ret F V L):AtQ P B N Q (.seq y :: k) .ret F V L:=h
theorem at_then_exit {y:Code} {i:Nat} (h:AtQ P B N Q k (.exit i) F V L):AtQ P B N Q (.seq y :: k) (.exit i) F V L:=h
theorem at_thn_ret {K:Act→World→Prop} (h:AtQ P B N Q k .ret F V L):AtQ P B N Q (.thn K :: k) .ret F V L:=h
theorem at_thn_exit {K:Act→World→Prop} {i:Nat} (h:AtQ P B N Q k (.exit i) F V L):AtQ P B N Q (.thn K :: k) (.exit i) F V L:=h
theorem at_block_normal {i:Nat} (h:AtQ P B N Q k .normal F V L):AtQ P B N Q (.block i :: k) .normal F V L:=h
theorem at_block_ret {i:Nat} (h:AtQ P B N Q k .ret F V L):AtQ P B N Q (.block i :: k) .ret F V L:=h
theorem at_block_hit {i:Nat} (h:AtQ P B N Q k .normal F V L):AtQ P B N Q (.block i :: k) (.exit i) F V L:=fun a w ha hs=>by
  show if i=i then _ else _
  rw [if_pos rfl];exact h a w ha hs
theorem at_block_miss {i j:Nat} (hne:Nat.beq j i=false) (h:AtQ P B N Q k (.exit j) F V L):AtQ P B N Q (.block i :: k) (.exit j) F V L:=fun a w ha hs=>by
  show if j=i then _ else _
  rw [if_neg (fun e=>by subst e;simp at hne)];exact h a w ha hs

theorem St.drop {w:World} {L':List Box} (hs:St B V L w) (h:L'.Sublist L):St B V L' w :=
  ⟨hs.ext,fun p x hp=>⟨(hs.view p x hp).1,fun b hb=>(hs.view p x hp).2 b (h.subset hb)⟩,hs.old,hs.v0,fun b hb=>hs.own b (h.subset hb),List.Nodup.sublist (h.map Box.g) hs.nodup⟩
theorem bZ {c:Code} (J:List (Nat×Value)→aE→List Box→Nat→Prop) {F':List (Nat×Value)} {V':aE} {L':List Box} {m:Nat} (h0:J F' V' L' m) (hF:∀ p∈F',jM F p.1=some p.2) (hV:V'=V) (hL:L'.Sublist L)
    (round:∀ F V L m,J F V L m→GoC P B N c Q (.thn (fun a w=>∃ F' V' L' m',m'<m∧J F' V' L' m'∧Kn N F' a∧St B V' L' w) :: k) F V L):GoC P B N (.loop c) Q k F V L:=by
  subst hV
  intro a w ha hs
  have key:∀ n F V L a w,J F V L n→Kn N F a→St B V L w→(Code.loop c).wp P (evalQ P Q k) a w:=by
    intro n F V L a w hJ ha hs
    let I:Act→World→Nat→Prop:=fun a w n=>∃ F V L,J F V L n∧Kn N F a∧St B V L w
    classical
    have hex:∀ a w,(∃ n,I a w n)→∃ n,I a w n∧∀ k,k<n→¬I a w k:=fun a w ⟨n,hn⟩=>by
      induction n using Nat.strongRecOn with
      | _ n ih =>
        by_cases h:∃ k,k<n∧I a w k
        · obtain⟨k,hk,hI⟩:=h;exact ih k hk hI
        · exact⟨n,hn,fun k hk hI=>h ⟨k,hk,hI⟩⟩
    let μ:Act→World→Nat:=fun a w=>if h:∃ n,I a w n then Classical.choose (hex a w h) else 0
    refine wp_loop (fun a w=>∃ n,I a w n) μ ⟨n,F,V,L,hJ,ha,hs⟩ fun a w h=>?_
    have hμ:=Classical.choose_spec (hex a w h)
    have hμe:μ a w=Classical.choose (hex a w h):=dif_pos h
    obtain⟨⟨F,V,L,hJ,ha,hs⟩,_⟩:=hμ
    refine Code.wp_mono (fun e a' w' q=>?_) (round F V L _ hJ a w ha hs)
    cases e with
    | normal =>
      obtain⟨F',V',L',m',hlt,hJ',ha',hs'⟩:=q
      have h':∃ n,I a' w' n:=⟨m',F',V',L',hJ',ha',hs'⟩
      refine⟨h',?_⟩
      have hμe':μ a' w'=Classical.choose (hex a' w' h'):=dif_pos h'
      have hmin:=(Classical.choose_spec (hex a' w' h')).2 m'
      rw [hμe,hμe']
      rcases Nat.lt_or_ge m' (Classical.choose (hex a' w' h')) with hl|hl
      · exact absurd ⟨F',V',L',hJ',ha',hs'⟩ (hmin hl)
      · omega
    | exit i=>exact q
    | goto l=>exact q
    | ret=>exact q
    | panic ch=>exact q
    | outgrown=>exact q
  exact key m F' V' L' a w h0 (ha.less hF) (hs.drop hL)
theorem aY {J:List (Nat×Value)→aE→List Box→Nat→Prop} {m:Nat} (F':List (Nat×Value)) {L':List Box} (m':Nat) (hJ:J F' V L' m') (hm:m'<m) (hF:∀ p∈F',jM F p.1=some p.2) (hL:L'.Sublist L) :
    AtQ P B N Q (.thn (fun a w=>∃ F' V' L' m',m'<m∧J F' V' L' m'∧Kn N F' a∧St B V' L' w) :: k) .normal F V L:=fun a w ha hs=>⟨F',V,L',m',hm,hJ,ha.less hF,hs.drop hL⟩
theorem dO {J:List (Nat×Value)→aE→List Box→Prop} (F':List (Nat×Value)) {L':List Box} (hJ:J F' V L') (hF:∀ p∈F',jM F p.1=some p.2) (hL:L'.Sublist L) :
    AtQ P B N Q (.thn (fun a w=>∃ F V L,J F V L∧Kn N F a∧St B V L w) :: k) .normal F V L:=fun a w ha hs=>⟨F',V,L',hJ,ha.less hF,hs.drop hL⟩

variable {ops : Array Oper} {rest : List Oper} {o : Oper}
theorem qA {rest:List Oper}:GoL P B N .plain ops Q k rest F V L↔∀ a w,Kn N F a→St B V L w→wpList P ops (evalQ P Q k) rest a w:=by unfold GoL;exact Iff.rfl
theorem sV {rest:List Oper}:GoL P B N .quiet ops Q k rest F V L↔∀ a,Kn N F a→wpQuiet P ops (St B V L) (fun a'=>∀ w',St B V L w'→evalQ P Q k .normal a' w') rest a:=by unfold GoL;exact Iff.rfl
theorem gw_plain {rest:List Oper}:GoW P B N .plain ops Q k o rest F V L↔∀ a w,Kn N F a→St B V L w→o.wp P a w (wpList P ops (evalQ P Q k) rest) (evalQ P Q k):=by unfold GoW;exact Iff.rfl
theorem gw_quiet {rest:List Oper}:GoW P B N .quiet ops Q k o rest F V L↔∀ a,Kn N F a→o.quiet P a (St B V L) (wpQuiet P ops (St B V L) (fun a'=>∀ w',St B V L w'→evalQ P Q k .normal a' w') rest):=by unfold GoW;exact Iff.rfl
theorem iI {dr:iM} (hdr:dr.loud=true) (h:∀ a w,Kn N F a→St B V L w→o.wp P a w (nextK P B ops (evalQ P Q k) rest dr) (evalQ P Q k)):GoW P B N dr ops Q k o rest F V L:=by unfold GoW;rw [if_pos hdr];exact h
theorem fQ {dr:iM} (hdr:dr.loud=true) (h:GoL P B N dr ops Q k rest F V L):∀ a w,Kn N F a→St B V L w→nextK P B ops (evalQ P Q k) rest dr a w:=by unfold GoL at h;rw [if_pos hdr] at h;exact h
theorem gl_mk {dr:iM} (hdr:dr.loud=true) (h:∀ a w,Kn N F a→St B V L w→nextK P B ops (evalQ P Q k) rest dr a w):GoL P B N dr ops Q k rest F V L:=by unfold GoL;rw [if_pos hdr];exact h
theorem gw_un {dr:iM} (hdr:dr.loud=true) (h:GoW P B N dr ops Q k o rest F V L):∀ a w,Kn N F a→St B V L w→o.wp P a w (nextK P B ops (evalQ P Q k) rest dr) (evalQ P Q k):=by unfold GoW at h;rw [if_pos hdr] at h;exact h
def iM.text:iM→Bool
  | .held ..=>false
  | _=>true
theorem cJ {dr:iM} (ht:dr.text=true) (h:AtQ P B N Q k .normal F V L):GoL P B N dr ops Q k [] F V L:=by
  cases dr with
  | plain=>exact qA.2 fun a w ha hs=>wpList_nil (h a w ha hs)
  | quiet=>exact sV.2 fun a ha=>wpQuiet_nil fun w' hw'=>h a w' ha hw'
  | held=>cases ht
theorem tU {a:Act} {j t:Nat} {b:Bool} (ha:Kn N F a) (hj:(ops[j]?).bind (·.dst)=some t) (ht:okD N (some t)=true) (hb:jM F t=some (.bool b)):yielded ops a.tmps j=some b:=by
  unfold yielded
  rw [hj,Option.bind_some,ha.tmp ht hb]
theorem gl_wanted {dr:iM} (ht:dr.text=true) (hw:∀ a,Kn N F a→Region.wanted o (yielded ops a.tmps)=true) (h:GoW P B N dr ops Q k o rest F V L):GoL P B N dr ops Q k (o :: rest) F V L:=by
  cases dr with
  | plain =>
    refine qA.2 fun a w ha hs=>?_
    unfold wpList
    rw [if_pos (hw a ha)]
    exact .inl (gw_plain.1 h a w ha hs)
  | quiet =>
    refine sV.2 fun a ha=>?_
    unfold wpQuiet
    rw [if_pos (hw a ha)]
    exact gw_quiet.1 h a ha
  | held=>cases ht
theorem qO {dr:iM} (ht:dr.text=true) (hg:o.guard=none) (h:GoW P B N dr ops Q k o rest F V L):GoL P B N dr ops Q k (o :: rest) F V L:=gl_wanted ht (fun a ha=>by simp [Region.wanted,hg]) h
theorem lW {dr:iM} (ht':dr.text=true) {j t:Nat} {want:Bool} (hg:o.guard=some (j,want)) (hj:(ops[j]?).bind (·.dst)=some t) (ht:okD N (some t)=true) (hb:jM F t=some (.bool want)) (h:GoW P B N dr ops Q k o rest F V L):GoL P B N dr ops Q k (o :: rest) F V L :=
  gl_wanted ht' (fun a ha=>by simp [Region.wanted,hg,tU ha hj ht hb]) h
theorem qF {dr:iM} (ht':dr.text=true) {j t:Nat} {want b:Bool} (hg:o.guard=some (j,want)) (hj:(ops[j]?).bind (·.dst)=some t) (ht:okD N (some t)=true) (hb:jM F t=some (.bool b)) (hne:(b == want)=false) (hd:okD N o.dst=true) (h:GoL P B N dr ops Q k rest (qQ F o.dst undef) V L):GoL P B N dr ops Q k (o :: rest) F V L:=by
  have hw:∀ a,Kn N F a→¬Region.wanted o (yielded ops a.tmps)=true:=fun a ha=>by simp [Region.wanted,hg,tU ha hj ht hb];simpa using hne
  cases dr with
  | plain =>
    refine qA.2 fun a w ha hs=>?_
    unfold wpList
    rw [if_neg (hw a ha)]
    exact qA.1 h _ _ (ha.put hd _) hs
  | quiet =>
    refine sV.2 fun a ha=>?_
    unfold wpQuiet
    rw [if_neg (hw a ha)]
    exact sV.1 h _ (ha.put hd _)
  | held=>cases ht'
theorem lS {dr:iM} (ht':dr.text=true) {j t:Nat} {want:Bool} (hg:o.guard=some (j,want)) (hj:(ops[j]?).bind (·.dst)=some t) (ht:okD N (some t)=true) (hb:jM F t=some undef) (hd:okD N o.dst=true) (h:GoL P B N dr ops Q k rest (qQ F o.dst undef) V L):GoL P B N dr ops Q k (o :: rest) F V L:=by
  have hw:∀ a,Kn N F a→¬Region.wanted o (yielded ops a.tmps)=true:=fun a ha=>by
    have hy:yielded ops a.tmps j=none:=by
      unfold yielded
      rw [hj,Option.bind_some,ha.tmp ht hb]
      rfl
    simp [Region.wanted,hg,hy]
  cases dr with
  | plain =>
    refine qA.2 fun a w ha hs=>?_
    unfold wpList
    rw [if_neg (hw a ha)]
    exact qA.1 h _ _ (ha.put hd _) hs
  | quiet =>
    refine sV.2 fun a ha=>?_
    unfold wpQuiet
    rw [if_neg (hw a ha)]
    exact sV.1 h _ (ha.put hd _)
  | held=>cases ht'
theorem Kn.again {a:Act} {t:Nat} {v:Value} (ha:Kn N F a) (hl:jM F t=some v):Kn N ((t,v) :: F) a :=
  ⟨ha.1,ha.2.1,fun k u hk=>by
    rw [kD] at hk
    by_cases h:t=k
    · rw [if_pos h] at hk;injection hk with hk;subst h;subst hk;exact ha.2.2 _ _ hl
    · rw [if_neg h] at hk;exact ha.2.2 _ _ hk⟩
theorem gl_again {dr:iM} {l:List Oper} {t:Nat} {v:Value} (hl:jM F t=some v) (h:GoL P B N dr ops Q k l ((t,v) :: F) V L):GoL P B N dr ops Q k l F V L:=by
  unfold GoL at *
  by_cases hd:dr.loud=true
  · rw [if_pos hd] at *
    exact fun a w ha hs=>h a w (ha.again hl) hs
  · rw [if_neg hd] at *
    exact fun a ha=>h a (ha.again hl)
theorem aJ {dr:iM} {j t:Nat} {want:Bool} {p:Prop} [Decidable p] (hg:o.guard=some (j,want)) (hj:(ops[j]?).bind (·.dst)=some t) (hb:jM F t=some (.bool (decide p)))
    (h1:p→GoL P B N dr ops Q k (o :: rest) ((t,.bool true) :: F) V L) (h2:¬p→GoL P B N dr ops Q k (o :: rest) ((t,.bool false) :: F) V L):GoL P B N dr ops Q k (o :: rest) F V L:=by
  by_cases h:p
  · exact gl_again (by rw [hb,decide_eq_true h]) (h1 h)
  · exact gl_again (by rw [hb,decide_eq_false h]) (h2 h)
theorem cN {dr:iM} {j t:Nat} {want b:Bool} (hg:o.guard=some (j,want)) (hj:(ops[j]?).bind (·.dst)=some t) (hb:jM F t=some (.bool b))
    (h1:b=true→GoL P B N dr ops Q k (o :: rest) ((t,.bool true) :: F) V L) (h2:b=false→GoL P B N dr ops Q k (o :: rest) ((t,.bool false) :: F) V L):GoL P B N dr ops Q k (o :: rest) F V L:=by
  cases h:b
  · exact gl_again (by rw [hb,h]) (h2 h)
  · exact gl_again (by rw [hb,h]) (h1 h)
theorem aO {dr:iM} {v:Value} {t:Nat} {op:Op} {ty:TypeId} {pos:String} {af:Array Edge} {gd:Option (Nat×Bool)} (hd:okD N (some t)=true) (hq:QO P B N V L ⟨some t,op,ty,pos,af,gd⟩ F v) (h:GoL P B N dr ops Q k rest ((t,v) :: F) V L):GoW P B N dr ops Q k ⟨some t,op,ty,pos,af,gd⟩ rest F V L:=by
  unfold GoL at h
  unfold GoW
  by_cases hl:dr.loud=true
  · rw [if_pos hl] at *
    exact fun a w ha hs=>Oper.wp_of_quiet (C:=St B V L) (K:=fun a'=>Kn N (qQ F (some t) v) a') hs (fun a' w' hw' ha'=>h a' w' ha' hw') ⟨v,fun w' hw'=>hq a w' ha hw',ha.put hd v⟩
  · rw [if_neg hl] at *
    exact fun a ha=>⟨v,fun w hw=>hq a w ha hw,h _ (ha.put hd v)⟩
theorem QP.qo {o:Oper} {v:Value} (h:QP P B N V L o F v):QO P B N V L o F v:=fun a w ha hs=>by
  unfold Oper.quietAt
  rw [h a w ha hs]
  exact⟨rfl,rfl⟩
theorem gw_q {dr:iM} {v:Value} {t:Nat} {op:Op} {ty:TypeId} {pos:String} {af:Array Edge} {gd:Option (Nat×Bool)} (hd:okD N (some t)=true) (hq:QP P B N V L ⟨some t,op,ty,pos,af,gd⟩ F v) (h:GoL P B N dr ops Q k rest ((t,v) :: F) V L):GoW P B N dr ops Q k ⟨some t,op,ty,pos,af,gd⟩ rest F V L:=aO hd hq.qo h

def pH (Q:Exit→Act→World→Prop):Prop:=∀ c (a:Act) d v w,Q (.panic c) (a.put d v) w→Q (.panic c) a w
theorem put_defers (a:Act) (d:Option Tmp) (v:Value):(a.put d v).defers=a.defers:=by cases d<;>rfl
theorem cR {fn:Func} {R:Ending→World→Prop}:pH (bodyPost P fn R):=fun c a d v w h=>⟨by have:=h.1;rwa [put_defers] at this,h.2⟩
theorem pH.evalQ (h:pH Q):∀ k,pH (evalQ P Q k)
  | []=>h
  | .seq y :: k=>fun c a d v w hq=>h.evalQ k c a d v w hq
  | .block i :: k=>fun c a d v w hq=>h.evalQ k c a d v w hq
  | .thn K :: k=>fun c a d v w hq=>h.evalQ k c a d v w hq
theorem St.drewn {w:World} (h:St B V L w):St B V L { w with drawn:=w.drawn+1 }:=⟨Exc.dr h.ext,h.view,h.old,h.v0,h.own,h.nodup⟩
theorem St.sub {w:World} {L':List Box} (hs:St B V L w) (h:L'.Sublist L):St B V L' w :=
  ⟨hs.ext,fun p x hp=>⟨(hs.view p x hp).1,fun b hb=>(hs.view p x hp).2 b (h.subset hb)⟩,hs.old,hs.v0,fun b hb=>hs.own b (h.subset hb),List.Nodup.sublist (h.map Box.g) hs.nodup⟩
theorem St.view_le {w:World} {V':aE} (hs:St B V L w) (h:VLe V' V) (h0:VLe B.v V'):St B V' L w:=⟨hs.ext,fun p x hp=>hs.view p x (h p x hp),fun p x hp=>hs.old p x (h p x hp),h0,hs.own,hs.nodup⟩
theorem bT {id:Nat} {l:List Oper} (Lk:List Box) (hm:P.follows .mixedOrders=true) (hk:Lk.Sublist L) (h:GoL P B N (.held V Lk l.toArray.size (Array.replicate l.toArray.size false)) l.toArray Q k [] F V L):GoC P B N (.region id l.toArray true) Q k F V L:=fun a w ha hs =>
  wp_region_held (S:=St B V Lk) hm (fQ rfl h a _ ha hs.drewn).2
theorem gh_take {V0:aE} {Lk:List Box} {fuel:Nat} {listed:Array Bool} (i:Nat) {oi:Oper} {t:Nat} {v:Value} (hi:ops[i]?=some oi) (hP:pH Q) (hsel:Region.noSelect ops=true) (hf:Region.free .any ops listed i=true) (hr:(Region.ready .any ops listed).contains i=true)
    (hg:oi.guard=none) (hdt:oi.dst=some t) (hd:okD N (some t)=true) (hV:VLe V0 V) (hk:Lk.Sublist L) (hq:QP P B N V0 Lk oi F v) (h:GoL P B N (.held V0 Lk fuel (listed.setIfInBounds i true)) ops Q k rest ((t,v) :: F) V L):GoL P B N (.held V0 Lk (fuel+1) listed) ops Q k rest F V L:=by
  have h':=fQ rfl h
  refine gl_mk rfl fun a w ha hs=>?_
  by_cases h0:VLe B.v V0
  · have hS:St B V0 Lk w:=(hs.sub hk).view_le hV h0
    refine⟨hS,wpAnyH_take (v:=v) hi hsel hf hr (fun c a w hq=>hP.evalQ k c a _ _ w hq) (.inl ⟨by simp [Region.wanted,hg],fun w' hw'=>hq a w' ha hw'⟩) hS ?_⟩
    rw [hdt]
    exact(h' _ w (ha.put hd v) hs).2
  · exact absurd (h' _ w (ha.put hd v) hs).1.v0 h0
theorem gh_one {V0:aE} {Lk:List Box} {fuel:Nat} {listed:Array Bool} {i:Nat} {oi:Oper} (hr:Region.ready .any ops listed=[i]) (hi:ops[i]?=some oi) (hg:oi.guard=none) (h0:VLe B.v V0) (hV:VLe V0 V) (hk:Lk.Sublist L) (h:GoW P B N (.held V0 Lk fuel (listed.setIfInBounds i true)) ops Q k oi rest F V L):GoL P B N (.held V0 Lk (fuel+1) listed) ops Q k rest F V L:=by
  have h:=gw_un rfl h
  refine gl_mk rfl fun a w ha hs=>?_
  refine⟨(hs.sub hk).view_le hV h0,wpAnyH_all hr (by simp) fun j hj=>?_⟩
  simp at hj
  subst hj
  unfold wpOp
  simp only [hi]
  rw [if_pos (by simp [Region.wanted,hg])]
  exact .inl (h a w ha hs)
theorem iC {V0:aE} {Lk:List Box} {fuel:Nat} {listed:Array Bool} {i j:Nat} {oi oj:Oper} (hr:Region.ready .any ops listed=[i,j]) (hi:ops[i]?=some oi) (hj:ops[j]?=some oj) (hg:oi.guard=none) (hg':oj.guard=none) (h0:VLe B.v V0) (hV:VLe V0 V) (hk:Lk.Sublist L)
    (h:GoW P B N (.held V0 Lk fuel (listed.setIfInBounds i true)) ops Q k oi rest F V L) (h':GoW P B N (.held V0 Lk fuel (listed.setIfInBounds j true)) ops Q k oj rest F V L):GoL P B N (.held V0 Lk (fuel+1) listed) ops Q k rest F V L:=by
  have h:=gw_un rfl h
  have h':=gw_un rfl h'
  refine gl_mk rfl fun a w ha hs=>?_
  refine⟨(hs.sub hk).view_le hV h0,wpAnyH_all hr (by simp) fun m hm=>?_⟩
  simp at hm
  rcases hm with rfl|rfl
  · unfold wpOp
    simp only [hi]
    rw [if_pos (by simp [Region.wanted,hg])]
    exact .inl (h a w ha hs)
  · unfold wpOp
    simp only [hj]
    rw [if_pos (by simp [Region.wanted,hg'])]
    exact .inl (h' a w ha hs)
theorem bC {V0:aE} {Lk:List Box} {fuel:Nat} {listed:Array Bool} (hr:Region.ready .any ops listed=[]) (h0:VLe B.v V0) (hV:VLe V0 V) (hk:Lk.Sublist L) (h:AtQ P B N Q k .normal F V L):GoL P B N (.held V0 Lk fuel listed) ops Q k rest F V L:=by
  exact gl_mk rfl fun a w ha hs=>⟨(hs.sub hk).view_le hV h0,wpAnyH_done hr (h a w ha hs) _⟩

def argsF:List Value→Nat→List (Nat×Value)
  | [],_=>[]
  | v :: l,i=>(i,v) :: argsF l (i+1)
theorem pK:∀ (l:List Value) (i t:Nat) (v:Value),jM (argsF l i) t=some v→i≤t∧l[t - i]?=some v
  | [],_,_,_,h=>by simp [argsF,jM] at h
  | u :: l,i,t,v,h=>by
    rw [argsF,kD] at h
    by_cases hi:i=t
    · subst hi;rw [if_pos rfl] at h;injection h with h;subst h;simp
    · rw [if_neg hi] at h
      obtain⟨h1,h2⟩:=pK l (i+1) t v h
      refine⟨by omega,?_⟩
      rw [show t - i=(t - (i+1))+1 by omega]
      simpa using h2
theorem aN {f:FuncId} {fn:Func} {c:Code} {args:List Value} {R:Value→aE→Prop} (hf:P.funcs[f]?=some fn) (hb:fn.body=some c) (hN:fn.ntmps=N) (hsz:Nat.ble args.length N=true)
    (h:∀ w,GoC P ⟨V,w,[]⟩ N c (bodyPost P fn (FnEnd V w R)) [] (argsF args 0) V []):Fn P f args V R:=fun w hV=>by
  refine calls_of_wp hf hb (h w _ w ⟨rfl,?_,fun t v hv=>?_⟩ ⟨Exc.refl _ w,fun p x hp=>⟨hV p x hp,by simp⟩,fun p x hp _=>hp,VLe.refl V,by simp,by simp⟩)
  · have:=Nat.le_of_ble_eq_true hsz
    simp [hN];omega
  · obtain⟨_,h2⟩:=pK args 0 t v hv
    have hlt:t<args.length:=by
      rcases Nat.lt_or_ge t args.length with hl|hl
      · exact hl
      · rw [List.getElem?_eq_none (by omega)] at h2;cases h2
    rw [List.getElem?_eq_getElem (by omega)] at h2
    simp only [Nat.sub_zero] at h2
    injection h2 with h2
    simp [Array.getElem?_append,hlt,h2]
def RV (P:Program) (B:Base) (N:Nat) (F:List (Nat×Value)) (V:aE) (L:List Box) (r:ResultVar) (v:Value):Prop :=
  ∀ a w,Kn N F a→St B V L w→(match r with|.tmp t=>(pure (a.tmps.getD t undef):Sem Value)|.cell x t=>do loadVar t (←asAddr (a.tmps.getD x undef))).run P w=.ok v w
theorem aB {t:Nat} {v:Value} (h:jM F t=some v):RV P B N F V L (.tmp t) v:=fun a w ha _=>by
  simp only []
  rw [ha.2.2 t v h];rfl
variable {fn : Func} {R : Value → aE → Prop} {w0 : World} {V0 : aE}
theorem fnEnd_of {w:World} (hs:St ⟨V0,w0,[]⟩ V L w) {v:Value} (hR:R v V):FnEnd V0 w0 R (.returned v) w :=
  ⟨v,rfl,hs.ext.ext,V,hs.v0,fun p x hp=>(hs.view p x hp).1,fun p x hp hb=>hs.old p x hp hb,hR⟩
theorem aR {r:ResultVar} {v:Value} (hr:fn.results=#[r]) (h1:RV P ⟨V0,w0,[]⟩ N F V L r v) (hR:R v V):AtQ P ⟨V0,w0,[]⟩ N (bodyPost P fn (FnEnd V0 w0 R)) [] .ret F V L:=fun a w ha hs=>by
  refine⟨ha.1,v,?_,fnEnd_of hs hR⟩
  have h1:=h1 a w ha hs
  unfold results
  rw [hr]
  cases r<;>simp_all
theorem run_res2 (g:ResultVar→Sem Value) {r s:ResultVar} {v u:Value} {w:World} (h1:(g r).run P w=.ok v w) (h2:(g s).run P w=.ok u w) :
    (do let vs ←(#[r,s]:Array ResultVar).mapM g;pure (if h:vs.size=1 then vs[0] else .tuple vs):Sem Value).run P w=.ok (.tuple #[v,u]) w:=by
  simp [h1,h2]
theorem run_res3 (g:ResultVar→Sem Value) {r s q:ResultVar} {v u x:Value} {w:World} (h1:(g r).run P w=.ok v w) (h2:(g s).run P w=.ok u w) (h3:(g q).run P w=.ok x w) :
    (do let vs ←(#[r,s,q]:Array ResultVar).mapM g;pure (if h:vs.size=1 then vs[0] else .tuple vs):Sem Value).run P w=.ok (.tuple #[v,u,x]) w:=by
  simp [h1,h2,h3]
theorem bL {r s:ResultVar} {v u:Value} (hr:fn.results=#[r,s]) (h1:RV P ⟨V0,w0,[]⟩ N F V L r v) (h2:RV P ⟨V0,w0,[]⟩ N F V L s u) (hR:R (.tuple #[v,u]) V):AtQ P ⟨V0,w0,[]⟩ N (bodyPost P fn (FnEnd V0 w0 R)) [] .ret F V L:=fun a w ha hs=>by
  refine⟨ha.1,_,?_,fnEnd_of hs hR⟩
  unfold results
  rw [hr]
  exact run_res2 _ (h1 a w ha hs) (h2 a w ha hs)
theorem jW {r s q:ResultVar} {v u x:Value} (hr:fn.results=#[r,s,q]) (h1:RV P ⟨V0,w0,[]⟩ N F V L r v) (h2:RV P ⟨V0,w0,[]⟩ N F V L s u) (h3:RV P ⟨V0,w0,[]⟩ N F V L q x) (hR:R (.tuple #[v,u,x]) V):AtQ P ⟨V0,w0,[]⟩ N (bodyPost P fn (FnEnd V0 w0 R)) [] .ret F V L:=fun a w ha hs=>by
  refine⟨ha.1,_,?_,fnEnd_of hs hR⟩
  unfold results
  rw [hr]
  exact run_res3 _ (h1 a w ha hs) (h2 a w ha hs) (h3 a w ha hs)
end
end
section

def okCh (c:UInt8):Bool:=(decide (97≤c.toNat) && decide (c.toNat≤122)) || (decide (48≤c.toNat) && decide (c.toNat≤57)) || c == 46 || c == 95 || c == 45
def fS (l:List UInt8):Bool:=decide (1≤l.length) && decide (l.length≤12) && !(l == [46]) && !(l == [46,46]) && l.all okCh

theorem tZ:∀ (x y:List UInt8),Op.bytesLess x y=decide (x<y)
  | [],[]=>by simp [Op.bytesLess]
  | _ :: _,[]=>by simp [Op.bytesLess]
  | [],_ :: _=>by simp [Op.bytesLess]
  | a :: x,b :: y=>by
    rw [Op.bytesLess,tZ x y]
    simp only [List.cons_lt_cons_iff]
    by_cases h1:a<b<;>by_cases h2:a=b<;>by_cases h3:x<y<;>simp [h1,h2,h3]
theorem str_ext {a b:ByteArray} (h:a.toList=b.toList):a=b:=by
  have h1:a.data.toList=b.data.toList:=by rw [←Lib.toList_data,←Lib.toList_data];exact h
  cases a;cases b;congr 1
  exact Array.toList_inj.1 h1
theorem str_beq (a b:ByteArray):(a.toList == b.toList)=decide (a=b):=by
  rw [Bool.eq_iff_iff];simp
  exact⟨str_ext,fun h=>by rw [h]⟩
theorem ba_take' (s:ByteArray) (h':Nat) (h:h'≤s.size):(s.extract 0 h').toList=s.toList.take h':=by
  rw [Lib.toList_data,Lib.toList_data]
  apply List.ext_getElem?
  intro i
  rw [List.getElem?_take,Array.getElem?_toList,Array.getElem?_toList]
  have e:(s.extract 0 h').data=s.data.extract 0 h':=by simp [ByteArray.extract,ByteArray.copySlice];try rfl
  rw [e,Array.getElem?_extract]
  have hs:s.data.size=s.size:=rfl
  by_cases hi:i<h'
  · rw [if_pos (by omega),if_pos hi,Nat.zero_add]
  · rw [if_neg (by omega),if_neg hi]
end
section

theorem beq_dec {α:Type} [BEq α] [LawfulBEq α] [DecidableEq α] (a b:α):(a == b)=decide (a=b):=by
  rw [Bool.eq_iff_iff];simp

class kX (P:Program) (T:TypeId):Prop where
  h:∀ w,(isAgg T).run P w=.ok false w
class sS (P:Program) (T:TypeId) (n:outParam Nat):Prop where
  h:∀ w,(isAgg T).run P w=.ok true w
  s:∀ w,(sizeOf T).run P w=.ok n w
class dI (P:Program) (T:TypeId) (n:outParam Nat):Prop where
  h:∀ w,(sizeOf T).run P w=.ok n w
class bR (P:Program) (T:TypeId) (dsc:outParam TypeDesc):Prop where
  u:P.underlying T=some dsc
theorem bR.h {P:Program} {T:TypeId} {dsc:TypeDesc} (hu:bR P T dsc) (w:World):(underlying T).run P w=.ok dsc w:=run_underlying hu.u w
class iY (P:Program) (T:TypeId) (zs:outParam (List Value)):Prop where
  h:∃ z,(∀ w,(zeroValue T).run P w=.ok z w)∧z.cells=zs.toArray
structure lB (P:Program) (f:FuncId):Prop where
  h:∀ args w,(callFunc f args).run P w=.ok (.enter f args) w
class bP (P:Program) (S i:Nat) (off:outParam Nat):Prop where
  h:∀ a w,(Instr.fieldAt S (.pointer (some a)) i).run P w=.ok (.pointer (some (a.add off))) w

section
variable {P : Program} {B : Base} {N : Nat} {F : List (Nat × Value)} {V : aE} {L : List Box} {d : Option Tmp} {ty : TypeId} {pos : String} {af : Array Edge} {gd : Option (Nat × Bool)}

theorem iD {o:Oper} {v:Value} (h:∀ a w,Kn N F a→St B V L w→(execOp a.eval o).run P w=.ok (.value v) w):QP P B N V L o F v:=h

theorem lY {x:Operand} {v:Value} (hx:evF F x=some v):QP P B N V L ⟨d,.move x,ty,pos,af,gd⟩ F v:=iD fun a w ha _=>by simp [execOp,ha.ev hx]
theorem q_assign {x:Operand} {v:Value} (hx:evF F x=some v):QP P B N V L ⟨d,.assign x,ty,pos,af,gd⟩ F v:=iD fun a w ha _=>by simp [execOp,ha.ev hx]
theorem q_pick_t {c x y:Operand} {v:Value} (hc:evF F c=some (.bool true)) (hx:evF F x=some v):QP P B N V L ⟨d,.pick c x y,ty,pos,af,gd⟩ F v:=iD fun a w ha _=>by
  simp [execOp,ha.ev hc,ha.ev hx,asBool]
theorem q_pick_f {c x y:Operand} {v:Value} (hc:evF F c=some (.bool false)) (hx:evF F y=some v):QP P B N V L ⟨d,.pick c x y,ty,pos,af,gd⟩ F v:=iD fun a w ha _=>by
  simp [execOp,ha.ev hc,ha.ev hx,asBool]
theorem wI {x:Operand} {t:TypeId} (hx:evF F x=some (.bool true)):QP P B N V L ⟨d,.unOp .not t x,ty,pos,af,gd⟩ F (.bool false):=iD fun a w ha _=>by simp [execOp,ha.ev hx,Op.unary]
theorem q_not_f {x:Operand} {t:TypeId} (hx:evF F x=some (.bool false)):QP P B N V L ⟨d,.unOp .not t x,ty,pos,af,gd⟩ F (.bool true):=iD fun a w ha _=>by simp [execOp,ha.ev hx,Op.unary]
theorem q_not_p {x:Operand} {t:TypeId} {p:Prop} [Decidable p] (hx:evF F x=some (.bool (decide p))):QP P B N V L ⟨d,.unOp .not t x,ty,pos,af,gd⟩ F (.bool (decide (¬p))):=iD fun a w ha _=>by simp [execOp,ha.ev hx,Op.unary]
theorem q_not_b {x:Operand} {t:TypeId} {b:Bool} (hx:evF F x=some (.bool b)):QP P B N V L ⟨d,.unOp .not t x,ty,pos,af,gd⟩ F (.bool (!b)):=iD fun a w ha _=>by simp [execOp,ha.ev hx,Op.unary]
theorem q_extract {x:Operand} {i:Nat} {vs:Array Value} {v:Value} (hx:evF F x=some (.tuple vs)) (hv:vs[i]?=some v):QP P B N V L ⟨d,.extract x i,ty,pos,af,gd⟩ F v:=iD fun a w ha _=>by
  simp [execOp,ha.ev hx,Instr.extract,hv]
theorem q_mkiface {x:Operand} {t:TypeId} {v:Value} {dsc:TypeDesc} (hu:bR P t dsc) (hn:(match dsc with|.interface _=>true|_=>false)=false) (hx:evF F x=some v):QP P B N V L ⟨d,.makeInterface t x,ty,pos,af,gd⟩ F (.iface t v):=iD fun a w ha _=>by
  have hu:=hu.h w
  cases dsc<;>simp_all [execOp,ha.ev hx,Instr.makeInterface]
theorem jQ {x:Operand} {p:Addr} (hx:evF F x=some (.pointer (some p))):QP P B N V L ⟨d,.nilCheck x,ty,pos,af,gd⟩ F (.pointer (some p)):=iD fun a w ha _=>by simp [execOp,ha.ev hx]
theorem jT {x:Operand} {f:FuncId} {c1 c2:Array Value} (hx:evF F x=some (.func (.func f) c1 c2)):QP P B N V L ⟨d,.nilCheck x,ty,pos,af,gd⟩ F (.func (.func f) c1 c2):=iD fun a w ha _=>by simp [execOp,ha.ev hx]

section ints
variable {x y : Operand} {t ty2 : TypeId} {a b : Int}
theorem jP {op:BinOp} {k:IntKind} {v:Value} {o:Oper} (ho:o.op=.binOp op t x y ty2) (hx:evF F x=some (.int k a)) (hy:evF F y=some (.int k b)) (h:∀ w,(binOp op t (.int k a) (.int k b)).run P w=.ok v w):QP P B N V L o F v:=iD fun ac w ha _=>by
  have e:(eqGuard op t x y (.int k a) (.int k b))=pure ():=by unfold eqGuard;cases op<;>rfl
  simp [execOp,ho,ha.ev hx,ha.ev hy,e,h w]
theorem q_add (hx:evF F x=some (.int .i64 a)) (hy:evF F y=some (.int .i64 b)) (h:-9223372036854775808≤a+b∧a+b≤9223372036854775807):QP P B N V L ⟨d,.binOp .add t x y ty2,ty,pos,af,gd⟩ F (.int .i64 (a+b)) :=
  jP rfl hx hy fun w=>by simp [binOp,Op.intArith,IntWalk.i64_in _ h]
theorem q_sub (hx:evF F x=some (.int .i64 a)) (hy:evF F y=some (.int .i64 b)) (h:-9223372036854775808≤a - b∧a - b≤9223372036854775807):QP P B N V L ⟨d,.binOp .sub t x y ty2,ty,pos,af,gd⟩ F (.int .i64 (a - b)) :=
  jP rfl hx hy fun w=>by simp [binOp,Op.intArith,IntWalk.i64_in _ h]
theorem q_mul (hx:evF F x=some (.int .i64 a)) (hy:evF F y=some (.int .i64 b)) (h:-9223372036854775808≤a * b∧a * b≤9223372036854775807):QP P B N V L ⟨d,.binOp .mul t x y ty2,ty,pos,af,gd⟩ F (.int .i64 (a * b)) :=
  jP rfl hx hy fun w=>by simp [binOp,Op.intArith,IntWalk.i64_in _ h]
theorem q_addw {k:IntKind} (hx:evF F x=some (.int k a)) (hy:evF F y=some (.int k b)):QP P B N V L ⟨d,.binOp .add t x y ty2,ty,pos,af,gd⟩ F (.int k (k.wrap (a+b))) :=
  jP rfl hx hy fun w=>by simp [binOp,Op.intArith]
theorem q_subw {k:IntKind} (hx:evF F x=some (.int k a)) (hy:evF F y=some (.int k b)):QP P B N V L ⟨d,.binOp .sub t x y ty2,ty,pos,af,gd⟩ F (.int k (k.wrap (a - b))) :=
  jP rfl hx hy fun w=>by simp [binOp,Op.intArith]
theorem q_quo (hx:evF F x=some (.int .i64 a)) (hy:evF F y=some (.int .i64 b)) (h:0≤a∧a≤9223372036854775807∧0<b):QP P B N V L ⟨d,.binOp .quo t x y ty2,ty,pos,af,gd⟩ F (.int .i64 (a / b)) :=
  jP rfl hx hy fun w=>by
    have e1:a.tdiv b=a / b:=Int.tdiv_eq_ediv_of_nonneg h.1
    have e2:0≤a / b:=Int.ediv_nonneg h.1 (by omega)
    have e3:a / b≤a:=Int.ediv_le_self b h.1
    have e4:b≠0:=by omega
    simp [binOp,Op.intDiv,e4,e1,IntWalk.i64_in (a / b) ⟨by omega,by omega⟩]
theorem q_lss {k:IntKind} (hx:evF F x=some (.int k a)) (hy:evF F y=some (.int k b)):QP P B N V L ⟨d,.binOp .lss t x y ty2,ty,pos,af,gd⟩ F (.bool (decide (a<b))):=jP rfl hx hy fun w=>by simp [binOp,Op.intCmp]
theorem q_leq {k:IntKind} (hx:evF F x=some (.int k a)) (hy:evF F y=some (.int k b)):QP P B N V L ⟨d,.binOp .leq t x y ty2,ty,pos,af,gd⟩ F (.bool (decide (a≤b))):=jP rfl hx hy fun w=>by simp [binOp,Op.intCmp]
theorem q_gtr {k:IntKind} (hx:evF F x=some (.int k a)) (hy:evF F y=some (.int k b)):QP P B N V L ⟨d,.binOp .gtr t x y ty2,ty,pos,af,gd⟩ F (.bool (decide (b<a))):=jP rfl hx hy fun w=>by simp [binOp,Op.intCmp]
theorem q_geq {k:IntKind} (hx:evF F x=some (.int k a)) (hy:evF F y=some (.int k b)):QP P B N V L ⟨d,.binOp .geq t x y ty2,ty,pos,af,gd⟩ F (.bool (decide (b≤a))):=jP rfl hx hy fun w=>by simp [binOp,Op.intCmp]
theorem q_eql {k:IntKind} (hx:evF F x=some (.int k a)) (hy:evF F y=some (.int k b)):QP P B N V L ⟨d,.binOp .eql t x y ty2,ty,pos,af,gd⟩ F (.bool (decide (a=b))):=jP rfl hx hy fun w=>by simp [binOp,Op.intCmp,beq_dec]
theorem q_neq {k:IntKind} (hx:evF F x=some (.int k a)) (hy:evF F y=some (.int k b)):QP P B N V L ⟨d,.binOp .neq t x y ty2,ty,pos,af,gd⟩ F (.bool (decide (¬a=b))):=jP rfl hx hy fun w=>by
  have:(a != b)=decide (¬a=b):=by simp [bne,beq_dec]
  simp [binOp,Op.intCmp,this]
theorem q_and {k:IntKind} (hx:evF F x=some (.int k a)) (hy:evF F y=some (.int k b)):QP P B N V L ⟨d,.binOp .and t x y ty2,ty,pos,af,gd⟩ F (.int k (bits .and k a b)):=jP rfl hx hy fun w=>by simp [binOp,Op.intBits,bits]
theorem q_or {k:IntKind} (hx:evF F x=some (.int k a)) (hy:evF F y=some (.int k b)):QP P B N V L ⟨d,.binOp .or t x y ty2,ty,pos,af,gd⟩ F (.int k (bits .or k a b)):=jP rfl hx hy fun w=>by simp [binOp,Op.intBits,bits]
theorem q_andNot {k:IntKind} (hx:evF F x=some (.int k a)) (hy:evF F y=some (.int k b)):QP P B N V L ⟨d,.binOp .andNot t x y ty2,ty,pos,af,gd⟩ F (.int k (bits .andNot k a b)):=jP rfl hx hy fun w=>by simp [binOp,Op.intBits,bits]
end ints

theorem sU {x y:Operand} {t ty2:TypeId} {op:BinOp} {vx vy v:Value} (hx:evF F x=some vx) (hy:evF F y=some vy) (hg:∀ w,(eqGuard op t x y vx vy).run P w=.ok () w) (h:∀ w,(binOp op t vx vy).run P w=.ok v w):QP P B N V L ⟨d,.binOp op t x y ty2,ty,pos,af,gd⟩ F v:=iD fun ac w ha _=>by
  simp [execOp,ha.ev hx,ha.ev hy,hg w,h w]

section strs
variable {x y : Operand} {t ty2 : TypeId} {a b : ByteArray}
theorem run_str {op:BinOp} {v:Value} {o:Oper} (ho:o.op=.binOp op t x y ty2) (hx:evF F x=some (.string a)) (hy:evF F y=some (.string b)) (h:∀ w,(binOp op t (.string a) (.string b)).run P w=.ok v w):QP P B N V L o F v:=iD fun ac w ha _=>by
  have e:(eqGuard op t x y (.string a) (.string b))=pure ():=by unfold eqGuard;cases op<;>rfl
  simp [execOp,ho,ha.ev hx,ha.ev hy,e,h w]
theorem q_seql (hx:evF F x=some (.string a)) (hy:evF F y=some (.string b)):QP P B N V L ⟨d,.binOp .eql t x y ty2,ty,pos,af,gd⟩ F (.bool (decide (a=b))):=run_str rfl hx hy fun w=>by simp only [binOp,Op.stringOp];rw [str_beq];rfl
theorem q_sneq (hx:evF F x=some (.string a)) (hy:evF F y=some (.string b)):QP P B N V L ⟨d,.binOp .neq t x y ty2,ty,pos,af,gd⟩ F (.bool (decide (¬a=b))):=run_str rfl hx hy fun w=>by
  simp only [binOp,Op.stringOp];rw [str_beq]
  have:(!decide (a=b))=decide (¬a=b):=by simp
  rw [this];rfl
theorem bytes_gt (a b:ByteArray):(!(decide (a.toList<b.toList) || decide (a=b)))=decide (b.toList<a.toList):=by
  rw [Bool.eq_iff_iff]
  simp
  constructor
  · rintro ⟨h1,h2⟩
    rcases List.le_iff_lt_or_eq.1 h1 with h|h
    · exact h
    · exact absurd (str_ext h.symm) h2
  · intro h
    exact⟨List.le_of_lt h,fun e=>by subst e;exact List.lt_irrefl _ h⟩
theorem q_sgtr (hx:evF F x=some (.string a)) (hy:evF F y=some (.string b)):QP P B N V L ⟨d,.binOp .gtr t x y ty2,ty,pos,af,gd⟩ F (.bool (decide (b.toList<a.toList))):=run_str rfl hx hy fun w=>by
  simp only [binOp,Op.stringOp];rw [tZ,str_beq,bytes_gt];rfl
theorem q_sgeq (hx:evF F x=some (.string a)) (hy:evF F y=some (.string b)):QP P B N V L ⟨d,.binOp .geq t x y ty2,ty,pos,af,gd⟩ F (.bool (decide (¬a.toList<b.toList))):=run_str rfl hx hy fun w=>by
  simp only [binOp,Op.stringOp];rw [tZ]
  have:(!decide (a.toList<b.toList))=decide (¬a.toList<b.toList):=decide_not.symm
  rw [this];rfl
theorem uX (hx:evF F x=some (.string a)) (hy:evF F y=some (.string b)) (h:((a.size+b.size:Nat):Int)≤9223372036854775807):QP P B N V L ⟨d,.binOp .add t x y ty2,ty,pos,af,gd⟩ F (.string (a ++ b)):=run_str rfl hx hy fun w=>by
  simp only [binOp,Op.stringOp]
  rw [if_neg]
  · rfl
  · simp only [IntKind.max,IntKind.signed,IntKind.bits]
    omega
theorem rU {ix:Operand} {i:Int} {s:ByteArray} {c:UInt8} (hu:bR P t .string) (hx:evF F x=some (.string s)) (hi:evF F ix=some (.int .i64 i)) (h0:0≤i) (hc:s[i.toNat]?=some c):QP P B N V L ⟨d,.index t x ix,ty,pos,af,gd⟩ F (.int .u8 c.toNat):=iD fun ac w ha _=>by
  simp [execOp,ha.ev hx,ha.ev hi,Instr.index,asIntOf,hu.h,h0,hc]
theorem q_slen {c:Call} (hc:c=⟨.builtin .len,#[x],#[t]⟩) (hu:bR P t .string) (hx:evF F x=some (.string a)):QP P B N V L ⟨d,.call c,ty,pos,af,gd⟩ F (.int .i64 a.size):=iD fun ac w ha _=>by
  subst hc
  simp [execOp,ha.ev hx,resolve,invoke,builtin,Builtin.len_,hu.h,goInt]
theorem gG (w:World) {l y:Nat} (h:l≤y) (code:BoundsCode):(Instr.sliceBound (.int .i64 (l:Int)) y code).run P w=.ok l w:=by
  have:(l:Int)≤(y:Int):=by omega
  simp [Instr.sliceBound,asIntOf,this]
theorem xZ {hi:Operand} {h:Nat} (hu:bR P t .string) (hx:evF F x=some (.string a)) (hh:evF F hi=some (.int .i64 (h:Int))) (h2:h≤a.size):QP P B N V L ⟨d,.slice t x none (some hi) none,ty,pos,af,gd⟩ F (.string (a.extract 0 h)):=iD fun ac w ha _=>by
  simp [execOp,ha.ev hx,ha.ev hh,Instr.sliceAt,Instr.slice,Instr.sliceBounds,hu.h,gG w h2]
theorem pT {lo:Operand} {l:Nat} (hu:bR P t .string) (hx:evF F x=some (.string a)) (hl:evF F lo=some (.int .i64 (l:Int))) (h2:l≤a.size):QP P B N V L ⟨d,.slice t x (some lo) none none,ty,pos,af,gd⟩ F (.string (a.extract l a.size)):=iD fun ac w ha _=>by
  simp [execOp,ha.ev hx,ha.ev hl,Instr.sliceAt,Instr.slice,Instr.sliceBounds,hu.h,gG w h2]
theorem q_sslice {lo hi:Operand} {l h:Nat} (hu:bR P t .string) (hx:evF F x=some (.string a)) (hl:evF F lo=some (.int .i64 (l:Int))) (hh:evF F hi=some (.int .i64 (h:Int))) (h1:l≤h) (h2:h≤a.size):QP P B N V L ⟨d,.slice t x (some lo) (some hi) none,ty,pos,af,gd⟩ F (.string (a.extract l h)):=iD fun ac w ha _=>by
  simp [execOp,ha.ev hx,ha.ev hl,ha.ev hh,Instr.sliceAt,Instr.slice,Instr.sliceBounds,hu.h,gG w h1,gG w h2]
end strs
theorem run_neq_bool' (w:World) (t:TypeId) (a b:Bool) (h:P.underlying t=some .bool):(binOp .neq t (.bool a) (.bool b)).run P w=.ok (.bool (decide (¬a=b))) w:=by
  simp only [binOp]
  simp [run_equal_bool w t a b h,beq_dec]
theorem vT {x y:Operand} {t ty2:TypeId} {a b:Bool} (hu:bR P t .bool) (hx:evF F x=some (.bool a)) (hy:evF F y=some (.bool b)):QP P B N V L ⟨d,.binOp .neq t x y ty2,ty,pos,af,gd⟩ F (.bool (decide (¬a=b))) :=
  sU hx hy (fun w=>by simp [eqGuard]) (fun w=>run_neq_bool' w t a b hu.u)
end
end
section

theorem iT (b o k:Nat):(⟨b,o,none⟩:Addr).add k=⟨b,o+k,none⟩:=by unfold Addr.add;split<;>simp_all

def bF (L:List Box) (g:Nat) (cs:List Value):Prop:=∃ t:TypeId,⟨g,t,cs⟩∈L
theorem own_here {g:Nat} {t:TypeId} {cs:List Value} {L:List Box}:bF (⟨g,t,cs⟩ :: L) g cs:=⟨t,by simp⟩
theorem cG {g:Nat} {cs:List Value} {L:List Box} {b:Box} (h:bF L g cs):bF (b :: L) g cs:=let ⟨t,h⟩:=h;⟨t,List.mem_cons_of_mem _ h⟩
theorem eM {g:Nat} {cs:List Value} {L M:List Box} (h:bF L g cs):bF (M ++ L) g cs:=let ⟨t,h⟩:=h;⟨t,List.mem_append_right _ h⟩
def spl:List Value→Nat→List Value→List Value
  | cs,_,[]=>cs
  | cs,i,v :: vs=>spl (cs.set i v) (i+1) vs
inductive cF:List Box→Nat→Nat→List Value→List Box→Prop
  | here (g:Nat) (t:TypeId) (cs:List Value) (L:List Box) (i:Nat) (vs:List Value) (h:i+vs.length≤cs.length):cF (⟨g,t,cs⟩ :: L) g i vs (⟨g,t,spl cs i vs⟩ :: L)
  | next (b:Box) (L:List Box) (g i:Nat) (vs:List Value) (L':List Box) (h:cF L g i vs L'):cF (b :: L) g i vs (b :: L')
theorem gS {L L':List Box} {g i:Nat} {vs:List Value} (h:cF L g i vs L'):∀ M:List Box,cF (M ++ L) g i vs (M ++ L')
  | []=>h
  | b :: M=>.next b _ _ _ _ _ (gS h M)
def jF:Value→Bool
  | .agg _|.tuple _=>false
  | _=>true

theorem gL {vs:List Value} (h:vs.all jF=true):∀ u∈vs,jF u=true:=fun u hu=>List.all_eq_true.1 h u hu

section
variable {P : Program} {B : Base} {N : Nat} {Q : Exit → Act → World → Prop} {F : List (Nat × Value)} {V : aE} {L : List Box} {w : World}
theorem St.lt (hs:St B V L w) {b:Box} (hb:b∈L):b.g<w.heap.size:=by
  have h:=(hs.own b hb).1
  rcases Nat.lt_or_ge b.g w.heap.size with h1|h1
  · exact h1
  · rw [Array.getElem?_eq_none h1] at h;cases h
theorem St.cell (hs:St B V L w) {g:Nat} {cs:List Value} (h:bF L g cs) (i:Nat):w.cell? ⟨g,i,none⟩=cs[i]?:=by
  obtain⟨t,h⟩:=h
  have:=(hs.own _ h).1
  simp [World.cell?,this]
theorem St.frozen (hs:St B V L w) {g:Nat} {cs:List Value} (h:bF L g cs) (i:Nat):w.frozen? ⟨g,i,none⟩=false:=by
  obtain⟨t,h⟩:=h
  have:=(hs.own _ h).1
  simp [World.frozen?,this]
theorem St.alloc (hs:St B V L w) (t:TypeId) (cs:List Value):St B V (⟨w.heap.size,t,cs⟩ :: L) (w.alloc (.cells cs.toArray t)):=by
  refine⟨Exc.al _ hs.ext,fun p x hp=>?_,hs.old,hs.v0,fun b hb=>?_,?_⟩
  · obtain⟨h1,h2⟩:=hs.view p x hp
    have hlt:=World.block_lt_of_cell? w p h1
    refine⟨(World.cell?_alloc_lt w _ p hlt).trans h1,fun b hb=>?_⟩
    rcases List.mem_cons.1 hb with rfl|hb
    · simp only [];omega
    · exact h2 b hb
  · rcases List.mem_cons.1 hb with rfl|hb
    · exact⟨heap_alloc_new w _,.inl hs.ext.sz⟩
    · exact⟨(Below.heap_alloc w _ b.g (hs.lt hb)).trans (hs.own b hb).1,(hs.own b hb).2⟩
  · rw [List.map_cons,List.nodup_cons]
    refine⟨fun h=>?_,hs.nodup⟩
    obtain⟨b,hb,he⟩:=List.mem_map.1 h
    have:=hs.lt hb
    simp only [] at he;omega
theorem cF.map {L L':List Box} {g i:Nat} {vs:List Value} (h:cF L g i vs L'):L'.map Box.g=L.map Box.g:=by
  induction h with
  | here=>rfl
  | next _ _ _ _ _ _ _ ih=>simp [ih]
theorem cF.cases {L L':List Box} {g i:Nat} {vs:List Value} (h:cF L g i vs L') (hn:(L.map Box.g).Nodup):∃ (t:TypeId) (cs:List Value),⟨g,t,cs⟩∈L∧i+vs.length≤cs.length∧∀ b∈L',(b.g=g∧b.t=.cells t∧b.cs=spl cs i vs)∨(b.g≠g∧b∈L):=by
  induction h with
  | here g t cs L i vs h =>
    refine⟨t,cs,by simp,h,fun b hb=>?_⟩
    rcases List.mem_cons.1 hb with rfl|hb
    · exact .inl ⟨rfl,rfl,rfl⟩
    · refine .inr ⟨fun e=>?_,by simp [hb]⟩
      rw [List.map_cons,List.nodup_cons] at hn
      exact hn.1 (List.mem_map.2 ⟨b,hb,e⟩)
  | next b0 L g i vs L' h ih =>
    rw [List.map_cons,List.nodup_cons] at hn
    obtain⟨t,cs,h1,h2,h3⟩:=ih hn.2
    refine⟨t,cs,by simp [h1],h2,fun b hb=>?_⟩
    rcases List.mem_cons.1 hb with rfl|hb
    · refine .inr ⟨fun e=>?_,by simp⟩
      exact hn.1 (List.mem_map.2 ⟨_,h1,e.symm⟩)
    · rcases h3 b hb with h|⟨h,h'⟩
      · exact .inl h
      · exact .inr ⟨h,by simp [h']⟩
theorem St.set1 (hs:St B V L w) {L':List Box} {g i:Nat} {v:Value} (h:cF L g i [v] L'):St B V L' (w.setCell ⟨g,i,none⟩ v):=by
  obtain⟨t,cs,hm,hl,hb⟩:=h.cases hs.nodup
  refine⟨Exc.set _ hs.ext (hs.own _ hm).2,fun p x hp=>?_,hs.old,hs.v0,fun b hb'=>?_,by rw [h.map];exact hs.nodup⟩
  · obtain⟨h1,h2⟩:=hs.view p x hp
    have hne:=h2 _ hm
    refine⟨(World.cell?_setCell_other w _ p v (fun e=>by subst e;exact hne rfl)).trans h1,fun b hb'=>?_⟩
    rcases hb b hb' with h|h
    · rw [h.1];exact hne
    · exact h2 b h.2
  · rcases hb b hb' with ⟨e1,e2,e3⟩|⟨e1,e2⟩
    · have ho:=(hs.own _ hm).1
      simp only [] at ho
      refine⟨?_,by rw [e1];exact(hs.own _ hm).2⟩
      rw [e1,e2,e3]
      simp [World.setCell,Array.getElem?_modify,ho,spl]
    · exact⟨(Below.heap_setCell w _ v b.g (fun e=>e1 e)).trans (hs.own b e2).1,(hs.own b e2).2⟩
theorem cF.split {L L':List Box} {g i:Nat} {v:Value} {vs:List Value} (h:cF L g i (v :: vs) L'):∃ L1,cF L g i [v] L1∧cF L1 g (i+1) vs L':=by
  generalize hu:v :: vs=us at h
  induction h with
  | here g t cs L i us hle =>
    subst hu
    exact⟨_,.here g t cs L i [v] (by simp at hle ⊢;omega),.here g t _ L (i+1) vs (by simp [spl] at hle ⊢;omega)⟩
  | next b L g i us L' h ih =>
    obtain⟨L1,h1,h2⟩:=ih hu
    exact⟨_,.next b _ _ _ _ _ h1,.next b _ _ _ _ _ h2⟩
theorem cF.own {L L':List Box} {g i:Nat} {vs:List Value} (h:cF L g i vs L'):∃ cs,bF L g cs∧i+vs.length≤cs.length:=by
  induction h with
  | here g t cs L i vs h=>exact⟨cs,own_here,h⟩
  | next b L g i vs L' h ih=>obtain⟨cs,h1,h2⟩:=ih;exact⟨cs,cG h1,h2⟩
theorem run_store1 (hs:St B V L w) {L':List Box} {g i:Nat} {v:Value} (h:cF L g i [v] L') (h1:jF v=true):(store ⟨g,i,none⟩ v).run P w=.ok () (w.setCell ⟨g,i,none⟩ v):=by
  obtain⟨cs,ho,hl⟩:=h.own
  have hc:w.cell? ⟨g,i,none⟩=some cs[i]:=by rw [hs.cell ho,List.getElem?_eq_getElem (by simp at hl;omega)]
  have hf:=hs.frozen ho i
  unfold store
  cases v<;>simp_all [Sem.run,jF]
theorem cF.nil {L L':List Box} {g i:Nat} (h:cF L g i [] L'):L'=L:=by
  generalize hu:([]:List Value)=us at h
  induction h with
  | here g t cs L i us hle=>subst hu;simp [spl]
  | next b L g i us L' h ih=>rw [ih hu]
theorem qD:∀ (vs:List Value) {L L':List Box} {w:World} {g i k:Nat},St B V L w→cF L g (i+k) vs L'→(∀ v∈vs,jF v=true)→∃ w',(storeCells ⟨g,i,none⟩ vs k).run P w=.ok () w'∧St B V L' w'
  | [],L,L',w,g,i,k,hs,hp,_=>by
    refine⟨w,rfl,?_⟩
    have:=hp.nil
    rw [this];exact hs
  | v :: vs,L,L',w,g,i,k,hs,hp,h1=>by
    obtain⟨L1,hp1,hp2⟩:=hp.split
    obtain⟨w',hr,hs'⟩:=qD vs (k:=k+1) (hs.set1 hp1) (by rw [show i+(k+1)=i+k+1 by omega];exact hp2) (fun u hu=>h1 u (by simp [hu]))
    refine⟨w',?_,hs'⟩
    rw [storeCells,Sem.run_bind,iT,run_store1 hs hp1 (h1 v (by simp))]
    exact hr

theorem uF (b o:Nat) (w:World):∀ (cs:List Value) (i:Nat) (acc:Array Value),(∀ j v,cs[j]?=some v→w.cell? ⟨b,o+(i+j),none⟩=some v)→(loadCellsFrom ⟨b,o,none⟩ i cs.length acc).run P w=.ok (acc ++ cs.toArray) w
  | [],i,acc,_=>by simp [loadCellsFrom]
  | c :: cs,i,acc,h=>by
    have h0:=h 0 c (by simp)
    rw [List.length_cons,loadCellsFrom,Sem.run_bind]
    have e:(load ((⟨b,o,none⟩:Addr).add i)).run P w=.ok c w:=by
      rw [iT]
      unfold load
      simp only [Nat.add_zero] at h0
      simp [Sem.run,h0]
    rw [e]
    show (loadCellsFrom ⟨b,o,none⟩ (i+1) cs.length (acc.push c)).run P w=_
    rw [uF b o w cs (i+1) (acc.push c) (fun j v hj=>by
      have:=h (j+1) v (by simpa using hj)
      rw [show o+(i+1+j)=o+(i+(j+1)) by omega];exact this)]
    congr 1
    simp
def aD (V:aE) (b o:Nat) (cs:List Value):Prop:=∀ j v,cs[j]?=some v→V ⟨b,o+j,none⟩=some v
theorem aD.le {V V':aE} {b o:Nat} {cs:List Value} (h:aD V b o cs) (hv:VLe V V'):aD V' b o cs:=fun j v hj=>hv _ _ (h j v hj)

variable {d : Option Tmp} {ty : TypeId} {pos : String} {af : Array Edge} {gd : Option (Nat × Bool)} {x y : Operand} {T : TypeId}
theorem xI {a:Addr} {v:Value} {w:World} (hA:(isAgg T).run P w=.ok false w) (hc:w.cell? a=some v):(loadVar T a).run P w=.ok v w:=by
  unfold loadVar
  rw [Sem.run_bind,hA]
  show (load a).run P w=_
  unfold load
  simp [Sem.run,hc]
theorem nC {b o:Nat} {cs:List Value} {w:World} (hA:(isAgg T).run P w=.ok true w) (hS:(sizeOf T).run P w=.ok cs.length w) (hc:∀ j v,cs[j]?=some v→w.cell? ⟨b,o+j,none⟩=some v):(loadVar T ⟨b,o,none⟩).run P w=.ok (.agg cs.toArray) w:=by
  unfold loadVar
  rw [Sem.run_bind,hA]
  show (do let n ←sizeOf T;let c ←loadCells ⟨b,o,none⟩ n;pure (Value.agg c):Sem Value).run P w=_
  rw [Sem.run_bind,hS]
  show (do let c ←loadCells ⟨b,o,none⟩ cs.length;pure (Value.agg c):Sem Value).run P w=_
  rw [Sem.run_bind,loadCells,uF b o w cs 0 #[] (fun j v hj=>by simpa using hc j v hj)]
  simp
theorem sZ {v:Value} {a:Addr} (hx:evF F x=some (.pointer (some a))) (h:∀ w,St B V L w→(loadVar T a).run P w=.ok v w):QP P B N V L ⟨d,.load T x,ty,pos,af,gd⟩ F v:=iD fun ac w ha hs=>by
  simp [execOp,ha.ev hx,Instr.loadAt,Instr.sureAddr,h w hs]
theorem cK {v:Value} {a:Addr} (hA:kX P T) (hx:evF F x=some (.pointer (some a))) (hc:V a=some v):QP P B N V L ⟨d,.load T x,ty,pos,af,gd⟩ F v :=
  sZ hx fun w hs=>xI (hA.h w) (hs.view a v hc).1
theorem aX {v:Value} {g i:Nat} {cs:List Value} (hA:kX P T) (hx:evF F x=some (.pointer (some ⟨g,i,none⟩))) (ho:bF L g cs) (hc:cs[i]?=some v):QP P B N V L ⟨d,.load T x,ty,pos,af,gd⟩ F v :=
  sZ hx fun w hs=>xI (hA.h w) ((hs.cell ho i).trans hc)
theorem iA {b o n:Nat} {cs:List Value} (hA:sS P T n) (hx:evF F x=some (.pointer (some ⟨b,o,none⟩))) (hc:aD V b o cs) (hn:n=cs.length):QP P B N V L ⟨d,.load T x,ty,pos,af,gd⟩ F (.agg cs.toArray) :=
  sZ hx fun w hs=>by subst hn;exact nC (hA.h w) (hA.s w) (fun j v hj=>(hs.view _ v (hc j v hj)).1)
theorem nJ {g n:Nat} {cs:List Value} (hA:sS P T n) (hx:evF F x=some (.pointer (some ⟨g,0,none⟩))) (ho:bF L g cs) (hn:n=cs.length):QP P B N V L ⟨d,.load T x,ty,pos,af,gd⟩ F (.agg cs.toArray) :=
  sZ hx fun w hs=>by subst hn;exact nC (hA.h w) (hA.s w) (fun j v hj=>by rw [Nat.zero_add,hs.cell ho];exact hj)
theorem gK {g i n:Nat} {cs us:List Value} (hA:sS P T n) (hx:evF F x=some (.pointer (some ⟨g,i,none⟩))) (ho:bF L g cs) (hu:(cs.drop i).take n=us) (hn:n=us.length):QP P B N V L ⟨d,.load T x,ty,pos,af,gd⟩ F (.agg us.toArray) :=
  sZ hx fun w hs=>by
    subst hn
    exact nC (hA.h w) (hA.s w) (fun j v hj=>by
      rw [hs.cell ho]
      have hj':=hj
      rw [←hu,List.getElem?_take,List.getElem?_drop] at hj'
      split at hj'
      · exact hj'
      · cases hj')

theorem eF {i off b o:Nat} (hf:bP P T i off) (hx:evF F x=some (.pointer (some ⟨b,o,none⟩))):QP P B N V L ⟨d,.fieldAddr T x i,ty,pos,af,gd⟩ F (.pointer (some ⟨b,o+off,none⟩)):=iD fun ac w ha hs=>by
  simp [execOp,ha.ev hx,hf.h ⟨b,o,none⟩ w,iT]
theorem iN {E sz b o n c k:Nat} (hu:bR P T (.slice E)) (hS:dI P E sz) (hx:evF F x=some (.slice (some ⟨b,o,none⟩) n c)) (hi:evF F y=some (.int .i64 (k:Int))) (hk:k<n):QP P B N V L ⟨d,.indexAddr T x y,ty,pos,af,gd⟩ F (.pointer (some ⟨b,o+k * sz,none⟩)):=iD fun ac w ha hs=>by
  have h1:¬n≤k:=by omega
  simp [execOp,ha.ev hx,ha.ev hi,Instr.indexAt,asIntOf,hu.h,hS.h,hk,h1,iT]
theorem rQ {E sz b o n c:Nat} {i:Int} (hu:bR P T (.slice E)) (hS:dI P E sz) (hx:evF F x=some (.slice (some ⟨b,o,none⟩) n c)) (hi:evF F y=some (.int .i64 i)) (hk:0≤i∧i<n):QP P B N V L ⟨d,.indexAddr T x y,ty,pos,af,gd⟩ F (.pointer (some ⟨b,o+i.toNat * sz,none⟩)):=iD fun ac w ha hs=>by
  simp [execOp,ha.ev hx,ha.ev hi,Instr.indexAt,asIntOf,hu.h,hS.h,hk.1,hk.2,iT]
theorem q_len {A:Option Addr} {n c E:Nat} {cl:Call} (hc:cl=⟨.builtin .len,#[x],#[T]⟩) (hu:bR P T (.slice E)) (hx:evF F x=some (.slice A n c)):QP P B N V L ⟨d,.call cl,ty,pos,af,gd⟩ F (.int .i64 n):=iD fun ac w ha _=>by
  subst hc
  simp [execOp,ha.ev hx,resolve,invoke,builtin,Builtin.len_,hu.h,goInt]

variable {ops : Array Oper} {rest : List Oper} {k : List kC}
theorem jY {o:Oper} {a:Act} {K:Act→World→Prop} {w w':World} {v:Value} (h:(execOp a.eval o).run P w=.ok (.value v) w') (hK:K (a.put o.dst v) w'):o.wp P a w K Q:=by
  unfold Oper.wp;rw [h];exact hK
theorem wp_skip' {o:Oper} {a:Act} {K:Act→World→Prop} {w w':World} (h:(execOp a.eval o).run P w=.ok .skip w') (hK:K (a.put o.dst undef) w'):o.wp P a w K Q:=by
  unfold Oper.wp;rw [h];exact hK
theorem run_newVar (w:World) (v:Value):(newVar T v).run P w=.ok ⟨w.heap.size,0,none⟩ (w.alloc (.cells v.cells T)):=rfl
theorem eN {dr:iM} (hdr:dr.loud=true) {zs:List Value} (hz':iY P T zs) (hd:okD N d=true) (h:∀ g,GoL P B N dr ops Q k rest (qQ F d (.pointer (some ⟨g,0,none⟩))) V (⟨g,T,zs⟩ :: L)):GoW P B N dr ops Q k ⟨d,.alloc T,ty,pos,af,gd⟩ rest F V L:=iI hdr fun a w ha hs=>by
  obtain⟨z,hz,hzs⟩:=hz'.h
  refine jY (w':=w.alloc (.cells zs.toArray T)) (v:=.pointer (some ⟨w.heap.size,0,none⟩)) ?_ (fQ hdr (h w.heap.size) _ _ (ha.put hd _) (hs.alloc T zs))
  simp [execOp,Instr.alloc,hz,run_newVar,hzs]
theorem gw_box {dr:iM} (hdr:dr.loud=true) {v:Value} {cs:List Value} (hx:evF F x=some v) (hcs:v.cells=cs.toArray) (hd:okD N d=true) (h:∀ g,GoL P B N dr ops Q k rest (qQ F d (.pointer (some ⟨g,0,none⟩))) V (⟨g,T,cs⟩ :: L)):GoW P B N dr ops Q k ⟨d,.box T x,ty,pos,af,gd⟩ rest F V L:=iI hdr fun a w ha hs=>by
  refine jY (w':=w.alloc (.cells cs.toArray T)) (v:=.pointer (some ⟨w.heap.size,0,none⟩)) ?_ (fQ hdr (h w.heap.size) _ _ (ha.put hd _) (hs.alloc T cs))
  simp [execOp,Instr.box,ha.ev hx,run_newVar,hcs]
theorem aP {dr:iM} (hdr:dr.loud=true) {v:Value} {n g i:Nat} {vs:List Value} {L':List Box} (hS:dI P T n) (hx:evF F x=some (.pointer (some ⟨g,i,none⟩))) (hy:evF F y=some v) (hcs:v.cells=vs.toArray) (hn:n=vs.length) (h1:∀ u∈vs,jF u=true) (hp:cF L g i vs L') (hd:okD N d=true)
    (h:GoL P B N dr ops Q k rest (qQ F d undef) V L'):GoW P B N dr ops Q k ⟨d,.store T x y,ty,pos,af,gd⟩ rest F V L:=iI hdr fun a w ha hs=>by
  obtain⟨w',hr,hs'⟩:=qD (P:=P) vs (k:=0) hs hp h1
  refine wp_skip' (w':=w') ?_ (fQ hdr h _ _ (ha.put hd _) hs')
  subst hn
  simp [execOp,ha.ev hx,ha.ev hy,Instr.storeAt,Instr.sureAddr,storeVar,hS.h,hcs,hr]

def evL (F:List (Nat×Value)):List Operand→Option (List Value)
  | []=>some []
  | x :: l=>match evF F x,evL F l with
    | some v,some vs=>some (v :: vs)
    | _,_=>none
theorem Kn.evL {a:Act} (ha:Kn N F a):∀ {l:List Operand} {vs:List Value},evL F l=some vs→l.map a.eval=vs
  | [],vs,h=>by simpa [Proofs.YtejkmomfpidnbacGreat.evL] using h
  | x :: l,vs,h=>by
    rw [Proofs.YtejkmomfpidnbacGreat.evL] at h
    cases h1:evF F x with
    | none=>rw [h1] at h;cases h
    | some v =>
      cases h2:Proofs.YtejkmomfpidnbacGreat.evL F l with
      | none=>rw [h1,h2] at h;cases h
      | some us =>
        rw [h1,h2] at h
        simp only [Option.some.injEq] at h
        rw [List.map_cons,ha.ev h1,ha.evL h2,h]
theorem tE {f:FuncId} {args:List Operand} {ats:Array TypeId} {vs:List Value} {a:Act} {w:World} (he:lB P f) (ha:Kn N F a) (hv:evL F args=some vs) :
    (execOp a.eval ⟨d,.call ⟨.value (.func f),args.toArray,ats⟩,ty,pos,af,gd⟩).run P w=.ok (.enter f vs.toArray) w:=by
  have h:=ha.evL hv
  simp [execOp,resolve,Deferred.ofValue,invoke,Act.eval,h,he.h vs.toArray w]
theorem St.call (hs:St B V L w) {w':World} {V':aE} (hx:Ext w w') (h1:VLe V V') (h2:VIn V' w') (h3:∀ p x,V' p=some x→p.block<w.heap.size→V p=some x):St B V' L w':=by
  refine⟨Exc.via hs.ext hx,fun p x hp=>⟨h2 p x hp,fun b hb=>?_⟩,fun p x hp hb=>hs.old p x (h3 p x hp (Nat.lt_of_lt_of_le hb hs.ext.sz)) hb,hs.v0.trans h1,fun b hb=>⟨(hx.block b.g (hs.lt hb)).trans (hs.own b hb).1,(hs.own b hb).2⟩,hs.nodup⟩
  rcases Nat.lt_or_ge p.block w.heap.size with h|h
  · exact(hs.view p x (h3 p x hp h)).2 b hb
  · have:=hs.lt hb
    omega
theorem aS {dr:iM} (hdr:dr.loud=true) {f:FuncId} {args:List Operand} {ats:Array TypeId} {vs:List Value} {R:Value→aE→Prop} (he:lB P f) (hv:evL F args=some vs) (hd:okD N d=true) (hc:Fn P f vs V R)
    (h:∀ v V',VLe V V'→R v V'→GoL P B N dr ops Q k rest (qQ F d v) V' L):GoW P B N dr ops Q k ⟨d,.call ⟨.value (.func f),args.toArray,ats⟩,ty,pos,af,gd⟩ rest F V L:=iI hdr fun a w ha hs=>by
  unfold Oper.wp
  rw [tE he ha hv]
  refine(hc w (fun p x hp=>(hs.view p x hp).1)).mono fun e w' ⟨v,he',hx,V',h1,h2,h3,hR⟩=>?_
  subst he'
  exact fQ hdr (h v V' h1 hR) _ _ (ha.put hd v) (hs.call hx h1 h2 h3)
theorem St.less (hs:St B V L w) {V':aE} (h:VLe V' V) (h0:VLe B.v V'):St B V' L w:=⟨hs.ext,fun p x hp=>hs.view p x (h p x hp),fun p x hp=>hs.old p x (h p x hp),h0,hs.own,hs.nodup⟩
theorem aK {f:FuncId} {args:List Operand} {ats:Array TypeId} {vs:List Value} {v:Value} (he:lB P f) (hv:evL F args=some vs) (hc:Fn P f vs V fun u _=>u=v):QO P B N V L ⟨d,.call ⟨.value (.func f),args.toArray,ats⟩,ty,pos,af,gd⟩ F v:=fun a w ha hs=>by
  unfold Oper.quietAt
  rw [tE he ha hv]
  refine⟨rfl,(hc w (fun p x hp=>(hs.view p x hp).1)).mono fun e w' ⟨u,he',hx,V',h1,h2,h3,hR⟩=>?_⟩
  subst he' hR
  exact⟨rfl,(hs.call hx h1 h2 h3).less h1 hs.v0⟩

theorem aU {t g n:Nat} {cs:List Value} (hA:sS P T n) (hx:jM F t=some (.pointer (some ⟨g,0,none⟩))) (ho:bF L g cs) (hn:n=cs.length):RV P B N F V L (.cell t T) (.agg cs.toArray):=fun a w ha hs=>by
  subst hn
  simp only []
  rw [ha.2.2 t _ hx,Sem.run_bind]
  show (loadVar T _).run P w=_
  exact nC (hA.h w) (hA.s w) (fun j v hj=>by rw [Nat.zero_add,hs.cell ho];exact hj)
end
end
section

def rH (pl:Nat→Option (Nat×Nat)):List Value→List (Nat×Value)→Option (List Value)
  | cs,[]=>some cs
  | cs,(i,v) :: rest =>
    match pl i with
    | none=>none
    | some (off,size)=>bif Nat.beq v.cells.toList.length size && Nat.ble (off+size) cs.length then rH pl (spl cs off v.cells.toList) rest else none
theorem fold_spl (off:Nat):∀ (vs:List Value) (k:Nat) (cs:List Value),(vs.zipIdx k).foldl (fun (c:Array Value) (p:Value×Nat)=>c.setIfInBounds (off+p.2) p.1) cs.toArray=(spl cs (off+k) vs).toArray
  | [],k,cs=>rfl
  | v :: vs,k,cs=>by
    rw [List.zipIdx_cons,List.foldl_cons,spl]
    have:=fold_spl off vs (k+1) (cs.set (off+k) v)
    rw [show off+k+1=off+(k+1) by omega,←this]
    congr 1
    simp
theorem qC (pl:Nat→Option (Nat×Nat)):∀ (vs:List (Nat×Value)) (cs us:List Value),rH pl cs vs=some us→Instr.fill pl cs.toArray vs=some us.toArray
  | [],cs,us,h=>by simp [rH] at h;simp [Instr.fill,h]
  | (i,v) :: rest,cs,us,h=>by
    rw [rH] at h
    rw [Instr.fill]
    cases hp:pl i with
    | none=>rw [hp] at h;cases h
    | some p =>
      obtain⟨off,size⟩:=p
      rw [hp] at h
      simp only [] at h ⊢
      cases hb:(Nat.beq v.cells.toList.length size && Nat.ble (off+size) cs.length) with
      | false=>rw [hb] at h;cases h
      | true =>
        rw [hb] at h
        simp only [Bool.and_eq_true,cond_true] at hb h
        have h1:=Nat.eq_of_beq_eq_true hb.1
        have h2:=Nat.le_of_ble_eq_true hb.2
        rw [Array.length_toList] at h1
        rw [if_neg (by simp;omega)]
        have e:v.cells.zipIdx.foldl (fun (c:Array Value) (p:Value×Nat)=>c.setIfInBounds (off+p.2) p.1) cs.toArray=(spl cs off v.cells.toList).toArray:=by
          have:=fold_spl off v.cells.toList 0 cs
          rw [Nat.add_zero] at this
          rw [←this,←Array.foldl_toList]
          congr 1
          simp
        have e':(v.cells.zipIdx.foldl (fun cs x=>match x with|(c,j)=>cs.setIfInBounds (off+j) c) cs.toArray)=(spl cs off v.cells.toList).toArray:=e
        rw [e']
        exact qC pl rest _ us h
class iK (P:Program) (T:TypeId) (pl:outParam (List (Nat×Nat))) (zs:outParam (List Value)):Prop where
  h:(∃ fs,(∀ w,(underlying T).run P w=.ok (.struct fs) w)∧∀ w,(fs.mapM fun f=>do pure (f.offset,←sizeOf f.type):Sem _).run P w=.ok pl.toArray w)∧∃ z,(∀ w,(zeroValue T).run P w=.ok z w)∧z.cells=zs.toArray
def evP (F:List (Nat×Value)):List (Nat×Operand)→Option (List (Nat×Value))
  | []=>some []
  | (i,x) :: l=>match evF F x,evP F l with
    | some v,some vs=>some ((i,v) :: vs)
    | _,_=>none

section
variable {P : Program} {B : Base} {N : Nat} {Q : Exit → Act → World → Prop} {F : List (Nat × Value)} {V : aE} {L : List Box}
variable {d : Option Tmp} {ty : TypeId} {pos : String} {af : Array Edge} {gd : Option (Nat × Bool)} {x y : Operand} {T : TypeId} {ops : Array Oper} {rest : List Oper} {k : List kC}
theorem Kn.evP {a:Act} (ha:Kn N F a):∀ {l:List (Nat×Operand)} {vs:List (Nat×Value)},evP F l=some vs→l.map (fun p=>(p.1,a.eval p.2))=vs
  | [],vs,h=>by simpa [Proofs.YtejkmomfpidnbacGreat.evP] using h
  | (i,x) :: l,vs,h=>by
    rw [Proofs.YtejkmomfpidnbacGreat.evP] at h
    cases h1:evF F x with
    | none=>rw [h1] at h;cases h
    | some v =>
      cases h2:Proofs.YtejkmomfpidnbacGreat.evP F l with
      | none=>rw [h1,h2] at h;cases h
      | some us =>
        rw [h1,h2] at h
        simp only [Option.some.injEq] at h
        rw [List.map_cons,ha.ev h1,ha.evP h2,h]
theorem run_build {pl:List (Nat×Nat)} {zs us:List Value} {vs:List (Nat×Value)} (hb:iK P T pl zs) (hf:rH (fun i=>pl[i]?) zs vs=some us) (w:World):(Instr.build T vs.toArray).run P w=.ok (.agg us.toArray) w:=by
  obtain⟨⟨fs,h1,h2⟩,z,h3,h4⟩:=hb.h
  have hfill:=qC _ _ _ _ hf
  have hfill':Instr.fill (fun i=>pl.toArray[i]?) zs.toArray vs=some us.toArray:=by simpa using hfill
  unfold Instr.build
  simp only [Sem.run_bind,h3,Result.andThen_ok,h1,h2,h4]
  rw [hfill']
  rfl
theorem wD {pl:List (Nat×Nat)} {zs us:List Value} {ps:List (Nat×Operand)} {vs:List (Nat×Value)} (hb:iK P T pl zs) (hp:evP F ps=some vs) (hf:rH (fun i=>pl[i]?) zs vs=some us):QP P B N V L ⟨d,.build T ps.toArray,ty,pos,af,gd⟩ F (.agg us.toArray):=iD fun a w ha hs=>by
  have h:=ha.evP hp
  have e:(ps.toArray.map fun (p:Nat×Operand)=>(p.1,a.eval p.2))=vs.toArray:=by rw [←h];simp
  have hr:=run_build hb hf w
  rw [←e] at hr
  simp only [execOp]
  have e2:(ps.toArray.map fun x=>match x with|(i,x)=>(i,a.eval x))=(ps.toArray.map fun (p:Nat×Operand)=>(p.1,a.eval p.2)):=rfl
  rw [e2,Sem.run_bind,hr]
  rfl
class jD (P:Program) (T:TypeId) (z:outParam Value):Prop where
  h:∀ w,(zeroValue T).run P w=.ok z w
def repL:Nat→List Value→List Value
  | 0,_=>[]
  | n+1,zc=>zc ++ repL n zc
theorem repL_at (zc:List Value):∀ (n i:Nat),i<n * zc.length→(repL n zc)[i]?=zc[i % zc.length]?
  | 0,i,h=>by simp at h
  | n+1,i,h=>by
    rw [repL]
    rcases Nat.lt_or_ge i zc.length with hi|hi
    · rw [List.getElem?_append_left hi,Nat.mod_eq_of_lt hi]
    · rw [List.getElem?_append_right hi,repL_at zc n (i - zc.length) (by rw [Nat.succ_mul] at h;omega),Nat.mod_eq_sub_mod hi]
theorem repL_len (zc:List Value):∀ n,(repL n zc).length=n * zc.length
  | 0=>by simp [repL]
  | n+1=>by rw [repL,List.length_append,repL_len zc n,Nat.succ_mul];omega
theorem rep_cells (zc:List Value) (n:Nat):(Array.range (n * zc.length)).map (fun i=>zc.toArray[i % zc.toArray.size]!)=(repL n zc).toArray:=by
  apply Array.toList_inj.1
  apply List.ext_getElem?
  intro i
  rcases Nat.lt_or_ge i (n * zc.length) with h|h
  · have h0:i % zc.length<zc.length:=Nat.mod_lt _ (by
      rcases Nat.eq_zero_or_pos zc.length with h0|h0
      · rw [h0] at h;simp at h
      · exact h0)
    have e:=repL_at zc n i h
    rw [List.getElem?_eq_getElem h0] at e
    simp [h,h0,e]
  · rw [List.getElem?_eq_none (by simpa using h),List.getElem?_eq_none (by simpa [repL_len] using h)]
theorem aZ {dr:iM} (hdr:dr.loud=true) {E sz len:Nat} {z:Value} {zs us:List Value} {ps:List (Nat×Operand)} {vs:List (Nat×Value)} (hu:bR P T (.slice E)) (hS:dI P E sz) (hz':jD P E z)
    {zc:List Value} (hzc:z.cells=zc.toArray) (hzl:sz=zc.length) (hzs:repL len zc=zs) (hp:evP F ps=some vs) (hf:rH (fun i=>some (i * sz,sz)) zs vs=some us) (hlen:(Nat.ble (len * sz) 16777216 && !Nat.beq (len * sz) 0)=true) (hd:okD N d=true)
    (h:∀ g,GoL P B N dr ops Q k rest (qQ F d (.slice (some ⟨g,0,none⟩) len len)) V (⟨g,E,us⟩ :: L)):GoW P B N dr ops Q k ⟨d,.buildSlice T len ps.toArray,ty,pos,af,gd⟩ rest F V L:=iI hdr fun a w ha hs=>by
  refine jY (w':=w.alloc (.cells us.toArray E)) (v:=.slice (some ⟨w.heap.size,0,none⟩) len len) ?_ (fQ hdr (h w.heap.size) _ _ (ha.put hd _) (hs.alloc E us))
  have hh:=ha.evP hp
  have e:(ps.toArray.map fun x=>match x with|(i,x)=>(i,a.eval x))=vs.toArray:=by rw [←hh];simp
  have hz:=hz'.h
  simp only [Bool.and_eq_true,Bool.not_eq_true'] at hlen
  have h1:=Nat.le_of_ble_eq_true hlen.1
  have h2:len * sz≠0:=fun e=>by rw [e] at hlen;simp at hlen
  have hfill:=qC _ _ _ _ hf
  simp only [execOp]
  rw [e]
  unfold Instr.buildSlice
  have e3:¬(2 ^ 24<len * sz):=by omega
  have h3:len≠0∧sz≠0:=⟨fun e=>h2 (by simp [e]),fun e=>h2 (by simp [e])⟩
  have hrep:(Array.range (len * sz)).map (fun i=>z.cells[i % z.cells.size]!)=zs.toArray:=by rw [hzc,hzl,rep_cells,hzs]
  simp [hu.h,hS.h,hz,e3,h3.1,h3.2,hrep,hfill]
  rw [if_neg h2]
  rfl

def pX (A:Option Addr) (c l sz:Nat):Option Addr:=if c=l then A else A.map (·.add (l * sz))
theorem dY {E sz n c h:Nat} {A:Option Addr} {hi:Operand} (hu:bR P T (.slice E)) (hS:dI P E sz) (hx:evF F x=some (.slice A n c)) (hh:evF F hi=some (.int .i64 (h:Int))) (h2:h≤c):QP P B N V L ⟨d,.slice T x none (some hi) none,ty,pos,af,gd⟩ F (.slice A h c):=iD fun ac w ha hs=>by
  have e:∀ A:Option Addr,A.map (·.add 0)=A:=fun A=>by cases A<;>simp [Addr.add]
  simp [execOp,ha.ev hx,ha.ev hh,Instr.sliceAt,Instr.slice,Instr.sliceBounds,hu.h,hS.h,gG w h2,e]
theorem sB {E sz n c l:Nat} {A:Option Addr} {lo:Operand} (hu:bR P T (.slice E)) (hS:dI P E sz) (hx:evF F x=some (.slice A n c)) (hl:evF F lo=some (.int .i64 (l:Int))) (h2:l≤n):QP P B N V L ⟨d,.slice T x (some lo) none none,ty,pos,af,gd⟩ F (.slice (pX A c l sz) (n - l) (c - l)):=iD fun ac w ha hs=>by
  simp [execOp,ha.ev hx,ha.ev hl,Instr.sliceAt,Instr.slice,Instr.sliceBounds,hu.h,hS.h,gG w h2,pX]
def boxedV (V:aE) (w:World) (g:Nat):aE:=fun p=>if p.block=g then w.cell? p else V p
theorem wF {V:aE} {w:World} {g:Nat} {p:Addr} (h:p.block=g):boxedV V w g p=w.cell? p:=if_pos h
theorem kO {V:aE} {w:World} {g:Nat} {p:Addr} (h:p.block≠g):boxedV V w g p=V p:=if_neg h
inductive gB:List Box→Nat→List Value→List Box→Prop
  | here (g:Nat) (t:TypeId) (cs:List Value) (L:List Box):gB (⟨g,t,cs⟩ :: L) g cs L
  | next (b:Box) (L:List Box) (g:Nat) (cs:List Value) (L':List Box) (h:gB L g cs L'):gB (b :: L) g cs (b :: L')
theorem gB.mem {L L':List Box} {g:Nat} {cs:List Value} (h:gB L g cs L'):(∃ t:TypeId,⟨g,t,cs⟩∈L)∧(∀ b∈L',b∈L)∧((L.map Box.g).Nodup→(L'.map Box.g).Nodup∧∀ b∈L',b.g≠g):=by
  induction h with
  | here g t cs L =>
    refine⟨⟨t,by simp⟩,fun b hb=>by simp [hb],fun hn=>?_⟩
    rw [List.map_cons,List.nodup_cons] at hn
    exact⟨hn.2,fun b hb e=>hn.1 (List.mem_map.2 ⟨b,hb,e⟩)⟩
  | next b L g cs L' h ih =>
    obtain⟨⟨t,h1⟩,h2,h3⟩:=ih
    refine⟨⟨t,by simp [h1]⟩,fun c hc=>?_,fun hn=>?_⟩
    · rcases List.mem_cons.1 hc with rfl|hc
      · simp
      · simp [h2 c hc]
    · rw [List.map_cons,List.nodup_cons] at hn
      obtain⟨h4,h5⟩:=h3 hn.2
      refine⟨?_,fun c hc=>?_⟩
      · rw [List.map_cons,List.nodup_cons]
        exact⟨fun hm=>by obtain⟨c,hc,e⟩:=List.mem_map.1 hm;exact hn.1 (List.mem_map.2 ⟨c,h2 c hc,e⟩),h4⟩
      · rcases List.mem_cons.1 hc with rfl|hc
        · exact fun e=>hn.1 (e▸List.mem_map_of_mem (f:=Box.g) h1)
        · exact h5 c hc
theorem St.retire {w:World} (hs:St B V L w) {L':List Box} {g:Nat} {cs:List Value} (h:gB L g cs L') (hfl:∀ x∈B.fl,∃ cs,bF L' x cs):∃ V',VLe V V'∧aD V' g 0 cs∧St B V' L' w:=by
  obtain⟨⟨t,hm⟩,h2,h3⟩:=h.mem
  obtain⟨h4,h5⟩:=h3 hs.nodup
  have ho:=hs.own _ hm
  have hne:∀ p x,V p=some x→p.block≠g:=fun p x hp e=>(hs.view p x hp).2 _ hm e.symm
  refine⟨boxedV V w g,fun p x hp=>?_,fun j v hj=>?_,⟨hs.ext,fun p x hp=>?_,fun p x hp hb=>?_,fun p x hp=>?_,fun b hb=>hs.own b (h2 b hb),h4⟩⟩
  · rw [kO (hne p x hp)];exact hp
  · rw [wF (g:=g) (p:=⟨g,0+j,none⟩) rfl,Nat.zero_add,hs.cell ⟨t,hm⟩];exact hj
  · by_cases e:p.block=g
    · rw [wF e] at hp
      exact⟨hp,fun b hb=>by rw [e];exact h5 b hb⟩
    · rw [kO e] at hp
      exact⟨(hs.view p x hp).1,fun b hb=>(hs.view p x hp).2 b (h2 b hb)⟩
  · by_cases e:p.block=g
    · rcases ho.2 with h6|h6
      · simp only [] at h6
        omega
      · obtain⟨cs',t',hm'⟩:=hfl _ h6
        exact absurd rfl (h5 _ hm')
    · rw [kO e] at hp
      exact hs.old p x hp hb
  · rw [kO (hne p x (hs.v0 p x hp))];exact hs.v0 p x hp
theorem gw_retire {dr:iM} (hdr:dr.loud=true) {L':List Box} {g:Nat} {cs:List Value} (hd:gB L g cs L') {o:Oper} {l:List Oper} (h:∀ V',VLe V V'→aD V' g 0 cs→GoW P B N dr ops Q k o l F V' L') (hfl:∀ x∈B.fl,∃ cs,bF L' x cs:=by simp):GoW P B N dr ops Q k o l F V L:=iI hdr fun a w ha hs=>by
  obtain⟨V',h1,h2,h3⟩:=hs.retire hd hfl
  exact gw_un hdr (h V' h1 h2) a w ha h3
theorem nK {L':List Box} {g:Nat} {cs:List Value} (hd:gB L g cs L') {c:Code} (h:∀ V',VLe V V'→aD V' g 0 cs→GoC P B N c Q k F V' L') (hfl:∀ x∈B.fl,∃ cs,bF L' x cs:=by simp):GoC P B N c Q k F V L:=fun a w ha hs=>by
  obtain⟨V',h1,h2,h3⟩:=hs.retire hd hfl
  exact h V' h1 h2 a w ha h3
theorem wE {e:Exit} {L':List Box} {g:Nat} {cs:List Value} (hd:gB L g cs L') (h:∀ V',VLe V V'→aD V' g 0 cs→AtQ P B N Q k e F V' L') (hfl:∀ x∈B.fl,∃ cs,bF L' x cs:=by simp):AtQ P B N Q k e F V L:=fun a w ha hs=>by
  obtain⟨V',h1,h2,h3⟩:=hs.retire hd hfl
  exact h V' h1 h2 a w ha h3
end

section
variable {P : Program} {B : Base} {N : Nat} {Q : Exit → Act → World → Prop} {k : List kC} {F : List (Nat × Value)} {V : aE} {L : List Box} {dr : iM} {ops : Array Oper} {o : Oper} {rest : List Oper} {c : Code} {e : Exit} {d : Option Tmp} {ty : TypeId} {pos : String} {af : Array Edge} {gd : Option (Nat × Bool)}
theorem aG (h:GoW P B N dr ops Q k o rest F V L):GoW P B N dr ops Q k o rest F V L:=h
theorem xT (h:GoL P B N dr ops Q k rest F V L):GoL P B N dr ops Q k rest F V L:=h
theorem k_gc (h:GoC P B N c Q k F V L):GoC P B N c Q k F V L:=h
theorem xE (h:AtQ P B N Q k e F V L):AtQ P B N Q k e F V L:=h
theorem k_move {x:Operand} (h:GoW P B N dr ops Q k ⟨d,.move x,ty,pos,af,gd⟩ rest F V L):GoW P B N dr ops Q k ⟨d,.move x,ty,pos,af,gd⟩ rest F V L:=h
theorem k_assign {x:Operand} (h:GoW P B N dr ops Q k ⟨d,.assign x,ty,pos,af,gd⟩ rest F V L):GoW P B N dr ops Q k ⟨d,.assign x,ty,pos,af,gd⟩ rest F V L:=h
theorem k_pick {x y z:Operand} (h:GoW P B N dr ops Q k ⟨d,.pick x y z,ty,pos,af,gd⟩ rest F V L):GoW P B N dr ops Q k ⟨d,.pick x y z,ty,pos,af,gd⟩ rest F V L:=h
theorem k_alloc {T:TypeId} (h:GoW P B N dr ops Q k ⟨d,.alloc T,ty,pos,af,gd⟩ rest F V L):GoW P B N dr ops Q k ⟨d,.alloc T,ty,pos,af,gd⟩ rest F V L:=h
theorem k_box {T:TypeId} {x:Operand} (h:GoW P B N dr ops Q k ⟨d,.box T x,ty,pos,af,gd⟩ rest F V L):GoW P B N dr ops Q k ⟨d,.box T x,ty,pos,af,gd⟩ rest F V L:=h
theorem k_build {T:TypeId} {ps:Array (Nat×Operand)} (h:GoW P B N dr ops Q k ⟨d,.build T ps,ty,pos,af,gd⟩ rest F V L):GoW P B N dr ops Q k ⟨d,.build T ps,ty,pos,af,gd⟩ rest F V L:=h
theorem dC {T n:Nat} {ps:Array (Nat×Operand)} (h:GoW P B N dr ops Q k ⟨d,.buildSlice T n ps,ty,pos,af,gd⟩ rest F V L):GoW P B N dr ops Q k ⟨d,.buildSlice T n ps,ty,pos,af,gd⟩ rest F V L:=h
theorem dA {T:TypeId} {x:Operand} (h:GoW P B N dr ops Q k ⟨d,.load T x,ty,pos,af,gd⟩ rest F V L):GoW P B N dr ops Q k ⟨d,.load T x,ty,pos,af,gd⟩ rest F V L:=h
theorem cY {T:TypeId} {x y:Operand} (h:GoW P B N dr ops Q k ⟨d,.store T x y,ty,pos,af,gd⟩ rest F V L):GoW P B N dr ops Q k ⟨d,.store T x y,ty,pos,af,gd⟩ rest F V L:=h
theorem k_nilCheck {x:Operand} (h:GoW P B N dr ops Q k ⟨d,.nilCheck x,ty,pos,af,gd⟩ rest F V L):GoW P B N dr ops Q k ⟨d,.nilCheck x,ty,pos,af,gd⟩ rest F V L:=h
theorem bK {b:BinOp} {T T2:TypeId} {x y:Operand} (h:GoW P B N dr ops Q k ⟨d,.binOp b T x y T2,ty,pos,af,gd⟩ rest F V L):GoW P B N dr ops Q k ⟨d,.binOp b T x y T2,ty,pos,af,gd⟩ rest F V L:=h
theorem k_unOp {u:UnOp} {T:TypeId} {x:Operand} (h:GoW P B N dr ops Q k ⟨d,.unOp u T x,ty,pos,af,gd⟩ rest F V L):GoW P B N dr ops Q k ⟨d,.unOp u T x,ty,pos,af,gd⟩ rest F V L:=h
theorem nQ {T T2:TypeId} {x:Operand} (h:GoW P B N dr ops Q k ⟨d,.convert T T2 x,ty,pos,af,gd⟩ rest F V L):GoW P B N dr ops Q k ⟨d,.convert T T2 x,ty,pos,af,gd⟩ rest F V L:=h
theorem k_makeInterface {T:TypeId} {x:Operand} (h:GoW P B N dr ops Q k ⟨d,.makeInterface T x,ty,pos,af,gd⟩ rest F V L):GoW P B N dr ops Q k ⟨d,.makeInterface T x,ty,pos,af,gd⟩ rest F V L:=h
theorem k_makeFunc {f:Go.Fn} {x y:Array Operand} (h:GoW P B N dr ops Q k ⟨d,.makeFunc f x y,ty,pos,af,gd⟩ rest F V L):GoW P B N dr ops Q k ⟨d,.makeFunc f x y,ty,pos,af,gd⟩ rest F V L:=h
theorem k_makeMap {T:TypeId} {x:Option Operand} (h:GoW P B N dr ops Q k ⟨d,.makeMap T x,ty,pos,af,gd⟩ rest F V L):GoW P B N dr ops Q k ⟨d,.makeMap T x,ty,pos,af,gd⟩ rest F V L:=h
theorem k_makeSlice {T:TypeId} {x y:Operand} (h:GoW P B N dr ops Q k ⟨d,.makeSlice T x y,ty,pos,af,gd⟩ rest F V L):GoW P B N dr ops Q k ⟨d,.makeSlice T x y,ty,pos,af,gd⟩ rest F V L:=h
theorem fW {T:TypeId} {x:Operand} {l u m:Option Operand} (h:GoW P B N dr ops Q k ⟨d,.slice T x l u m,ty,pos,af,gd⟩ rest F V L):GoW P B N dr ops Q k ⟨d,.slice T x l u m,ty,pos,af,gd⟩ rest F V L:=h
theorem k_fieldAddr {T:TypeId} {x:Operand} {n:Nat} (h:GoW P B N dr ops Q k ⟨d,.fieldAddr T x n,ty,pos,af,gd⟩ rest F V L):GoW P B N dr ops Q k ⟨d,.fieldAddr T x n,ty,pos,af,gd⟩ rest F V L:=h
theorem bH {T:TypeId} {x y:Operand} (h:GoW P B N dr ops Q k ⟨d,.indexAddr T x y,ty,pos,af,gd⟩ rest F V L):GoW P B N dr ops Q k ⟨d,.indexAddr T x y,ty,pos,af,gd⟩ rest F V L:=h
theorem iL {T:TypeId} {x y:Operand} (h:GoW P B N dr ops Q k ⟨d,.index T x y,ty,pos,af,gd⟩ rest F V L):GoW P B N dr ops Q k ⟨d,.index T x y,ty,pos,af,gd⟩ rest F V L:=h
theorem mU {T:TypeId} {x y:Operand} {b:Bool} (h:GoW P B N dr ops Q k ⟨d,.lookup T x y b,ty,pos,af,gd⟩ rest F V L):GoW P B N dr ops Q k ⟨d,.lookup T x y b,ty,pos,af,gd⟩ rest F V L:=h
theorem oP {T:TypeId} {x y z:Operand} (h:GoW P B N dr ops Q k ⟨d,.mapUpdate T x y z,ty,pos,af,gd⟩ rest F V L):GoW P B N dr ops Q k ⟨d,.mapUpdate T x y z,ty,pos,af,gd⟩ rest F V L:=h
theorem k_extract {x:Operand} {n:Nat} (h:GoW P B N dr ops Q k ⟨d,.extract x n,ty,pos,af,gd⟩ rest F V L):GoW P B N dr ops Q k ⟨d,.extract x n,ty,pos,af,gd⟩ rest F V L:=h
theorem aC {c:Call} (h:GoW P B N dr ops Q k ⟨d,.call c,ty,pos,af,gd⟩ rest F V L):GoW P B N dr ops Q k ⟨d,.call c,ty,pos,af,gd⟩ rest F V L:=h
end
end
section

def fH (V:aE) (sz:Nat) (A:Option Addr) (n:Nat) (cs:List Value):Prop :=
  cs.length=n * sz∧(0<n→∃ b off,A=some ⟨b,off,none⟩∧aD V b off cs)
theorem fH.le {V V':aE} {sz n:Nat} {A:Option Addr} {cs:List Value} (h:fH V sz A n cs) (hv:VLe V V'):fH V' sz A n cs :=
  ⟨h.1,fun hn=>let ⟨b,off,ha,hc⟩:=h.2 hn;⟨b,off,ha,hc.le hv⟩⟩
theorem fH.nil {V:aE} {sz:Nat} {A:Option Addr}:fH V sz A 0 []:=⟨by simp,fun h=>absurd h (by omega)⟩

def eD (V:aE) (A:Option Addr) (n:Nat) (xs:List Int):Prop:=xs.length=n∧n≤maxLen∧fH V 1 A n (xs.map (.int .i64))
theorem eD.le {V V':aE} {n:Nat} {A:Option Addr} {xs:List Int} (h:eD V A n xs) (hv:VLe V V'):eD V' A n xs:=⟨h.1,h.2.1,h.2.2.le hv⟩
theorem eD.nil {V:aE} {A:Option Addr}:eD V A 0 []:=⟨rfl,Nat.zero_le _,fH.nil⟩
theorem eD.max {V:aE} {n:Nat} {A:Option Addr} {xs:List Int} (h:eD V A n xs):n≤9223372036854775807:=by
  have:=h.2.1;unfold maxLen at this;omega
theorem eD.at_ {V:aE} {n k:Nat} {A:Option Addr} {xs:List Int} (h:eD V A n xs) (hk:k<n):∃ b off z,A=some ⟨b,off,none⟩∧xs[k]?=some z∧V ⟨b,off+k * 1,none⟩=some (.int .i64 z):=by
  obtain⟨h1,_,_,h3⟩:=h
  obtain⟨b,off,ha,hc⟩:=h3 (by omega)
  have hx:xs[k]?=some (xs[k]'(by omega)):=List.getElem?_eq_getElem (by omega)
  exact⟨b,off,_,ha,hx,by rw [Nat.mul_one];exact hc k _ (by rw [List.getElem?_map,hx];rfl)⟩
end
section

theorem addr_add (b off k:Nat):(⟨b,off,none⟩:Addr).add k=⟨b,off+k,none⟩:=by unfold Addr.add;split<;>simp_all

def uB (w:World) (size:Nat) (A:Option Addr) (n:Nat) (cs:List Value):Prop :=
  cs.length=n * size∧(0<n→∃ b off,A=some ⟨b,off,none⟩∧∀ j u,cs[j]?=some u→w.cell? ⟨b,off+j,none⟩=some u)

theorem jB.cells {w:World} {A:Option Addr} {n:Nat} {xs:List Int} (h:jB w A n xs):uB w 1 A n (xs.map (.int .i64)):=by
  obtain⟨hl,hm,hc⟩:=h
  refine⟨by simp [hl],fun hn=>?_⟩
  obtain⟨b,off,ha,hz⟩:=hc hn
  refine⟨b,off,ha,fun j u hu=>?_⟩
  rw [List.getElem?_map] at hu
  cases hx:xs[j]? with
  | none=>rw [hx] at hu;cases hu
  | some z=>rw [hx] at hu;cases hu;exact hz j z hx
theorem uB.ext {w w':World} {size n:Nat} {A:Option Addr} {cs:List Value} (h:uB w size A n cs) (hx:Ext w w'):uB w' size A n cs :=
  ⟨h.1,fun hn=>by
    obtain⟨b,off,ha,hc⟩:=h.2 hn
    exact⟨b,off,ha,fun j u hu=>hx.kept (hc j u hu)⟩⟩
theorem jB.of_cells {w:World} {A:Option Addr} {n:Nat} {xs:List Int} (h:uB w 1 A n (xs.map (.int .i64))) (hm:n≤maxLen):jB w A n xs:=by
  refine⟨by simpa using h.1,hm,fun hn=>?_⟩
  obtain⟨b,off,ha,hc⟩:=h.2 hn
  exact⟨b,off,ha,fun j z hz=>hc j _ (by rw [List.getElem?_map,hz];rfl)⟩
section
variable {P : Program} (w : World)
theorem run_append_nil (base:Nat) (t ty e:TypeId) (i:TypeInfo) (size:Nat) (ht:P.underlying t=some (.slice e)) (hi:P.info? e=some i)
    (v:Value) (n:Nat) (cs:List Value) (hown:w.ownsRow base e size v n cs) (c:Nat):(Builtin.append_ #[t,t] ty #[v,.slice none 0 c]).run P w=.ok v w:=by
  rcases hown.2 with ⟨rfl,rfl⟩|⟨g,cap,cur,rfl,_,_,hnc,_⟩
  · simp [Builtin.append_,run_underlying ht,sizeOf,typeInfo,hi,Builtin.lenOf,Builtin.firstCells]
  · simp [Builtin.append_,run_underlying ht,sizeOf,typeInfo,hi,Builtin.lenOf,Builtin.firstCells,hnc,storeCells]

theorem run_append_cells (base:Nat) (t ty e:TypeId) (i:TypeInfo) (z:Value) (size bytes:Nat) (ht:P.underlying t=some (.slice e)) (hi:P.info? e=some i) (hz:i.zero=some z)
    (hsize:i.size=size) (hby:i.bytes=bytes) (hzs:z.cells.size=size) (hsz:0<size)
    (v:Value) (n:Nat) (xs:List Value) (hown:w.ownsRow base e size v n xs)
    (A:Option Addr) (m c:Nat) (news:List Value) (hr:uB w size A m news) (h1:∀ u∈news,u.oneCell'=true)
    (h63:n+m≤maxLen) (hbytes:(n+m) * bytes≤140737488355328) (hbase:base≤w.heap.size) :
    ∃ v' w',(Builtin.append_ #[t,t] ty #[v,.slice A m c]).run P w=.ok v' w'∧w'.ownsRow base e size v' (n+m) (xs ++ news)∧w.grownBy w' v.ownBlock∧(v'.ownBlock=v.ownBlock∨v'.ownBlock=some w.heap.size):=by
  rcases A with _|ad
  · have hm:m=0:=by
      rcases Nat.eq_zero_or_pos m with h0|h0
      · exact h0
      · obtain⟨_,_,h,_⟩:=hr.2 h0;cases h
    subst hm
    have hn:news=[]:=List.eq_nil_of_length_eq_zero (by simpa using hr.1)
    subst hn
    exact⟨v,w,run_append_nil w base t ty e i size ht hi v n xs hown c,by simpa using hown,World.grownBy.refl w _,.inl rfl⟩
  · have hcells:∀ j u,news[j]?=some u→w.cell? (ad.add j)=some u:=by
      intro j u hu
      rcases Nat.eq_zero_or_pos m with h0|h0
      · have hn:news=[]:=List.eq_nil_of_length_eq_zero (by simpa [h0] using hr.1)
        rw [hn] at hu;simp at hu
      · obtain⟨b,off,h,hc⟩:=hr.2 h0
        injection h with h
        subst h
        rw [addr_add]
        exact hc j u hu
    obtain⟨v',w',hrun,h2,h3,_,h5⟩:=run_append_own_at (P:=P) w base t ty e i z size bytes ht hi hz hsize hby hzs hsz v n xs hown ad m c news hr.1 hcells h1 h63 hbytes hbase
    exact⟨v',w',hrun,h2,h3,h5⟩

end
theorem Ext.grown {w x y:World} {row:Option Nat} (h:Ext w x) (hg:x.grownBy y row) (hr:∀ k,row=some k→w.heap.size≤k):Ext w y:=Below.grown h hg h.size hr
end
section

def cX (A:Option Addr) (n c:Nat) (E:TypeId) (sz:Nat) (xs:List Value) (L1:List Box):Prop :=
  xs.length=n * sz∧((L1=[]∧A=none∧n=0∧c=0)∨∃ g cs,A=some ⟨g,0,none⟩∧L1=[⟨g,E,cs⟩]∧n≤c∧c≤maxLen∧cs.length=c * sz∧cs.take (n * sz)=xs)
theorem cX.nil {E sz:Nat}:cX none 0 0 E sz [] []:=⟨by simp,.inl ⟨rfl,rfl,rfl,rfl⟩⟩
structure lT (L L1:List Box) (f:List Box→List Box):Prop where
  h:∃ X Y,L=X ++ (L1 ++ Y)∧∀ l,f l=X ++ (l ++ Y)
theorem eL {L:List Box}:lT L [] (fun l=>l ++ L):=⟨[],L,rfl,fun _=>rfl⟩
theorem repl_one {b:Box} {L:List Box}:lT (b :: L) [b] (fun l=>l ++ L):=⟨[],L,rfl,fun _=>rfl⟩
theorem repl_here {L1 L:List Box}:lT (L1 ++ L) L1 (fun l=>l ++ L):=⟨[],L,rfl,fun _=>rfl⟩
theorem lG {L1:List Box}:lT L1 L1 (fun l=>l):=⟨[],[],by simp,fun _=>by simp⟩
theorem cT {b:Box} {L L1:List Box} {f:List Box→List Box} (h:lT L L1 f):lT (b :: L) L1 (fun l=>b :: f l):=by
  obtain⟨X,Y,h1,h2⟩:=h.h
  exact⟨b :: X,Y,by rw [h1];rfl,fun l=>by rw [h2];rfl⟩
theorem repl_skip {M L L1:List Box} {f:List Box→List Box} (h:lT L L1 f):lT (M ++ L) L1 (fun l=>M ++ f l):=by
  obtain⟨X,Y,h1,h2⟩:=h.h
  exact⟨M ++ X,Y,by rw [h1,List.append_assoc],fun l=>by rw [h2,List.append_assoc]⟩

section
variable {P : Program} {B : Base} {N : Nat} {Q : Exit → Act → World → Prop} {k : List kC} {F : List (Nat × Value)} {V : aE} {L : List Box} {w : World}
variable {d : Nat} {ty : TypeId} {pos : String} {af : Array Edge} {gd : Option (Nat × Bool)} {x y : Operand} {T : TypeId} {ops : Array Oper} {rest : List Oper}
theorem cX.owns {A:Option Addr} {n c E sz:Nat} {xs:List Value} {L1:List Box} (h:cX A n c E sz xs L1) (hs:St B V L w) (hm:∀ b∈L1,b∈L):w.ownsRow 0 E sz (.slice A n c) n xs:=by
  obtain⟨h1,h|h⟩:=h
  · obtain⟨rfl,rfl,rfl,rfl⟩:=h
    exact⟨h1,.inl ⟨rfl,rfl⟩⟩
  · obtain⟨g,cs,rfl,rfl,h2,h3,h4,h5⟩:=h
    have ho:=hs.own ⟨g,E,cs⟩ (hm _ (by simp))
    exact⟨h1,.inr ⟨g,c,cs.toArray,rfl,Nat.zero_le _,ho.1,h2,h3,by simpa using h4,by simpa using h5⟩⟩
theorem isOne_cell {v:Value} (h:jF v=true):v.oneCell'=true:=by cases v<;>simp_all [jF,Value.oneCell']
theorem St.grown {w':World} {A:Option Addr} {n c n' E sz:Nat} {v':Value} {xs xs':List Value} {L1 X Y:List Box} (hs:St B V (X ++ (L1 ++ Y)) w) (h:cX A n c E sz xs L1) (hg:w.grownBy w' (Value.slice A n c).ownBlock) (ho:w'.ownsRow 0 E sz v' n' xs')
    (hat:v'.ownBlock=(Value.slice A n c).ownBlock∨v'.ownBlock=some w.heap.size):∃ A' c' L1',v'=.slice A' n' c'∧cX A' n' c' E sz xs' L1'∧St B V (X ++ (L1' ++ Y)) w':=by
  -- the row's block, if there is one, is in L1
  have hrow:∀ g,(Value.slice A n c).ownBlock=some g→∃ cs,L1=[⟨g,E,cs⟩]:=by
    intro g hgr
    rcases h.2 with ⟨_,rfl,_,_⟩|⟨g',cs,rfl,rfl,_⟩
    · simp [Value.ownBlock] at hgr
    · simp [Value.ownBlock] at hgr;subst hgr;exact⟨cs,rfl⟩
  have hlow:∀ g,(Value.slice A n c).ownBlock=some g→(B.w.heap.size≤g∨g∈B.fl):=by
    intro g hgr
    obtain⟨cs,rfl⟩:=hrow g hgr
    exact(hs.own ⟨g,E,cs⟩ (by simp)).2
  have hnd:=hs.nodup
  have hkeep:∀ p x,V p=some x→w'.cell? p=some x:=by
    intro p x hp
    obtain⟨h1,h2⟩:=hs.view p x hp
    rw [World.cell?_of_block (hg.block p.block (World.block_lt_of_cell? w p h1) (fun e=>?_))]
    · exact h1
    · obtain⟨cs,rfl⟩:=hrow p.block e.symm
      exact h2 ⟨p.block,E,cs⟩ (by simp) rfl
  have hother:∀ b,b∈X∨b∈Y→w'.heap[b.g]?=some (b.t.obj b.cs)∧(B.w.heap.size≤b.g∨b.g∈B.fl):=by
    intro b hb
    have hbm:b∈X ++ (L1 ++ Y):=by rcases hb with hb|hb<;>simp [hb]
    have hob:=hs.own b hbm
    refine⟨?_,hob.2⟩
    rw [hg.block b.g (hs.lt hbm) (fun e=>?_)]
    · exact hob.1
    · obtain⟨cs,rfl⟩:=hrow b.g e.symm
      simp only [List.map_append,List.map_cons,List.map_nil] at hnd
      rw [List.nodup_append] at hnd
      obtain⟨_,h2,h3⟩:=hnd
      rcases hb with hb|hb
      · exact h3 b.g (List.mem_map_of_mem (f:=Box.g) hb) b.g (by simp) rfl
      · simp only [List.cons_append,List.nil_append,List.nodup_cons] at h2
        exact h2.1 (List.mem_map_of_mem (f:=Box.g) hb)
  have hext:Exc B.fl B.w w':=Exc.grown hs.ext hg hlow
  have hndXY:((X ++ Y).map Box.g).Nodup:=List.Nodup.sublist (List.Sublist.map _ (List.Sublist.append (List.Sublist.refl X) (List.sublist_append_right L1 Y))) hnd
  rcases ho.2 with ⟨rfl,rfl⟩|⟨g',cap,cur,rfl,hb,hh,hnc,hcm,hcs,htk⟩
  · refine⟨none,0,[],rfl,⟨ho.1,.inl ⟨rfl,rfl,rfl,rfl⟩⟩,⟨hext,fun p x hp=>⟨hkeep p x hp,fun b hb=>(hs.view p x hp).2 b ?_⟩,hs.old,hs.v0,fun b hb=>hother b ?_,?_⟩⟩
    · simp at hb ⊢;rcases hb with hb|hb<;>simp [hb]
    · simp at hb;exact hb
    · simpa using hndXY
  · have hnew:∀ b,b∈X∨b∈Y→b.g≠g':=by
      intro b hb e
      rcases hat with hat|hat
      · simp [Value.ownBlock] at hat
        have hat':(Value.slice A n c).ownBlock=some g':=hat.symm
        obtain⟨cs,rfl⟩:=hrow g' hat'
        simp only [List.map_append,List.map_cons,List.map_nil] at hnd
        rw [List.nodup_append] at hnd
        obtain⟨_,h2,h3⟩:=hnd
        rcases hb with hb|hb
        · exact h3 b.g (List.mem_map_of_mem (f:=Box.g) hb) g' (by simp) e
        · simp only [List.cons_append,List.nil_append,List.nodup_cons] at h2
          exact h2.1 (e▸List.mem_map_of_mem (f:=Box.g) hb)
      · simp [Value.ownBlock] at hat
        have hbm:b∈X ++ (L1 ++ Y):=by rcases hb with hb|hb<;>simp [hb]
        have:=hs.lt hbm
        omega
    refine⟨some ⟨g',0,none⟩,cap,[⟨g',E,cur.toList⟩],rfl,⟨ho.1,.inr ⟨g',cur.toList,rfl,rfl,hnc,hcm,by simpa using hcs,htk⟩⟩,⟨hext,fun p x hp=>⟨hkeep p x hp,fun b hb=>?_⟩,hs.old,hs.v0,fun b hb=>?_,?_⟩⟩
    · simp at hb
      rcases hb with hb|rfl|hb
      · exact(hs.view p x hp).2 b (by simp [hb])
      · intro e
        simp only [] at e
        obtain⟨h1,h2⟩:=hs.view p x hp
        rcases hat with hat|hat
        · simp [Value.ownBlock] at hat
          obtain⟨cs,rfl⟩:=hrow g' hat.symm
          exact h2 ⟨g',E,cs⟩ (by simp) e
        · simp [Value.ownBlock] at hat
          have:=World.block_lt_of_cell? w p h1
          omega
      · exact(hs.view p x hp).2 b (by simp [hb])
    · simp at hb
      rcases hb with hb|rfl|hb
      · exact hother b (.inl hb)
      · refine⟨by simpa using hh,?_⟩
        rcases hat with hat|hat
        · simp [Value.ownBlock] at hat
          exact hlow g' hat.symm
        · simp [Value.ownBlock] at hat
          exact .inl (by have:=hs.ext.sz;simp only [];omega)
      · exact hother b (.inr hb)
    · simp only [List.map_append,List.map_cons,List.map_nil,List.cons_append,List.nil_append]
      rw [List.map_append,List.nodup_append] at hndXY
      obtain⟨q1,q2,q3⟩:=hndXY
      rw [List.nodup_append]
      refine⟨q1,?_,?_⟩
      · rw [List.nodup_cons]
        exact⟨fun hm=>by obtain⟨b,hb,e⟩:=List.mem_map.1 hm;exact hnew b (.inr hb) e,q2⟩
      · intro a ha b hb e
        rcases List.mem_cons.1 hb with rfl|hb
        · obtain⟨b',hb',e'⟩:=List.mem_map.1 ha;exact hnew b' (.inl hb') (e'.trans e)
        · exact q3 a ha b hb e

class tT (P:Program) (E:TypeId) (sz bytes:outParam Nat):Prop where
  h:∃ i z,P.info? E=some i∧i.zero=some z∧i.size=sz∧i.bytes=bytes∧z.cells.size=sz
def bU (B:Base) (V:aE) (L:List Box) (sz:Nat) (A:Option Addr) (m:Nat) (news:List Value):Prop:=∀ w,St B V L w→uB w sz A m news
theorem nE {sz m:Nat} {A:Option Addr} {news:List Value} (h:fH V sz A m news):bU B V L sz A m news:=fun w hs =>
  ⟨h.1,fun hm=>let ⟨b,off,ha,hc⟩:=h.2 hm;⟨b,off,ha,fun j u hj=>(hs.view _ u (hc j u hj)).1⟩⟩
theorem fY {sz m g:Nat} {news:List Value} (ho:bF L g news) (hl:news.length=m * sz):bU B V L sz (some ⟨g,0,none⟩) m news:=fun w hs =>
  ⟨hl,fun _=>⟨g,0,rfl,fun j u hj=>by rw [hs.cell ho,Nat.zero_add];exact hj⟩⟩
theorem bQ {dr:iM} (hdr:dr.loud=true) {E sz bytes n c m c2:Nat} {A As:Option Addr} {xs news:List Value} {L1:List Box} (hu:bR P T (.slice E)) (hi:tT P E sz bytes) (hx:evF F x=some (.slice A n c)) (hy:evF F y=some (.slice As m c2)) (hsz:Nat.blt 0 sz=true)
    (hr:cX A n c E sz xs L1) {f:List Box→List Box} (hL:lT L L1 f) (hsrc:bU B V L sz As m news) (h1:∀ u∈news,jF u=true) (h63:n+m≤1000000000) (hby:Nat.ble bytes 100000=true) (hd:okD N (some d)=true)
    (h:∀ A' c' L1',cX A' (n+m) c' E sz (xs ++ news) L1'→GoL P B N dr ops Q k rest ((d,.slice A' (n+m) c') :: F) V (f L1')):GoW P B N dr ops Q k ⟨some d,.call ⟨.builtin .append,#[x,y],#[T,T]⟩,ty,pos,af,gd⟩ rest F V L:=iI hdr fun a w ha hs=>by
  obtain⟨i,z,hinfo,hz,e1,e2,e3⟩:=hi.h
  obtain⟨X,Y,hX,hf⟩:=hL.h
  have hbytes:(n+m) * bytes≤140737488355328:=by
    have hb:=Nat.le_of_ble_eq_true hby
    exact Nat.le_trans (Nat.mul_le_mul h63 hb) (by omega)
  have hown:=hr.owns hs (fun b hb=>by rw [hX];simp [hb])
  have hsz':0<sz:=by simpa [Nat.blt_eq] using hsz
  obtain⟨v',w',hrun,ho,hg,hat⟩:=run_append_cells (P:=P) w 0 T ty E i z sz bytes hu.u hinfo hz e1 e2 e3 hsz' (.slice A n c) n xs hown As m c2 news (hsrc w hs) (fun u hu'=>isOne_cell (h1 u hu')) (by simp only [maxLen];omega) hbytes (Nat.zero_le _)
  subst hX
  obtain⟨A',c',L1',rfl,hr',hs'⟩:=hs.grown hr hg ho hat
  refine jY (w':=w') (v:=.slice A' (n+m) c') ?_ (fQ hdr (h A' c' L1' hr') _ w' (ha.put hd _) (by rw [hf];exact hs'))
  have hrun':(Builtin.append_ #[T,T] ty #[.slice A n c,.slice As m c2]).run P w=.ok (.slice A' (n+m) c') w':=hrun
  simp [execOp,ha.ev hx,ha.ev hy,resolve,invoke,builtin,hrun']
theorem St.shut {A:Option Addr} {n c E sz:Nat} {xs:List Value} {L1:List Box} {f:List Box→List Box} (hs:St B V L w) (h:cX A n c E sz xs L1) (hL:lT L L1 f) (hfl:∀ x∈B.fl,∃ cs,bF (f []) x cs):∃ V',VLe V V'∧fH V' sz A n xs∧St B V' (f []) w:=by
  obtain⟨X,Y,hX,hf⟩:=hL.h
  rcases h.2 with ⟨rfl,rfl,rfl,rfl⟩|⟨g,cs,rfl,rfl,h2,h3,h4,h5⟩
  · refine⟨V,VLe.refl V,⟨h.1,fun h=>absurd h (by omega)⟩,?_⟩
    rw [hf,←hX];exact hs
  · have hd:∀ X Y:List Box,gB (X ++ ([⟨g,E,cs⟩] ++ Y)) g cs (X ++ ([] ++ Y)):=by
      intro X Y
      induction X with
      | nil=>exact .here g E cs Y
      | cons b X ih=>exact .next b _ g cs _ ih
    obtain⟨V',q1,q2,q3⟩:=hs.retire (hX▸hd X Y) (by rw [hf] at hfl;exact hfl)
    refine⟨V',q1,⟨h.1,fun _=>⟨g,0,rfl,fun j v hj=>?_⟩⟩,by rw [hf];exact q3⟩
    rw [←h5,List.getElem?_take] at hj
    split at hj
    · exact q2 j v hj
    · cases hj
theorem gl_shut {dr:iM} (hdr:dr.loud=true) {A:Option Addr} {n c E sz:Nat} {xs:List Value} {L1:List Box} {f:List Box→List Box} (h:cX A n c E sz xs L1) (hL:lT L L1 f) {l:List Oper} (hK:∀ V',VLe V V'→fH V' sz A n xs→GoL P B N dr ops Q k l F V' (f [])) (hfl:∀ x∈B.fl,∃ cs,bF (f []) x cs:=by simp):GoL P B N dr ops Q k l F V L:=gl_mk hdr fun a w ha hs=>by
  obtain⟨V',h1,h2,h3⟩:=hs.shut h hL hfl
  exact fQ hdr (hK V' h1 h2) a w ha h3
theorem rG {A:Option Addr} {n c E sz:Nat} {xs:List Value} {L1:List Box} {f:List Box→List Box} (h:cX A n c E sz xs L1) (hL:lT L L1 f) {c':Code} (hK:∀ V',VLe V V'→fH V' sz A n xs→GoC P B N c' Q k F V' (f [])) (hfl:∀ x∈B.fl,∃ cs,bF (f []) x cs:=by simp):GoC P B N c' Q k F V L:=fun a w ha hs=>by
  obtain⟨V',h1,h2,h3⟩:=hs.shut h hL hfl
  exact hK V' h1 h2 a w ha h3
theorem iJ {e:Exit} {A:Option Addr} {n c E sz:Nat} {xs:List Value} {L1:List Box} {f:List Box→List Box} (h:cX A n c E sz xs L1) (hL:lT L L1 f) (hK:∀ V',VLe V V'→fH V' sz A n xs→AtQ P B N Q k e F V' (f [])) (hfl:∀ x∈B.fl,∃ cs,bF (f []) x cs:=by simp):AtQ P B N Q k e F V L:=fun a w ha hs=>by
  obtain⟨V',h1,h2,h3⟩:=hs.shut h hL hfl
  exact hK V' h1 h2 a w ha h3
end
end
section

def fB {α:Type} (V:aE) (sz:Nat) (f:α→List Value) (A:Option Addr) (n:Nat) (xs:List α):Prop :=
  xs.length=n∧n≤maxLen∧(0<n→∃ b off,A=some ⟨b,off,none⟩∧∀ k x,xs[k]?=some x→aD V b (off+k * sz) (f x))
section
variable {α : Type} {V V' : aE} {sz n : Nat} {f : α → List Value} {A : Option Addr} {xs : List α}
theorem fB.le (h:fB V sz f A n xs) (hv:VLe V V'):fB V' sz f A n xs:=⟨h.1,h.2.1,fun hn=>let ⟨b,off,ha,hc⟩:=h.2.2 hn;⟨b,off,ha,fun k x hk=>(hc k x hk).le hv⟩⟩
theorem fB.nil:fB V sz f A 0 []:=⟨rfl,Nat.zero_le _,fun h=>absurd h (by omega)⟩
theorem fB.max (h:fB V sz f A n xs):n≤9223372036854775807:=by
  have:=h.2.1;unfold maxLen at this;omega
theorem fB.at_ (h:fB V sz f A n xs) {k:Nat} (hk:k<n):∃ b off x,A=some ⟨b,off,none⟩∧xs[k]?=some x∧aD V b (off+k * sz) (f x):=by
  obtain⟨h1,_,h3⟩:=h
  obtain⟨b,off,ha,hc⟩:=h3 (by omega)
  have hx:xs[k]?=some (xs[k]'(by omega)):=List.getElem?_eq_getElem (by omega)
  exact⟨b,off,_,ha,hx,hc k _ hx⟩
theorem flat_at (f:α→List Value) (hf:∀ x,(f x).length=sz):∀ (xs:List α) (k j:Nat) (x:α) (v:Value),xs[k]?=some x→(f x)[j]?=some v→(xs.flatMap f)[k * sz+j]?=some v
  | [],_,_,_,_,h,_=>by simp at h
  | y :: xs,0,j,x,v,h,hv=>by
    simp at h;subst h
    have hj:j<(f y).length:=by
      rcases Nat.lt_or_ge j (f y).length with h|h
      · exact h
      · rw [List.getElem?_eq_none h] at hv;cases hv
    rw [List.flatMap_cons,Nat.zero_mul,Nat.zero_add,List.getElem?_append_left hj];exact hv
  | y :: xs,k+1,j,x,v,h,hv=>by
    have:=flat_at f hf xs k j x v (by simpa using h) hv
    rw [List.flatMap_cons,List.getElem?_append_right (by rw [hf];rw [Nat.succ_mul];omega),hf,show (k+1) * sz+j - sz=k * sz+j by rw [Nat.succ_mul];omega]
    exact this
theorem eU (f:α→List Value) (hf:∀ x,(f x).length=sz) (xs:List α):(xs.flatMap f).length=xs.length * sz:=by
  induction xs with
  | nil=>simp
  | cons y xs ih=>rw [List.flatMap_cons,List.length_append,hf,ih,List.length_cons,Nat.succ_mul];omega
theorem flat_inv (f:α→List Value) (hf:∀ x,(f x).length=sz):∀ (xs:List α) (i:Nat) (v:Value),(xs.flatMap f)[i]?=some v→∃ k j x,i=k * sz+j∧xs[k]?=some x∧(f x)[j]?=some v
  | [],i,v,h=>by simp at h
  | y :: xs,i,v,h=>by
    rw [List.flatMap_cons] at h
    rcases Nat.lt_or_ge i sz with hi|hi
    · rw [List.getElem?_append_left (by rw [hf];exact hi)] at h
      exact⟨0,i,y,by omega,rfl,h⟩
    · rw [List.getElem?_append_right (by rw [hf];exact hi),hf] at h
      obtain⟨k,j,x,h1,h2,h3⟩:=flat_inv f hf xs (i - sz) v h
      exact⟨k+1,j,x,by rw [Nat.succ_mul];omega,by simpa using h2,h3⟩
theorem fB.cells (h:fB V sz f A n xs) (hf:∀ x,(f x).length=sz):fH V sz A n (xs.flatMap f):=by
  obtain⟨h1,_,h3⟩:=h
  refine⟨by rw [eU f hf,h1],fun hn=>?_⟩
  obtain⟨b,off,ha,hc⟩:=h3 hn
  refine⟨b,off,ha,fun i v hi=>?_⟩
  obtain⟨k,j,x,rfl,hx,hv⟩:=flat_inv f hf xs i v hi
  have:=hc k x hx j v hv
  rw [show off+(k * sz+j)=off+k * sz+j by omega];exact this
theorem fB.of_cells (h:fH V sz A n (xs.flatMap f)) (hf:∀ x,(f x).length=sz) (hl:xs.length=n) (hm:n≤maxLen):fB V sz f A n xs:=by
  refine⟨hl,hm,fun hn=>?_⟩
  obtain⟨b,off,ha,hc⟩:=h.2 hn
  refine⟨b,off,ha,fun k x hx j v hv=>?_⟩
  have:=hc (k * sz+j) v (flat_at f hf xs k j x v hx hv)
  rw [show off+k * sz+j=off+(k * sz+j) by omega];exact this
theorem fB.take (h:fB V sz f A n xs) {k:Nat} (hk:k≤n):fB V sz f A k (xs.take k):=by
  refine⟨by rw [List.length_take,h.1];omega,Nat.le_trans hk h.2.1,fun hn=>?_⟩
  obtain⟨b,off,ha,hc⟩:=h.2.2 (by omega)
  refine⟨b,off,ha,fun j x hj=>hc j x ?_⟩
  rw [List.getElem?_take] at hj
  split at hj
  · exact hj
  · cases hj
theorem fB.drop (h:fB V sz f A n xs) {k c:Nat} (hk:k≤n) (hc':n≤c):fB V sz f (pX A c k sz) (n - k) (xs.drop k):=by
  refine⟨by rw [List.length_drop,h.1],Nat.le_trans (Nat.sub_le _ _) h.2.1,fun hn=>?_⟩
  obtain⟨b,off,ha,hc⟩:=h.2.2 (by omega)
  refine⟨b,off+k * sz,?_,fun j x hj=>?_⟩
  · unfold pX
    rw [if_neg (by omega),ha]
    simp [iT]
  · rw [List.getElem?_drop] at hj
    have:=hc (k+j) x hj
    rw [show off+k * sz+j * sz=off+(k+j) * sz by rw [Nat.add_mul];omega];exact this
theorem cX.cap {A:Option Addr} {n c E sz:Nat} {xs:List Value} {L1:List Box} (h:cX A n c E sz xs L1):n≤c:=by
  rcases h.2 with ⟨_,_,rfl,_⟩|⟨_,_,_,_,h,_⟩
  · omega
  · exact h
theorem map_flat {α:Type} (g:α→Value):∀ xs:List α,xs.map g=xs.flatMap (fun z=>[g z])
  | []=>rfl
  | x :: xs=>by rw [List.map_cons,List.flatMap_cons,map_flat g xs];rfl
end
end
section

@[ext] structure PA where
  n:ByteArray
  v:ByteArray
instance : DecidableEq PA := fun a b => decidable_of_iff (a.n = b.n ∧ a.v = b.v) ⟨fun ⟨h1, h2⟩ => PA.ext h1 h2, fun h => by subst h; exact ⟨rfl, rfl⟩⟩
abbrev paC (a:PA):List Value:=[.string a.n,.string a.v]
abbrev AttrsV (V:aE) (A:Option Addr) (n:Nat) (xs:List PA):Prop:=fB V 2 paC A n xs
def eV (s:ByteArray):Int :=
  if 2≤s.size∧fS (s.toList.drop 2)=true then (if s.toList.take 2=[117,46] then 1 else if s.toList.take 2=[116,46] then 2 else 0) else 0
def aF (prev:Option ByteArray):List PA→Int
  | []=>0
  | a :: l=>if eV a.n=0 then 4 else if 20<a.v.size then 1 else if (∃ y,prev=some y∧¬y.toList<a.n.toList) then 3 else aF (some a.n) l
def fJ (xs:List PA):Int:=if 4<xs.length then 2 else aF none xs
def prevA (xs:List PA) (k:Nat):Option ByteArray:=if k=0 then none else (xs[k - 1]?).map PA.n
theorem prevA_pos {xs:List PA} {k:Nat} (h:¬k=0):prevA xs k=(xs[k - 1]?).map PA.n:=if_neg h
theorem prevA_succ {xs:List PA} {k:Nat}:prevA xs (k+1)=(xs[k]?).map PA.n:=by rw [prevA,if_neg (by omega)];rfl
theorem aF_name {p:Option ByteArray} {a:PA} {l:List PA} (h:eV a.n=0):aF p (a :: l)=4:=by rw [aF,if_pos h]
theorem aF_big {p:Option ByteArray} {a:PA} {l:List PA} (h:¬eV a.n=0) (h2:20<a.v.size):aF p (a :: l)=1:=by rw [aF,if_neg h,if_pos h2]
theorem aF_down {y:ByteArray} {a:PA} {l:List PA} (h:¬eV a.n=0) (h2:¬20<a.v.size) (h3:¬y.toList<a.n.toList):aF (some y) (a :: l)=3:=by rw [aF,if_neg h,if_neg h2,if_pos ⟨y,rfl,h3⟩]
theorem aF_on {y:ByteArray} {a:PA} {l:List PA} (h:¬eV a.n=0) (h2:¬20<a.v.size) (h3:y.toList<a.n.toList):aF (some y) (a :: l)=aF (some a.n) l:=by
  rw [aF,if_neg h,if_neg h2,if_neg (by rintro ⟨z,hz,hl⟩;injection hz with hz;subst hz;exact hl h3)]
theorem aF_first {a:PA} {l:List PA} (h:¬eV a.n=0) (h2:¬20<a.v.size):aF none (a :: l)=aF (some a.n) l:=by
  rw [aF,if_neg h,if_neg h2,if_neg (by rintro ⟨z,hz,hl⟩;cases hz)]
theorem aF_bd:∀ (l:List PA) (p:Option ByteArray),0≤aF p l∧aF p l≤4
  | [],_=>by simp [aF]
  | a :: l,p=>by
    rw [aF]
    (repeat' split)<;>first|omega|exact aF_bd l _
theorem rY (xs:List PA):0≤fJ xs∧fJ xs≤4:=by
  unfold fJ;split
  · omega
  · exact aF_bd xs _

theorem pP {a b c:List UInt8} (h:a<b) (k:b<c):a<c:=List.lt_trans h k
theorem lt_irr (a:List UInt8):¬a<a:=List.lt_irrefl a
theorem lt_tri (a b:ByteArray) (h:¬a.toList<b.toList) (h2:¬a=b):b.toList<a.toList:=by
  rcases List.le_iff_lt_or_eq.1 (show b.toList≤a.toList from h) with h3|h3
  · exact h3
  · exact absurd (str_ext h3.symm) h2
def ltA (a b:PA):Prop:=a.n.toList<b.n.toList
theorem aF_rises:∀ (l:List PA) (p:Option ByteArray),aF p l=0→l.Pairwise ltA∧(∀ a∈l,¬eV a.n=0∧a.v.size≤20)∧∀ y,p=some y→∀ a∈l,y.toList<a.n.toList
  | [],_,_=>by simp
  | a :: l,p,h=>by
    rw [aF] at h
    split at h
    · omega
    · rename_i h1
      split at h
      · omega
      · rename_i h2
        split at h
        · omega
        · rename_i h3
          obtain⟨q1,q2,q3⟩:=aF_rises l _ h
          refine⟨List.pairwise_cons.2 ⟨fun b hb=>q3 a.n rfl b hb,q1⟩,fun b hb=>?_,fun y hy b hb=>?_⟩
          · rcases List.mem_cons.1 hb with rfl|hb
            · exact⟨h1,by omega⟩
            · exact q2 b hb
          · have hya:y.toList<a.n.toList:=by
              apply Classical.byContradiction;intro hn;exact h3 ⟨y,hy,hn⟩
            rcases List.mem_cons.1 hb with rfl|hb
            · exact hya
            · exact pP hya (q3 a.n rfl b hb)
theorem qZ {xs:List PA} (h:fJ xs=0):xs.length≤4∧xs.Pairwise ltA∧∀ a∈xs,¬eV a.n=0∧a.v.size≤20:=by
  unfold fJ at h
  split at h
  · omega
  · obtain⟨a,b,_⟩:=aF_rises xs none h
    exact⟨by omega,a,b⟩
def atA (nm:ByteArray):List PA→Nat
  | []=>0
  | a :: l=>if a.n.toList<nm.toList then atA nm l+1 else 0
def isA (nm:ByteArray) (xs:List PA):Prop:=∃ a∈xs,a.n=nm
theorem atA_le (nm:ByteArray):∀ xs:List PA,atA nm xs≤xs.length
  | []=>Nat.le_refl _
  | a :: l=>by
    rw [atA];split
    · have:=atA_le nm l;simp;omega
    · simp
theorem wQ {nm:ByteArray}:∀ {xs:List PA} {j:Nat} {a:PA},j<atA nm xs→xs[j]?=some a→a.n.toList<nm.toList
  | [],j,a,h,_=>by simp [atA] at h
  | b :: l,j,a,h,hj=>by
    rw [atA] at h
    split at h
    · rename_i hb
      cases j with
      | zero=>simp at hj;subst hj;exact hb
      | succ j=>exact wQ (xs:=l) (j:=j) (by omega) (by simpa using hj)
    · omega
theorem wM {nm:ByteArray}:∀ {xs:List PA} {j:Nat} {a:PA},xs.Pairwise ltA→atA nm xs≤j→xs[j]?=some a→¬a.n.toList<nm.toList
  | [],j,a,_,_,hj=>by simp at hj
  | b :: l,j,a,hp,h,hj=>by
    rw [List.pairwise_cons] at hp
    rw [atA] at h
    split at h
    · rename_i hb
      cases j with
      | zero=>omega
      | succ j=>exact wM (xs:=l) (j:=j) hp.2 (by omega) (by simpa using hj)
    · rename_i hb
      cases j with
      | zero=>simp at hj;subst hj;exact hb
      | succ j =>
        have hm:a∈l:=List.mem_of_getElem? (by simpa using hj)
        exact fun hlt=>hb (pP (hp.1 a hm) hlt)
theorem atA_of {nm:ByteArray} {xs:List PA} (hp:xs.Pairwise ltA) {k:Nat} (hk:k≤xs.length) (h1:∀ j a,j<k→xs[j]?=some a→a.n.toList<nm.toList) (h2:∀ j a,k≤j→xs[j]?=some a→¬a.n.toList<nm.toList):k=atA nm xs:=by
  have hle:=atA_le nm xs
  rcases Nat.lt_trichotomy k (atA nm xs) with h|h|h
  · have hx:xs[k]?=some (xs[k]'(by omega)):=List.getElem?_eq_getElem (by omega)
    exact absurd (wQ h hx) (h2 k _ (Nat.le_refl _) hx)
  · exact h
  · have hx:xs[atA nm xs]?=some (xs[atA nm xs]'(by omega)):=List.getElem?_eq_getElem (by omega)
    exact absurd (h1 _ _ h hx) (wM hp (Nat.le_refl _) hx)
theorem yB {nm:ByteArray} {xs:List PA} (hp:xs.Pairwise ltA):isA nm xs↔∃ a,xs[atA nm xs]?=some a∧a.n=nm:=by
  constructor
  · rintro ⟨a,ha,rfl⟩
    obtain⟨j,hj,he⟩:=List.mem_iff_getElem.1 ha
    have hx:xs[j]?=some a:=by rw [List.getElem?_eq_getElem hj,he]
    have h1:¬j<atA a.n xs:=fun h=>lt_irr _ (wQ h hx)
    rcases Nat.lt_or_ge (atA a.n xs) j with h|h
    · have hy:xs[atA a.n xs]?=some (xs[atA a.n xs]'(by omega)):=List.getElem?_eq_getElem (by omega)
      have h3:=List.pairwise_iff_getElem.1 hp (atA a.n xs) j (by omega) hj h
      rw [he] at h3
      exact absurd h3 (wM hp (Nat.le_refl _) hy)
    · have:j=atA a.n xs:=by omega
      exact⟨a,this▸hx,rfl⟩
  · rintro ⟨a,ha,rfl⟩
    exact⟨a,List.mem_of_getElem? ha,rfl⟩

def getA (nm:ByteArray) (xs:List PA):ByteArray:=((xs[atA nm xs]?).map PA.v).getD ⟨#[]⟩
noncomputable def mN (xs:List PA) (nm:ByteArray):Int:=open Classical in if ¬fJ xs=0 then fJ xs else if eV nm=0 then 4 else if isA nm xs then 0 else 5
noncomputable def sO (xs:List PA) (nm vl:ByteArray):List PA:=open Classical in xs.take (atA nm xs) ++ ⟨nm,vl⟩ :: xs.drop (if isA nm xs then atA nm xs+1 else atA nm xs)
noncomputable def uO (xs:List PA) (nm vl:ByteArray):Int:=open Classical in if ¬fJ xs=0 then fJ xs else if eV nm=0 then 4 else if 20<vl.size then 1 else if ¬isA nm xs∧xs.length=4 then 2 else 0
def sJ (xs:List PA) (nm:ByteArray):List PA:=xs.take (atA nm xs) ++ xs.drop (atA nm xs+1)
theorem getF_bd (xs:List PA) (nm:ByteArray):0≤mN xs nm∧mN xs nm≤5:=by
  have:=rY xs
  unfold mN;(repeat' split)<;>omega
theorem setF_bd (xs:List PA) (nm vl:ByteArray):0≤uO xs nm vl∧uO xs nm vl≤5:=by
  have:=rY xs
  unfold uO;(repeat' split)<;>omega

theorem split_at (nm:ByteArray) {xs:List PA} (hp:xs.Pairwise ltA):(∀ a∈xs.take (atA nm xs),a.n.toList<nm.toList)∧((isA nm xs∧∃ a,xs.drop (atA nm xs)=a :: xs.drop (atA nm xs+1)∧a.n=nm∧getA nm xs=a.v∧∀ b∈xs.drop (atA nm xs+1),nm.toList<b.n.toList)∨(¬isA nm xs∧∀ b∈xs.drop (atA nm xs),nm.toList<b.n.toList)):=by
  refine⟨fun a ha=>?_,?_⟩
  · obtain⟨j,hj,rfl⟩:=List.mem_iff_getElem.1 ha
    rw [List.length_take] at hj
    rw [List.getElem_take]
    exact wQ (xs:=xs) (j:=j) (by omega) (List.getElem?_eq_getElem (by omega))
  · by_cases hi:isA nm xs
    · refine .inl ⟨hi,?_⟩
      obtain⟨a,ha,hn⟩:=(yB hp).1 hi
      have hd:xs.drop (atA nm xs)=a :: xs.drop (atA nm xs+1):=nV ha
      refine⟨a,hd,hn,by simp [getA,ha],fun b hb=>?_⟩
      have:=hp.sublist (List.drop_sublist (atA nm xs) xs)
      rw [hd,List.pairwise_cons] at this
      have:=this.1 b hb
      unfold ltA at this;rw [hn] at this;exact this
    · refine .inr ⟨hi,fun b hb=>?_⟩
      obtain⟨j,hj,rfl⟩:=List.mem_iff_getElem.1 hb
      rw [List.length_drop] at hj
      rw [List.getElem_drop]
      have hx:xs[atA nm xs+j]?=some (xs[atA nm xs+j]'(by omega)):=List.getElem?_eq_getElem (by omega)
      refine lt_tri _ _ (wM hp (by omega) hx) fun e=>hi ⟨_,List.mem_of_getElem? hx,e⟩
theorem setA_len (nm vl:ByteArray) {xs:List PA} (hp:xs.Pairwise ltA):(isA nm xs→(sO xs nm vl).length=xs.length)∧(¬isA nm xs→(sO xs nm vl).length=xs.length+1):=by
  have hle:=atA_le nm xs
  constructor
  · intro hi
    obtain⟨a,ha,_⟩:=(yB hp).1 hi
    have:atA nm xs<xs.length:=by
      rcases Nat.lt_or_ge (atA nm xs) xs.length with h|h
      · exact h
      · rw [List.getElem?_eq_none h] at ha;cases ha
    unfold sO;rw [if_pos hi];simp;omega
  · intro hi;unfold sO;rw [if_neg hi];simp;omega
end
section

theorem setA_mem {xs:List PA} (hp:xs.Pairwise ltA) (nm vl:ByteArray) (a:PA):a∈sO xs nm vl↔a=⟨nm,vl⟩∨(a∈xs∧¬a.n=nm):=by
  obtain⟨h1,h2⟩:=split_at nm hp
  have hlo:∀ a∈xs.take (atA nm xs),¬a.n=nm:=fun a ha e=>by have:=h1 a ha;rw [e] at this;exact lt_irr _ this
  have e:a∈xs↔a∈xs.take (atA nm xs)∨a∈xs.drop (atA nm xs):=by rw [←List.mem_append,List.take_append_drop]
  rw [e]
  unfold sO
  rcases h2 with ⟨hi,b,hd,hn,hv,hb⟩|⟨hi,hb⟩
  · have hhi:∀ a∈xs.drop (atA nm xs+1),¬a.n=nm:=fun a ha e=>by have:=hb a ha;rw [e] at this;exact lt_irr _ this
    rw [if_pos hi,hd,List.mem_append,List.mem_cons,List.mem_cons]
    constructor
    · rintro (h|h|h)
      · exact .inr ⟨.inl h,hlo a h⟩
      · exact .inl h
      · exact .inr ⟨.inr (.inr h),hhi a h⟩
    · rintro (h|⟨h|h|h,hne⟩)
      · exact .inr (.inl h)
      · exact .inl h
      · subst h;exact absurd hn hne
      · exact .inr (.inr h)
  · have hhi:∀ a∈xs.drop (atA nm xs),¬a.n=nm:=fun a ha e=>by have:=hb a ha;rw [e] at this;exact lt_irr _ this
    rw [if_neg hi,List.mem_append,List.mem_cons]
    constructor
    · rintro (h|h|h)
      · exact .inr ⟨.inl h,hlo a h⟩
      · exact .inl h
      · exact .inr ⟨.inr h,hhi a h⟩
    · rintro (h|⟨h|h,hne⟩)
      · exact .inr (.inl h)
      · exact .inl h
      · exact .inr (.inr h)
theorem dropA_sub (xs:List PA) (nm:ByteArray):(sJ xs nm).Sublist xs:=by
  unfold sJ
  have:(xs.drop (atA nm xs+1)).Sublist (xs.drop (atA nm xs)):=by
    rw [←List.drop_drop];exact List.drop_sublist _ _
  calc (xs.take (atA nm xs) ++ xs.drop (atA nm xs+1)).Sublist (xs.take (atA nm xs) ++ xs.drop (atA nm xs)):=(List.Sublist.refl _).append this
    _=xs:=List.take_append_drop _ _
theorem getF_zero {xs:List PA} {nm:ByteArray} (h:mN xs nm=0):fJ xs=0∧¬eV nm=0∧isA nm xs:=by
  unfold mN at h
  split at h
  · omega
  · rename_i h0
    split at h
    · omega
    · rename_i hc
      split at h
      · rename_i hi;exact⟨Classical.byContradiction h0,hc,hi⟩
      · omega
end
end Go.Proofs.YtejkmomfpidnbacGreat
