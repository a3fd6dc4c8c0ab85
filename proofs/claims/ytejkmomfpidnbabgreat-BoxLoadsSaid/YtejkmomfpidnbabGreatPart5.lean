/- Walks and plain laws, part 5: what functions compute, proved once each (Grow, Lay, PathP, BldE, PathE, PathE2, MergeF, MergeF2, Sort, MergeQ, Map, MergeG, MergeG2, FlatP). -/
import Derived.Test.YtejkmomfpidnbabGreatPart3
import Derived.Test.YtejkmomfpidnbabGreatPart4
import Derived.Lib.Bytealg
import Derived.Test.YtejkmomfpidnbabGreatPart2
import Derived.Lib.MakeNoZero
import Derived.Test.YtejkmomfpidnbabGreatPart1
import Derived.Test.YtejkmomfpidnbabGreatProg
import Derived.Sort.OwnSorted
import Derived.Shelf.Sort.Plain
import Derived.Shelf.Slices.In.SortNone2
import Derived.Sort.KeysCollected
import Derived.MapKept
set_option linter.unusedSimpArgs false
set_option linter.unusedVariables false
set_option maxRecDepth 100000
set_option maxHeartbeats 40000000
namespace Go.Proofs.YtejkmomfpidnbabGreat
open Go.RowKit
section
abbrev sE:=Value→aD→Prop
def vV (Rs:List sE) (j:Nat):sE:=Rs.getD j (fun _ _=>False)
def kQ (l:List Oper) (j:Nat):Nat:=((l[j]?).bind (·.dst)).getD 0
def Deps (l:List Oper) (Rs:List sE) (V':aD):List Nat→(List (Nat×Value)→Prop)→List (Nat×Value)→Prop
  | [],X,F=>X F
  | j :: D,X,F=>∀ v,vV Rs j v V'→Deps l Rs V' D X ((kQ l j,v) :: F)
def waitsB (o:Oper) (j:Nat):Bool:=o.after.any fun e=>Region.binds .any e && Nat.beq e.on j
def depsB (o:Oper) (D:List Nat) (i:Nat):Bool:=D.all fun j=>Nat.blt j i && waitsB o j
def uJ (l:List Oper) (m N:Nat) (F0:List (Nat×Value)):Bool :=
  ((List.range l.length).all fun i=>match l[i]? with|some o=>o.after.all (fun e=>Nat.blt e.on i)|none=>false) &&
  ((List.range m).all fun i=>match (l[i]?).bind (·.dst) with|some d=>Nat.blt d N && (F0.all (fun p=>!Nat.beq p.1 d)) && ((List.range i).all fun j=>!Nat.beq (kQ l j) d)|none=>false)
def usedB (l:List Oper) (m:Nat):Bool:=(List.range m).all fun i=>(List.range l.length).any fun j=>Nat.blt i j && (match l[j]? with|some o=>waitsB o i|none=>false)
theorem waitsB_spec {o:Oper} {j:Nat} (h:waitsB o j=true):∃ e∈o.after,Region.binds .any e=true∧e.on=j:=by
  unfold waitsB at h
  rw [Array.any_eq_true] at h
  obtain⟨i,hi,h⟩:=h
  simp only [Bool.and_eq_true] at h
  exact⟨o.after[i],Array.getElem_mem hi,h.1,Nat.eq_of_beq_eq_true h.2⟩
theorem wp_tmps {P:Program} {o:Oper} {a:Act} {w:World} {K:Act→World→Prop} {Q:Exit→Act→World→Prop} (h:o.wp P a w K Q):o.wp P a w (fun a' w'=>K a' w'∧∃ v,a'.tmps=(a.put o.dst v).tmps) Q:=by
  unfold Oper.wp at *
  generalize (execOp a.eval o).run P w=r at *
  cases r with
  | ok n w' =>
    cases n<;>simp only [Oper.upon] at h ⊢
    case value u=>exact⟨h,u,rfl⟩
    case skip=>exact⟨h,undef,rfl⟩
    case defer d=>exact⟨h,undef,by cases o.dst<;>rfl⟩
    case enter f args =>
      refine Calls.mono h fun e w'' he=>?_
      cases e with
      | returned u=>exact⟨he,u,rfl⟩
      | panicked c=>exact he
      | outgrown=>exact he
    case row row args=>exact Rows.mono h fun u w'' he=>⟨he,u,rfl⟩
  | halt x w' =>
    cases x<;>simp only [Oper.upon] at h ⊢
    case panic u=>exact h
theorem wp_thn {P:Program} {o:Oper} {a:Act} {w:World} {X K:Act→World→Prop} {Q:Exit→Act→World→Prop} {k:List jI} (h:o.wp P a w X (evalQ P Q (.thn K :: k))):o.wp P a w X (evalQ P Q k):=by
  unfold Oper.wp at *
  generalize (execOp a.eval o).run P w=r at *
  cases r with
  | ok n w' =>
    cases n<;>simp only [Oper.upon] at h ⊢
    case value u=>exact h
    case skip=>exact h
    case defer d=>exact h
    case enter f args =>
      refine Calls.mono h fun e w'' he=>?_
      cases e with
      | returned u=>exact he
      | panicked c=>exact he
      | outgrown=>exact he
    case row row args=>exact h
  | halt x w' =>
    cases x<;>simp only [Oper.upon] at h ⊢
    case panic u=>exact h
theorem Kn.cons {N:Nat} {F:List (Nat×Value)} {a:Act} {t:Nat} {v:Value} (h:Kn N F a) (h1:Kn N [(t,v)] a):Kn N ((t,v) :: F) a :=
  ⟨h.1,h.2.1,fun s u hs=>by
    rw [iS] at hs
    split at hs
    · rename_i e;subst e
      exact h1.2.2 t u (by rw [iS,if_pos rfl];exact hs)
    · exact h.2.2 s u hs⟩
theorem Kn.kept {N:Nat} {F:List (Nat×Value)} {a a':Act} {d:Nat} {v:Value} (h:Kn N F a) (hd:∀ p∈F,p.1≠d) (h0:a'.defers=[]) (ht:a'.tmps=(a.put (some d) v).tmps):Kn N F a':=by
  refine⟨h0,by rw [ht];simpa [Act.put] using h.2.1,fun t u hu=>?_⟩
  have hne:t≠d:=by
    intro e;subst e
    clear h h0 ht
    induction F with
    | nil=>simp [iM] at hu
    | cons p F ih =>
      obtain⟨k,x⟩:=p
      rw [iS] at hu
      split at hu
      · rename_i e;exact hd (k,x) (by simp) e
      · exact ih hu (fun q hq=>hd q (List.mem_cons_of_mem _ hq))
  have:=h.2.2 t u hu
  rw [ht]
  simpa [Act.put,Array.getElem?_setIfInBounds_ne (Ne.symm hne)] using this
theorem countP_lt {p q:Nat→Bool}:∀ {l:List Nat},(∀ x∈l,q x=true→p x=true)→(∃ x∈l,p x=true∧q x=false)→l.countP q<l.countP p
  | [],_,h=>by obtain⟨x,hx,_⟩:=h;cases hx
  | y :: l,h1,h2=>by
    have hle:l.countP q≤l.countP p:=List.countP_mono_left fun x hx hq=>h1 x (List.mem_cons_of_mem _ hx) hq
    rw [List.countP_cons,List.countP_cons]
    obtain⟨x,hx,hp,hq⟩:=h2
    rcases List.mem_cons.1 hx with rfl|hx
    · rw [if_pos hp,if_neg (by rw [hq];decide)];omega
    · have:=countP_lt (l:=l) (fun x hx hq=>h1 x (List.mem_cons_of_mem _ hx) hq) ⟨x,hx,hp,hq⟩
      by_cases hy:q y=true
      · rw [if_pos hy,if_pos (h1 y (by simp) hy)];omega
      · rw [if_neg hy];split<;>omega
section
variable {P : Program} {B : Base} {N : Nat} {Q : Exit → Act → World → Prop} {k : List jI} {F : List (Nat × Value)} {V : aD} {L : List Box}
def StepAt (P:Program) (B:Base) (N:Nat) (Q:Exit→Act→World→Prop) (k:List jI) (l:List Oper) (F0:List (Nat×Value)) (V:aD) (L:List Box) (Rs:List sE) (i:Nat) (R:sE):Prop :=
  ∃ o D,l[i]?=some o∧o.guard=none∧depsB o D i=true∧(∀ v V1 V2,VLe V1 V2→R v V1→R v V2) ∧
   ∀ V',VLe V V'→Deps l Rs V' D (fun F=>∀ K:Act→World→Prop,(∀ V'' v a w,VLe V' V''→R v V''→Kn N [(kQ l i,v)] a→St B V'' L w→K a w)→GoW P B N .plain l.toArray Q (.thn K :: k) o [] F V' L) F0
def Steps (P:Program) (B:Base) (N:Nat) (Q:Exit→Act→World→Prop) (k:List jI) (l:List Oper) (F0:List (Nat×Value)) (V:aD) (L:List Box) (Rs:List sE):Prop:=∀ i,i<Rs.length→StepAt P B N Q k l F0 V L (Rs.take i) i (vV Rs i)
def Grow (P:Program) (B:Base) (N:Nat) (Q:Exit→Act→World→Prop) (k:List jI) (l:List Oper) (F0:List (Nat×Value)) (V:aD) (L:List Box) (Rs:List sE):Prop :=
  Steps P B N Q k l F0 V L Rs→∀ a w,Kn N F0 a→St B V L w→wpAnyH P .any l.toArray (evalQ P Q k) (fun _=>True) l.length (Array.replicate l.length false) a w
theorem gc_grow {id:Nat} {l:List Oper} (F0:List (Nat×Value)) (hm:P.follows .mixedOrders=true) (hF:∀ p∈F0,iM F p.1=some p.2) (h:Grow P B N Q k l F0 V L []):GoC P B N (.region id l.toArray true) Q k F V L:=fun a w ha hs =>
  wp_region_held (S:=fun _=>True) hm (h (fun i hi=>by simp at hi) a _ (ha.less hF) hs.drewn)
variable {l : List Oper} {F0 : List (Nat × Value)} {Rs : List sE}
theorem getR_app {R:sE} {i:Nat} (h:i<Rs.length):vV (Rs ++ [R]) i=vV Rs i:=by
  unfold vV
  rw [List.getD_eq_getElem?_getD,List.getD_eq_getElem?_getD,List.getElem?_append_left h]
theorem getR_last {R:sE}:vV (Rs ++ [R]) Rs.length=R:=by
  unfold vV
  rw [List.getD_eq_getElem?_getD,List.getElem?_append_right (Nat.le_refl _)];simp
theorem grow_gen {o:Oper} {R:sE} {n:Nat} (D:List Nat) (hn:Rs.length=n) (ho:l[n]?=some o) (hg:o.guard=none) (hD:depsB o D n=true) (hR:∀ v V1 V2,VLe V1 V2→R v V1→R v V2)
    (hs:∀ V',VLe V V'→Deps l Rs V' D (fun F=>∀ K:Act→World→Prop,(∀ V'' v a w,VLe V' V''→R v V''→Kn N [(kQ l n,v)] a→St B V'' L w→K a w)→GoW P B N .plain l.toArray Q (.thn K :: k) o [] F V' L) F0)
    (h:Grow P B N Q k l F0 V L (Rs ++ [R])):Grow P B N Q k l F0 V L Rs:=fun hst=>h fun i hi=>by
  subst hn
  rw [List.length_append,List.length_singleton] at hi
  rcases Nat.lt_or_ge i Rs.length with h1|h1
  · rw [List.take_append_of_le_length (by omega),getR_app h1];exact hst i h1
  · obtain rfl:i=Rs.length:=by omega
    rw [List.take_append_of_le_length (by omega),List.take_length,getR_last]
    exact⟨o,D,ho,hg,hD,hR,hs⟩
theorem bZ {o:Oper} {x:Value} {n:Nat} (D:List Nat) (hn:Rs.length=n) (ho:l[n]?=some o) (hg:o.guard=none) (hD:depsB o D n=true)
    (hs:∀ V',VLe V V'→Deps l Rs V' D (fun F=>∀ K:Act→World→Prop,(∀ V'' v a w,VLe V' V''→v=x→Kn N [(kQ l n,v)] a→St B V'' L w→K a w)→GoW P B N .plain l.toArray Q (.thn K :: k) o [] F V' L) F0)
    (h:Grow P B N Q k l F0 V L (Rs ++ [fun v _=>v=x])):Grow P B N Q k l F0 V L Rs:=grow_gen D hn ho hg hD (fun _ _ _ _ h=>h) hs h
def newR (m:Nat) (cs:List Value):sE:=fun v V=>∃ g,v=.slice (some ⟨g,0,none⟩) m m∧aG V g 0 cs
theorem grow_new {o:Oper} {cs:List Value} {m n:Nat} (D:List Nat) (hn:Rs.length=n) (ho:l[n]?=some o) (hg:o.guard=none) (hD:depsB o D n=true)
    (hs:∀ V',VLe V V'→Deps l Rs V' D (fun F=>∀ K:Act→World→Prop,(∀ V'' v a w,VLe V' V''→newR m cs v V''→Kn N [(kQ l n,v)] a→St B V'' L w→K a w)→GoW P B N .plain l.toArray Q (.thn K :: k) o [] F V' L) F0)
    (h:Grow P B N Q k l F0 V L (Rs ++ [newR m cs])):Grow P B N Q k l F0 V L Rs:=grow_gen D hn ho hg hD (fun _ _ _ hV ⟨g,h1,h2⟩=>⟨g,h1,h2.le hV⟩) hs h
theorem cK {K:Act→World→Prop} {R:sE} {d:Nat} {V' V'':aD} {v:Value} (hK:∀ V'' v a w,VLe V' V''→R v V''→Kn N [(d,v)] a→St B V'' L w→K a w) (hl:iM F d=some v) (hV:VLe V' V'') (hR:R v V''):AtQ P B N Q (.thn K :: k) .normal F V'' L:=fun a w ha hs=>hK V'' v a w hV hR (ha.less (by simpa using hl)) hs
def InvG (B:Base) (N:Nat) (l:List Oper) (F0:List (Nat×Value)) (V:aD) (L:List Box) (Rs:List sE) (fuel:Nat) (listed:Array Bool) (a:Act) (w:World):Prop :=
  listed.size=l.length∧(List.range l.length).countP (fun i=>!listed.getD i true)≤fuel∧(∀ i o,l[i]?=some o→listed.getD i true=true→∀ e∈o.after,Region.binds .any e=true→listed.getD e.on false=true)∧(∀ i,Rs.length≤i→i<l.length→listed.getD i true=false) ∧
  ∃ V',VLe V V'∧St B V' L w∧Kn N F0 a∧∀ i,i<Rs.length→listed.getD i true=true→∃ v,vV Rs i v V'∧Kn N [(kQ l i,v)] a
theorem getD_tf {listed:Array Bool} {i:Nat} (h:i<listed.size) (b c:Bool):listed.getD i b=listed.getD i c:=by simp [Array.getD,h]
theorem oL {listed:Array Bool} {i j:Nat} {b:Bool} (h:i<listed.size):(listed.setIfInBounds i true).getD j b=if i=j then true else listed.getD j b:=by
  simp only [Array.getD_eq_getD_getElem?,Array.getElem?_setIfInBounds]
  by_cases e:i=j
  · subst e;simp [h]
  · simp [e]
theorem pQ {m:Nat} (h:uJ l m N F0=true) {i:Nat} {o:Oper} (ho:l[i]?=some o) {e:Edge} (he:e∈o.after):e.on<i:=by
  unfold uJ at h
  simp only [Bool.and_eq_true,List.all_eq_true,List.mem_range] at h
  have hi:i<l.length:=by
    rcases Nat.lt_or_ge i l.length with h|h
    · exact h
    · rw [List.getElem?_eq_none h] at ho;cases ho
  have:=h.1 i hi
  rw [ho] at this
  simp only [Array.all_eq_true_iff_forall_mem] at this
  simpa [Nat.blt_eq] using this e he
theorem sO {m:Nat} (h:uJ l m N F0=true) {i:Nat} (hi:i<m):(∃ o,l[i]?=some o∧o.dst=some (kQ l i))∧kQ l i<N∧(∀ p∈F0,p.1≠kQ l i)∧∀ j,j<i→kQ l j≠kQ l i:=by
  unfold uJ at h
  simp only [Bool.and_eq_true,List.all_eq_true,List.mem_range] at h
  have h2:=h.2 i hi
  cases ho:l[i]? with
  | none=>rw [ho] at h2;simp at h2
  | some o =>
    rw [ho] at h2
    cases hd:o.dst with
    | none=>simp [hd] at h2
    | some d =>
      have e:kQ l i=d:=by unfold kQ;rw [ho];simp [hd]
      rw [e]
      simp [hd,Nat.blt_eq] at h2
      refine⟨⟨o,rfl,hd⟩,h2.1.1,fun p hp e=>?_,fun j hj e=>?_⟩
      · have:=h2.1.2 p.1 p.2 hp;rw [e] at this;simp at this
      · have:=h2.2 j hj;rw [e] at this;simp at this
theorem deps_all {V':aD} {a:Act} {X:List (Nat×Value)→Prop}:∀ {D:List Nat} {F:List (Nat×Value)} {Rs:List sE},Kn N F a→(∀ j∈D,∃ v,vV Rs j v V'∧Kn N [(kQ l j,v)] a)→Deps l Rs V' D X F→∃ F',Kn N F' a∧X F'
  | [],F,Rs,ha,_,h=>⟨F,ha,h⟩
  | j :: D,F,Rs,ha,hD,h=>by
    obtain⟨v,h1,h2⟩:=hD j (by simp)
    exact deps_all (ha.cons h2) (fun i hi=>hD i (List.mem_cons_of_mem _ hi)) (h v h1)
theorem grow_run (hB:uJ l Rs.length N F0=true) (hle:Rs.length≤l.length) (hst:Steps P B N Q k l F0 V L Rs)
    (hlast:∀ i o,Rs.length≤i→l[i]?=some o→∀ listed:Array Bool,listed.size=l.length→(∀ i o,l[i]?=some o→listed.getD i true=true→∀ e∈o.after,Region.binds .any e=true→listed.getD e.on false=true)→(∀ e∈o.after,Region.binds .any e=true→listed.getD e.on false=true)→∀ j,j<Rs.length→listed.getD j true=true)
    (hfin:∀ fuel listed a w,InvG B N l F0 V L Rs fuel listed a w→(∀ i,i<Rs.length→listed.getD i true=true)→wpAnyH P .any l.toArray (evalQ P Q k) (fun _=>True) fuel listed a w) :
    ∀ fuel listed a w,InvG B N l F0 V L Rs fuel listed a w→wpAnyH P .any l.toArray (evalQ P Q k) (fun _=>True) fuel listed a w:=by
  intro fuel
  induction fuel with
  | zero =>
    intro listed a w hI
    refine hfin 0 listed a w hI fun i hi=>?_
    have h0:(List.range l.length).countP (fun i=>!listed.getD i true)=0:=by have:=hI.2.1;omega
    rw [List.countP_eq_zero] at h0
    have:=h0 i (List.mem_range.2 (by omega))
    simpa using this
  | succ fuel ih =>
    intro listed a w hI
    by_cases hall:∀ i,i<Rs.length→listed.getD i true=true
    · exact hfin _ _ _ _ hI hall
    have ⟨hsz,hcnt,hdc,htop,V',hV,hs,ha,hvals⟩:=hI
    refine⟨fun hr=>?_,fun i hi=>?_⟩
    · exfalso
      -- the least one that has not come up may come up
      have key:∀ n i,i<n→i<Rs.length→listed.getD i true=true:=by
        intro n
        induction n with
        | zero=>intro i hi;omega
        | succ n ihn =>
          intro i hi hir
          rcases Nat.lt_or_ge i n with h|h
          · exact ihn i h hir
          · obtain rfl:i=n:=by omega
            obtain⟨⟨o,ho,_⟩,_⟩:=sO hB hir
            cases hli:listed.getD i true with
            | true=>rfl
            | false =>
              exfalso
              have hmem:i∈Region.ready .any l.toArray listed:=by
                refine mem_ready.2 ⟨hli,o,by simpa using ho,fun e he hb=>?_⟩
                have hlt:=pQ hB ho he
                have:=ihn e.on hlt (by omega)
                rw [getD_tf (by omega) false true];exact this
              rw [hr] at hmem;cases hmem
      exact hall fun i hi=>key (i+1) i (by omega) hi
    · obtain⟨hun,o,ho,haft⟩:=mem_ready.1 hi
      have ho:l[i]?=some o:=by simpa using ho
      have hil:i<l.length:=by
        rcases Nat.lt_or_ge i l.length with h|h
        · exact h
        · rw [List.getElem?_eq_none h] at ho;cases ho
      rcases Nat.lt_or_ge i Rs.length with him|him
      case inr=>exact absurd (hlast i o him ho listed hsz hdc haft) hall
      obtain⟨o',D,ho',hg,hD,hmono,hstep⟩:=hst i him
      obtain rfl:o=o':=by rw [ho] at ho';injection ho'
      obtain⟨⟨o2,ho2,hdst⟩,hdN,hd0,hdj⟩:=sO hB him
      obtain rfl:o=o2:=by rw [ho] at ho2;injection ho2
      have hDv:∀ j∈D,∃ v,vV (Rs.take i) j v V'∧Kn N [(kQ l j,v)] a:=by
        intro j hj
        unfold depsB at hD
        rw [List.all_eq_true] at hD
        have:=hD j hj
        simp only [Bool.and_eq_true,Nat.blt_eq] at this
        obtain⟨e,he,hb,hon⟩:=waitsB_spec this.2
        have hl:=haft e he hb
        rw [hon,getD_tf (by omega) false true] at hl
        obtain⟨v,h1,h2⟩:=hvals j (by omega) hl
        refine⟨v,?_,h2⟩
        unfold vV at h1 ⊢
        rw [List.getD_eq_getElem?_getD] at h1 ⊢
        rw [List.getElem?_take_of_lt this.1];exact h1
      obtain⟨F',hF',hX⟩:=deps_all ha hDv (hstep V' hV)
      unfold wpOp
      simp only [show (l.toArray)[i]?=some o by simpa using ho]
      rw [if_pos (by simp [Region.wanted,hg])]
      refine .inl ?_
      have hgo:=gw_plain.1 (hX (fun a' w'=>(∃ V'' v,VLe V' V''∧vV Rs i v V''∧Kn N [(kQ l i,v)] a'∧St B V'' L w')) (fun V'' v a' w' h1 h2 h3 h4=>⟨V'',v,h1,h2,h3,h4⟩)) a w hF' hs
      have h2:=wp_tmps hgo
      refine wp_thn (Oper.wp_mono (fun a' w' hK=>?_) h2)
      · obtain⟨hK,u,hu⟩:=hK
        unfold wpList at hK
        obtain⟨V'',v,h1,h2,h3,h4⟩:=hK
        rw [hdst] at hu
        refine⟨trivial,ih _ a' w' ⟨by simpa using hsz,?_,?_,?_,V'',hV.trans h1,h4,ha.kept hd0 h3.1 hu,?_⟩⟩
        · have:(List.range l.length).countP (fun j=>!(listed.setIfInBounds i true).getD j true)<(List.range l.length).countP (fun j=>!listed.getD j true):=by
            refine countP_lt (fun j hj h=>?_) ⟨i,List.mem_range.2 hil,by rw [hun];rfl,?_⟩
            · rw [oL (by omega)] at h
              split at h
              · simp at h
              · exact h
            · rw [oL (by omega),if_pos rfl];rfl
          omega
        · intro j oj hoj hlj e he hb
          rw [oL (by omega)]
          split
          · rfl
          · rw [oL (by omega)] at hlj
            split at hlj
            · rename_i e1;subst e1
              obtain rfl:o=oj:=by rw [ho] at hoj;injection hoj
              exact haft e he hb
            · exact hdc j oj hoj hlj e he hb
        · intro j hj hjl
          rw [oL (by omega),if_neg (by omega)]
          exact htop j hj hjl
        · intro j hj hlj
          rw [oL (by omega)] at hlj
          split at hlj
          · rename_i e;subst e;exact⟨v,h2,h3⟩
          · rename_i hne
            obtain⟨x,q1,q2⟩:=hvals j hj hlj
            obtain⟨_,_,_,_,_,hmj,_⟩:=hst j hj
            refine⟨x,hmj x _ _ h1 q1,q2.kept ?_ h3.1 hu⟩
            intro p hp
            simp at hp;subst hp
            rcases Nat.lt_or_ge j i with h|h
            · exact hdj j h
            · exact Ne.symm ((sO hB hj).2.2.2 i (by omega))
theorem inv_start {a:Act} {w:World} (hle:Rs.length≤l.length) (ha:Kn N F0 a) (hs:St B V L w):InvG B N l F0 V L Rs l.length (Array.replicate l.length false) a w:=by
  have h0:∀ i,i<l.length→(Array.replicate l.length false).getD i true=false:=by intro i hi;simp [Array.getD,hi]
  refine⟨by simp,?_,?_,fun i _ hi=>h0 i hi,V,VLe.refl V,hs,ha,?_⟩
  · have:=List.countP_le_length (p:=fun i=>!(Array.replicate l.length false).getD i true) (l:=List.range l.length)
    rw [List.length_range] at this;exact this
  · intro i o ho hl
    have hi:i<l.length:=by
      rcases Nat.lt_or_ge i l.length with h|h
      · exact h
      · rw [List.getElem?_eq_none h] at ho;cases ho
    rw [h0 i hi] at hl;cases hl
  · intro i hi hl
    rw [h0 i (by omega)] at hl;cases hl
theorem grow_last {o:Oper} {n:Nat} (D:List Nat) (hn:Rs.length=n) (hl:l.length=n+1) (ho:l[n]?=some o) (hg:o.guard=none) (hB:uJ l n N F0=true) (hU:usedB l n=true) (hD:depsB o D n=true)
    (h:∀ V',VLe V V'→Deps l Rs V' D (fun F=>GoW P B N .plain l.toArray Q k o [] F V' L) F0):Grow P B N Q k l F0 V L Rs:=fun hst a w ha hs=>by
  subst hn
  have hused:∀ i,i<Rs.length→∃ j o,i<j∧j<l.length∧l[j]?=some o∧waitsB o i=true:=by
    intro i hi
    unfold usedB at hU
    rw [List.all_eq_true] at hU
    have:=hU i (List.mem_range.2 hi)
    rw [List.any_eq_true] at this
    obtain⟨j,hj,h⟩:=this
    simp only [Bool.and_eq_true,Nat.blt_eq,List.mem_range] at h hj
    cases hoj:l[j]? with
    | none=>rw [hoj] at h;simp at h
    | some oj=>rw [hoj] at h;exact⟨j,oj,h.1,hj,hoj,h.2⟩
  refine grow_run hB (by omega) hst (fun i oi hi hoi listed hsz hdc hready=>?_) (fun fuel listed a w hI hall=>?_) _ _ _ _ (inv_start (by omega) ha hs)
  · have hil:i<l.length:=by
      rcases Nat.lt_or_ge i l.length with h|h
      · exact h
      · rw [List.getElem?_eq_none h] at hoi;cases hoi
    obtain rfl:i=Rs.length:=by omega
    have key:∀ m j,Rs.length≤j+m→j<Rs.length→listed.getD j true=true:=by
      intro m
      induction m with
      | zero=>intro j h1 h2;omega
      | succ m ihm =>
        intro j h1 h2
        obtain⟨j',oj,hlt,hjl,hoj,hw⟩:=hused j h2
        obtain⟨e,he,hb,hon⟩:=waitsB_spec hw
        have hl2:listed.getD j false=true:=by
          rcases Nat.lt_or_ge j' Rs.length with hlj|hlj
          · rw [←hon];exact hdc j' oj hoj (ihm j' (by omega) hlj) e he hb
          · obtain rfl:j'=Rs.length:=by omega
            obtain rfl:oj=oi:=by rw [hoj] at hoi;injection hoi
            rw [←hon];exact hready e he hb
        rw [getD_tf (by omega) true false];exact hl2
    exact fun j hj=>key Rs.length j (by omega) hj
  · obtain⟨hsz,hcnt,_,htop,V',hV,hs,ha,hvals⟩:=hI
    have hun:=htop Rs.length (Nat.le_refl _) (by omega)
    have hmem:∀ i,i∈Region.ready .any l.toArray listed→i=Rs.length:=by
      intro i hi
      obtain⟨hun,o,ho,_⟩:=mem_ready.1 hi
      have hil:i<l.length:=by
        rcases Nat.lt_or_ge i l.length with h|h
        · exact h
        · rw [List.getElem?_toArray,List.getElem?_eq_none h] at ho;cases ho
      rcases Nat.lt_or_ge i Rs.length with h1|h1
      · rw [hall i h1] at hun;cases hun
      · omega
    have hrd:Rs.length∈Region.ready .any l.toArray listed:=by
      refine mem_ready.2 ⟨hun,o,by simpa using ho,fun e he hb=>?_⟩
      have:=hall e.on (pQ hB ho he)
      rw [getD_tf (by have:=pQ hB ho he;omega) false true];exact this
    cases fuel with
    | zero =>
      exfalso
      have h0:(List.range l.length).countP (fun i=>!listed.getD i true)=0:=by omega
      rw [List.countP_eq_zero] at h0
      have:=h0 Rs.length (List.mem_range.2 (by omega))
      rw [hun] at this;simp at this
    | succ fuel =>
      refine⟨fun hr=>(by rw [hr] at hrd;cases hrd),fun i hi=>?_⟩
      obtain rfl:=hmem i hi
      have hDv:∀ j∈D,∃ v,vV Rs j v V'∧Kn N [(kQ l j,v)] a:=by
        intro j hj
        unfold depsB at hD
        rw [List.all_eq_true] at hD
        have:=hD j hj
        simp only [Bool.and_eq_true,Nat.blt_eq] at this
        exact hvals j (by omega) (hall j (by omega))
      obtain⟨F',hF',hX⟩:=deps_all ha hDv (h V' hV)
      unfold wpOp
      simp only [show (l.toArray)[Rs.length]?=some o by simpa using ho]
      rw [if_pos (by simp [Region.wanted,hg])]
      refine .inl (Oper.wp_mono (fun a' w' hK=>⟨trivial,?_⟩) (gw_plain.1 hX a w hF' hs))
      unfold wpList at hK
      refine wpAnyH_done ?_ hK fuel
      apply List.eq_nil_iff_forall_not_mem.2
      intro i hi
      obtain⟨hun,o,ho,_⟩:=mem_ready.1 hi
      have hil:i<l.length:=by
        rcases Nat.lt_or_ge i l.length with h|h
        · exact h
        · rw [List.getElem?_toArray,List.getElem?_eq_none h] at ho;cases ho
      rw [oL (by omega)] at hun
      split at hun
      · cases hun
      · rw [hall i (by omega)] at hun;cases hun
end
end
section
theorem wrap_b8 (a:Int):IntKind.wrap .u8 a=((b8 a).toNat:Int):=by
  rw [yL];simp [IntKind.wrap,IntKind.bits,IntKind.signed,Int.bmod]
theorem mA (l:List UInt8):(⟨l.toArray⟩:ByteArray).toList=l:=by rw [Lib.toList_data]
theorem gU (l:List UInt8):(⟨l.toArray⟩:ByteArray).size=l.length:=rfl
theorem ba_is (s:ByteArray):s=⟨s.toList.toArray⟩:=by rw [Lib.toList_data]
section
variable {P : Program} {B : Base} {N : Nat} {Q : Exit → Act → World → Prop} {k : List jI} {F : List (Nat × Value)} {V : aD} {L : List Box} {w : World}
variable {d : Option Tmp} {ty ty2 : TypeId} {pos : String} {af : Array Edge} {gd : Option (Nat × Bool)} {x y z : Operand} {T T2 : TypeId}
theorem fD {k0:IntKind} {s t:TypeId} {ds:TypeDesc} {a:Int} (hs:bV P s ds) (ht:bV P t (.int .u8)) (hx:evF F x=some (.int k0 a)):QP P B N V L ⟨d,.convert s t x,ty,pos,af,gd⟩ F (.int .u8 ((b8 a).toNat:Int)):=gN fun ac w ha _=>by
  have e:(Conv.intToInt .u8 a)=pure (.int .u8 ((b8 a).toNat:Int)):=by unfold Conv.intToInt;rw [wrap_b8]
  simp [execOp,ha.ev hx,convert,hs.h,ht.h,e]
theorem q_shr8 {k:IntKind} {t ty2:TypeId} {a:Int} (hx:evF F x=some (.int .i64 a)) (hy:evF F y=some (.int k 8)) (h:0≤a):QP P B N V L ⟨d,.binOp .shr t x y ty2,ty,pos,af,gd⟩ F (.int .i64 (a / 256)):=by
  refine pC hx hy (fun w=>by simp [eqGuard]) (fun w=>?_)
  have e:a.fdiv 256=a / 256:=Int.fdiv_eq_ediv_of_nonneg a (by decide)
  simp [binOp,Op.shift,IntKind.bits,e]
theorem ba_app (l m:List UInt8):(⟨l.toArray⟩:ByteArray) ++ ⟨m.toArray⟩=⟨(l ++ m).toArray⟩:=by
  apply ByteArray.ext;rw [ByteArray.data_append];simp
theorem jA {l m:List UInt8} (hx:evF F x=some (.string ⟨l.toArray⟩)) (hy:evF F y=some (.string ⟨m.toArray⟩)) (h:l.length+m.length≤1000000000):QP P B N V L ⟨d,.binOp .add T x y ty2,ty,pos,af,gd⟩ F (.string ⟨(l ++ m).toArray⟩):=by
  have:=sL (P:=P) (B:=B) (N:=N) (V:=V) (L:=L) (d:=d) (ty:=ty) (ty2:=ty2) (pos:=pos) (af:=af) (gd:=gd) (t:=T) hx hy (by rw [gU,gU];omega)
  rw [ba_app] at this;exact this
theorem q_sadds {l:List UInt8} {s:ByteArray} (hx:evF F x=some (.string ⟨l.toArray⟩)) (hy:evF F y=some (.string s)) (h:l.length+s.size≤1000000000):QP P B N V L ⟨d,.binOp .add T x y ty2,ty,pos,af,gd⟩ F (.string ⟨(l ++ s.toList).toArray⟩):=by
  rw [ba_is s] at hy
  exact jA hx hy (by rw [Lib.toList_data];exact h)
theorem uZ {g m:Nat} {us:List UInt8} (h:aG V g 0 (u8C us)) (hm:us.length=m):bR B V L 1 (some ⟨g,0,none⟩) m (u8C us):=fY ⟨by rw [tQ];omega,fun _=>⟨g,0,rfl,h⟩⟩
theorem wX {E sz b o n m:Nat} (hu:bV P T (.array n E)) (hS:dU P E sz) (hn:Nat.ble 2 n=true) (hx:evF F x=some (.pointer (some ⟨b,o,none⟩))) (hi:evF F y=some (.int .i64 (m:Int))) (hk:m<n):QP P B N V L ⟨d,.indexAddr T x y,ty,pos,af,gd⟩ F (.pointer (some ⟨b,o+m * sz,none⟩)):=gN fun ac w ha hs=>by
  have h1:¬n≤m:=by omega
  have h2:=Nat.le_of_ble_eq_true hn
  simp [execOp,ha.ev hx,ha.ev hi,Instr.indexAt,Instr.sureAddr,asIntOf,hu.h,hS.h,hk,h1,iP]
structure BuildA (P:Program) (T:TypeId) (sz:Nat) (zs:List Value):Prop where
  h:(∃ n E,(∀ w,(underlying T).run P w=.ok (.array n E) w)∧∀ w,(sizeOf E).run P w=.ok sz w)∧∃ z,(∀ w,(zeroValue T).run P w=.ok z w)∧z.cells=zs.toArray
theorem run_buildA {sz:Nat} {zs us:List Value} {vs:List (Nat×Value)} (hb:BuildA P T sz zs) (hf:pM (fun i=>some (i * sz,sz)) zs vs=some us) (w:World):(Instr.build T vs.toArray).run P w=.ok (.agg us.toArray) w:=by
  obtain⟨⟨n,E,h1,h2⟩,z,h3,h4⟩:=hb.h
  have hfill:=oA _ _ _ _ hf
  unfold Instr.build
  simp only [Sem.run_bind,h3,Result.andThen_ok,h1,h2,h4]
  rw [hfill]
  rfl
theorem q_buildA {sz:Nat} {zs us:List Value} {ps:List (Nat×Operand)} {vs:List (Nat×Value)} (hb:BuildA P T sz zs) (hp:evP F ps=some vs) (hf:pM (fun i=>some (i * sz,sz)) zs vs=some us):QP P B N V L ⟨d,.build T ps.toArray,ty,pos,af,gd⟩ F (.agg us.toArray):=gN fun a w ha _=>by
  have h:=ha.evP hp
  have e:(ps.toArray.map fun (p:Nat×Operand)=>(p.1,a.eval p.2))=vs.toArray:=by rw [←h];simp
  have hr:=run_buildA hb hf w
  rw [←e] at hr
  simp only [execOp]
  have e2:(ps.toArray.map fun x=>match x with|(i,x)=>(i,a.eval x))=(ps.toArray.map fun (p:Nat×Operand)=>(p.1,a.eval p.2)):=rfl
  rw [e2,Sem.run_bind,hr]
  rfl
theorem fn_enterH {N:Nat} {f:FuncId} {fn:Func} {c:Code} {args:List Value} {Bs:List Box} {R:Value→aD→List Box→Prop} (hf:P.funcs[f]?=some fn) (hb:fn.body=some c) (hN:fn.ntmps=N) (hsz:Nat.ble args.length N=true)
    (h:∀ w,(∀ x∈fW Bs,x<w.heap.size)→GoC P ⟨V,w,fW Bs⟩ N c (bodyPost P fn (vI V w Bs R)) [] (vZ args 0) V Bs):FnB P f args V Bs R:=fun w hV=>by
  have hlt:∀ x∈fW Bs,x<w.heap.size:=fun x hx=>by
    unfold fW at hx
    obtain⟨b,hb,rfl⟩:=List.mem_map.1 hx
    exact hV.lt hb
  refine calls_of_wp hf hb (h w hlt _ w ⟨rfl,?_,fun t v hv=>?_⟩ hV)
  · have:=Nat.le_of_ble_eq_true hsz
    simp [hN];omega
  · obtain⟨_,h2⟩:=nY args 0 t v hv
    have hlt:t<args.length:=by
      rcases Nat.lt_or_ge t args.length with hl|hl
      · exact hl
      · rw [List.getElem?_eq_none (by omega)] at h2;cases h2
    rw [List.getElem?_eq_getElem (by omega)] at h2
    simp only [Nat.sub_zero] at h2
    injection h2 with h2
    simp [Array.getElem?_append,hlt,h2]
theorem St.retireN (hs:St B V L w) {L':List Box} {g:Nat} {cs:List Value} (h:fN L g cs L') (hfl:g∉B.fl):∃ V',VLe V V'∧aG V' g 0 cs∧St B V' L' w:=by
  obtain⟨⟨t,hm⟩,h2,h3⟩:=h.mem
  obtain⟨h4,h5⟩:=h3 hs.nodup
  have ho:=hs.own _ hm
  have hne:∀ p x,V p=some x→p.block≠g:=fun p x hp e=>(hs.view p x hp).2 _ hm e.symm
  refine⟨boxedV V w g,fun p x hp=>?_,fun j v hj=>?_,⟨hs.ext,fun p x hp=>?_,fun p x hp hb=>?_,fun p x hp=>?_,fun b hb=>hs.own b (h2 b hb),h4⟩⟩
  · rw [jD (hne p x hp)];exact hp
  · rw [tR (g:=g) (p:=⟨g,0+j,none⟩) rfl,Nat.zero_add,hs.cell ⟨t,hm⟩];exact hj
  · by_cases e:p.block=g
    · rw [tR e] at hp
      exact⟨hp,fun b hb=>by rw [e];exact h5 b hb⟩
    · rw [jD e] at hp
      exact⟨(hs.view p x hp).1,fun b hb=>(hs.view p x hp).2 b (h2 b hb)⟩
  · by_cases e:p.block=g
    · rcases ho.2 with h6|h6
      · simp only [] at h6
        omega
      · exact absurd h6 hfl
    · rw [jD e] at hp
      exact hs.old p x hp hb
  · rw [jD (hne p x (hs.v0 p x hp))];exact hs.v0 p x hp
theorem oR {dr:gO} {ops:Array Oper} {rest:List Oper} (hdr:dr.loud=true) (hfl:∀ x∈B.fl,x<B.w.heap.size) {E sz len:Nat} {z:Value} {zs us:List Value} {ps:List (Nat×Operand)} {vs:List (Nat×Value)} (hu:bV P T (.slice E)) (hS:dU P E sz) (hz':gD P E z)
    {zc:List Value} (hzc:z.cells=zc.toArray) (hzl:sz=zc.length) (hzs:repL len zc=zs) (hp:evP F ps=some vs) (hf:pM (fun i=>some (i * sz,sz)) zs vs=some us) (hlen:(Nat.ble (len * sz) 16777216 && !Nat.beq (len * sz) 0)=true) (hd:okD N d=true)
    (h:∀ g V',VLe V V'→aG V' g 0 us→GoL P B N dr ops Q k rest (rT F d (.slice (some ⟨g,0,none⟩) len len)) V' L):GoW P B N dr ops Q k ⟨d,.buildSlice T len ps.toArray,ty,pos,af,gd⟩ rest F V L:=iG hdr fun a w ha hs=>by
  obtain⟨V',hV',hg,hs'⟩:=(hs.alloc E us).retireN (fN.here _ _ _ _) (fun hx=>by have:=hfl _ hx;have:=hs.ext.sz;omega)
  refine mV (w':=w.alloc (.cells us.toArray E)) (v:=.slice (some ⟨w.heap.size,0,none⟩) len len) ?_ (fT hdr (h w.heap.size V' hV' hg) _ _ (ha.put hd _) hs')
  have hh:=ha.evP hp
  have e:(ps.toArray.map fun x=>match x with|(i,x)=>(i,a.eval x))=vs.toArray:=by rw [←hh];simp
  have hz:=hz'.h
  simp only [Bool.and_eq_true,Bool.not_eq_true'] at hlen
  have h1:=Nat.le_of_ble_eq_true hlen.1
  have h2:len * sz≠0:=fun e=>by rw [e] at hlen;simp at hlen
  have hfill:=oA _ _ _ _ hf
  simp only [execOp]
  rw [e]
  unfold Instr.buildSlice
  have e3:¬(2 ^ 24<len * sz):=by omega
  have h3:len≠0∧sz≠0:=⟨fun e=>h2 (by simp [e]),fun e=>h2 (by simp [e])⟩
  have hrep:(Array.range (len * sz)).map (fun i=>z.cells[i % z.cells.size]!)=zs.toArray:=by rw [hzc,hzl,rep_cells,hzs]
  simp [hu.h,hS.h,hz,e3,h3.1,h3.2,hrep,hfill]
  rw [if_neg h2]
  rfl
end
theorem cA {l:List Oper} {Rs:List sE} {V':aD} {D:List Nat} {X:List (Nat×Value)→Prop} {F:List (Nat×Value)} {j d:Nat} {x:Value} (hR:vV Rs j=fun v _=>v=x) (hd:kQ l j=d) (h:Deps l Rs V' D X ((d,x) :: F)):Deps l Rs V' (j :: D) X F:=fun v hv=>by
  rw [hR] at hv;obtain rfl:v=x:=hv;rw [hd];exact h
theorem deps_new {l:List Oper} {Rs:List sE} {V':aD} {D:List Nat} {X:List (Nat×Value)→Prop} {F:List (Nat×Value)} {j d m:Nat} {cs:List Value} (hR:vV Rs j=newR m cs) (hd:kQ l j=d) (h:∀ g,aG V' g 0 cs→Deps l Rs V' D X ((d,.slice (some ⟨g,0,none⟩) m m) :: F)):Deps l Rs V' (j :: D) X F:=fun v hv=>by
  rw [hR] at hv;obtain⟨g,rfl,hg⟩:=hv;rw [hd];exact h g hg
theorem bT {l:List Oper} {Rs:List sE} {V':aD} {X:List (Nat×Value)→Prop} {F:List (Nat×Value)} (h:X F):Deps l Rs V' [] X F:=h
end
section
def parts:List UInt8→List (List UInt8)
  | []=>[[]]
  | c :: l=>if c=47 then [] :: parts l else (match parts l with|[]=>[[c]]|p :: ps=>(c :: p) :: ps)
theorem parts_no:∀ {l:List UInt8},(∀ c∈l,¬c=47)→parts l=[l]
  | [],_=>rfl
  | c :: l,h=>by rw [parts,if_neg (h c (by simp)),parts_no fun d hd=>h d (by simp [hd])]
theorem parts_at:∀ {a b:List UInt8},(∀ c∈a,¬c=47)→parts (a ++ 47 :: b)=a :: parts b
  | [],b,_=>by rw [List.nil_append,parts,if_pos rfl]
  | c :: a,b,h=>by rw [List.cons_append,parts,if_neg (h c (by simp)),parts_at fun d hd=>h d (by simp [hd])]
theorem index_no:∀ {l:List UInt8},Lib.indexByte l 47<0→∀ c∈l,¬c=47
  | [],_=>by simp
  | b :: l,h=>by
    unfold Lib.indexByte at h
    split at h
    · omega
    · rename_i hb
      split at h
      · rename_i h2
        have h2:Lib.indexByte l 47 = -1:=by simpa using h2
        intro c hc
        rcases List.mem_cons.1 hc with rfl|hc
        · simpa using hb
        · exact index_no (by omega) c hc
      · have:=Lib.indexByte_ge l 47
        rename_i h2
        have h2:¬Lib.indexByte l 47 = -1:=by simpa using h2
        omega
theorem index_at:∀ {l:List UInt8},0≤Lib.indexByte l 47→(∀ c∈l.take (Lib.indexByte l 47).toNat,¬c=47)∧l=l.take (Lib.indexByte l 47).toNat ++ 47 :: l.drop ((Lib.indexByte l 47).toNat+1)∧(Lib.indexByte l 47).toNat<l.length
  | [],h=>by simp [Lib.indexByte] at h
  | b :: l,h=>by
    unfold Lib.indexByte at h ⊢
    by_cases hb:b=47
    · subst hb;simp
    · have hb':(b == 47)=false:=by simpa using hb
      rw [hb'] at h ⊢
      by_cases h2:Lib.indexByte l 47 = -1
      · rw [h2] at h;simp at h
      · have h3:(Lib.indexByte l 47 == -1)=false:=by simpa using h2
        rw [h3] at h ⊢
        simp only [Bool.false_eq_true,if_false] at h ⊢
        have h4:=Lib.indexByte_ge l 47
        have h5:0≤Lib.indexByte l 47:=by omega
        obtain⟨g1,g2,g3⟩:=index_at h5
        rw [show (Lib.indexByte l 47+1).toNat=(Lib.indexByte l 47).toNat+1 by omega]
        refine⟨fun c hc=>?_,?_,by simp only [List.length_cons];omega⟩
        · rw [List.take_succ_cons] at hc
          rcases List.mem_cons.1 hc with rfl|hc
          · exact hb
          · exact g1 c hc
        · rw [List.take_succ_cons,List.drop_succ_cons,List.cons_append,←g2]
def wG (ps:List (List UInt8)):Bool:=ps.all eV
def dY (l:List UInt8):Int:=if l=[47] then 0 else if l=[]∨¬l.head?=some 47∨79<l.length then 4 else if ¬wG (parts (l.drop 1))=true then 4 else if 6<(parts (l.drop 1)).length then 2 else 0
def baL (ps:List (List UInt8)):List ByteArray:=ps.map fun p=>⟨p.toArray⟩
def aU (l:List UInt8):List ByteArray:=if dY l=0∧¬l=[47] then baL (parts (l.drop 1)) else []
def pW (above l:List ByteArray):Bool:=decide (above.length≤l.length) && decide (above=l.take above.length)
end
section
def vS (p:Nat) (l:List UInt8) (Bs:List Box):Prop:=∃ (a A:Option Addr) (c:Nat) (L1:List Box),Bs=⟨p,264,[.pointer a,.slice A l.length c]⟩ :: L1∧cO A l.length c 5 1 (u8C l) L1∧(A=none∨0<c)∧(a=none∨a=some ⟨p,0,none⟩)
theorem vS.nil {p:Nat}:vS p [] [⟨p,264,[.pointer none,.slice none 0 0]⟩]:=⟨none,none,0,[],rfl,cO.nil,.inl rfl,.inl rfl⟩
theorem vS.of {p n c:Nat} {a A:Option Addr} {l:List UInt8} {L1:List Box} (hr:cO A n c 5 1 (u8C l) L1) (hn:n=l.length) (hA:A=none∨0<c) (ha:a=none∨a=some ⟨p,0,none⟩):vS p l (⟨p,264,[.pointer a,.slice A n c]⟩ :: L1):=by
  subst hn;exact⟨a,A,c,L1,rfl,hr,hA,ha⟩
theorem ptr_bld:PtrIs Tryz.prog 262:=⟨by kernel_rfl⟩
theorem pinf_bld:PInf Tryz.prog 262:=⟨by obtain⟨i,h0,_⟩:=info_parts (show (Tryz.prog.info? 264).map (fun i=>(i.zero,i.size,i.bytes))=some (some (.agg #[.pointer none,.slice none 0 0]),2,32) by kernel_rfl);exact⟨_,i,Tryz.underlying262,h0⟩⟩
theorem und_upt:bV Tryz.prog 336 .unsafePointer:=⟨Tryz.underlying336⟩
theorem und_bptr:bV Tryz.prog 262 (.pointer 264):=⟨Tryz.underlying262⟩
theorem und_uptr:bV Tryz.prog 323 (.pointer 5):=⟨Tryz.underlying323⟩
theorem sz_bld:SzInf Tryz.prog 264:=⟨by obtain⟨i,h0,_,h2,_⟩:=info_parts (show (Tryz.prog.info? 264).map (fun i=>(i.zero,i.size,i.bytes))=some (some (.agg #[.pointer none,.slice none 0 0]),2,32) by kernel_rfl);exact⟨i,h0,by rw [h2];decide⟩⟩
theorem lies_bld:liesAt Tryz.prog Tryz.prog.depth 264 (2 / Tryz.prog.cellsOf 264) 0 264 1=true:=by kernel_rfl
theorem ext_noesc:xP Tryz.prog 271 Extern.AbiNoEscape.same:=⟨fun args w=>run_callFunc_extern Tryz.func271 (by kernel_rfl) (by kernel_rfl) (by kernel_rfl) (by kernel_rfl) args w⟩
theorem u8_inf:U8Inf Tryz.prog 5:=⟨info_parts (show (Tryz.prog.info? 5).map (fun i=>(i.zero,i.size,i.bytes))=some (some (.int .u8 0),1,1) by kernel_rfl)⟩
theorem u8_cell:Tryz.prog.cellsOf 5=1:=by kernel_rfl
attribute [local irreducible] AtQ GoC GoL GoW QO QP Fn RV bL aG VLe bR bK
theorem copyCheck_c (V:aD) (p:Nat) (A:Option Addr) (n c:Nat) (L1:List Box) (a:Option Addr) (ha:a=none∨a=some ⟨p,0,none⟩) :
    FnB Tryz.prog 266 [.pointer (some ⟨p,0,none⟩)] V (⟨p,264,[.pointer a,.slice A n c]⟩ :: L1) fun v _ Bs=>v=.tuple #[]∧Bs=⟨p,264,[.pointer (some ⟨p,0,none⟩),.slice A n c]⟩ :: L1:=by
  rcases ha with rfl|rfl
  · (refine bD Tryz.func266 rfl Tryz.ntmps266 rfl ?_;intro w0)
    repeat' (first|(refine aE ?_;first|(refine cN ?_;(first|refine aO (q_pneq_same pinf_bld rfl rfl) ?_|refine aO (kK ptr_bld rfl) ?_))|(refine eK ?_;(first|refine aO (q_fromUnsafe und_upt und_bptr sz_bld rfl (ownT_here rfl) lies_bld) ?_|refine aO (q_toUnsafe und_bptr und_upt sz_bld rfl (ownT_here rfl) rfl) ?_))|(refine aC ?_;refine aO (q_extern ext_noesc rfl (fun w=>Lib.run_noEscape w _)) ?_)|refine st9 ?_|refine pu9 ?_)|refine cX ?_|fail)
    (first|refine kZ Tryz.results266  (List.Sublist.refl _) ?_|refine lN Tryz.results266 (List.Sublist.refl _) ?_)
    exact⟨rfl,rfl⟩
  · (refine bD Tryz.func266 rfl Tryz.ntmps266 rfl ?_;intro w0)
    repeat' (first|(refine aE ?_;first|(refine cN ?_;(first|refine aO (q_pneq_same pinf_bld rfl rfl) ?_|refine aO (kK ptr_bld rfl) ?_))|refine pu9 ?_)|refine cX ?_|fail)
    (first|refine kZ Tryz.results266  (List.Sublist.refl _) ?_|refine lN Tryz.results266 (List.Sublist.refl _) ?_)
    exact⟨rfl,rfl⟩
theorem iR (V:aD) (p:Nat) (l:List UInt8) (Bs:List Box) (h:vS p l Bs) (s:ByteArray) (hm:l.length+s.size≤1000000000) :
    FnB Tryz.prog 248 [.pointer (some ⟨p,0,none⟩),.string s] V Bs fun v _ Bs'=>v=.tuple #[.int .i64 (s.size:Int),.nilIface]∧vS p (l ++ s.toList) Bs':=by
  obtain⟨a,A,c,L1,rfl,hr,hA,ha⟩:=h
  (refine bD Tryz.func248 rfl Tryz.ntmps248 rfl ?_;intro w0)
  repeat' (first|(refine aE ?_;first|(refine aC ?_;(refine aL rfl ⟨Tryz.call266⟩ rfl aV rfl (copyCheck_c _ p A l.length c L1 a ha) ?_;rintro v V1 B1 hV1 ⟨rfl,rfl⟩))|refine pu9 ?_)|refine cC ?_|fail)
  repeat' (first|(refine aE ?_;first|(refine aC ?_;(refine oG rfl und_145 und_9 u8_inf rfl rfl hr hA aV (by omega) rfl ?_;intro A2 c2 L2 hr2 hA2))|refine st9 ?_|refine pu9 ?_)|refine cC ?_|fail)
  (refine dA Tryz.results248 (aB rfl) (aB rfl) (List.Sublist.refl _) ?_)
  exact⟨rfl,vS.of (by rw [lS];exact hr2) (by rw [List.length_append,show s.toList.length=s.size by rw [Lib.toList_data];rfl]) hA2 (.inr rfl)⟩
theorem BString_c (V:aD) (p:Nat) (l:List UInt8) (Bs:List Box) (h:vS p l Bs) (hm:l.length≤1000000000) :
    FnB Tryz.prog 199 [.pointer (some ⟨p,0,none⟩)] V Bs fun v _ _=>v=.string ⟨l.toArray⟩:=by
  obtain⟨a,A,c,L1,rfl,hr,hA,ha⟩:=h
  cases l with
  | nil =>
    cases A with
    | none =>
      (refine bD Tryz.func199 rfl Tryz.ntmps199 rfl ?_;intro w0)
      repeat' (first|(refine aE ?_;refine pu9 ?_)|refine cC ?_|fail)
      refine bX (id:=1) _ mixed (List.Sublist.refl _) ?_;refine gt9 0 ?_;refine gt9 1 ?_;refine gt9 2 ?_;refine gt9 3 ?_;refine fL 4 rfl rfl (q_slData0 rfl) ?_;refine gt9 5 ?_;refine gt9 6 ?_;refine gt9 7 ?_;refine gt9 8 ?_;refine gt9 9 ?_;refine aZ (i:=10) rfl ?_;(refine aO (q_ustr0 rfl rfl) ?_);refine gt9 11 ?_;refine aY (by kernel_rfl) vl9 vl9 bP ?_
      repeat' (first|refine gx9 ?_|fail)
      (refine bE Tryz.results199 (aB rfl) (List.Sublist.refl _) ?_)
      rfl
    | some ad =>
      obtain⟨g,rfl⟩:∃ g,ad=⟨g,0,none⟩:=by
        rcases hr.2 with ⟨_,h,_⟩|⟨g,_,h,_⟩
        · cases h
        · injection h with h;exact⟨g,h⟩
      have hc:0<c:=by
        rcases hA with h|h
        · cases h
        · exact h
      (refine bD Tryz.func199 rfl Tryz.ntmps199 rfl ?_;intro w0)
      repeat' (first|(refine aE ?_;refine pu9 ?_)|refine cC ?_|fail)
      refine bX (id:=1) _ mixed (List.Sublist.refl _) ?_;refine gt9 0 ?_;refine gt9 1 ?_;refine gt9 2 ?_;refine gt9 3 ?_;refine fL 4 rfl rfl (q_slData rfl hc) ?_;refine gt9 5 ?_;refine gt9 6 ?_;refine gt9 7 ?_;refine gt9 8 ?_;refine gt9 9 ?_;refine aZ (i:=10) rfl ?_;(refine aO (q_ustr0 rfl rfl) ?_);refine gt9 11 ?_;refine aY (by kernel_rfl) vl9 vl9 bP ?_
      repeat' (first|refine gx9 ?_|fail)
      (refine bE Tryz.results199 (aB rfl) (List.Sublist.refl _) ?_)
      rfl
  | cons b l =>
    obtain⟨g,rfl⟩:∃ g,A=some ⟨g,0,none⟩:=by
      rcases hr.2 with ⟨_,_,h,_⟩|⟨g,_,h,_⟩
      · simp at h
      · exact⟨g,h⟩
    have hc:0<c:=by
      rcases hA with h|h
      · cases h
      · exact h
    (refine bD Tryz.func199 rfl Tryz.ntmps199 rfl ?_;intro w0)
    repeat' (first|(refine aE ?_;refine pu9 ?_)|refine cC ?_|fail)
    refine bX (id:=1) _ mixed (List.Sublist.cons_cons _ (List.nil_sublist _)) ?_;refine gt9 0 ?_;refine gt9 1 ?_;refine gt9 2 ?_;refine gt9 3 ?_;refine fL 4 rfl rfl (q_slData rfl hc) ?_;refine gt9 5 ?_;refine gt9 6 ?_;refine gt9 7 ?_;refine gt9 8 ?_;refine gt9 9 ?_;refine aZ (i:=10) rfl ?_;(refine gw_ustr rfl und_uptr u8_cell rfl rfl rfl hr aV (by simp) rfl ?_);refine gt9 11 ?_;refine aY (by kernel_rfl) vl9 vl9 bP ?_
    repeat' (first|refine gx9 ?_|fail)
    (refine bE Tryz.results199 (aB rfl) (List.Sublist.refl _) ?_)
    rfl
end
section
theorem ext_index:xP Tryz.prog 289 Extern.BytealgIndexByte.indexByte:=⟨fun args w=>run_callFunc_extern Tryz.func289 (by kernel_rfl) (by kernel_rfl) (by kernel_rfl) (by kernel_rfl) args w⟩
theorem dJ {V V':aD} {p:Addr} {v:Value} (h:VLe V V') (hp:V p=some v):V' p=some v:=h p v hp
abbrev slash:ByteArray:=⟨#[47]⟩
theorem slash_size:(slash.size:Int)=1:=rfl
theorem ex_take9 (l:List UInt8) (n:Nat):(⟨l.toArray⟩:ByteArray).extract 0 n=⟨(l.take n).toArray⟩:=by
  rw [ba_is ((⟨l.toArray⟩:ByteArray).extract 0 n),Lib.toList_data]
  simp [ByteArray.data_extract]
theorem ex_drop9 (l:List UInt8) (n:Nat):(⟨l.toArray⟩:ByteArray).extract n (⟨l.toArray⟩:ByteArray).size=⟨(l.drop n).toArray⟩:=by
  rw [ba_is ((⟨l.toArray⟩:ByteArray).extract n (⟨l.toArray⟩:ByteArray).size),Lib.toList_data]
  simp [ByteArray.data_extract,gU]
  exact List.take_of_length_le (by rw [List.length_drop];omega)
section
variable {P : Program} {B : Base} {N : Nat} {Q : Exit → Act → World → Prop} {k : List jI} {F : List (Nat × Value)} {V : aD} {L : List Box}
variable {d : Option Tmp} {ty : TypeId} {pos : String} {af : Array Edge} {gd : Option (Nat × Bool)} {T0 : TypeId} {ops : Array Oper} {rest : List Oper}
theorem St.perm {w:World} {L':List Box} (hs:St B V L w) (hp:L'.Perm L):St B V L' w :=
  ⟨hs.ext,fun p v h=>⟨(hs.view p v h).1,fun b hb=>(hs.view p v h).2 b (hp.mem_iff.1 hb)⟩,hs.old,hs.v0,fun b hb=>hs.own b (hp.mem_iff.1 hb),(hp.map Box.g).nodup_iff.2 hs.nodup⟩
end
attribute [local irreducible] AtQ GoC GoL GoW QO QP Fn RV bL aG VLe bR bK
theorem IndexByte_c (V:aD) (l:List UInt8):Fn Tryz.prog 274 [.string ⟨l.toArray⟩,.int .u8 47] V fun v _=>v=.int .i64 (Lib.indexByte l 47):=by
  (refine aI Tryz.func274 rfl Tryz.ntmps274 rfl ?_;intro w0)
  repeat' (first|(refine aE ?_;first|(refine aC ?_;refine aO (q_extern ext_index rfl (fun w=>Lib.run_indexByteString _ _ w)) ?_)|refine pu9 ?_)|refine eE ?_|(refine aJ rfl rfl rfl ?_ ?_<;>intro hq<;>try exact no9)|(refine bS rfl rfl rfl ?_ ?_<;>intro hq)|(refine aA rfl ?_ ?_<;>intro hq<;>try exact no9)|(refine bM rfl ?_ ?_<;>intro hq))
  all_goals (refine aM Tryz.results274 (aB rfl) ?_)
  all_goals rfl
theorem Index_c (V:aD) (l:List UInt8):Fn Tryz.prog 269 [.string ⟨l.toArray⟩,.string slash] V fun v _=>v=.int .i64 (Lib.indexByte l 47):=by
  have hs:=slash_size
  have hc:slash[(0:Int).toNat]?=some 47:=by rfl
  (refine aI Tryz.func269 rfl Tryz.ntmps269 rfl ?_;intro w0)
  repeat' (first|(refine aE ?_;first|(refine aC ?_;refine aP rfl (aK ⟨Tryz.call274⟩ rfl (IndexByte_c _ l)) ?_)|(refine jQ ?_;refine aO (gH und_9 rfl rfl (by omega) (by assumption)) ?_)|refine pu9 ?_)|refine dG ?_|(refine aA rfl ?_ ?_<;>intro hq<;>try exact no9))
  · (refine aM Tryz.results269 (aB rfl) ?_)
    have e:l=[47]:=by have:=congrArg ByteArray.toList hq;rw [mA,mA] at this;exact this.symm
    rw [e];rfl
  · (refine aM Tryz.results269 (aB rfl) ?_)
    rfl
def cutL (l:List UInt8):Value:=if 0≤Lib.indexByte l 47 then .tuple #[.string ⟨(l.take (Lib.indexByte l 47).toNat).toArray⟩,.string ⟨(l.drop ((Lib.indexByte l 47).toNat+1)).toArray⟩,.bool true] else .tuple #[.string ⟨l.toArray⟩,.string ⟨#[]⟩,.bool false]
theorem Cut_lc (V:aD) (l:List UInt8) (hl:l.length≤1000000):Fn Tryz.prog 259 [.string ⟨l.toArray⟩,.string slash] V fun v _=>v=cutL l:=by
  have hs:=slash_size
  have hsz:=gU l
  have hI:=Index_c V l
  unfold cutL
  by_cases h0:0≤Lib.indexByte l 47
  · obtain⟨_,_,h3⟩:=index_at h0
    rw [if_pos h0]
    (refine aI Tryz.func259 rfl Tryz.ntmps259 rfl ?_;intro w0)
    repeat' (first|(refine aE ?_;first|(refine aC ?_;refine aP rfl (aK ⟨Tryz.call269⟩ rfl (hI)) ?_)|(refine eG ?_;(first|refine aO (fP und_9 rfl rfl (by omega)) ?_|refine aO (pG und_9 rfl rfl (by omega)) ?_))|refine pu9 ?_)|refine cC ?_|(refine aA rfl ?_ ?_<;>intro hq<;>try exact no9)|refine bQ (id:=3) mixed (by kernel_rfl) ?_)
    all_goals (refine fV Tryz.results259 (aB rfl) (aB rfl) (aB rfl) ?_)
    all_goals (rw [ex_take9,ex_drop9,show (Lib.indexByte l 47+(slash.size:Int)).toNat=(Lib.indexByte l 47).toNat+1 by omega])
  · rw [if_neg h0]
    (refine aI Tryz.func259 rfl Tryz.ntmps259 rfl ?_;intro w0)
    repeat' (first|(refine aE ?_;first|(refine aC ?_;refine aP rfl (aK ⟨Tryz.call269⟩ rfl (hI)) ?_)|refine pu9 ?_)|refine cC ?_|(refine aA rfl ?_ ?_<;>intro hq<;>try exact no9))
    all_goals (refine fV Tryz.results259 (aB rfl) (aB rfl) (aB rfl) ?_)
    all_goals rfl
theorem SCut_c (V:aD) (l:List UInt8) (hl:l.length≤1000000):Fn Tryz.prog 229 [.string ⟨l.toArray⟩,.string slash] V fun v _=>v=cutL l:=by
  have hC:=Cut_lc V l hl
  unfold cutL at *
  by_cases h0:0≤Lib.indexByte l 47
  · rw [if_pos h0] at hC ⊢
    (refine aI Tryz.func229 rfl Tryz.ntmps229 rfl ?_;intro w0)
    repeat' (first|(refine aE ?_;first|(refine aC ?_;refine aP rfl (aK ⟨Tryz.call259⟩ rfl (hC)) ?_)|refine pu9 ?_)|refine eE ?_|(refine aJ rfl rfl rfl ?_ ?_<;>intro hq<;>try exact no9)|(refine bS rfl rfl rfl ?_ ?_<;>intro hq)|(refine aA rfl ?_ ?_<;>intro hq<;>try exact no9)|(refine bM rfl ?_ ?_<;>intro hq))
    all_goals (refine fV Tryz.results229 (aB rfl) (aB rfl) (aB rfl) ?_)
    all_goals rfl
  · rw [if_neg h0] at hC ⊢
    (refine aI Tryz.func229 rfl Tryz.ntmps229 rfl ?_;intro w0)
    repeat' (first|(refine aE ?_;first|(refine aC ?_;refine aP rfl (aK ⟨Tryz.call259⟩ rfl (hC)) ?_)|refine pu9 ?_)|refine eE ?_|(refine aJ rfl rfl rfl ?_ ?_<;>intro hq<;>try exact no9)|(refine bS rfl rfl rfl ?_ ?_<;>intro hq)|(refine aA rfl ?_ ?_<;>intro hq<;>try exact no9)|(refine bM rfl ?_ ?_<;>intro hq))
    all_goals (refine fV Tryz.results229 (aB rfl) (aB rfl) (aB rfl) ?_)
    all_goals rfl
end
section
theorem take_ne {α:Type} {xs ys:List α} {k n:Nat} {a b:α} (hx:xs[k]?=some a) (hy:ys[k]?=some b) (h:¬a=b) (hk:k<n):¬xs.take n=ys.take n:=fun e=>by
  have:=congrArg (fun l=>l[k]?) e
  simp only [List.getElem?_take,if_pos hk,hx,hy] at this
  exact h (Option.some.inj this)
theorem underB_no {xs ys:List ByteArray} (h:¬xs.length≤ys.length):pW xs ys=false:=by unfold pW;rw [decide_eq_false h];rfl
theorem underB_ne {xs ys:List ByteArray} (h:¬xs=ys.take xs.length):pW xs ys=false:=by unfold pW;rw [decide_eq_false h,Bool.and_false]
theorem underB_yes {xs ys:List ByteArray} (h1:xs.length≤ys.length) (h:xs=ys.take xs.length):pW xs ys=true:=by unfold pW;rw [decide_eq_true h1,decide_eq_true h];rfl
theorem name_size {s:ByteArray} (h:eV s.toList=true):s.size≤12:=((nameZ_iff s).1 h).2.1
theorem pnot_t {b:Bool} (h:(!b)=true):b=false:=by cases b<;>simp_all
theorem pnot_f {b:Bool} (h:(!b)=false):b=true:=by cases b<;>simp_all
attribute [local irreducible] AtQ GoC GoL GoW QO QP Fn RV bL aG VLe bR bK
theorem Under_c (V:aD) (A B:Option Addr) (n c m e:Nat) (xs ys:List ByteArray) (h:cL V A n xs) (g:cL V B m ys):Fn Tryz.prog 155 [.slice A n c,.slice B m e] V fun v _=>v=.bool (pW xs ys):=by
  have hl:=h.1.1
  have gl:=g.1.1
  have hm:=h.1.max
  have gm:=g.1.max
  (refine aI Tryz.func155 rfl Tryz.ntmps155 rfl ?_;intro w0)
  repeat' (first|(refine aE ?_;refine pu9 ?_)|refine bY ?_|(refine aA rfl ?_ ?_<;>intro hq<;>try exact no9))
  · (refine aM Tryz.results155 (aB rfl) ?_)
    rw [underB_no (by omega)]
  · refine bN (fun F V' L' m'=>∃ k:Nat,V=V'∧[]=L'∧k≤n∧xs.take k=ys.take k∧m'=n - k∧F=[(1,.slice B m e),(12,.slice A n c),(13,.int .i64 n),(14,.int .i64 k)]) (m:=n) ⟨0,rfl,rfl,Nat.zero_le _,rfl,by omega,rfl⟩ bH rfl sl9 ?_
    rintro F V' L' m' ⟨k,rfl,rfl,hk,ht,rfl,rfl⟩
    by_cases hlt:k<n
    · obtain⟨b1,o1,x,rfl,hx,hc1,_⟩:=h.at_ hlt
      obtain⟨b2,o2,y,rfl,hy,hc2,_⟩:=g.at_ (k:=k) (by omega)
      repeat' (first|(refine aE ?_;refine pu9 ?_)|refine bY ?_|(refine aA rfl ?_ ?_<;>intro hq<;>try exact no9))
      all_goals first
        | ((refine aM Tryz.results155 (aB rfl) ?_);rw [underB_ne (fun e=>take_ne (n:=xs.length) hx hy (fun e2=>hq e2.symm) (by omega) (by rw [List.take_length];exact e))];done)
        | (refine aX _ (n - (k+1)) ⟨k+1,rfl,rfl,by omega,take_next hx hy ht (Decidable.not_not.1 hq).symm,rfl,rfl⟩ (by omega) bH sl9)
    · repeat' (first|(refine aE ?_;refine pu9 ?_)|refine dT ?_|(refine aA rfl ?_ ?_<;>intro hq<;>try exact no9))
      (refine aM Tryz.results155 (aB rfl) ?_)
      obtain rfl:k=n:=by omega
      rw [underB_yes (by omega) (by rw [hl,←ht,List.take_of_length_le (by omega)])]
theorem cL.take {V:aD} {A:Option Addr} {n k:Nat} {xs:List ByteArray} (h:cL V A n xs) (hk:k≤n):cL V A k (xs.take k):=⟨h.1.take hk,fun x hx=>h.2 x (List.mem_of_mem_take hx)⟩
end
section
def Rise (l:List PF):Prop:=(l.map Prod.snd).Pairwise (·<·)∧∀ f∈l,0≤f.2
theorem Rise.sub {l l':List PF} (h:Rise l) (hs:(l'.map Prod.snd).Sublist (l.map Prod.snd)):Rise l':=⟨h.1.sublist hs,fun f hf=>by
  obtain⟨g,hg,he⟩:=List.mem_map.1 (hs.subset (List.mem_map_of_mem (f:=Prod.snd) hf))
  rw [←he];exact h.2 g hg⟩
theorem layP_ge:∀ (l:List PN) (i:Int),∀ f∈jS i l,i≤f.2
  | [],_,_,h=>by cases h
  | n :: l,i,f,h=>by
    rw [jS] at h
    rcases List.mem_cons.1 h with rfl|h
    · exact Int.le_refl _
    · have:=layP_ge l (i+1) f h;omega
theorem layP_rise:∀ (l:List PN) (i:Int),0≤i→Rise (jS i l)
  | [],_,_=>⟨List.Pairwise.nil,by simp [jS]⟩
  | n :: l,i,h=>by
    obtain⟨h1,h2⟩:=layP_rise l (i+1) (by omega)
    refine⟨?_,fun f hf=>?_⟩
    · rw [jS,List.map_cons,List.pairwise_cons]
      refine⟨fun x hx=>?_,h1⟩
      obtain⟨g,hg,rfl⟩:=List.mem_map.1 hx
      have:=layP_ge l (i+1) g hg
      show i<g.2;omega
    · have:=layP_ge (n :: l) i f hf;omega
theorem dirsP_subl:∀ l:List PF,(dI l).Sublist l
  | []=>List.Sublist.refl _
  | f :: l=>by
    rw [dI];split
    · split
      · exact List.Sublist.cons_cons _ (List.nil_sublist _)
      · exact(dirsP_subl l).cons_cons _
    · exact List.nil_sublist _
theorem shownP_subl (l:List PF):(dF l).Sublist l:=by
  cases l with
  | nil=>exact List.Sublist.refl _
  | cons f l =>
    rw [dF];split
    · exact List.Sublist.cons_cons _ (List.nil_sublist _)
    · exact dirsP_subl _
theorem kidP_lay {s:ByteArray} {f g:PF} (h:lX s f=some g):g.2=f.2:=by
  unfold lX at h
  split at h
  · cases h2:fH f.1.ks s with
    | none=>rw [h2] at h;cases h
    | some x=>rw [h2] at h;cases h;rfl
  · cases h
theorem fm_lay (s:ByteArray):∀ l:List PF,((l.filterMap (lX s)).map Prod.snd).Sublist (l.map Prod.snd)
  | []=>List.Sublist.refl _
  | f :: l=>by
    rw [List.filterMap_cons]
    cases h:lX s f with
    | none=>exact(fm_lay s l).cons _
    | some g =>
      simp only [List.map_cons,kidP_lay h]
      exact(fm_lay s l).cons_cons _
theorem stepP_rise {l:List PF} (s:ByteArray) (h:Rise l):Rise (dK l s):=h.sub (((shownP_subl _).map Prod.snd).trans (fm_lay s l))
theorem walkP_rise (l:List PN) (ss:List ByteArray):Rise (cR l ss):=by
  have key:∀ (ss:List ByteArray) (a:List PF),Rise a→Rise (ss.foldl dK a):=fun ss=>by
    induction ss with
    | nil=>intro a ha;exact ha
    | cons s ss ih=>intro a ha;exact ih _ (stepP_rise s ha)
  exact key ss _ ((layP_rise l 0 (Int.le_refl _)).sub ((shownP_subl _).map Prod.snd))
theorem fm_congr9 {α β:Type} {p q:α→Option β}:∀ {l:List α},(∀ x∈l,p x=q x)→l.filterMap p=l.filterMap q
  | [],_=>rfl
  | x :: l,h=>by rw [List.filterMap_cons,List.filterMap_cons,h x (by simp),fm_congr9 (fun y hy=>h y (by simp [hy]))]
def cutP:List PF→List PF
  | []=>[]
  | f :: t=>if f.2=0 then t else f :: t
theorem cut_kids {r:List PF} (s:ByteArray) (h:Rise r):r.filterMap (sM true s)=(cutP r).filterMap (lX s):=by
  cases r with
  | nil=>rfl
  | cons f t =>
    obtain⟨h1,h2⟩:=h
    rw [List.map_cons,List.pairwise_cons] at h1
    have h0:=h2 f (by simp)
    have ht:t.filterMap (sM true s)=t.filterMap (lX s):=fm_congr9 fun g hg=>by
      have:=h1.1 g.2 (List.mem_map_of_mem (f:=Prod.snd) hg)
      exact if_neg fun ⟨_,hz⟩=>by omega
    rw [cutP,List.filterMap_cons]
    by_cases hf:f.2=0
    · rw [if_pos hf,kidB_cut rfl hf];exact ht
    · rw [if_neg hf,List.filterMap_cons,show sM true s f=lX s f from if_neg fun ⟨_,hz⟩=>hf hz,ht]
theorem shown_opq {l t:List PF} {f:PF} (h:dF l=f :: t) (ho:f.1.h.opq=true):t=[]:=by
  cases l with
  | nil=>cases h
  | cons g l =>
    rw [dF] at h;split at h
    · cases h;rfl
    · rw [dI] at h;split at h
      · split at h
        · cases h;rfl
        · rename_i hg;cases h;exact absurd ho hg
      · cases h
theorem walkP_shown (l:List PN) (ss:List ByteArray):∃ r,cR l ss=dF r:=by
  rcases List.eq_nil_or_concat ss with rfl|⟨ss,s,rfl⟩
  · exact⟨_,rfl⟩
  · exact⟨_,by unfold cR;rw [List.concat_eq_append,List.foldl_append];rfl⟩
theorem stackK_bare {l:List PN} {ss:List ByteArray}:∀ k,k<ss.length→mO l ss true k=cR l (ss.take k)
  | 0,_=>rfl
  | k+1,h=>by
    obtain⟨s,hs⟩:∃ s,ss[k]?=some s:=⟨_,List.getElem?_eq_getElem (by omega)⟩
    rw [pI hs,walk_snoc hs,stackK_bare k (by omega),Bool.true_and,decide_eq_false (by omega),kidB_false];rfl
theorem bare_last {l:List PN} {ss:List ByteArray} {k:Nat} {s:ByteArray} (hs:ss[k]?=some s) (hk:ss.length=k+1):mO l ss true (k+1)=dK (cutP (cR l (ss.take k))) s:=by
  rw [pI hs,stackK_bare k (by omega),Bool.true_and,decide_eq_true (by omega),cut_kids s (walkP_rise _ _)];rfl
def jK (l:List PN) (ss:List ByteArray):Bool:=decide (0<ss.length) && decide (0<(mO l ss true ss.length).length)
theorem dB.drop {V:aD} {A:Option Addr} {n k c:Nat} {fs:List LF} (h:dB V A n fs) (hk:k≤n) (hc:n≤c):dB V (vX A c k 9) (n - k) (fs.drop k):=⟨h.1.drop hk hc,fun f hf=>h.2 f (List.mem_of_mem_drop hf)⟩
theorem below_yes {l:List PN} {ss:List ByteArray} {k:Nat} {s:ByteArray} {r:List PF} (hs:ss[k]?=some s) (hk:ss.length=k+1) (hr:cR l (ss.take k)=r):jK l ss=decide (0<(dK (cutP r) s).length):=by
  unfold jK;rw [hk,bare_last hs hk,hr,decide_eq_true (by omega),Bool.true_and]
attribute [local irreducible] AtQ GoC GoL GoW QO QP Fn RV bL aG VLe bR bK
end
section
attribute [local irreducible] AtQ GoC GoL GoW QO QP Fn RV bL aG VLe bR bK
theorem Below_c (V:aD) (A:Option Addr) (n c:Nat) (xs:List LN) (h:dR V A n xs) (hn:n≤1000) (B:Option Addr) (m e:Nat) (ss:List ByteArray) (hs:cL V B m ss) (hme:m≤e):Fn Tryz.prog 156 [.slice A n c,.slice B m e] V fun v _=>v=.bool (jK (xs.map LN.n) ss):=by
  have sl:=hs.1.1
  have sm:=hs.1.max
  (refine aI Tryz.func156 rfl Tryz.ntmps156 rfl ?_;intro w0)
  by_cases h0:m=0
  · subst h0
    have hb:jK (xs.map LN.n) ss=false:=by unfold jK;rw [sl];rfl
    repeat' (first|(refine aE ?_;refine pu9 ?_)|refine cX ?_|fail)
    all_goals try exact no9
    all_goals
      (refine aM Tryz.results156 (aB rfl) ?_)
      rw [hb]
  obtain⟨k,rfl⟩:∃ k,m=k+1:=⟨m - 1,by omega⟩
  obtain⟨b2,o2,s,rfl,hx,hc2,hss⟩:=hs.at_ (k:=k) (by omega)
  have hW:=Walk_c V A n c xs h hn _ k e (ss.take k) (hs.take (by omega))
  obtain⟨r,hr⟩:∃ r,cR (xs.map LN.n) (ss.take k)=r:=⟨_,rfl⟩
  have hbl:=below_yes hx sl hr
  have hrl:=mN (xs.map LN.n) (ss.take k)
  have hra:=h.1.1
  obtain⟨r0,hr0⟩:=walkP_shown (xs.map LN.n) (ss.take k)
  rw [hr] at hW hrl hr0
  rw [List.length_map] at hrl
  have hk1:(((k+1:Nat):Int) - 1).toNat=k:=by omega
  have hW':Fn Tryz.prog 227 [.slice A n c,.slice (some ⟨b2,o2,none⟩) (((k+1:Nat):Int) - 1).toNat e] V (pH r):=by rw [hk1];exact hW
  repeat' (first|(refine aE ?_;first|(refine aC ?_;(refine aS rfl ⟨Tryz.call227⟩ rfl rfl (hW') ?_;rintro v V1 hV1 ⟨A1,n1,c1,fs,rfl,hF1,hc1,rfl⟩))|(refine eG ?_;refine aO (eR und_47 siz_9 rfl rfl ⟨by omega,by omega⟩) ?_)|refine pu9 ?_)|refine jR ?_|refine fE [0,1,3] rfl ?_)
  all_goals try exact no9
  have hfl:=hF1.1.1
  rw [List.length_map] at hrl
  have hcell:V1 ⟨b2,o2+(((k+1:Nat):Int) - 1).toNat * 1,none⟩=some (.string s):=by rw [hk1];exact dJ hV1 hc2
  have hnf:∀ {r:List PF} {m:Nat},r.length=m→Value.bool (decide ((m:Int)>0))=.bool (decide (0<r.length)):=fun h=>by rw [h];first|rfl|(refine congrArg Value.bool ?_;first|exact(decide_eq_true (by omega)).symm|exact(decide_eq_false (by omega)).symm|exact decide_eq_decide.2 (by omega))
  cases fs with
  | nil =>
    obtain rfl:n1=0:=by simpa using hfl.symm
    have hS:=yC V1 A1 0 c1 [] hF1 (by omega) s
    rw [hbl]
    repeat' (first|(refine aE ?_;first|(refine aC ?_;(refine aS rfl ⟨Tryz.call234⟩ rfl rfl (hS) ?_;rintro v V2 hV2 ⟨A2,n2,c2,gs,rfl,hG2,hc2',hgz⟩))|refine pu9 ?_)|refine cX ?_|fail)
    all_goals try exact no9
    all_goals
      (refine aM Tryz.results156 (aB rfl) ?_)
      have hgl:=hG2.1.1
      show _=Value.bool (decide (0<(dK (([]:List LF).map fz) s).length))
      rw [←hgz,List.length_map,hgl];first|rfl|(refine congrArg Value.bool ?_;first|exact(decide_eq_true (by omega)).symm|exact(decide_eq_false (by omega)).symm|exact decide_eq_decide.2 (by omega))
  | cons f t =>
    obtain⟨b,off,f',rfl,hf',hcf,hNf⟩:=hF1.at_ (k:=0) (by rw [←hfl,List.length_cons];omega)
    obtain rfl:f=f':=by simpa using hf'
    obtain⟨hc8,hc9⟩:=tG hcf
    obtain⟨_,hc4⟩:=xA hcf
    rw [List.length_cons] at hfl hrl
    have hn1:0<n1:=by omega
    have hfz:(fz f).2=f.lay:=rfl
    rw [List.map_cons] at hbl hr0
    rw [cutP,hfz] at hbl
    by_cases hl0:f.lay=0
    · rw [if_pos hl0] at hbl
      have hD:=hF1.drop (k:=1) hn1 hc1
      have hS:=yC V1 _ (n1 - 1) (c1 - 1) _ hD (by omega) s
      have hdr:(f :: t).drop 1=t:=rfl
      rw [hdr] at hS
      rw [hbl]
      repeat' (first|(refine aE ?_;first|(refine aC ?_;(refine aS rfl ⟨Tryz.call234⟩ rfl rfl (hS) ?_;rintro v V2 hV2 ⟨A2,n2,c2,gs,rfl,hG2,hc2',hgz⟩))|(refine eG ?_;refine aO (nQ (l:=1) und_272 siz_306 rfl rfl hn1) ?_)|(refine cG ?_;refine aO (eZ (k:=0) und_272 siz_306 rfl rfl hn1) ?_)|refine pu9 ?_)|refine cC ?_|(refine aJ rfl rfl rfl ?_ ?_<;>intro hq<;>try exact no9)|(refine aA rfl ?_ ?_<;>intro hq<;>try exact no9)|(refine bM rfl ?_ ?_<;>intro hq))
      all_goals try exact no9
      all_goals
        (refine aM Tryz.results156 (aB rfl) ?_)
        first
          | (have hgl:=hG2.1.1;rw [←hgz,List.length_map,hgl];first|rfl|(refine congrArg Value.bool ?_;first|exact(decide_eq_true (by omega)).symm|exact(decide_eq_false (by omega)).symm|exact decide_eq_decide.2 (by omega)))
          | (have ht0:t.map fz=[]:=shown_opq hr0.symm (by first|exact hq|assumption);rw [ht0];rfl)
    · rw [if_neg hl0] at hbl
      have hS:=yC V1 _ n1 c1 _ hF1 (by omega) s
      rw [hbl]
      repeat' (first|(refine aE ?_;first|(refine aC ?_;(refine aS rfl ⟨Tryz.call234⟩ rfl rfl (hS) ?_;rintro v V2 hV2 ⟨A2,n2,c2,gs,rfl,hG2,hc2',hgz⟩))|(refine cG ?_;refine aO (eZ (k:=0) und_272 siz_306 rfl rfl hn1) ?_)|refine pu9 ?_)|refine cC ?_|(refine aJ rfl rfl rfl ?_ ?_<;>intro hq<;>try exact no9)|(refine aA rfl ?_ ?_<;>intro hq<;>try exact no9))
      all_goals try exact no9
      all_goals
        (refine aM Tryz.results156 (aB rfl) ?_)
        first
          | (have hgl:=hG2.1.1;rw [←List.map_cons,←hgz,List.length_map,hgl];first|rfl|(refine congrArg Value.bool ?_;first|exact(decide_eq_true (by omega)).symm|exact(decide_eq_false (by omega)).symm|exact decide_eq_decide.2 (by omega)))
          | (have ht0:t.map fz=[]:=shown_opq hr0.symm (by first|exact hq|assumption);rw [ht0];rfl)
end
section
open Go.RowKit Go.Sort
def sortRen:Go.Shelf.Ren:=⟨fun|192=>258|190=>268|125=>273|258=>272|128=>287|129=>288|302=>278|303=>279|304=>280|305=>281|306=>282|307=>283|308=>284|309=>285|310=>286|333=>291|329=>292|330=>293|334=>294|335=>295|336=>296|344=>297|n=>n,fun|31=>47|0=>0|9=>9|3=>3|46=>148|51=>350|53=>352|4=>4|183=>343|182=>342|131=>127|5=>5|218=>355|222=>359|228=>361|229=>178|n=>n,fun n=>n⟩
theorem sortLays:Go.Proofs.Lays.n192 Tryz.prog sortRen where
  mixed:=by kernel_rfl
  f125:=Tryz.func273.trans (congrArg some (by kernel_rfl))
  f128:=Tryz.func287.trans (congrArg some (by kernel_rfl))
  f129:=Tryz.func288.trans (congrArg some (by kernel_rfl))
  f190:=Tryz.func268.trans (congrArg some (by kernel_rfl))
  f192:=Tryz.func258.trans (congrArg some (by kernel_rfl))
  f258:=Tryz.func272.trans (congrArg some (by kernel_rfl))
  f302:=Tryz.func278.trans (congrArg some (by kernel_rfl))
  f303:=Tryz.func279.trans (congrArg some (by kernel_rfl))
  f304:=Tryz.func280.trans (congrArg some (by kernel_rfl))
  f305:=Tryz.func281.trans (congrArg some (by kernel_rfl))
  f306:=Tryz.func282.trans (congrArg some (by kernel_rfl))
  f307:=Tryz.func283.trans (congrArg some (by kernel_rfl))
  f308:=Tryz.func284.trans (congrArg some (by kernel_rfl))
  f309:=Tryz.func285.trans (congrArg some (by kernel_rfl))
  f310:=Tryz.func286.trans (congrArg some (by kernel_rfl))
  f329:=Tryz.func292.trans (congrArg some (by kernel_rfl))
  f330:=Tryz.func293.trans (congrArg some (by kernel_rfl))
  f333:=Tryz.func291.trans (congrArg some (by kernel_rfl))
  f334:=Tryz.func294.trans (congrArg some (by kernel_rfl))
  f335:=Tryz.func295.trans (congrArg some (by kernel_rfl))
  f336:=Tryz.func296.trans (congrArg some (by kernel_rfl))
  f344:=Tryz.func297.trans (congrArg some (by kernel_rfl))
  t0:=Tryz.underlying0
  a0:=Tryz.isAgg0
  z0:=Tryz.sizeOf0
  v0:=Tryz.zeroValue0
  t3:=Tryz.underlying3
  a3:=Tryz.isAgg3
  z3:=Tryz.sizeOf3
  v3:=Tryz.zeroValue3
  t4:=Tryz.underlying4
  a4:=Tryz.isAgg4
  z4:=Tryz.sizeOf4
  v4:=Tryz.zeroValue4
  t5:=Tryz.underlying5
  a5:=Tryz.isAgg5
  z5:=Tryz.sizeOf5
  v5:=Tryz.zeroValue5
  t9:=Tryz.underlying9
  a9:=Tryz.isAgg9
  z9:=Tryz.sizeOf9
  v9:=Tryz.zeroValue9
  t31:=Tryz.underlying47
  a31:=Tryz.isAgg47
  z31:=Tryz.sizeOf47
  v31:=Tryz.zeroValue47
  t46:=Tryz.underlying148
  a46:=Tryz.isAgg148
  z46:=Tryz.sizeOf148
  v46:=Tryz.zeroValue148
  t51:=Tryz.underlying350
  a51:=Tryz.isAgg350
  z51:=Tryz.sizeOf350
  v51:=Tryz.zeroValue350
  t53:=Tryz.underlying352
  a53:=Tryz.isAgg352
  z53:=Tryz.sizeOf352
  v53:=Tryz.zeroValue352
  t131:=Tryz.underlying127
  a131:=Tryz.isAgg127
  z131:=Tryz.sizeOf127
  v131:=Tryz.zeroValue127
  t182:=Tryz.underlying342
  a182:=Tryz.isAgg342
  z182:=Tryz.sizeOf342
  v182:=Tryz.zeroValue342
  t183:=Tryz.underlying343
  a183:=Tryz.isAgg343
  z183:=Tryz.sizeOf343
  v183:=Tryz.zeroValue343
  t218:=Tryz.underlying355
  a218:=Tryz.isAgg355
  z218:=Tryz.sizeOf355
  v218:=Tryz.zeroValue355
  t222:=Tryz.underlying359
  a222:=Tryz.isAgg359
  z222:=Tryz.sizeOf359
  v222:=Tryz.zeroValue359
  t228:=Tryz.underlying361
  a228:=Tryz.isAgg361
  z228:=Tryz.sizeOf361
  v228:=Tryz.zeroValue361
  t229:=Tryz.underlying178
  a229:=Tryz.isAgg178
  z229:=Tryz.sizeOf178
  v229:=Tryz.zeroValue178
def aH (s:ByteArray):List UInt8:=s.data.toList
def unB (l:List UInt8):ByteArray:=⟨l.toArray⟩
theorem gZ (s:ByteArray):unB (aH s)=s:=by cases s;simp [unB,aH]
def sV (ss:List ByteArray):List ByteArray:=((ss.map aH).mergeSort (fun x y=>decide (x≤y))).map unB
theorem sortS_enc (ss:List ByteArray):(sV ss).map Value.string=((ss.map aH).mergeSort (fun x y=>decide (x≤y))).map encStr:=by
  rw [sV,List.map_map];rfl
theorem enc_listB (ss:List ByteArray):ss.map Value.string=(ss.map aH).map encStr:=by
  rw [List.map_map]
  refine List.map_congr_left fun s _=>?_
  show Value.string s=Value.string (unB (aH s))
  rw [gZ]
theorem Sort_c (V:aD) {A:Option Addr} {n c E:Nat} {ss:List ByteArray} {L:List Box} (h:cO A n c E 1 (ss.map Value.string) L) (hn:n≤1000000000000):FnB Tryz.prog 258 [.slice A n c] V L fun _ V' B=>V'=V∧cO A n c E 1 ((sV ss).map Value.string) B:=fun w hs=>by
  have hlen:ss.length=n:=by have:=h.1;simpa using this
  have hr:=h
  obtain⟨h1,h|h⟩:=h
  · obtain⟨rfl,rfl,rfl,rfl⟩:=h
    have hc:=Any.sort_Strings_none sortLays none 0 w
    refine Calls.mono (f:=258) hc ?_
    rintro e w' ⟨rfl,rfl⟩
    obtain rfl:ss=[]:=List.eq_nil_of_length_eq_zero hlen
    have h0:sV []=[]:=by simp [sV]
    exact⟨.tuple #[],V,[],rfl,hs,rfl,by rw [h0];exact cO.nil⟩
  · obtain⟨g,cs,rfl,rfl,h2,h3,h4,h5⟩:=h
    have hb:=(hs.own _ (List.mem_singleton.2 rfl)).1
    rw [BT.obj_cells] at hb
    have hl':(ss.map aH).length=n:=by simpa using hlen
    have hH:Holds encStr w g 0 (ss.map aH).toArray:=holds_of_block hb (by rw [hl',←enc_listB];simpa using h5)
    have hc:=Any.sort_Strings sortLays g 0 c (ss.map aH) w hH (Array.getElem?_eq_some_iff.1 hb).1 (by omega)
    rw [hl'] at hc
    refine Calls.mono (f:=258) hc ?_
    rintro e w' ⟨rfl,nn,os,rfl⟩
    have ho:=ownsRow_sorted (n:=nn) (os:=os) (ss:=ss.map aH) (ts:=(ss.map aH).mergeSort (fun x y=>decide (x≤y))) (by simp) (Nat.zero_le g) hb (by omega) h3 (by simpa using h4)
    rw [hl',←sortS_enc] at ho
    have hg:=grownBy_sorted (w:=w) (g:=g) (n:=nn) (os:=os) ((ss.map aH).mergeSort (fun x y=>decide (x≤y))).toArray
    obtain⟨A',c',L1',e1,e2,e3⟩:=St.grown (X:=[]) (Y:=[]) (B:=⟨V,w,fW [⟨g,(E:BT),cs⟩]⟩) (V:=V) (by simpa using hs) hr hg ho (.inl rfl)
    injection e1 with e1 e4 e5
    subst e1 e5
    exact⟨.tuple #[],V,L1',rfl,by simpa using e3,rfl,e2⟩
end
section
instance memDec9 (a : ByteArray) (l : List ByteArray) : Decidable (a ∈ l) := decidable_of_iff (l.any (fun x => decide (x = a)) = true) (by simp)
def dM (r:List PF):List ByteArray:=r.flatMap fun f=>f.1.ks.map Prod.fst
def outS (r:List PF) (out:List ByteArray) (nm:ByteArray):List ByteArray:=if nm∈out∨(dK r nm).length=0 then out else out ++ [nm]
def oM (r:List PF) (l:List ByteArray):List ByteArray:=l.foldl (outS r) []
def jM (r:List PF):List ByteArray:=sV (oM r (dM r))
theorem mG (r:List PF) (l:List ByteArray) (nm:ByteArray):oM r (l ++ [nm])=outS r (oM r l) nm:=by unfold oM;rw [List.foldl_append];rfl
theorem outS_mono {r:List PF} {out:List ByteArray} {nm x:ByteArray} (h:x∈out):x∈outS r out nm:=by
  unfold outS;split
  · exact h
  · simp [h]
theorem xD {α:Type} {C:List α→Prop} (h0:C []) (h1:∀ l x,C l→C (l ++ [x])) (l:List α):C l:=by
  have key:∀ n (l:List α),l.length=n→C l:=fun n=>by
    induction n with
    | zero=>intro l hl;rw [List.eq_nil_of_length_eq_zero hl];exact h0
    | succ n ih =>
      intro l hl
      rcases List.eq_nil_or_concat l with rfl|⟨l',x,rfl⟩
      · exact h0
      · rw [List.concat_eq_append] at *
        exact h1 l' x (ih l' (by simpa using hl))
  exact key _ l rfl
theorem outP_mem {r:List PF} (l:List ByteArray):∀ x∈oM r l,x∈l∧(dK r x).length≠0:=by
  refine xD (C:=fun l=>∀ x∈oM r l,x∈l∧(dK r x).length≠0) ?_ ?_ l
  · intro x hx;cases hx
  · intro l nm ih x hx
    rw [mG] at hx
    unfold outS at hx;split at hx
    · exact⟨by simp [(ih x hx).1],(ih x hx).2⟩
    · rename_i hc
      rcases List.mem_append.1 hx with hx|hx
      · exact⟨by simp [(ih x hx).1],(ih x hx).2⟩
      · rw [List.mem_singleton.1 hx];exact⟨by simp,fun h=>hc (.inr h)⟩
theorem outP_has {r:List PF} (l:List ByteArray):∀ x∈l,x∈oM r l∨(dK r x).length=0:=by
  refine xD (C:=fun l=>∀ x∈l,x∈oM r l∨(dK r x).length=0) ?_ ?_ l
  · intro x hx;cases hx
  · intro l nm ih x hx
    rw [mG]
    rcases List.mem_append.1 hx with hx|hx
    · exact(ih x hx).imp outS_mono id
    · rw [List.mem_singleton.1 hx]
      unfold outS
      by_cases h:nm∈oM r l∨(dK r nm).length=0
      · rw [if_pos h];exact h
      · rw [if_neg h];simp
theorem out_old {r:List PF} {l:List ByteArray} {nm:ByteArray} (h:nm∈l):oM r (l ++ [nm])=oM r l:=by
  rw [mG];exact if_pos (outP_has l nm h)
theorem out_none {r:List PF} {l:List ByteArray} {nm:ByteArray} (h:(dK r nm).length=0):oM r (l ++ [nm])=oM r l:=by
  rw [mG];exact if_pos (.inr h)
theorem out_new {r:List PF} {l:List ByteArray} {nm:ByteArray} (h:¬nm∈l) (hs:(dK r nm).length≠0):oM r (l ++ [nm])=oM r l ++ [nm]:=by
  rw [mG];exact if_neg fun hc=>hc.elim (fun h1=>h (outP_mem l nm h1).1) hs
def mM (out:List ByteArray) (nm:ByteArray):Nat:=out.findIdx fun x=>!decide (x.toList<nm.toList)
def insS (r:List PF) (out:List ByteArray) (nm:ByteArray):List ByteArray:=if (dK r nm).length=0∨out[mM out nm]?=some nm then out else out.take (mM out nm) ++ nm :: out.drop (mM out nm)
def kY (r:List PF) (l:List ByteArray):List ByteArray:=l.foldl (insS r) []
theorem uC (r:List PF) (l:List ByteArray) (nm:ByteArray):kY r (l ++ [nm])=insS r (kY r l) nm:=by unfold kY;rw [List.foldl_append];rfl
def UpS (l:List ByteArray):Prop:=l.Pairwise fun a b=>a.toList<b.toList
theorem tX (s:ByteArray):s.toList=aH s:=Lib.toList_data s
theorem toList_inj {a b:ByteArray} (h:a.toList=b.toList):a=b:=by
  rw [tX,tX] at h
  rw [←gZ a,h,gZ]
theorem insN_le (out:List ByteArray) (nm:ByteArray):mM out nm≤out.length:=List.findIdx_le_length
theorem insN_lo {out:List ByteArray} {nm:ByteArray} {i:Nat} {x:ByteArray} (hx:out[i]?=some x) (hi:i<mM out nm):x.toList<nm.toList:=by
  have h:=List.not_of_lt_findIdx (xs:=out) (p:=fun x:ByteArray=>!decide (x.toList<nm.toList)) hi
  obtain⟨h1,rfl⟩:=List.getElem?_eq_some_iff.1 hx
  simpa using h
theorem insN_at {out:List ByteArray} {nm:ByteArray} {x:ByteArray} (hx:out[mM out nm]?=some x):¬x.toList<nm.toList:=by
  obtain⟨h1,rfl⟩:=List.getElem?_eq_some_iff.1 hx
  have h:=List.findIdx_getElem (xs:=out) (p:=fun x:ByteArray=>!decide (x.toList<nm.toList)) (w:=h1)
  rw [Bool.not_eq_true',decide_eq_false_iff_not] at h
  exact h
theorem up_hi {l:List ByteArray} (h:UpS l) {i j:Nat} {x y:ByteArray} (hx:l[i]?=some x) (hy:l[j]?=some y) (hij:i<j):x.toList<y.toList:=by
  obtain⟨h1,rfl⟩:=List.getElem?_eq_some_iff.1 hx
  obtain⟨h2,rfl⟩:=List.getElem?_eq_some_iff.1 hy
  exact List.pairwise_iff_getElem.1 h i j h1 h2 hij
theorem ins_hit {out:List ByteArray} {nm:ByteArray} (h:UpS out):out[mM out nm]?=some nm↔nm∈out:=by
  refine⟨fun hx=>List.mem_of_getElem? hx,fun hm=>?_⟩
  obtain⟨i,hi⟩:=List.getElem?_of_mem hm
  have hil:i<out.length:=(List.getElem?_eq_some_iff.1 hi).1
  rcases Nat.lt_trichotomy i (mM out nm) with hlt|he|hgt
  · exact absurd (insN_lo hi hlt) (List.lt_irrefl _)
  · rw [←he];exact hi
  · obtain⟨x,hx⟩:∃ x,out[mM out nm]?=some x:=⟨_,List.getElem?_eq_getElem (by omega)⟩
    exact absurd (up_hi h hx hi hgt) (insN_at hx)
theorem lt_of_nlt_ne {a b:ByteArray} (h:¬a.toList<b.toList) (hne:a≠b):b.toList<a.toList:=by
  rcases List.le_total a.toList b.toList with hl|hl
  · rcases Decidable.em (b.toList<a.toList) with h2|h2
    · exact h2
    · exact absurd (toList_inj (List.le_antisymm (List.not_lt.1 h2) (List.not_lt.1 h))) hne
  · rcases Decidable.em (b.toList<a.toList) with h2|h2
    · exact h2
    · exact absurd (toList_inj (List.le_antisymm (List.not_lt.1 h2) (List.not_lt.1 h))) hne
theorem ins_up {out:List ByteArray} {nm:ByteArray} (h:UpS out) (hn:¬nm∈out):UpS (out.take (mM out nm) ++ nm :: out.drop (mM out nm)):=by
  have hlo:∀ a∈out.take (mM out nm),a.toList<nm.toList:=fun a ha=>by
    obtain⟨i,hi⟩:=List.getElem?_of_mem ha
    have hil:i<mM out nm:=by
      have:=(List.getElem?_eq_some_iff.1 hi).1
      rw [List.length_take] at this;omega
    rw [List.getElem?_take_of_lt hil] at hi
    exact insN_lo hi hil
  have hhi:∀ b∈out.drop (mM out nm),nm.toList<b.toList:=fun b hb=>by
    obtain⟨j,hj⟩:=List.getElem?_of_mem hb
    rw [List.getElem?_drop] at hj
    have hjl:=(List.getElem?_eq_some_iff.1 hj).1
    obtain⟨x,hx⟩:∃ x,out[mM out nm]?=some x:=⟨_,List.getElem?_eq_getElem (by omega)⟩
    have hxn:nm.toList<x.toList:=lt_of_nlt_ne (insN_at hx) fun e=>hn (e▸List.mem_of_getElem? hx)
    rcases Nat.eq_zero_or_pos j with rfl|hj0
    · rw [Nat.add_zero,hx] at hj;injection hj with hj;rw [←hj];exact hxn
    · exact List.lt_trans hxn (up_hi h hx hj (by omega))
  refine List.pairwise_append.2 ⟨h.sublist (List.take_sublist _ _),List.pairwise_cons.2 ⟨hhi,h.sublist (List.drop_sublist _ _)⟩,fun a ha b hb=>?_⟩
  rcases List.mem_cons.1 hb with rfl|hb
  · exact hlo a ha
  · exact List.lt_trans (hlo a ha) (hhi b hb)
theorem ins_out {r:List PF} (l:List ByteArray):UpS (kY r l)∧(kY r l).Perm (oM r l):=by
  refine xD (C:=fun l=>UpS (kY r l)∧(kY r l).Perm (oM r l)) ⟨List.Pairwise.nil,List.Perm.refl _⟩ ?_ l
  intro l nm ⟨ih1,ih2⟩
  rw [uC,mG]
  unfold insS outS
  by_cases hs:(dK r nm).length=0
  · rw [if_pos (.inl hs),if_pos (.inr hs)];exact⟨ih1,ih2⟩
  · by_cases hm:nm∈kY r l
    · rw [if_pos (.inr ((ins_hit ih1).2 hm)),if_pos (.inl (ih2.mem_iff.1 hm))];exact⟨ih1,ih2⟩
    · rw [if_neg (fun h=>h.elim hs fun h=>hm ((ins_hit ih1).1 h)),if_neg (fun h=>h.elim (fun h=>hm (ih2.mem_iff.2 h)) hs)]
      refine⟨ins_up ih1 hm,?_⟩
      refine List.perm_middle.trans ?_
      rw [List.take_append_drop]
      exact(List.Perm.cons nm ih2).trans (List.perm_append_singleton nm _).symm
theorem sortS_perm {a b:List ByteArray} (h:a.Perm b):sV a=sV b:=by
  unfold sV;rw [mergeSort_of_perm (h.map aH)]
theorem sortS_up {a:List ByteArray} (h:UpS a):sV a=a:=by
  have hp:(a.map aH).Pairwise fun x y=>decide (x≤y)=true:=by
    rw [List.pairwise_map]
    refine h.imp fun {x y} hxy=>?_
    rw [tX,tX] at hxy
    exact decide_eq_true (List.le_of_lt hxy)
  unfold sV
  rw [List.mergeSort_of_pairwise hp,List.map_map]
  conv=>rhs;rw [←List.map_id a]
  exact List.map_congr_left fun s _=>gZ s
theorem vO (r:List PF):kY r (dM r)=jM r:=by
  obtain⟨h1,h2⟩:=ins_out (r:=r) (dM r)
  unfold jM
  rw [←sortS_perm h2,sortS_up h1]
theorem qQ {r:List PF} {x:ByteArray}:x∈jM r↔x∈dM r∧(dK r x).length≠0:=by
  rw [←vO,(ins_out (r:=r) (dM r)).2.mem_iff]
  exact⟨fun h=>outP_mem _ x h,fun ⟨h1,h2⟩=>(outP_has _ x h1).resolve_right h2⟩
theorem outP_len (r:List PF) (l:List ByteArray):(oM r l).length≤l.length:=by
  refine xD (C:=fun l=>(oM r l).length≤l.length) (Nat.le_refl _) ?_ l
  intro l nm ih
  rw [mG];unfold outS;split
  · simp;omega
  · simp;omega
theorem insP_len (r:List PF) (l:List ByteArray):(kY r l).length≤l.length:=by
  rw [(ins_out l).2.length_eq];exact outP_len r l
theorem uE (r:List PF):(jM r).length≤(dM r).length:=by rw [←vO];exact insP_len _ _
end
section
theorem ba_beq (a b:ByteArray):(a == b)=decide (a=b):=by
  show ByteArray.beq a b=_
  obtain⟨a⟩:=a;obtain⟨b⟩:=b
  unfold ByteArray.beq
  by_cases h:a=b<;>simp [h]
structure KK (K:Type) [DecidableEq K] where
  kv:K→Value
  d:TypeDesc
  check:∀ (P:Program) (w:World) (kt:TypeId) (e:Bool) (a:K),P.underlying kt=some d→(Instr.checkKey e 10000 kt (kv a)).run P w=.ok () w
  now:∀ a b:K,Instr.sameNow d (kv a) (kv b)=some (decide (a=b))
  stays:∀ (P:Program) (w:World) (a:K),(Instr.keyThatStays (kv a) (kv a)).run P w=.ok (kv a) w
def wS:KK ByteArray where
  kv:=fun s=>.string s
  d:=.string
  check:=fun P w kt e a h=>by unfold Instr.checkKey;simp [run_underlying h,Sem.run_bind]
  now:=fun a b=>by simp only [Instr.sameNow];rw [ba_beq]
  stays:=fun P w a=>by
    have:(a == a)=true:=by rw [ba_beq];simp
    simp [Instr.keyThatStays,Instr.sameBits,this]
section
variable {K β : Type} [DecidableEq K]
def lU (kk:KK K) (vv:β→Value) (M:List (K×β)) (es:Array MapEntry):Prop:=es.toList.map (fun e=>(e.key,e.val))=M.map fun p=>(kk.kv p.1,vv p.2)
def jH (a:K):List (K×β)→Option (Nat×β)
  | []=>none
  | p :: M=>if a=p.1 then some (0,p.2) else (jH a M).map fun q=>(q.1+1,q.2)
variable {kk : KK K} {vv : β → Value}
theorem lU.nil:lU kk vv [] #[]:=rfl
theorem findNow_eq (a:K):∀ (M:List (K×β)) (l:List MapEntry) (i:Nat),l.map (fun e=>(e.key,e.val))=M.map (fun p=>(kk.kv p.1,vv p.2))→Instr.findNow kk.d (kk.kv a) l i=some ((jH a M).map fun q=>(i+q.1,vv q.2))
  | [],[],i,_=>rfl
  | [],_ :: _,i,h=>by simp at h
  | _ :: _,[],i,h=>by simp at h
  | p :: M,e :: l,i,h=>by
    simp only [List.map_cons,List.cons.injEq,Prod.mk.injEq] at h
    obtain⟨⟨h1,h2⟩,h3⟩:=h
    unfold Instr.findNow
    rw [h1,kk.now]
    by_cases e:a=p.1
    · simp [e,jH,h2]
    · simp only [e,decide_false]
      rw [findNow_eq a M l (i+1) h3]
      simp only [jH,e,if_false]
      cases jH a M with
      | none=>rfl
      | some q=>simp;omega
theorem sH {P:Program} {w:World} {kt:TypeId} {a:K} {M:List (K×β)} {es:Array MapEntry} (hk:P.underlying kt=some kk.d) (hM:lU kk vv M es):(Instr.findKey kt (kk.kv a) es.toList).run P w=.ok ((jH a M).map fun q=>(q.1,vv q.2)) w:=by
  unfold Instr.findKey
  simp only [Sem.run_bind,run_underlying hk,Result.andThen]
  rw [findNow_eq a M es.toList 0 hM]
  simp
def mSet (a:K) (b:β):List (K×β)→List (K×β)
  | []=>[(a,b)]
  | p :: M=>if a=p.1 then (a,b) :: M else p :: mSet a b M
def mCut (a:K):List (K×β)→List (K×β)
  | []=>[]
  | p :: M=>if a=p.1 then M else p :: mCut a M
theorem mSet_new {a:K} {b:β}:∀ {M:List (K×β)},jH a M=none→mSet a b M=M ++ [(a,b)]
  | [],_=>rfl
  | p :: M,h=>by
    unfold jH at h
    split at h
    · cases h
    · rename_i e
      have:jH a M=none:=by simpa using h
      simp [mSet,e,mSet_new this]
theorem mFind_spec {a:K}:∀ {M:List (K×β)} {i:Nat} {b:β},jH a M=some (i,b)→M[i]?=some (a,b)∧(∀ c,mSet a c M=M.modify i fun _=>(a,c))∧mCut a M=M.eraseIdx i
  | [],i,b,h=>by cases h
  | p :: M,i,b,h=>by
    unfold jH at h
    by_cases e:a=p.1
    · rw [if_pos e] at h
      injection h with h;injection h with h1 h2
      subst h1;subst h2
      obtain⟨p1,p2⟩:=p
      simp only [] at e;subst e
      simp [mSet,mCut]
    · rw [if_neg e] at h
      obtain⟨q,hq,h⟩:=Option.map_eq_some_iff.1 h
      injection h with h1 h2
      subst h1;subst h2
      obtain⟨h3,h4,h5⟩:=mFind_spec (i:=q.1) (b:=q.2) hq
      refine⟨by simpa using h3,fun c=>?_,?_⟩
      · simp [mSet,e,h4 c]
      · simp [mCut,e,h5]
theorem lU.push {M:List (K×β)} {es:Array MapEntry} (h:lU kk vv M es) (a:K) (b:β) (c:Nat):lU kk vv (M ++ [(a,b)]) (es.push ⟨kk.kv a,vv b,c⟩):=by
  unfold lU at *
  simp [h]
theorem map_mod {α γ:Type} {q:α→γ} {u:γ} {f:α→α} (hf:∀ e,q (f e)=u):∀ {l:List α} {i:Nat},(l.modify i f).map q=(l.map q).set i u
  | [],i=>by simp
  | e :: l,0=>by simp [hf]
  | e :: l,i+1=>by simp [map_mod hf (l:=l) (i:=i)]
theorem lU.modify {M:List (K×β)} {es:Array MapEntry} (h:lU kk vv M es) (i:Nat) (a:K) (b:β):lU kk vv (M.modify i fun _=>(a,b)) (es.modify i fun e=>{ e with key:=kk.kv a,val:=vv b }):=by
  unfold lU at *
  rw [Array.toList_modify,map_mod (q:=fun e:MapEntry=>(e.key,e.val)) (u:=(kk.kv a,vv b)) (f:=fun e=>{ e with key:=kk.kv a,val:=vv b }) (fun _=>rfl),map_mod (q:=fun p:K×β=>(kk.kv p.1,vv p.2)) (u:=(kk.kv a,vv b)) (f:=fun _=>(a,b)) (fun _=>rfl),h]
end
section
variable {P : Program} {B : Base} {N : Nat} {Q : Exit → Act → World → Prop} {k : List jI} {F : List (Nat × Value)} {V : aD} {L : List Box} {w : World}
variable {d : Option Tmp} {ty : TypeId} {pos : String} {af : Array Edge} {gd : Option (Nat × Bool)} {x y z : Operand} {T T2 : TypeId} {ops : Array Oper} {rest : List Oper}
theorem St.setMap {X Y:List Box} {g c c':Nat} {es es':Array MapEntry} {cs:List Value} (hs:St B V (X ++ (⟨g,.map es c,cs⟩ :: Y)) w):St B V (X ++ (⟨g,.map es' c',cs⟩ :: Y)) { w with heap:=w.heap.setIfInBounds g (.map es' c') }:=by
  have hm:(⟨g,.map es c,cs⟩:Box)∈X ++ (⟨g,.map es c,cs⟩ :: Y):=by simp
  have hg:=hs.own _ hm
  have hlt:=hs.lt hm
  have hnd:=hs.nodup
  have hmap:(X ++ (⟨g,.map es' c',cs⟩ :: Y)).map Box.g=(X ++ (⟨g,.map es c,cs⟩ :: Y)).map Box.g:=by simp
  have hblk:∀ k,¬k=g→({ w with heap:=w.heap.setIfInBounds g (.map es' c') }:World).heap[k]?=w.heap[k]?:=fun k hk=>by
    show (w.heap.setIfInBounds g _)[k]?=_
    rw [Array.getElem?_setIfInBounds_ne (by omega)]
  have hne:∀ b,b∈X∨b∈Y→b.g≠g:=by
    intro b hb e
    rw [List.map_append,List.map_cons,List.nodup_append] at hnd
    obtain⟨_,h2,h3⟩:=hnd
    rcases hb with hb|hb
    · exact h3 b.g (List.mem_map_of_mem hb) g (by simp) e
    · exact(List.nodup_cons.1 h2).1 (List.mem_map.2 ⟨b,hb,e⟩)
  have hx:Exc [g] w { w with heap:=w.heap.setIfInBounds g (.map es' c') }:=⟨rfl,rfl,rfl,by simp,fun k _ hn=>hblk k (by simpa using hn)⟩
  refine⟨hs.ext.trans hx (by intro y hy;simp at hy;subst hy;exact hg.2),fun p v hp=>?_,hs.old,hs.v0,fun b hb=>?_,by rw [hmap];exact hnd⟩
  · obtain⟨h1,h2⟩:=hs.view p v hp
    have hpg:¬p.block=g:=fun e=>h2 _ hm e.symm
    refine⟨by rw [World.cell?_of_block (hblk _ hpg)];exact h1,fun b hb=>?_⟩
    rcases List.mem_append.1 hb with hb|hb
    · exact h2 b (by simp [hb])
    · rcases List.mem_cons.1 hb with rfl|hb
      · exact fun e=>hpg e.symm
      · exact h2 b (by simp [hb])
  · have old:∀ b,b∈X∨b∈Y→b∈X ++ (⟨g,.map es c,cs⟩ :: Y):=by intro b hb;rcases hb with hb|hb<;>simp [hb]
    have keep:∀ b,b∈X∨b∈Y→({ w with heap:=w.heap.setIfInBounds g (.map es' c') }:World).heap[b.g]?=some (b.t.obj b.cs)∧(B.w.heap.size≤b.g∨b.g∈B.fl):=fun b hb=>⟨by rw [hblk _ (hne b hb)];exact(hs.own b (old b hb)).1,(hs.own b (old b hb)).2⟩
    rcases List.mem_append.1 hb with hb|hb
    · exact keep b (.inl hb)
    · rcases List.mem_cons.1 hb with rfl|hb
      · refine⟨?_,hg.2⟩
        show (w.heap.setIfInBounds g _)[g]?=_
        rw [Array.getElem?_setIfInBounds_self_of_lt hlt];rfl
      · exact keep b (.inr hb)
theorem St.allocMap (hs:St B V L w) (es:Array MapEntry) (c:Nat):St B V (⟨w.heap.size,.map es c,[]⟩ :: L) (w.alloc (.map es c)):=by
  refine⟨Exc.al _ hs.ext,fun p x hp=>?_,hs.old,hs.v0,fun b hb=>?_,?_⟩
  · obtain⟨h1,h2⟩:=hs.view p x hp
    have hlt:=World.block_lt_of_cell? w p h1
    refine⟨(World.cell?_alloc_lt w _ p hlt).trans h1,fun b hb=>?_⟩
    rcases List.mem_cons.1 hb with rfl|hb
    · simp only [];omega
    · exact h2 b hb
  · rcases List.mem_cons.1 hb with rfl|hb
    · exact⟨heap_alloc_new w _,.inl hs.ext.sz⟩
    · exact⟨(Below.heap_alloc w _ b.g (hs.lt hb)).trans (hs.own b hb).1,(hs.own b hb).2⟩
  · rw [List.map_cons,List.nodup_cons]
    refine⟨fun h=>?_,hs.nodup⟩
    obtain⟨b,hb,he⟩:=List.mem_map.1 h
    have:=hs.lt hb
    simp only [] at he;omega
structure MapIs (P:Program) (T:TypeId) (d:TypeDesc) (z:Value):Prop where
  h:∃ kt e,P.underlying T=some (.map kt e)∧P.underlying kt=some d∧∀ w,(zeroValue e).run P w=.ok z w
variable {K β : Type} [DecidableEq K] {kk : KK K} {vv : β → Value} {M : List (K × β)} {es : Array MapEntry} {c g : Nat} {f : List Box → List Box} {a : K} {b : β} {z0 : Value}
theorem mY.getMap (hs:St B V L w) {L1:List Box} (hL:mY L L1 f) {b:Box} (hb:b∈L1):w.heap[b.g]?=some (b.t.obj b.cs):=by
  obtain⟨X,Y,hX,_⟩:=hL.h
  exact(hs.own b (by rw [hX];simp [hb])).1
def ansOf (vv:β→Value) (z0:Value) (r:Option (Nat×β)):Value:=match r with|some q=>vv q.2|none=>z0
theorem q_lookup1 (hT:MapIs P T kk.d z0) (hx:evF F x=some (.map (some g))) (hy:evF F y=some (kk.kv a)) (hM:lU kk vv M es) (hL:mY L [⟨g,.map es c,[]⟩] f):QP P B N V L ⟨d,.lookup T x y false,ty,pos,af,gd⟩ F (ansOf vv z0 (jH a M)):=gN fun ac w ha hs=>by
  obtain⟨kt,e,h1,h2,h3⟩:=hT.h
  have ho:=hL.getMap hs (b:=⟨g,.map es c,[]⟩) (by simp)
  simp only [BT.obj_map] at ho
  have hr:(Instr.lookup T (.map (some g)) (kk.kv a) false).run P w=.ok (ansOf vv z0 (jH a M)) w:=by
    unfold Instr.lookup
    simp only [Sem.run_bind,run_underlying h1,Result.andThen,MapKept.run_getObj_map ho,Sem.run_pure,kk.check P w kt _ a h2,sH (vv:=vv) h2 hM]
    cases jH a M with
    | none=>simp [h3,ansOf]
    | some q=>simp [ansOf]
  simp [execOp,ha.ev hx,ha.ev hy,hr]
theorem gw_makeMap {dr:gO} (hdr:dr.loud=true) (hd:okD N d=true) (h:∀ g,GoL P B N dr ops Q k rest (rT F d (.map (some g))) V (⟨g,.map #[] 0,[]⟩ :: L)):GoW P B N dr ops Q k ⟨d,.makeMap T none,ty,pos,af,gd⟩ rest F V L:=iG hdr fun a w ha hs=>by
  refine mV (w':=w.alloc (.map #[] 0)) (v:=.map (some w.heap.size)) ?_ (fT hdr (h w.heap.size) _ _ (ha.put hd _) (hs.allocMap #[] 0))
  simp [execOp,Instr.makeMap,run_newObj_alloc]
theorem run_mapUpdate (hT:MapIs P T kk.d z0) (hM:lU kk vv M es) (ho:w.heap[g]?=some (.map es c)):∃ es' c',(Instr.mapUpdate T (.map (some g)) (kk.kv a) (vv b)).run P w=.ok () { w with heap:=w.heap.setIfInBounds g (.map es' c') }∧lU kk vv (mSet a b M) es':=by
  obtain⟨kt,e,h1,h2,h3⟩:=hT.h
  cases hf:jH a M with
  | none =>
    refine⟨es.push ⟨kk.kv a,vv b,c⟩,c+1,?_,by rw [mSet_new hf];exact hM.push a b c⟩
    unfold Instr.mapUpdate
    simp only [Sem.run_bind,run_underlying h1,Result.andThen,MapKept.run_getObj_map ho,kk.check P w kt _ a h2,sH (vv:=vv) h2 hM,hf,Option.map_none,MapKept.run_setObj_map _ ho]
  | some q =>
    obtain⟨i,v⟩:=q
    obtain⟨h4,h5,_⟩:=mFind_spec hf
    refine⟨es.modify i fun e=>{ e with key:=kk.kv a,val:=vv b },c,?_,by rw [h5];exact hM.modify i a b⟩
    have hk:(es[i]?).map (·.key)=some (kk.kv a):=by
      have:=congrArg (fun l=>l[i]?) hM
      simp only [List.getElem?_map,h4,Option.map_some] at this
      rw [Array.getElem?_toList] at this
      obtain⟨e',he,h6⟩:=Option.map_eq_some_iff.1 this
      injection h6 with h6 _
      simp [he,h6]
    unfold Instr.mapUpdate
    simp only [Sem.run_bind,run_underlying h1,Result.andThen,MapKept.run_getObj_map ho,kk.check P w kt _ a h2,sH (vv:=vv) h2 hM,hf,Option.map_some,hk,Option.getD_some,kk.stays,MapKept.run_setObj_map _ ho]
theorem gw_update {dr:gO} (hdr:dr.loud=true) (hT:MapIs P T kk.d z0) (hx:evF F x=some (.map (some g))) (hy:evF F y=some (kk.kv a)) (hz:evF F z=some (vv b)) (hM:lU kk vv M es) (hL:mY L [⟨g,.map es c,[]⟩] f) (hd:okD N d=true)
    (h:∀ es' c',lU kk vv (mSet a b M) es'→GoL P B N dr ops Q k rest (rT F d undef) V (f [⟨g,.map es' c',[]⟩])):GoW P B N dr ops Q k ⟨d,.mapUpdate T x y z,ty,pos,af,gd⟩ rest F V L:=iG hdr fun ac w ha hs=>by
  have ho:=hL.getMap hs (b:=⟨g,.map es c,[]⟩) (by simp)
  simp only [BT.obj_map] at ho
  obtain⟨es',c',hr,hM'⟩:=run_mapUpdate (P:=P) (a:=a) (b:=b) hT hM ho
  obtain⟨X,Y,hX,hf⟩:=hL.h
  have h:=h es' c' hM'
  rw [hf] at h
  subst hX
  refine wp_skip' (w':={ w with heap:=w.heap.setIfInBounds g (.map es' c') }) ?_ (fT hdr h _ _ (ha.put hd _) hs.setMap)
  simp [execOp,ha.ev hx,ha.ev hy,ha.ev hz,hr]
end
end
section
theorem xX:MapIs Tryz.prog 327 wS.d (.bool false):=⟨9,4,Tryz.underlying327,Tryz.underlying9,Tryz.zeroValue4⟩
def HasM (M:List (ByteArray×Bool)) (l:List ByteArray):Prop:=∀ a,ansOf Value.bool (.bool false) (jH a M)=.bool (decide (a∈l))
theorem hasM_nil:HasM [] []:=fun a=>rfl
theorem find_set {b:Bool} {nm a:ByteArray}:∀ {M:List (ByteArray×Bool)},(jH a (mSet nm b M)).map Prod.snd=if a=nm then some b else (jH a M).map Prod.snd
  | []=>by
    by_cases h:a=nm<;>simp [mSet,jH,h]
  | p :: M=>by
    rw [mSet]
    by_cases hp:nm=p.1
    · rw [if_pos hp,jH,jH]
      by_cases h:a=nm
      · rw [if_pos h,if_pos h];rfl
      · rw [if_neg h,if_neg h,if_neg (fun e=>h (e.trans hp.symm))]
    · rw [if_neg hp,jH,jH]
      by_cases ha:a=p.1
      · rw [if_pos ha,if_pos ha,if_neg (fun e=>hp (e.symm.trans ha))]
      · rw [if_neg ha,if_neg ha]
        have:=find_set (b:=b) (nm:=nm) (a:=a) (M:=M)
        rw [Option.map_map,Option.map_map]
        exact this
theorem ans_snd (r:Option (Nat×Bool)):ansOf Value.bool (.bool false) r=.bool ((r.map Prod.snd).getD false):=by
  cases r<;>rfl
theorem HasM.set {M:List (ByteArray×Bool)} {l:List ByteArray} (h:HasM M l) (nm:ByteArray):HasM (mSet nm true M) (l ++ [nm]):=fun a=>by
  rw [ans_snd,find_set]
  by_cases ha:a=nm
  · rw [if_pos ha];simp [ha]
  · rw [if_neg ha,←ans_snd,h a];simp [ha]
theorem HasM.same {M:List (ByteArray×Bool)} {l l':List ByteArray} (h:HasM M l) (e:l=l'):HasM M l':=e▸h
theorem names_snoc {fs:List LF} {i:Nat} {f:LF} (h:fs[i]?=some f):dM ((fs.map fz).take (i+1))=dM ((fs.map fz).take i) ++ f.x.ks.map Prod.fst:=by
  unfold dM;rw [List.take_add_one,fz_at h,List.flatMap_append];simp [fz];rfl
theorem names_le (r:List PF) (i:Nat):(dM (r.take i)).length≤(dM r).length:=by
  have:dM r=dM (r.take i) ++ dM (r.drop i):=by
    unfold dM;rw [←List.flatMap_append,List.take_append_drop]
  rw [this,List.length_append];omega
theorem kids_names {es:List LK} {j:Nat} {e:LK} (h:es[j]?=some e):(es.take (j+1)).map LK.nm=(es.take j).map LK.nm ++ [e.nm]:=by
  rw [List.take_add_one,h,List.map_append];rfl
theorem nV (l:List ByteArray):l.flatMap strC=l.map Value.string:=by
  induction l with
  | nil=>rfl
  | cons s l ih=>rw [List.flatMap_cons,ih];rfl
theorem fnames_size {V:aD} {fs:List LF} (h:∀ f∈fs,aT V f.x):∀ s∈dM (fs.map fz),s.size≤maxLen:=fun s hs=>by
  obtain⟨p,hp,hsp⟩:=List.mem_flatMap.1 hs
  obtain⟨f,hf,rfl⟩:=List.mem_map.1 hp
  obtain⟨_,_,_,_,es,hK,hks⟩:=(h f hf).inv
  obtain⟨k,hk,rfl⟩:=List.mem_map.1 hsp
  have hk2:k∈f.x.ks:=hk
  rw [hks] at hk2
  obtain⟨e,he,rfl⟩:=List.mem_map.1 hk2
  exact(hK.2 e he).1
def NamesR (l:List ByteArray) (v:Value) (V':aD):Prop:=∃ (A:Option Addr) (n c:Nat),v=.slice A n c∧cL V' A n l∧n≤c
attribute [local irreducible] AtQ GoC GoL GoW QO QP Fn RV bL aG VLe bR bK
theorem MList_c (V:aD) (A:Option Addr) (n c:Nat) (fs:List LF) (h:dB V A n fs) (hn:n≤1000) (hnl:(dM (fs.map fz)).length≤1000000):Fn Tryz.prog 226 [.slice A n c] V (NamesR (jM (fs.map fz))):=by
  have hl:=h.1.1
  have hsz:=fnames_size h.2
  (refine aI Tryz.func226 rfl Tryz.ntmps226 rfl ?_;intro w0)
  repeat' (first|(refine aE ?_;first|(refine k_makeMap ?_;(refine gw_makeMap rfl rfl ?_;intro γ0))|refine pu9 ?_)|refine bY ?_|fail)
  refine bN (fun F V' L' m=>∃ (i:Nat) (M:List (ByteArray×Bool)) (es:Array MapEntry) (ck:Nat) (A':Option Addr) (n' c':Nat) (LA:List Box),VLe V V'∧LA ++ [⟨γ0,.map es ck,[]⟩]=L'∧i≤n∧lU wS Value.bool M es∧HasM M (dM ((fs.map fz).take i))∧cO A' n' c' 9 1 ((oM (fs.map fz) (dM ((fs.map fz).take i))).map Value.string) LA∧m=n - i∧F=[(0,.slice A n c),(3,.map (some γ0)),(4,.slice A' n' c'),(10,.slice A n c),(11,.int .i64 n),(12,.int .i64 (i:Int))]) (m:=n) ⟨0,[],#[],0,none,0,0,[],VLe.refl _,rfl,Nat.zero_le _,lU.nil,hasM_nil,cO.nil,by omega,rfl⟩ bH rfl sl9 ?_
  rintro F V' L' m ⟨i,M,es,ck,A',n',c',LA,hV',rfl,hin,hM,hH,hr,rfl,rfl⟩
  by_cases hlt:i<n
  · obtain⟨b,off,f,hA,hx,hc,hN⟩:=(h.le hV').at_ hlt
    obtain⟨_,_,_,hnk,ks,hK,hks⟩:=hN.inv
    repeat' (first|(refine aE ?_;first|(refine cG ?_;refine aO (bF und_272 siz_306 rfl hA rfl hlt) ?_)|refine st9 ?_|(refine al9 ?_;intro γ)|refine pu9 ?_)|refine bY ?_|(refine aA rfl ?_ ?_<;>intro hq<;>try exact no9))
    all_goals try exact no9
    have hkl:=hK.len
    have hnm:=names_snoc hx
    have hle:=names_le (fs.map fz) (i+1)
    have hkn:f.x.ks.map Prod.fst=ks.map LK.nm:=by rw [hks,List.map_map];rfl
    rw [hkn] at hnm
    have hle2:(dM ((fs.map fz).take i)).length+f.x.nk≤1000000:=by
      rw [hnm,List.length_append,List.length_map,hkl] at hle;omega
    refine bN (fun F V2 L' m=>∃ (j:Nat) (M:List (ByteArray×Bool)) (es:Array MapEntry) (ck:Nat) (A':Option Addr) (n' c':Nat) (LA:List Box),VLe V' V2∧LA ++ [⟨γ0,.map es ck,[]⟩]=L'∧j≤f.x.nk∧lU wS Value.bool M es∧HasM M (dM ((fs.map fz).take i) ++ (ks.take j).map LK.nm)∧cO A' n' c' 9 1 ((oM (fs.map fz) (dM ((fs.map fz).take i) ++ (ks.take j).map LK.nm)).map Value.string) LA∧m=f.x.nk - j∧F=[(0,.slice A n c),(3,.map (some γ0)),(4,.slice A' n' c'),(10,.slice A n c),(11,.int .i64 n),(12,.int .i64 (i:Int)),(18,.slice f.x.K f.x.nk f.x.ck),(19,.int .i64 f.x.nk),(20,.int .i64 (j:Int))]) (m:=f.x.nk) ⟨0,M,es,ck,A',n',c',LA,VLe.refl _,rfl,Nat.zero_le _,hM,hH.same (by simp),by rw [List.take_zero,List.map_nil,List.append_nil];exact hr,by omega,rfl⟩ bH rfl sl9 ?_
    clear hM hH hr
    rintro F V2 L' m ⟨j,M2,es2,ck2,A2,n2,c2,LA2,hV2,rfl,hjn,hM,hH,hr,rfl,rfl⟩
    have hrl:n2≤1000000:=by
      have h1:=hr.1
      have h2:=outP_len (fs.map fz) (dM ((fs.map fz).take i) ++ (ks.take j).map LK.nm)
      rw [List.length_append,List.length_map,List.length_take,hkl] at h2
      rw [List.length_map] at h1;omega
    by_cases hlt2:j<f.x.nk
    · obtain⟨b1,o1,e,hKA,he,hem,hce,c0,c1,hms,hne⟩:=(hK.le hV2).at_ hlt2
      have hkj:=kids_names he
      have hans:=hH e.nm
      have hH':HasM (mSet e.nm true M2) (dM ((fs.map fz).take i) ++ (ks.take (j+1)).map LK.nm):=(hH.set e.nm).same (by rw [hkj,List.append_assoc])
      have hoe:oM (fs.map fz) (dM ((fs.map fz).take i) ++ (ks.take (j+1)).map LK.nm)=oM (fs.map fz) ((dM ((fs.map fz).take i) ++ (ks.take j).map LK.nm) ++ [e.nm]):=by rw [hkj,List.append_assoc]
      by_cases hin:e.nm∈dM ((fs.map fz).take i) ++ (ks.take j).map LK.nm
      · rw [decide_eq_true hin] at hans
        rw [out_old hin] at hoe
        repeat' (first|(refine aE ?_;first|(refine cG ?_;refine aO (bF und_68 siz_156 rfl hKA rfl hlt2) ?_)|(refine k_lookup ?_;refine aO (q_lookup1 (kk:=wS) (vv:=Value.bool) xX rfl rfl hM aV) ?_;rw [hans])|(refine tB ?_;(refine gw_update rfl (kk:=wS) (vv:=Value.bool) (b:=true) xX rfl rfl rfl hM aV rfl ?_;intro es3 c3 hM3))|refine st9 ?_|(refine al9 ?_;intro γ)|refine pu9 ?_)|refine dG ?_|(refine aA rfl ?_ ?_<;>intro hq<;>try exact no9))
        all_goals first
          | exact no9
          | (exfalso;exact absurd hq (by decide))
          | skip
        all_goals (refine aX _ (f.x.nk - (j+1)) ⟨j+1,_,es3,c3,A2,n2,c2,LA2,vl9,rfl,by omega,hM3,hH',by rw [hoe];exact hr,rfl,rfl⟩ (by omega) bH sl9)
      · rw [decide_eq_false hin] at hans
        have hS:=yC V2 A n c fs (h.le (hV'.trans hV2)) hn e.nm
        by_cases hz:(dK (fs.map fz) e.nm).length=0
        · rw [out_none hz] at hoe
          repeat' (first|(refine aE ?_;first|(refine aC ?_;(refine aS rfl ⟨Tryz.call234⟩ rfl rfl (hS) ?_;rintro v V3 hV3 ⟨A3,n3,c3,gs,rfl,hG3,hc3',hgz⟩;have hgl:=hG3.1.1;have hz2:=congrArg List.length hgz;rw [List.length_map,hgl,hz] at hz2))|(refine cG ?_;refine aO (bF und_68 siz_156 rfl hKA rfl hlt2) ?_)|(refine k_lookup ?_;refine aO (q_lookup1 (kk:=wS) (vv:=Value.bool) xX rfl rfl hM aV) ?_;rw [hans])|(refine tB ?_;(refine gw_update rfl (kk:=wS) (vv:=Value.bool) (b:=true) xX rfl rfl rfl hM aV rfl ?_;intro es3 c3 hM3))|refine st9 ?_|(refine al9 ?_;intro γ)|refine pu9 ?_)|refine bY ?_|(refine aA rfl ?_ ?_<;>intro hq<;>try exact no9))
          all_goals first
            | exact no9
            | (exfalso;exact absurd hq (by decide))
            | skip
          all_goals (refine aX _ (f.x.nk - (j+1)) ⟨j+1,_,es3,c3,A2,n2,c2,LA2,vl9,rfl,by omega,hM3,hH',by rw [hoe];exact hr,rfl,rfl⟩ (by omega) bH sl9)
        · rw [out_new hin hz] at hoe
          repeat' (first|(refine aE ?_;first|(refine aC ?_;(first|(refine aS rfl ⟨Tryz.call234⟩ rfl rfl (hS) ?_;rintro v V3 hV3 ⟨A3,n3,c3,gs,rfl,hG3,hc3',hgz⟩;have hgl:=hG3.1.1;have hz2:=congrArg List.length hgz;rw [List.length_map,hgl] at hz2)|(refine aQ rfl und_47 inf_9 rfl rfl rfl hr aV (cY bA rfl) bJ (by omega) rfl rfl ?_;intro A5 c5 L5 hr5)))|(refine cG ?_;refine aO (bF und_68 siz_156 rfl hKA rfl hlt2) ?_)|(refine k_lookup ?_;refine aO (q_lookup1 (kk:=wS) (vv:=Value.bool) xX rfl rfl hM aV) ?_;rw [hans])|(refine cF ?_;(refine aN rfl und_47 siz_9 zec_9 rfl rfl rfl rfl rfl rfl rfl ?_;intro γ))|(refine tB ?_;(refine gw_update rfl (kk:=wS) (vv:=Value.bool) (b:=true) xX rfl rfl rfl hM aV rfl ?_;intro es3 c3 hM3))|refine st9 ?_|(refine al9 ?_;intro γ)|refine pu9 ?_)|refine bY ?_|(refine aA rfl ?_ ?_<;>intro hq<;>try exact no9))
          all_goals first
            | exact no9
            | (exfalso;exact absurd hq (by decide))
            | skip
          all_goals (refine aX _ (f.x.nk - (j+1)) ⟨j+1,_,es3,c3,A5,n2+1,c5,L5,vl9,rfl,by omega,hM3,hH',by rw [hoe,List.map_append];exact hr5,rfl,rfl⟩ (by omega) bH sl9)
    · obtain rfl:j=f.x.nk:=by omega
      have htk:ks.take f.x.nk=ks:=List.take_of_length_le (by omega)
      rw [htk,←hnm] at hH hr
      repeat' (first|(refine aE ?_;refine pu9 ?_)|refine dT ?_|(refine aA rfl ?_ ?_<;>intro hq<;>try exact no9))
      all_goals try exact no9
      all_goals (refine aX _ (n - (i+1)) ⟨i+1,M2,es2,ck2,A2,n2,c2,LA2,vl9,rfl,by omega,hM,hH,hr,rfl,rfl⟩ (by omega) bH sl9)
  · obtain rfl:i=n:=by omega
    have htk:(fs.map fz).take i=fs.map fz:=List.take_of_length_le (by rw [List.length_map];omega)
    rw [htk] at hH hr
    have hrl:n'≤1000000000000:=by
      have h1:=hr.1
      have h2:=outP_len (fs.map fz) (dM (fs.map fz))
      rw [List.length_map] at h1;omega
    repeat' (first|(refine aE ?_;first|(refine aC ?_;(refine aL rfl ⟨Tryz.call258⟩ rfl aV rfl (Sort_c _ hr hrl) ?_;rintro v V3 B3 hV3 ⟨rfl,hr3⟩))|refine pu9 ?_)|refine dT ?_|(refine aA rfl ?_ ?_<;>intro hq<;>try exact no9))
    have hcap:=hr3.cap
    have hln:(jM (fs.map fz)).length=n':=by
      have:=hr3.1
      rw [List.length_map,Nat.mul_one] at this;exact this
    all_goals
      refine fF hr3 aV ?_
      intro V4 hV4 hc4
      (refine aM Tryz.results226 (aB rfl) ?_)
      refine⟨_,_,_,rfl,⟨eP.of_cells (by rw [nV];exact hc4) (fun _=>rfl) hln (by unfold maxLen;omega),fun s hs=>?_⟩,hcap⟩
      exact hsz s (qQ.1 hs).1
theorem List_c (V:aD) (A:Option Addr) (n c:Nat) (xs:List LN) (h:dR V A n xs) (hn:n≤1000) (B:Option Addr) (m e:Nat) (ss:List ByteArray) (hs:cL V B m ss) (hnl:(dM (cR (xs.map LN.n) ss)).length≤1000000):Fn Tryz.prog 143 [.slice A n c,.slice B m e] V (NamesR (jM (cR (xs.map LN.n) ss))):=by
  have hW:=Walk_c V A n c xs h hn B m e ss hs
  have hrl:=mN (xs.map LN.n) ss
  have hra:=h.1.1
  rw [List.length_map] at hrl
  generalize cR (xs.map LN.n) ss=r at *
  (refine aI Tryz.func143 rfl Tryz.ntmps143 rfl ?_;intro w0)
  repeat' (first|(refine aE ?_;first|(refine aC ?_;(first|(refine aS rfl ⟨Tryz.call227⟩ rfl rfl (hW) ?_;rintro v V1 hV1 ⟨A1,n1,c1,fs,rfl,hF1,hc1,rfl⟩;have hfl:=hF1.1.1;rw [List.length_map] at hrl;have hL:=MList_c V1 A1 n1 c1 fs hF1 (by omega) hnl)|(refine aS rfl ⟨Tryz.call226⟩ rfl rfl (hL) ?_;rintro v V2 hV2 ⟨A2,n2,c2,rfl,hS2,hc2⟩)))|refine pu9 ?_)|refine eE ?_|(refine aJ rfl rfl rfl ?_ ?_<;>intro hq<;>try exact no9)|(refine bS rfl rfl rfl ?_ ?_<;>intro hq)|(refine aA rfl ?_ ?_<;>intro hq<;>try exact no9)|(refine bM rfl ?_ ?_<;>intro hq))
  all_goals
    (refine aM Tryz.results143 (aB rfl) ?_)
    exact⟨_,_,_,rfl,hS2,hc2⟩
end
section
theorem ins_none {r:List PF} {l:List ByteArray} {nm:ByteArray} (h:(dK r nm).length=0):kY r (l ++ [nm])=kY r l:=by
  rw [uC];exact if_pos (.inl h)
theorem ins_is {r:List PF} {l:List ByteArray} {nm:ByteArray} (h:(kY r l)[mM (kY r l) nm]?=some nm):kY r (l ++ [nm])=kY r l:=by
  rw [uC];exact if_pos (.inr h)
theorem ins_put {r:List PF} {l:List ByteArray} {nm:ByteArray} (hs:(dK r nm).length≠0) (h:¬(kY r l)[mM (kY r l) nm]?=some nm):kY r (l ++ [nm])=(kY r l).take (mM (kY r l) nm) ++ nm :: (kY r l).drop (mM (kY r l) nm):=by
  rw [uC];exact if_neg fun hc=>hc.elim hs h
theorem walk_deep (l:List PN) (ss:List ByteArray) (nm:ByteArray):cR l (ss ++ [nm])=dK (cR l ss) nm:=by
  unfold cR;rw [List.foldl_append];rfl
theorem RWalk_c (V:aD) (A:Option Addr) (n c:Nat) (xs:List LN) (h:dR V A n xs) (hn:n≤1000) (B:Option Addr) (m e:Nat) (ss:List ByteArray) (hs:cL V B m ss):Fn Tryz.prog 240 [.slice A n c,.slice B m e,.bool false] V (pH (cR (xs.map LN.n) ss)):=by
  have hW:=Stack_c V A n c xs h hn B m e ss hs false
  rw [sK m (by rw [hs.1.1];exact Nat.le_refl _),List.take_of_length_le (by rw [hs.1.1];exact Nat.le_refl _)] at hW
  exact hW
theorem cL.of {V:aD} {A:Option Addr} {n:Nat} {l:List ByteArray} (h:eL V 1 A n (l.map Value.string)) (hl:l.length=n) (hm:n≤maxLen) (hs:∀ s∈l,s.size≤maxLen):cL V A n l:=⟨eP.of_cells (by rw [nV];exact h) (fun _=>rfl) hl hm,hs⟩
theorem insP_mem {r:List PF} {l:List ByteArray} {x:ByteArray} (h:x∈kY r l):x∈l:=(outP_mem l x ((ins_out l).2.mem_iff.1 h)).1
theorem tZ (l:List ByteArray):∀ u∈l.map Value.string,gQ u=true:=fun u hu=>by
  obtain⟨s,_,rfl⟩:=List.mem_map.1 hu;rfl
attribute [local irreducible] AtQ GoC GoL GoW QO QP Fn RV bL aG VLe bR bK
theorem RList_c (V:aD) (A:Option Addr) (n c:Nat) (xs:List LN) (h:dR V A n xs) (hn:n≤1000) (B:Option Addr) (m e:Nat) (ss:List ByteArray) (hs:cL V B m ss) (hm:m≤1000) (hnl:(dM (cR (xs.map LN.n) ss)).length≤1000000):Fn Tryz.prog 175 [.slice A n c,.slice B m e] V (NamesR (jM (cR (xs.map LN.n) ss))):=by
  have hW:=RWalk_c V A n c xs h hn B m e ss hs
  have hwd:=walk_deep (xs.map LN.n) ss
  have hsl:=hs.1.1
  have hra:=h.1.1
  have hrl:=mN (xs.map LN.n) ss
  rw [List.length_map,hra] at hrl
  generalize cR (xs.map LN.n) ss=r at *
  rw [←vO]
  (refine aI Tryz.func175 rfl Tryz.ntmps175 rfl ?_;intro w0)
  repeat' (first|(refine aE ?_;first|(refine aC ?_;(refine aS rfl ⟨Tryz.call240⟩ rfl rfl (hW) ?_;rintro v V1 hV1 ⟨A1,n1,c1,fs,rfl,hF1,hc1,rfl⟩))|refine pu9 ?_)|refine bY ?_|fail)
  have hl:=hF1.1.1
  have hsz:=fnames_size hF1.2
  rw [List.length_map,hl] at hrl
  refine bN (fun F V' L' m'=>∃ (i:Nat) (A':Option Addr) (n' c':Nat),VLe V1 V'∧[]=L'∧i≤n1∧cL V' A' n' (kY (fs.map fz) (dM ((fs.map fz).take i)))∧n'≤c'∧m'=n1 - i∧F=[(0,.slice A n c),(1,.slice B m e),(5,.slice A1 n1 c1),(6,.slice A' n' c'),(7,.int .i64 (i:Int))]) (m:=n1) ⟨0,none,0,0,VLe.refl _,rfl,Nat.zero_le _,cL.nil,Nat.le_refl _,by omega,rfl⟩ bH rfl sl9 ?_
  rintro F V' L' m' ⟨i,A',n',c',hV',rfl,hin,hO,hoc,rfl,rfl⟩
  by_cases hlt:i<n1
  · obtain⟨b,off,f,hA,hx,hc,hN⟩:=(hF1.le hV').at_ hlt
    obtain⟨_,_,_,hnk,ks,hK,hks⟩:=hN.inv
    have hk7:=fl_kids hc
    have hkl:=hK.len
    have hkm:=hK.max
    have hnm:=names_snoc hx
    have hle:=names_le (fs.map fz) (i+1)
    have hkn:f.x.ks.map Prod.fst=ks.map LK.nm:=by rw [hks,List.map_map];rfl
    rw [hkn] at hnm
    have hle2:(dM ((fs.map fz).take i)).length+f.x.nk≤1000000:=by
      rw [hnm,List.length_append,List.length_map,hkl] at hle;omega
    repeat' (first|(refine aE ?_;refine pu9 ?_)|refine bY ?_|(refine aA rfl ?_ ?_<;>intro hq<;>try exact no9))
    all_goals try exact no9
    refine bN (fun F V2 L' m'=>∃ (j:Nat) (A2:Option Addr) (n2 c2:Nat),VLe V' V2∧[]=L'∧j≤f.x.nk∧cL V2 A2 n2 (kY (fs.map fz) (dM ((fs.map fz).take i) ++ (ks.take j).map LK.nm))∧n2≤c2∧m'=f.x.nk - j∧F=[(0,.slice A n c),(1,.slice B m e),(5,.slice A1 n1 c1),(6,.slice A2 n2 c2),(7,.int .i64 (i:Int)),(8,.int .i64 (j:Int))]) (m:=f.x.nk) ⟨0,A',n',c',VLe.refl _,rfl,Nat.zero_le _,by rw [List.take_zero,List.map_nil,List.append_nil];exact hO,hoc,by omega,rfl⟩ bH rfl sl9 ?_
    clear hO hoc
    rintro F V2 L' m' ⟨j,A2,n2,c2,hV2,rfl,hjn,hO,hoc,rfl,rfl⟩
    have hol:=hO.1.1
    have hrl2:n2≤1000000:=by
      have h2:=insP_len (fs.map fz) (dM ((fs.map fz).take i) ++ (ks.take j).map LK.nm)
      rw [List.length_append,List.length_map,List.length_take,hkl] at h2;omega
    by_cases hlt2:j<f.x.nk
    · obtain⟨b1,o1,ek,hKA,he,hem,hce,c0,c1',hms,hne⟩:=(hK.le hV2).at_ hlt2
      have hkj:=kids_names he
      have hie:kY (fs.map fz) (dM ((fs.map fz).take i) ++ (ks.take (j+1)).map LK.nm)=kY (fs.map fz) ((dM ((fs.map fz).take i) ++ (ks.take j).map LK.nm) ++ [ek.nm]):=by rw [hkj,List.append_assoc]
      have hall:∀ s∈kY (fs.map fz) (dM ((fs.map fz).take i) ++ (ks.take (j+1)).map LK.nm),s.size≤maxLen:=fun s hs=>by
        have h1:=insP_mem hs
        rcases List.mem_append.1 h1 with h1|h1
        · refine hsz s ?_
          obtain⟨p,hp,hsp⟩:=List.mem_flatMap.1 h1
          exact List.mem_flatMap.2 ⟨p,List.mem_of_mem_take hp,hsp⟩
        · obtain⟨k,hk,rfl⟩:=List.mem_map.1 h1
          exact(hK.2 k (List.mem_of_mem_take hk)).1
      have hk7':=dJ hV2 hk7
      generalize hog:kY (fs.map fz) (dM ((fs.map fz).take i) ++ (ks.take j).map LK.nm)=out at *
      have hsc:=((hs.le hV1).le hV').le hV2
      have hss:eL V2 1 B m (ss.map Value.string):=by rw [←nV];exact hsc.1.cells (fun _=>rfl)
      repeat' (first|(refine aE ?_;first|(refine aC ?_;(first|(refine aQ rfl und_47 inf_9 rfl rfl rfl cO.nil dO (fY hss) bJ (by omega) rfl rfl ?_;intro A3 c3 L3 hr3)|(refine aQ rfl und_47 inf_9 rfl rfl rfl hr3 aV (cY bA rfl) bJ (by omega) rfl rfl ?_;intro A4 c4 L4 hr4)))|(refine cG ?_;(first|refine aO (bF und_68 siz_156 rfl hKA rfl hlt2) ?_|refine aO (bF und_313 siz_316 rfl hA rfl hlt) ?_))|(refine cF ?_;(refine aN rfl und_47 siz_9 zec_9 rfl rfl rfl rfl rfl rfl rfl ?_;intro γ))|refine pu9 ?_)|refine gxb9 ?_|refine fE [7,9,10] rfl ?_|(refine aA rfl ?_ ?_<;>intro hq<;>try exact no9))
      have hcap4:=hr4.cap
      refine gS hr4 aV ?_
      intro V3 hV3 hc4
      have hdp:cL V3 A4 (0+m+1) (ss ++ [ek.nm]):=cL.of (by rw [List.map_append];exact hc4) (by simp [hsl]) (by unfold maxLen;omega) fun s hs'=>by
        rcases List.mem_append.1 hs' with h1|h1
        · exact hs.2 s h1
        · rw [List.mem_singleton.1 h1];exact hms
      have hpn:mM out ek.nm≤n2:=hol▸insN_le out ek.nm
      repeat' (first|(refine aE ?_;refine pu9 ?_)|refine bY ?_|fail)
      refine bN (fun F V4 L' m'=>∃ (p:Nat),V3=V4∧[]=L'∧p≤mM out ek.nm∧m'=mM out ek.nm - p∧F=[(0,.slice A n c),(1,.slice B m e),(5,.slice A1 n1 c1),(6,.slice A2 n2 c2),(7,.int .i64 (i:Int)),(8,.int .i64 (j:Int)),(9,.string ek.nm),(10,.slice A4 (0+m+1) c4),(11,.int .i64 (p:Int))]) (m:=mM out ek.nm) ⟨0,rfl,rfl,Nat.zero_le _,by omega,rfl⟩ bH rfl sl9 ?_
      rintro F V4 L' m' ⟨p,rfl,rfl,hpl0,rfl,rfl⟩
      by_cases hlt3:p<mM out ek.nm
      · have hpl:p<n2:=by omega
        obtain⟨b2,o2,s,hA2,hxs,hcs,hss2⟩:=((hO.le hV3).at_ hpl)
        have hltn:=insN_lo hxs hlt3
        repeat' (first|(refine aE ?_;first|(refine cG ?_;refine aO (bF und_47 siz_9 rfl hA2 rfl hpl) ?_)|refine pu9 ?_)|refine nG ?_|(refine aJ rfl rfl rfl ?_ ?_<;>intro hq<;>try exact no9)|(refine aA rfl ?_ ?_<;>intro hq<;>try exact no9))
        all_goals first
          | exact no9
          | (exfalso;exact hq hltn)
          | skip
        all_goals (refine aX _ (mM out ek.nm - (p+1)) ⟨p+1,rfl,rfl,by omega,rfl,rfl⟩ (by omega) bH sl9)
      · obtain rfl:p=mM out ek.nm:=by omega
        have hD:=RWalk_c V3 A n c xs (((h.le hV1).le hV').le (hV2.trans hV3)) hn A4 (0+m+1) c4 _ hdp
        rw [hwd] at hD
        have hO3:=hO.le hV3
        generalize hpg:mM out ek.nm=p at *
        have hs1:eL V3 1 A2 p ((out.take p).map Value.string):=by rw [←nV];exact(hO3.1.take hpn).cells (fun _=>rfl)
        have hs3:eL V3 1 (vX A2 c2 p 1) (n2 - p) ((out.drop p).map Value.string):=by rw [←nV];exact(hO3.1.drop hpn hoc).cells (fun _=>rfl)
        by_cases hz:(dK (fs.map fz) ek.nm).length=0
        · rw [ins_none hz,hog] at hie
          by_cases hpl:p<n2
          · obtain⟨b2,o2,s,hA2,hxs,hcs,hss2⟩:=hO3.at_ hpl
            have hnlt:=insN_at (out:=out) (nm:=ek.nm) (by rw [hpg];exact hxs)
            repeat' (first|(refine aE ?_;first|(refine aC ?_;(refine aS rfl ⟨Tryz.call240⟩ rfl rfl (hD) ?_;rintro v V5 hV5 ⟨A5,n5,c5,gs,rfl,hG5,hc5,hgz⟩;have hgl:=hG5.1.1;have hz2:=congrArg List.length hgz;rw [List.length_map,hgl] at hz2))|(refine cG ?_;refine aO (bF und_47 siz_9 rfl hA2 rfl hpl) ?_)|refine pu9 ?_)|refine eE ?_|(refine aJ rfl rfl rfl ?_ ?_<;>intro hq<;>try exact no9)|(refine aA rfl ?_ ?_<;>intro hq<;>try exact no9))
            all_goals first
              | exact no9
              | (exfalso;exact hnlt hq)
              | (exfalso;rename_i hq2 hq3;exact hnlt hq2)
              | (exfalso;rename_i hq2 hq3 hq4;exact hnlt hq2)
              | (exfalso;exact hq rfl)
              | skip
            all_goals (refine aX _ (f.x.nk - (j+1)) ⟨j+1,A2,n2,c2,vl9,rfl,by omega,by rw [hie];exact hO.le vl9,hoc,rfl,rfl⟩ (by omega) bH sl9)
          · have hnlt:¬p<n2:=hpl
            repeat' (first|(refine aE ?_;first|(refine aC ?_;(refine aS rfl ⟨Tryz.call240⟩ rfl rfl (hD) ?_;rintro v V5 hV5 ⟨A5,n5,c5,gs,rfl,hG5,hc5,hgz⟩;have hgl:=hG5.1.1;have hz2:=congrArg List.length hgz;rw [List.length_map,hgl] at hz2))|refine pu9 ?_)|refine iX ?_|(refine aJ rfl rfl rfl ?_ ?_<;>intro hq<;>try exact no9))
            all_goals first
              | exact no9
              | (exfalso;exact hnlt hq)
              | (exfalso;rename_i hq2 hq3;exact hnlt hq2)
              | (exfalso;rename_i hq2 hq3 hq4;exact hnlt hq2)
              | (exfalso;exact hq rfl)
              | skip
            all_goals (refine aX _ (f.x.nk - (j+1)) ⟨j+1,A2,n2,c2,vl9,rfl,by omega,by rw [hie];exact hO.le vl9,hoc,rfl,rfl⟩ (by omega) bH sl9)
        · by_cases hpl:p<n2
          · obtain⟨b2,o2,s,hA2,hxs,hcs,hss2⟩:=hO3.at_ hpl
            have hnlt:=insN_at (out:=out) (nm:=ek.nm) (by rw [hpg];exact hxs)
            by_cases hne2:s=ek.nm
            · subst hne2
              rw [ins_is (by rw [hog,hpg];exact hxs),hog] at hie
              repeat' (first|(refine aE ?_;first|(refine aC ?_;(refine aS rfl ⟨Tryz.call240⟩ rfl rfl (hD) ?_;rintro v V5 hV5 ⟨A5,n5,c5,gs,rfl,hG5,hc5,hgz⟩;have hgl:=hG5.1.1;have hz2:=congrArg List.length hgz;rw [List.length_map,hgl] at hz2;have hcs5:=dJ hV5 hcs))|(refine cG ?_;refine aO (bF und_47 siz_9 rfl hA2 rfl hpl) ?_)|refine pu9 ?_)|refine nG ?_|(refine aJ rfl rfl rfl ?_ ?_<;>intro hq<;>try exact no9)|(refine aA rfl ?_ ?_<;>intro hq<;>try exact no9))
              all_goals first
                | exact no9
                | (exfalso;exact hnlt hq)
                | (exfalso;rename_i hq2 hq3;exact hnlt hq2)
                | (exfalso;rename_i hq2 hq3 hq4;exact hnlt hq2)
                | (exfalso;exact hq rfl)
                | skip
              all_goals (refine aX _ (f.x.nk - (j+1)) ⟨j+1,A2,n2,c2,vl9,rfl,by omega,by rw [hie];exact hO.le vl9,hoc,rfl,rfl⟩ (by omega) bH sl9)
            · rw [ins_put hz (by rw [hog,hpg,hxs];intro e;injection e with e;exact hne2 e),hog,hpg] at hie
              repeat' (first|(refine aE ?_;first|(refine aC ?_;(refine aS rfl ⟨Tryz.call240⟩ rfl rfl (hD) ?_;rintro v V5 hV5 ⟨A5,n5,c5,gs,rfl,hG5,hc5,hgz⟩;have hgl:=hG5.1.1;have hz2:=congrArg List.length hgz;rw [List.length_map,hgl] at hz2;have hcs5:=dJ hV5 hcs))|(refine cG ?_;refine aO (bF und_47 siz_9 rfl hA2 rfl hpl) ?_)|refine pu9 ?_)|refine nG ?_|(refine aJ rfl rfl rfl ?_ ?_<;>intro hq<;>try exact no9)|(refine aA rfl ?_ ?_<;>intro hq<;>try exact no9))
              all_goals first
                | exact no9
                | (exfalso;exact hne2 hq)
                | (exfalso;exact hnlt hq)
                | skip
              all_goals
                have hs1':=hs1.le hV5
                have hs3':=hs3.le hV5
                have hon1:=tZ (out.take p)
                have hon3:=tZ (out.drop p)
                refine bX (id:=15) _ mixed (List.nil_sublist _) ?_;refine gt9 0 ?_;refine gt9 1 ?_;refine fL 2 rfl rfl (cT (h:=p) und_47 siz_9 rfl rfl (by omega)) ?_;refine gt9 4 ?_;refine gt9 7 ?_;refine gt9 8 ?_;refine fL 9 rfl rfl (nQ (l:=p) und_47 siz_9 rfl rfl (by omega)) ?_;(refine dL (i:=3) (j:=5) (by kernel_rfl) rfl rfl rfl rfl vl9 vl9 bP ?_ ?_<;>first|((refine aQ rfl und_47 inf_9 rfl rfl rfl cO.nil dO (fY hs1') bJ (by omega) rfl rfl ?_;intro A7 c7 L7 hr7);refine aZ (i:=5) rfl ?_;(refine aN rfl und_47 siz_9 zec_9 rfl rfl rfl rfl rfl rfl rfl ?_;intro γ);refine aZ (i:=6) rfl ?_;(refine aQ rfl und_47 inf_9 rfl rfl rfl hr7 aV (cY bA rfl) bJ (by omega) rfl rfl ?_;intro A8 c8 L8 hr8);refine aZ (i:=10) rfl ?_;(refine aQ rfl und_47 inf_9 rfl rfl rfl hr8 aV (fY hs3') bJ (by omega) rfl rfl ?_;intro A9 c9 L9 hr9);refine gt9 11 ?_;refine aY (by kernel_rfl) vl9 vl9 bP ?_)|((refine aN rfl und_47 siz_9 zec_9 rfl rfl rfl rfl rfl rfl rfl ?_;intro γ);refine aZ (i:=3) rfl ?_;(refine aQ rfl und_47 inf_9 rfl rfl rfl cO.nil dO (fY hs1') bJ (by omega) rfl rfl ?_;intro A7 c7 L7 hr7);refine aZ (i:=6) rfl ?_;(refine aQ rfl und_47 inf_9 rfl rfl rfl hr7 aV (cY bA rfl) bJ (by omega) rfl rfl ?_;intro A8 c8 L8 hr8);refine aZ (i:=10) rfl ?_;(refine aQ rfl und_47 inf_9 rfl rfl rfl hr8 aV (fY hs3') bJ (by omega) rfl rfl ?_;intro A9 c9 L9 hr9);refine gt9 11 ?_;refine aY (by kernel_rfl) vl9 vl9 bP ?_))
                all_goals
                  have hcap9:=hr9.cap
                  refine fF hr9 aV ?_
                  intro V6 hV6 hc9
                  have hO9:cL V6 A9 (0+p+1+(n2 - p)) (out.take p ++ ek.nm :: out.drop p):=cL.of (by rw [List.map_append,List.map_cons,List.append_cons];exact hc9) (by simp [hol];omega) (by unfold maxLen;omega) (by rw [←hie];exact hall)
                  repeat' (first|(refine aE ?_;refine pu9 ?_)|refine cC ?_|fail)
                  refine aX _ (f.x.nk - (j+1)) ⟨j+1,A9,_,c9,vl9,rfl,by omega,by rw [hie];exact hO9,hcap9,rfl,rfl⟩ (by omega) bH sl9

          · rw [ins_put hz (by rw [hog,hpg,List.getElem?_eq_none (by omega)];intro e;cases e),hog,hpg] at hie
            have hne2:¬False:=fun h=>h
            repeat' (first|(refine aE ?_;first|(refine aC ?_;(refine aS rfl ⟨Tryz.call240⟩ rfl rfl (hD) ?_;rintro v V5 hV5 ⟨A5,n5,c5,gs,rfl,hG5,hc5,hgz⟩;have hgl:=hG5.1.1;have hz2:=congrArg List.length hgz;rw [List.length_map,hgl] at hz2))|refine pu9 ?_)|refine iX ?_|(refine aJ rfl rfl rfl ?_ ?_<;>intro hq<;>try exact no9))
            all_goals first
              | exact no9
              | (exfalso;exact hne2 hq)
              | skip
            all_goals
              have hs1':=hs1.le hV5
              have hs3':=hs3.le hV5
              have hon1:=tZ (out.take p)
              have hon3:=tZ (out.drop p)
              refine bX (id:=15) _ mixed (List.nil_sublist _) ?_;refine gt9 0 ?_;refine gt9 1 ?_;refine fL 2 rfl rfl (cT (h:=p) und_47 siz_9 rfl rfl (by omega)) ?_;refine gt9 4 ?_;refine gt9 7 ?_;refine gt9 8 ?_;refine fL 9 rfl rfl (nQ (l:=p) und_47 siz_9 rfl rfl (by omega)) ?_;(refine dL (i:=3) (j:=5) (by kernel_rfl) rfl rfl rfl rfl vl9 vl9 bP ?_ ?_<;>first|((refine aQ rfl und_47 inf_9 rfl rfl rfl cO.nil dO (fY hs1') bJ (by omega) rfl rfl ?_;intro A7 c7 L7 hr7);refine aZ (i:=5) rfl ?_;(refine aN rfl und_47 siz_9 zec_9 rfl rfl rfl rfl rfl rfl rfl ?_;intro γ);refine aZ (i:=6) rfl ?_;(refine aQ rfl und_47 inf_9 rfl rfl rfl hr7 aV (cY bA rfl) bJ (by omega) rfl rfl ?_;intro A8 c8 L8 hr8);refine aZ (i:=10) rfl ?_;(refine aQ rfl und_47 inf_9 rfl rfl rfl hr8 aV (fY hs3') bJ (by omega) rfl rfl ?_;intro A9 c9 L9 hr9);refine gt9 11 ?_;refine aY (by kernel_rfl) vl9 vl9 bP ?_)|((refine aN rfl und_47 siz_9 zec_9 rfl rfl rfl rfl rfl rfl rfl ?_;intro γ);refine aZ (i:=3) rfl ?_;(refine aQ rfl und_47 inf_9 rfl rfl rfl cO.nil dO (fY hs1') bJ (by omega) rfl rfl ?_;intro A7 c7 L7 hr7);refine aZ (i:=6) rfl ?_;(refine aQ rfl und_47 inf_9 rfl rfl rfl hr7 aV (cY bA rfl) bJ (by omega) rfl rfl ?_;intro A8 c8 L8 hr8);refine aZ (i:=10) rfl ?_;(refine aQ rfl und_47 inf_9 rfl rfl rfl hr8 aV (fY hs3') bJ (by omega) rfl rfl ?_;intro A9 c9 L9 hr9);refine gt9 11 ?_;refine aY (by kernel_rfl) vl9 vl9 bP ?_))
              all_goals
                have hcap9:=hr9.cap
                refine fF hr9 aV ?_
                intro V6 hV6 hc9
                have hO9:cL V6 A9 (0+p+1+(n2 - p)) (out.take p ++ ek.nm :: out.drop p):=cL.of (by rw [List.map_append,List.map_cons,List.append_cons];exact hc9) (by simp [hol];omega) (by unfold maxLen;omega) (by rw [←hie];exact hall)
                repeat' (first|(refine aE ?_;refine pu9 ?_)|refine cC ?_|fail)
                refine aX _ (f.x.nk - (j+1)) ⟨j+1,A9,_,c9,vl9,rfl,by omega,by rw [hie];exact hO9,hcap9,rfl,rfl⟩ (by omega) bH sl9

    · obtain rfl:j=f.x.nk:=by omega
      have htk:ks.take f.x.nk=ks:=List.take_of_length_le (by omega)
      rw [htk,←hnm] at hO
      have hk7':=dJ hV2 hk7
      repeat' (first|(refine aE ?_;first|(refine cG ?_;refine aO (bF und_313 siz_316 rfl hA rfl hlt) ?_)|refine pu9 ?_)|refine dT ?_|(refine aA rfl ?_ ?_<;>intro hq<;>try exact no9))
      all_goals try exact no9
      all_goals (refine aX _ (n1 - (i+1)) ⟨i+1,A2,n2,c2,vl9,rfl,by omega,hO,hoc,rfl,rfl⟩ (by omega) bH sl9)
  · obtain rfl:i=n1:=by omega
    have htk:(fs.map fz).take i=fs.map fz:=List.take_of_length_le (by rw [List.length_map];omega)
    rw [htk] at hO
    repeat' (first|(refine aE ?_;refine pu9 ?_)|refine dT ?_|(refine aA rfl ?_ ?_<;>intro hq<;>try exact no9))
    all_goals
      (refine aM Tryz.results175 (aB rfl) ?_)
      exact⟨_,_,_,rfl,hO,hoc⟩
end
section
inductive Deep:Nat→PN→Prop
  | mk {d:Nat} {h:Hd} {ks:PKs} (h2:∀ k∈ks,Deep d k.2):Deep (d+1) (.mk h ks)
theorem Deep.kid {d:Nat} {n:PN} (h:Deep (d+1) n):∀ k∈n.ks,Deep d k.2:=by
  cases h with|mk h2=>exact h2
theorem Deep.zero {n:PN} (h:Deep 0 n):False:=by cases h
theorem Deep.up {d:Nat} {n:PN} (h:Deep d n):∀ e,d≤e→Deep e n:=by
  induction h with
  | mk h2 ih =>
    intro e he
    obtain⟨e',rfl⟩:∃ e',e=e'+1:=⟨e - 1,by omega⟩
    exact .mk fun k hk=>ih k hk e' (by omega)
theorem vU {d:Nat} {r:List PF} {s:ByteArray} (h:∀ f∈r,Deep (d+1) f.1):∀ f∈dK r s,Deep d f.1:=fun f hf=>by
  obtain⟨g,hg,hgf⟩:=List.mem_filterMap.1 (iJ hf)
  unfold lX at hgf
  split at hgf
  · cases h2:fH g.1.ks s with
    | none=>rw [h2] at hgf;cases hgf
    | some x=>rw [h2] at hgf;cases hgf;exact(h g hg).kid _ (jY h2)
  · cases hgf
def fM (g:Hd→Int→Hd):Nat→List PF→PN
  | 0,_=>.mk hZ []
  | _+1,[]=>.mk hZ []
  | d+1,f :: t=>.mk (g { f.1.h with opq:=false } f.2) ((jM (f :: t)).map fun nm=>(nm,fM g d (dK (f :: t) nm)))
theorem yI {r:List PF} (h:∀ f∈r,cB eA f.1):(dM r).length≤r.length * 100000:=by
  unfold dM
  induction r with
  | nil=>simp
  | cons f r ih =>
    have h1:=ih fun g hg=>h g (by simp [hg])
    have h2:f.1.ks.length≤100000:=(h f (by simp)).here.2
    rw [List.flatMap_cons,List.length_append,List.length_map,List.length_cons]
    omega
end
end Go.Proofs.YtejkmomfpidnbabGreat
