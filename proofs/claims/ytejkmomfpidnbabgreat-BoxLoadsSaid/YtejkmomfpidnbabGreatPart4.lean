/- Walks and plain laws, part 4: what functions compute, proved once each (TopTreeP, MergeP, Rng, Rng2, Rng3, MergeE, MergeE2, TreeE14, TreeL, MergeE3, MergeE4, MergeE5, LayP, Bld). -/
import Derived.Test.YtejkmomfpidnbabGreatPart3
import Derived.Test.YtejkmomfpidnbabGreatPart2
import Derived.RangeFuncNested
import Derived.RangeFuncCalls
import Derived.RangeFuncLeaves
import Derived.TacticsIn
import Derived.RangeFuncBound
import Derived.Lib.Builder
import Derived.Lib.UnsafeStr
import Derived.Lib.MakeNoZero
import Derived.Lib.Bytealg
import Derived.Laws.Externs
set_option linter.unusedSimpArgs false
set_option linter.unusedVariables false
set_option maxRecDepth 100000
set_option maxHeartbeats 40000000
namespace Go.Proofs.YtejkmomfpidnbabGreat
open Go.RowKit
section
def fH:PKs→ByteArray→Option PN
  | [],_=>none
  | k :: ks,s=>if k.1=s then some k.2 else fH ks s
theorem lookK_app:∀ (a b:PKs) (s:ByteArray),fH (a ++ b) s=(fH a s).or (fH b s)
  | [],b,s=>by simp [fH]
  | k :: a,b,s=>by
    rw [List.cons_append,fH,fH]
    split
    · rfl
    · exact lookK_app a b s
theorem vB:∀ {ks:PKs} {s:ByteArray},fH ks s=none↔∀ k∈ks,¬k.1=s
  | [],s=>by simp [fH]
  | k :: ks,s=>by
    rw [fH]
    by_cases h:k.1=s
    · rw [if_pos h];simp [h]
    · rw [if_neg h,vB];simp [h]
theorem isAt_iff {ks:PKs} {s:ByteArray}:iB ks s=true↔∃ k∈ks,k.1=s:=by
  unfold iB;rw [List.any_eq_true];simp
theorem isAt_no {ks:PKs} {s:ByteArray}:iB ks s=false↔fH ks s=none:=by
  rw [vB]
  constructor
  · intro h k hk he
    have:=isAt_iff.2 ⟨k,hk,he⟩;rw [h] at this;cases this
  · intro h
    cases hb:iB ks s
    · rfl
    · obtain⟨k,hk,he⟩:=isAt_iff.1 hb;exact absurd he (h k hk)
theorem tS {ks:PKs} {s:ByteArray} (h:iB ks s=true):∃ a x b,ks=a ++ (s,x) :: b∧fH a s=none∧cJ ks s=a.length:=by
  have hl:=nS h
  have e:cJ ks s=atN ks s:=by unfold cJ;rw [if_pos h]
  have h1:(ks[cJ ks s]'hl).1=s:=by
    have:=List.findIdx_getElem (p:=fun k:ByteArray×PN=>decide (k.1=s)) (xs:=ks) (w:=by rw [←show atN ks s=ks.findIdx (fun k=>decide (k.1=s)) from rfl,←e];exact hl)
    have h2:=of_decide_eq_true this
    simp only [e];exact h2
  refine⟨ks.take (cJ ks s),(ks[cJ ks s]'hl).2,ks.drop (cJ ks s+1),?_,?_,?_⟩
  · have e2:((s,(ks[cJ ks s]'hl).2):ByteArray×PN)=ks[cJ ks s]'hl:=Prod.ext h1.symm rfl
    rw [e2,←List.drop_eq_getElem_cons hl,List.take_append_drop]
  · rw [vB]
    intro k hk he
    obtain⟨i,hi,rfl⟩:=List.getElem_of_mem hk
    rw [List.length_take] at hi
    rw [List.getElem_take] at he
    have:=List.not_of_lt_findIdx (p:=fun k:ByteArray×PN=>decide (k.1=s)) (xs:=ks) (i:=i) (by rw [←show atN ks s=ks.findIdx (fun k=>decide (k.1=s)) from rfl,←e];omega)
    simp [he] at this
  · rw [List.length_take];omega
theorem rC {a b:PKs} {s:ByteArray} {x:PN} (ha:fH a s=none):fH (a ++ (s,x) :: b) s=some x:=by
  rw [lookK_app,ha];simp [fH]
theorem edit_split {cut:Bool} {a b:PKs} {s:ByteArray} {x y:PN} (hp:cJ (a ++ (s,x) :: b) s=a.length):lZ cut y (a ++ (s,x) :: b) s=a ++ (if cut=true then [] else [(s,y)]) ++ b:=by
  have hi:iB (a ++ (s,x) :: b) s=true:=isAt_iff.2 ⟨(s,x),by simp,rfl⟩
  unfold lZ
  rw [if_pos hi,hp]
  congr 1
  · rw [List.take_left]
  · rw [show a.length+1=(a ++ [(s,x)]).length by simp,show a ++ (s,x) :: b=(a ++ [(s,x)]) ++ b by simp,List.drop_left]
theorem findP_cons {n:PN} {s:ByteArray} {l:List ByteArray}:eI n (s :: l)=if n.h.kind=2 then (fH n.ks s).bind (fun m=>eI m l) else none:=by
  rw [eI]
  by_cases hk:n.h.kind=2
  · rw [if_pos hk]
    cases h:iB n.ks s
    · rw [if_neg (by rintro ⟨_,h2⟩;cases h2),isAt_no.1 h];rfl
    · rw [if_pos ⟨hk,rfl⟩]
      obtain⟨a,x,b,h1,h2,h3⟩:=tS h
      rw [h3,h1,rC h2]
      simp
  · rw [if_neg hk,if_neg (fun h=>hk h.1)]
theorem pF_cons {cut:Bool} {x n:PN} {s t:ByteArray} {l:List ByteArray}:pF cut x n (s :: t :: l)=0↔n.h.kind=2∧∃ m,fH n.ks s=some m∧pF cut x m (t :: l)=0:=by
  rw [pF]
  by_cases hk:n.h.kind=2
  · rw [if_neg (not_not_intro hk)]
    cases h:iB n.ks s
    · rw [if_neg (by decide),isAt_no.1 h];simp
    · rw [if_pos rfl]
      obtain⟨a,y,b,h1,h2,h3⟩:=tS h
      rw [h3,h1,rC h2]
      simp [hk]
  · rw [if_pos hk];simp [hk]
theorem pN_cons {cut:Bool} {x n m:PN} {s t:ByteArray} {l:List ByteArray} (hm:fH n.ks s=some m):pN cut x n (s :: t :: l)=.mk n.h (lZ false (pN cut x m (t :: l)) n.ks s):=by
  rw [pN]
  cases h:iB n.ks s
  · rw [isAt_no.1 h] at hm;cases hm
  · obtain⟨a,y,b,h1,h2,h3⟩:=tS h
    rw [h1,rC h2] at hm
    cases hm
    rw [h3,h1]
    have h4:=h3;rw [h1] at h4
    rw [edit_split h4]
    simp
theorem tC {u:Bool} {d so:Nat} {p:Option ByteArray} {k:ByteArray×PN} {ks:PKs}:(dD u d so p (k :: ks)).2=0↔eV k.1.toList=true∧(∀ y,p=some y→y.toList<k.1.toList)∧(bU u (d+1) so k.2).2=0∧(dD u d (bU u (d+1) so k.2).1 (some k.1) ks).2=0:=by
  by_cases h1:eV k.1.toList=true
  · by_cases h2:∀ y,p=some y→y.toList<k.1.toList
    · by_cases h3:(bU u (d+1) so k.2).2=0
      · rw [kN h1 h2 h3];simp [h1,h3];exact fun _=>h2
      · rw [oC h1 h2 h3];simp [h3]
    · have:∃ y,p=some y∧¬y.toList<k.1.toList:=by
        refine Classical.byContradiction fun hn=>h2 fun y hy=>Classical.byContradiction fun hl=>hn ⟨y,hy,hl⟩
      obtain⟨y,rfl,hy⟩:=this
      rw [sQ h1 hy]
      constructor
      · intro h;simp at h
      · intro h;exact absurd (h.2.1 y rfl) hy
  · have h1':eV k.1.toList=false:=by simpa using h1
    rw [mU h1']
    constructor
    · intro h;simp at h
    · intro h;exact absurd h.1 h1
theorem tY {u:Bool} {d so:Nat} {n:PN}:(bU u d so n).2=0↔(¬so=60∧d≤6)∧iO n.h (decide (0<n.ks.length)) u (decide (d=0))=0∧(dD u d (so+1) none n.ks).2=0:=by
  by_cases h1:so=60∨6<d
  · rw [sU h1];simp;omega
  · by_cases h2:iO n.h (decide (0<n.ks.length)) u (decide (d=0))=0
    · rw [mT h1 h2];simp only [h2,true_and];omega
    · rw [vK h1 h2]
      constructor
      · intro h;exact absurd h h2
      · intro h;exact absurd h.2.1 h2
theorem vE {u:Bool} {d:Nat}:∀ {ks:PKs} {so:Nat} {p:Option ByteArray},so≤60→(dD u d so p ks).2=0→ks.Pairwise (fun a b=>a.1.toList<b.1.toList)∧(∀ k∈ks,(∀ y,p=some y→y.toList<k.1.toList)∧eV k.1.toList=true∧∃ so',so'≤60∧(bU u (d+1) so' k.2).2=0)
  | [],so,p,_,_=>by simp
  | k :: ks,so,p,hs,h=>by
    obtain⟨h1,h2,h3,h4⟩:=tC.1 h
    have hb:=iT u (d+1) so k.2 hs
    obtain⟨g1,g2⟩:=vE hb.1 h4
    refine⟨List.pairwise_cons.2 ⟨fun b hb=>(g2 b hb).1 _ rfl,g1⟩,fun b hb=>?_⟩
    rcases List.mem_cons.1 hb with rfl|hb
    · exact⟨h2,h1,so,hs,h3⟩
    · exact⟨fun y hy=>nW (h2 y hy) ((g2 b hb).1 _ rfl),(g2 b hb).2⟩
theorem jY:∀ {ks:PKs} {s:ByteArray} {m:PN},fH ks s=some m→(s,m)∈ks
  | [],s,m,h=>by cases h
  | k :: ks,s,m,h=>by
    rw [fH] at h
    split at h
    · rename_i he;cases h;subst he;exact List.mem_cons_self
    · exact List.mem_cons_of_mem _ (jY h)
mutual
theorem countF_ge (u:Bool):∀ (d so:Nat) (n:PN),so≤(bU u d so n).1
  | d,so,.mk h ks=>by
    have:=countK_ge u d (so+1) none ks
    rw [bU]
    split
    · exact Nat.le_refl _
    · split
      · exact Nat.le_refl _
      · omega
theorem countK_ge (u:Bool):∀ (d so:Nat) (prev:Option ByteArray) (ks:PKs),so≤(dD u d so prev ks).1
  | d,so,prev,[]=>by rw [dD];exact Nat.le_refl _
  | d,so,prev,(nm,n) :: ks=>by
    have h1:=countF_ge u (d+1) so n
    have h2:=countK_ge u d (bU u (d+1) so n).1 (some nm) ks
    rw [dD]
    split
    · exact Nat.le_refl _
    · split
      · exact Nat.le_refl _
      · split
        · exact h1
        · omega
end
inductive lK (u:Bool) (d:Nat):PKs→PKs→Prop
  | nil:lK u d [] []
  | drop {k a b}:lK u d a b→lK u d a (k :: b)
  | cons {s x y a b}:(∀ so so',so'≤so→so≤60→(bU u (d+1) so x).2=0→(bU u (d+1) so' y).2=0∧(bU u (d+1) so' y).1≤(bU u (d+1) so x).1)→lK u d a b→lK u d ((s,y) :: a) ((s,x) :: b)
theorem lK.count {u:Bool} {d:Nat} {a b:PKs} (h:lK u d a b):∀ {so so':Nat} {p p':Option ByteArray},so'≤so→so≤60→(∀ y,p'=some y→∃ z,p=some z∧(y=z∨y.toList<z.toList))→(dD u d so p b).2=0→(dD u d so' p' a).2=0∧(dD u d so' p' a).1≤(dD u d so p b).1:=by
  induction h with
  | nil=>intro so so' p p' hs _ _ _;rw [rW,rW];exact⟨rfl,hs⟩
  | @drop k a b h ih =>
    intro so so' p p' hs hs6 hp hc
    obtain⟨h1,h2,h3,h4⟩:=tC.1 hc
    have hb:=iT u (d+1) so k.2 hs6
    have hge:so≤(bU u (d+1) so k.2).1:=countF_ge u (d+1) so k.2
    rw [kN h1 h2 h3]
    refine ih (by omega) hb.1 (fun y hy=>⟨k.1,rfl,.inr ?_⟩) h4
    obtain⟨z,hz,hyz⟩:=hp y hy
    rcases hyz with rfl|hyz
    · exact h2 _ hz
    · exact nW hyz (h2 z hz)
  | @cons s x y a b hxy h ih =>
    intro so so' p p' hs hs6 hp hc
    obtain⟨h1,h2,h3,h4⟩:=tC.1 hc
    have hb:=iT u (d+1) so x hs6
    obtain⟨g1,g2⟩:=hxy so so' hs hs6 h3
    have h2':∀ z,p'=some z→z.toList<s.toList:=by
      intro z hz
      obtain⟨z2,hz2,he⟩:=hp z hz
      rcases he with rfl|he
      · exact h2 _ hz2
      · exact nW he (h2 z2 hz2)
    rw [kN (k:=(s,x)) h1 h2 h3,kN (k:=(s,y)) h1 h2' g1]
    exact ih g2 hb.1 (fun z hz=>⟨z,hz,.inl rfl⟩) h4
theorem node_less {u:Bool} {d so so':Nat} {n n':PN} (hh:n'.h=n.h) (ho:iO n.h (decide (0<n'.ks.length)) u (decide (d=0))=iO n.h (decide (0<n.ks.length)) u (decide (d=0))) (hk:lK u d n'.ks n.ks) (hs:so'≤so) (h6:so≤60) (hc:(bU u d so n).2=0):(bU u d so' n').2=0∧(bU u d so' n').1≤(bU u d so n).1:=by
  obtain⟨⟨a1,a2⟩,a3,a4⟩:=tY.1 hc
  have:=hk.count (so:=so+1) (so':=so'+1) (p:=none) (p':=none) (by omega) (by omega) (by simp) a4
  rw [mT (n:=n) (by omega) a3,mT (n:=n') (by omega) (by rw [hh,ho];exact a3)]
  exact this
theorem lK.of_all {u:Bool} {d:Nat}:∀ {ks:PKs},(∀ k∈ks,∀ so so',so'≤so→so≤60→(bU u (d+1) so k.2).2=0→(bU u (d+1) so' k.2).2=0∧(bU u (d+1) so' k.2).1≤(bU u (d+1) so k.2).1)→lK u d ks ks
  | [],_=>.nil
  | k :: ks,h=>.cons (h k List.mem_cons_self) (lK.of_all fun k hk=>h k (List.mem_cons_of_mem _ hk))
theorem countF_mono {u:Bool} (n:PN):∀ (d so so':Nat),so'≤so→so≤60→(bU u d so n).2=0→(bU u d so' n).2=0∧(bU u d so' n).1≤(bU u d so n).1:=by
  refine PN.ind (p:=fun n=>∀ (d so so':Nat),so'≤so→so≤60→(bU u d so n).2=0→(bU u d so' n).2=0∧(bU u d so' n).1≤(bU u d so n).1) ?_ n
  intro h ks ih d so so' hs h6 hc
  exact node_less rfl rfl (lK.of_all fun k hk=>ih k hk (d+1)) hs h6 hc
theorem lK.same {u:Bool} {d:Nat} (ks:PKs):lK u d ks ks:=lK.of_all fun k _ so so'=>countF_mono k.2 (d+1) so so'
theorem lK.app {u:Bool} {d:Nat}:∀ (a:PKs) {b c:PKs},lK u d b c→lK u d (a ++ b) (a ++ c)
  | [],_,_,h=>h
  | k :: a,_,_,h=>.cons (fun so so'=>countF_mono k.2 (d+1) so so') (lK.app a h)
theorem sT {u:Bool} {n:PN}:cP u n=0↔n.h.kind=2∧(bU u 0 0 n).2=0:=by
  unfold cP;split<;>simp_all
end
section
abbrev PF:=PN×Int
def dI:List PF→List PF
  | []=>[]
  | f :: l=>if f.1.h.kind=2 then (if f.1.h.opq=true then [f] else f :: dI l) else []
def dF:List PF→List PF
  | []=>[]
  | f :: l=>if f.1.h.kind=1 then [f] else dI (f :: l)
def lX (s:ByteArray) (f:PF):Option PF:=if f.1.h.kind=2 then (fH f.1.ks s).map (fun x=>(x,f.2)) else none
def dK (l:List PF) (s:ByteArray):List PF:=dF (l.filterMap (lX s))
def jS:Int→List PN→List PF
  | _,[]=>[]
  | i,n :: l=>(n,i) :: jS (i+1) l
def lT (l:List PN):List PF:=dF (jS 0 l)
def cR (l:List PN) (ss:List ByteArray):List PF:=ss.foldl dK (lT l)
theorem dirsP_len:∀ l:List PF,(dI l).length≤l.length
  | []=>Nat.le_refl _
  | f :: l=>by
    have:=dirsP_len l
    rw [dI];split
    · split<;>simp<;>omega
    · simp
theorem oD (l:List PF):(dF l).length≤l.length:=by
  cases l with
  | nil=>exact Nat.le_refl _
  | cons f l =>
    rw [dF];split
    · simp
    · exact dirsP_len _
theorem stepP_len (l:List PF) (s:ByteArray):(dK l s).length≤l.length:=Nat.le_trans (oD _) (List.length_filterMap_le _ _)
theorem xK:∀ (l:List PN) (i:Int),(jS i l).length=l.length
  | [],_=>rfl
  | n :: l,i=>by rw [jS,List.length_cons,xK l,List.length_cons]
theorem mN (l:List PN):∀ (ss:List ByteArray),(cR l ss).length≤l.length:=by
  have key:∀ (ss:List ByteArray) (at0:List PF),(ss.foldl dK at0).length≤at0.length:=fun ss=>by
    induction ss with
    | nil=>intro a;exact Nat.le_refl _
    | cons s ss ih=>intro a;exact Nat.le_trans (ih _) (stepP_len a s)
  intro ss
  refine Nat.le_trans (key ss _) ?_
  have:=oD (jS 0 l)
  rw [xK] at this;exact this
theorem dirs_at {l:List PF} {i:Nat} {f:PF} (h:l[i]?=some f) (hk:f.1.h.kind=2) (ho:f.1.h.opq=false):dI (l.drop i)=f :: dI (l.drop (i+1)):=by
  obtain⟨hi,rfl⟩:=List.getElem?_eq_some_iff.1 h
  rw [List.drop_eq_getElem_cons hi,dI,if_pos hk,if_neg (by rw [ho];decide)]
end
section
theorem upon_in {P:Program} {o:Oper} {a:Act} {w:World} {K K':Act→World→Prop} {Q:Exit→Act→World→Prop} {r n:Nat} (hd:∀ ev,o.semAt (some r) ev=execOp ev o) (hK:∀ a w,K a w→K' a w) (h:o.wp P a w K Q):o.wpIn (Fence.wide.inRound r) n P a w K' Q:=by
  unfold Oper.wp at h
  refine⟨fun _ _=>trivial,?_⟩
  show Oper.uponIn (Fence.wide.inRound r) n P o a K' Q ((o.semAt (some r) a.eval).run P w)
  rw [hd]
  generalize (execOp a.eval o).run P w=x at h ⊢
  cases x with
  | ok nx w' =>
    cases nx with
    | enter f args =>
      refine⟨fun hh=>(by cases hh),CallsIn.inRound r (callsIn_wide.2 (Calls.mono h fun e w'' h1=>?_))⟩
      cases e with
      | returned v=>exact hK _ _ h1
      | panicked c=>exact h1
      | outgrown=>exact h1
    | row rw args=>exact⟨fun hh=>(by cases hh),fun c cs _=>let ⟨v,w'',h1,h2⟩:=h c cs;⟨v,w'',hK _ _ h1,stepsIn_wide.2 h2⟩⟩
    | value v=>exact hK _ _ h
    | skip=>exact hK _ _ h
    | defer d=>exact hK _ _ h
    | _=>exact h.elim
  | halt hh w' =>
    cases hh with
    | panic v=>exact h
    | _=>exact h.elim
theorem list_in {P:Program} {ops:Array Oper} {Q:Exit→Act→World→Prop} {r n:Nat} (hQ:¬LetsOut Q):∀ (l:List Oper) (a:Act) (w:World),(∀ o∈l,∀ ev,o.semAt (some r) ev=execOp ev o)→wpList P ops Q l a w→wpListIn (Fence.wide.inRound r) n P ops Q l a w
  | [],a,w,_,h=>h
  | o :: l,a,w,hd,h=>by
    unfold wpList at h
    unfold wpListIn
    split at h
    · rename_i hw
      rw [if_pos hw]
      rcases h with h|⟨_,h⟩
      · exact upon_in (hd o (by simp)) (fun a w h=>list_in hQ l a w (fun o ho=>hd o (by simp [ho])) h) h
      · exact absurd h hQ
    · rename_i hw
      rw [if_neg hw]
      exact⟨fun _ _=>trivial,list_in hQ l _ w (fun o ho=>hd o (by simp [ho])) h⟩
theorem region_in {P:Program} {B:Base} {N:Nat} {Q:Exit→Act→World→Prop} {F:List (Nat×Value)} {V:aD} {L:List Box} {id r n:Nat} {l:List Oper} (hQ:¬LetsOut Q) (hd:∀ o∈l,∀ ev,o.semAt (some r) ev=execOp ev o) (h:GoL P B N .plain l.toArray Q [] l F V L) {a:Act} {w:World} (ha:Kn N F a) (hs:St B V L w):(Code.region id l.toArray false).wpIn (Fence.wide.inRound r) n P Q a w :=
  wpIn_region_lit (list_in hQ l a w hd (oQ.1 h a w ha hs))
theorem St.ownFrom {B:Base} {V:aD} {L:List Box} {W W':World} {row:Option Nat} {b0:Nat} (hs:St B V L W) (hg:W.grownBy W' row) (hr:∀ r,row=some r→b0≤r∧∃ o:Obj,W.heap[r]?=some o∧o.isCells=false) (hB:B.w.heap.size≤b0) (hc:∀ b∈L,∃ E,b.t=.cells E):St B V L W':=by
  refine⟨hs.ext.grown hg fun k hk=>.inl (Nat.le_trans hB (hr k hk).1),fun p x hp=>⟨cell_kept (hs.view p x hp).1 hg fun r hr'=>(hr r hr').2,(hs.view p x hp).2⟩,hs.old,hs.v0,fun b hb=>⟨?_,(hs.own b hb).2⟩,hs.nodup⟩
  obtain⟨E,he⟩:=hc b hb
  have h1:=(hs.own b hb).1
  refine(grownBy_keeps_cells hg (fun r hr'=>(hr r hr').2) h1 ?_).trans h1
  rw [he];rfl
theorem St.rebase {B:Base} {V:aD} {L:List Box} {W:World} (hs:St B V L W):St ⟨V,W,L.map Box.g⟩ V L W :=
  ⟨Exc.refl _ W,hs.view,fun p x hp _=>hp,VLe.refl V,fun b hb=>⟨(hs.own b hb).1,.inr (List.mem_map.2 ⟨b,hb,rfl⟩)⟩,hs.nodup⟩
theorem St.back {B:Base} {V V':aD} {L L':List Box} {W W':World} (hs:St B V L W) (h:St ⟨V,W,L.map Box.g⟩ V' L' W'):St B V' L' W':=by
  have hfl:∀ g∈L.map Box.g,B.w.heap.size≤g∨g∈B.fl:=fun g hg=>by
    obtain⟨b,hb,rfl⟩:=List.mem_map.1 hg;exact(hs.own b hb).2
  refine⟨hs.ext.trans h.ext hfl,h.view,fun p x hp hlt=>?_,fun p x hp=>h.v0 p x (hs.v0 p x hp),fun b hb=>⟨(h.own b hb).1,?_⟩,h.nodup⟩
  · exact hs.old p x (h.old p x hp (Nat.lt_of_lt_of_le hlt hs.ext.sz)) hlt
  · rcases (h.own b hb).2 with h1|h1
    · exact .inl (Nat.le_trans hs.ext.sz h1)
    · exact hfl _ h1
theorem St.keeps {B:Base} {V V':aD} {L L':List Box} {W W':World} (hs:St B V L W) (hc:∀ b∈L,∃ E,b.t=.cells E) (h:St ⟨V,W,L.map Box.g⟩ V' L' W'):KeepsOthers W W':=by
  refine⟨h.ext.sz,fun k o hk ho=>?_⟩
  refine(h.ext.block k (Array.getElem?_eq_some_iff.1 hk).1 fun hm=>?_).trans hk
  obtain⟨b,hb,rfl⟩:=List.mem_map.1 hm
  obtain⟨E,he⟩:=hc b hb
  have h1:=(hs.own b hb).1
  rw [h1,he] at hk;cases hk;cases ho
structure pK (V:aD) (W W':World):Prop where
  os:W'.os=W.os
  tape:W'.tape=W.tape
  output:W'.output=W.output
  size:W.heap.size≤W'.heap.size
  cell:∀ p x,V p=some x→W.cell? p=some x→W'.cell? p=some x
theorem pK.trans {V:aD} {A B C:World} (h:pK V A B) (k:pK V B C):pK V A C:=⟨k.os.trans h.os,k.tape.trans h.tape,k.output.trans h.output,Nat.le_trans h.size k.size,fun p x hp hx=>k.cell p x hp (h.cell p x hp hx)⟩
theorem pK.put {V:aD} {W:World} {l:Nat} {o:Obj} (o':Obj) (hl:W.heap[l]?=some o) (ho:o.isCells=false):pK V W (W.putObj l o') :=
  ⟨rfl,rfl,rfl,by simp,fun p x _ hx=>cell_kept hx (grownBy_putObj' W l o') fun r e=>by cases e;exact⟨o,hl,ho⟩⟩
theorem pK.of {B:Base} {V V0 V':aD} {L L':List Box} {W W':World} (hs:St B V L W) (h:St ⟨V,W,L.map Box.g⟩ V' L' W') (h0:VLe V0 V):pK V0 W W' :=
  ⟨h.ext.os,h.ext.tape,h.ext.output,h.ext.sz,fun p x hp _=>(h.view p x (h.v0 p x (h0 p x hp))).1⟩
theorem cO.det {B B':Base} {V V':aD} {X X':List Box} {A:Option Addr} {n c E sz:Nat} {xs xs':List Value} {L L':List Box} {W:World} (h:cO A n c E sz xs L) (h':cO A n c E sz xs' L') (hs:St B V X W) (hs':St B' V' X' W) (hx:∀ b∈L,b∈X) (hx':∀ b∈L',b∈X'):xs=xs':=by
  rcases h.2 with ⟨h1,h2,h3,h4⟩|⟨g,cs,h1,h2,h3,h4,h5,h6⟩
  · have e1:=h.1
    have e2:=h'.1
    rw [h3,Nat.zero_mul] at e1 e2
    rw [List.eq_nil_of_length_eq_zero e1,List.eq_nil_of_length_eq_zero e2]
  · rcases h'.2 with ⟨_,k2,_⟩|⟨g',cs',k1,k2,k3,k4,k5,k6⟩
    · rw [h1] at k2;cases k2
    · rw [h1] at k1
      simp only [Option.some.injEq,Addr.mk.injEq,true_and,and_true] at k1
      subst k1
      have o1:=(hs.own _ (hx ⟨g,E,cs⟩ (by rw [h2];simp))).1
      have o2:=(hs'.own _ (hx' ⟨g,E,cs'⟩ (by rw [k2];simp))).1
      simp only [BT.obj_cells] at o1 o2
      rw [o1] at o2
      simp only [Option.some.injEq,Obj.cells.injEq,List.toArray_inj] at o2
      have e:cs=cs':=by simpa using o2
      rw [←h6,←k6,e]
theorem cO.cells {A:Option Addr} {n c E sz:Nat} {xs:List Value} {L:List Box} (h:cO A n c E sz xs L):∀ b∈L,∃ E,b.t=.cells E:=by
  rcases h.2 with ⟨h1,_⟩|⟨g,cs,_,h2,_⟩
  · rw [h1];simp
  · rw [h2];intro b hb;rw [List.mem_singleton.1 hb];exact⟨_,rfl⟩
section
variable {P : Program} {B : Base} {N : Nat} {Q : Exit → Act → World → Prop} {k : List jI} {F : List (Nat × Value)} {V : aD}
theorem gc_collect {α:Type} (cf:α→List Value) (enc:α→Value) (xs:List α) {γ T E sz p:Nat} {g:Operand} {gf:Nat} {lb:List Value} {id3 id4 i1:Nat} {l3 l4:List Oper} {F6:Nat→List (Nat×Value)}
    (hg:evF F g=some (.func (.func gf) #[] lb.toArray)) (eg:∀ args w,(callFunc gf args).run P w=.ok (.enter gf args) w) (hp:okD N (some p)=true)
    (hseq:∀ w,VIn V w→SeqStopsK Fence.wide 2 P gf lb.toArray (fun x=>#[enc x]) (pK V) (fun ys=>ys=xs) (fun _=>True) xs.length w)
    (hd3:∀ r,∀ o∈l3,∀ ev,o.semAt (some r) ev=execOp ev o) (hd4:∀ r,∀ o∈l4,∀ ev,o.semAt (some r) ev=execOp ev o)
    (hA:∀ (x:α) (V':aD) (L':List Box) (B':Base) (Q':Exit→Act→World→Prop),(∀ γ6,AtQ P B' N Q' [] .normal (F6 γ6) V' (⟨γ6,E,cf x⟩ :: L'))→GoL P B' N .plain l3.toArray Q' [] l3 ((p,enc x) :: F) V' L')
    (hBd:∀ (x:α) (V':aD) (B':Base) (Q':Exit→Act→World→Prop) (γ6:Nat) (A:Option Addr) (n c:Nat) (us:List Value) (LA:List Box),cO A n c E sz us LA→n<xs.length→(∀ A2 c2 LA2 F',cO A2 (n+1) c2 E sz (us ++ cf x) LA2→AtQ P B' N Q' [] .normal F' V' (⟨γ6,E,cf x⟩ :: ⟨γ,T,[.slice A2 (n+1) c2]⟩ :: LA2))→GoL P B' N .plain l4.toArray Q' [] l4 (F6 γ6) V' (⟨γ6,E,cf x⟩ :: ⟨γ,T,[.slice A n c]⟩ :: LA))
    (hdone:∀ (D:Nat) (V':aD) (A:Option Addr) (n c:Nat) (LA:List Box) (a:Act) (W:World),B.w.heap.size≤D→VLe V V'→cO A n c E sz (xs.flatMap cf) LA→xs.length=n→Kn N F a→St B V' (⟨γ,T,[.slice A n c]⟩ :: LA) W→W.heap[D]?=some (.deferred (some []))→evalQ P Q k .normal { a with defers:={ target:=.collected D,args:=#[] } :: a.defers } W) :
    GoC P B N (.rangeFunc g #[p] (.region id3 l3.toArray false) (.block i1 (.region id4 l4.toArray false))) Q k F V [⟨γ,T,[.slice none 0 0]⟩]:=fun a w ha hs=>by
  have hbox:∀ {A:Option Addr} {n c:Nat} {us:List Value} {LA:List Box},cO A n c E sz us LA→∀ b∈(⟨γ,T,[.slice A n c]⟩ :: LA:List Box),∃ E,b.t=.cells E:=fun h b hb=>by
    rcases List.mem_cons.1 hb with rfl|hb
    · exact⟨_,rfl⟩
    · exact h.cells b hb
  let I:List α→World→Prop:=fun pre W=>∃ V' A n c LA,VLe V V'∧cO A n c E sz (pre.flatMap cf) LA∧pre.length=n∧St B V' (⟨γ,T,[.slice A n c]⟩ :: LA) W
  let Ax:α→Act→World→Prop:=fun x a' W=>∃ V' A n c LA γ6 us,VLe V V'∧cO A n c E sz us LA∧Kn N (F6 γ6) a'∧St B V' (⟨γ6,E,cf x⟩ :: ⟨γ,T,[.slice A n c]⟩ :: LA) W
  refine wpIn_wide.1 (wpIn_rangeFunc_ownH (n:=3) (w0:=w) rfl (by omega) (ha.ev hg) trivial eg (hseq w fun p x hp=>(hs.view p x hp).1) (fun h k=>h.trans k) (fun W l o o' _ hl ho _=>pK.put o' hl ho) (Below.refl _ w) (fun _=>rfl) I (fun _ _ _=>False) ?_ (fun _ _ _ _ _ h _ _=>h) ⟨V,none,0,0,[],VLe.refl V,cO.nil,rfl,hs⟩ Ax ?_ ?_ ?_ ?_ ?_)
  · rintro pre W W' row ⟨V',A,n,c,LA,h1,h2,h3,h4⟩ hgr hr
    exact⟨V',A,n,c,LA,h1,h2,h3,h4.ownFrom hgr hr hs.ext.sz (hbox h2)⟩
  · rintro x a' _ W W' row ⟨V',A,n,c,LA,γ6,us,h1,h2,h3,h4⟩ hgr hr
    refine⟨V',A,n,c,LA,γ6,us,h1,h2,h3,h4.ownFrom hgr hr hs.ext.sz fun b hb=>?_⟩
    rcases List.mem_cons.1 hb with rfl|hb
    · exact⟨_,rfl⟩
    · exact hbox h2 b hb
  · rintro l pre x W K ⟨V',A,n,c,LA,h1,h2,h3,h4⟩ hK
    have hput:({ tmps:=(#[p].zip #[enc x]).foldl (fun t (p,v)=>t.setIfInBounds p v) a.tmps,defers:=[] }:Act)=a.put (some p) (enc x):=by
      have:=ha.1
      cases a;simp_all [Act.put]
    rw [hput]
    have hkn:Kn N ((p,enc x) :: F) (a.put (some p) (enc x)):=ha.put hp (enc x)
    refine region_in (Q:=Exit.then K fun _ _ _=>False) (fun ⟨_,_,h⟩=>h) (hd3 l) (hA x V' _ ⟨V',W,_⟩ _ fun γ6 a' W' hk' hs'=>?_) hkn h4.rebase
    have hb:=h4.back hs'
    exact hK a' W' ((h4.keeps (hbox h2) hs').from _) (pK.of h4 hs' h1) ⟨V',A,n,c,LA,h1,h2,h3,hb.drop (List.Sublist.cons _ (List.Sublist.refl _))⟩ ⟨V',A,n,c,LA,γ6,_,h1,h2,hk',hb⟩
  · rintro l pre x a' W _ _ ⟨V1,A1,n1,c1,LA1,g1,g2,g3,g4⟩ ⟨V',A,n,c,LA,γ6,us,h1,h2,h3,h4⟩ hlen
    have o1:=(g4.own _ List.mem_cons_self).1
    have o2:=(h4.own _ (List.mem_cons_of_mem _ List.mem_cons_self)).1
    simp only [BT.obj_cells] at o1 o2
    rw [o1] at o2
    simp only [Option.some.injEq,Obj.cells.injEq,List.toArray_inj,List.cons.injEq,Value.slice.injEq,and_true] at o2
    obtain⟨rfl,rfl,rfl⟩:=o2
    have hus:=g2.det h2 g4 h4 (fun b hb=>List.mem_cons_of_mem _ hb) (fun b hb=>List.mem_cons_of_mem _ (List.mem_cons_of_mem _ hb))
    have hcells:∀ b∈(⟨γ6,E,cf x⟩ :: ⟨γ,T,[.slice A1 n1 c1]⟩ :: LA:List Box),∃ E,b.t=.cells E:=fun b hb=>by
      rcases List.mem_cons.1 hb with rfl|hb
      · exact⟨_,rfl⟩
      · exact hbox h2 b hb
    refine wpIn_block (region_in (Q:=Exit.inBlock i1 _) (fun ⟨_,_,h⟩=>h) (hd4 l) (hBd x V' ⟨V',W,_⟩ _ γ6 A1 n1 c1 us LA h2 (by omega) fun A2 c2 LA2 F' hr2 a2 W2 hk2 hs2=>?_) h3 h4.rebase)
    have hb:=h4.back hs2
    exact⟨(h4.keeps hcells hs2).from _,pK.of h4 hs2 h1,V',A2,n1+1,c2,LA2,h1,by rw [List.flatMap_append,hus];simpa using hr2,by simp [g3],hb.drop (List.Sublist.cons _ (List.Sublist.refl _))⟩
  · rintro D ys W hD rfl ⟨V',A,n,c,LA,h1,h2,h3,h4⟩ hD2
    exact hdone D V' A n c LA a W (Nat.le_trans hs.ext.sz hD) h1 h2 h3 ha h4 hD2
  · rintro D c pre W _ _ h
    exact h.elim
end
end
section
def GoI (P:Program) (B:Base) (N:Nat) (ops:Array Oper) (Q:Exit→Act→World→Prop) (rest:List Oper) (F:List (Nat×Value)) (V:aD) (L:List Box):Prop:=∀ a w,Kn N F a→St B V L w→wpListIn Fence.wide 2 P ops Q rest a w
section
variable {P : Program} {B : Base} {N : Nat} {Q : Exit → Act → World → Prop} {ops : Array Oper} {rest : List Oper} {F : List (Nat × Value)} {V : aD} {L : List Box} {k : List jI}
variable {op : Op} {ty : TypeId} {pos : String} {af : Array Edge}
theorem gc_regionI {id:Nat} {l:List Oper} (h:GoI P B N l.toArray (evalQ P Q k) l F V L):GoC P B N (.region id l.toArray false) Q k F V L:=fun a w ha hs=>wpIn_wide.1 (wpIn_region_lit (h a w ha hs))
theorem gi_nil (h:AtQ P B N Q k .normal F V L):GoI P B N ops (evalQ P Q k) [] F V L:=fun a w ha hs=>h a w ha hs
theorem qX {t:Nat} {v:Value} (hd:okD N (some t)=true) (hq:QP P B N V L ⟨some t,op,ty,pos,af,none⟩ F v) (h:GoI P B N ops Q rest ((t,v) :: F) V L):GoI P B N ops Q (⟨some t,op,ty,pos,af,none⟩ :: rest) F V L:=fun a w ha hs=>by
  unfold wpListIn
  rw [if_pos (by simp [Region.wanted])]
  refine⟨fun _ _=>trivial,?_⟩
  show Oper.uponIn _ _ _ _ _ _ _ ((execOp a.eval _).run P w)
  rw [hq a w ha hs]
  exact h _ w (ha.put hd v) hs
theorem exec_yield {F:List (Nat×Value)} {a:Act} (ha:Kn N F a) {d:Option Tmp} {gd:Option (Nat×Bool)} {fo:Operand} {args:List Operand} {ats:Array TypeId} {vs:List Value} {l:Nat} (hf:evF F fo=some (.func (.yield l) #[] #[])) (hv:evL F args=some vs) (w:World) :
    (execOp a.eval ⟨d,.call ⟨.value fo,args.toArray,ats⟩,ty,pos,af,gd⟩).run P w=(Instr.yield l vs.toArray).run P w:=by
  have h1:=ha.ev hf
  have h2:=ha.evL hv
  simp [execOp,resolve,h1,h2,Deferred.ofValue,invoke]
theorem gi_yield {t l:Nat} {fo:Operand} {args:List Operand} {ats:Array TypeId} {vs:List Value} {Rb:Bool→World→Prop} (Vb:Bool→aD) (hd:okD N (some t)=true) (hf:evF F fo=some (.func (.yield l) #[] #[])) (hv:evL F args=some vs)
    (hY:∀ w,St B V L w→YieldAt Fence.wide 1 P l vs.toArray w fun e w'=>∃ b,e=.returned (.bool b)∧Rb b w') (hV:∀ b w',Rb b w'→VIn (Vb b) w')
    (h:∀ b w',Rb b w'→GoI P ⟨Vb b,w',[]⟩ N ops Q rest ((t,.bool b) :: F) (Vb b) []):GoI P B N ops Q (⟨some t,.call ⟨.value fo,args.toArray,ats⟩,ty,pos,af,none⟩ :: rest) F V L:=fun a w ha hs=>by
  unfold wpListIn
  rw [if_pos (by simp [Region.wanted])]
  refine⟨fun _ _=>trivial,?_⟩
  have hsem:∀ o:Oper,Oper.semAt Fence.wide.round a.eval o=execOp a.eval o:=fun _=>rfl
  rw [hsem]
  obtain⟨fn,tmps,assign,body,hy,hR⟩:=hY w hs
  rw [exec_yield ha hf hv w,hy]
  refine⟨fun hh=>(by cases hh),hR.mono ?_⟩
  rintro e w' ⟨b,rfl,hb⟩
  exact h b w' hb _ w' (ha.put hd _) ⟨Exc.refl _ w',fun p x hp=>⟨hV b w' hb p x hp,by simp⟩,fun p x hp _=>hp,VLe.refl (Vb b),by simp,by simp⟩
theorem gc_loopB {c:Code} (J:Base→List (Nat×Value)→aD→List Box→Nat→Prop) {F':List (Nat×Value)} {L':List Box} {m:Nat} (h0:J B F' V L' m) (hF:∀ p∈F',iM F p.1=some p.2) (hL:L'.Sublist L)
    (round:∀ B F V L m,J B F V L m→GoC P B N c Q (.thn (fun a w=>∃ B' F' V' L' m',m'<m∧J B' F' V' L' m'∧Kn N F' a∧St B' V' L' w) :: k) F V L):GoC P B N (.loop c) Q k F V L:=by
  intro a w ha hs
  have key:∀ n B F V L a w,J B F V L n→Kn N F a→St B V L w→(Code.loop c).wp P (evalQ P Q k) a w:=by
    intro n B F V L a w hJ ha hs
    let I:Act→World→Nat→Prop:=fun a w n=>∃ B F V L,J B F V L n∧Kn N F a∧St B V L w
    classical
    have hex:∀ a w,(∃ n,I a w n)→∃ n,I a w n∧∀ k,k<n→¬I a w k:=fun a w ⟨n,hn⟩=>by
      induction n using Nat.strongRecOn with
      | _ n ih =>
        by_cases h:∃ k,k<n∧I a w k
        · obtain⟨k,hk,hI⟩:=h;exact ih k hk hI
        · exact⟨n,hn,fun k hk hI=>h ⟨k,hk,hI⟩⟩
    let μ:Act→World→Nat:=fun a w=>if h:∃ n,I a w n then Classical.choose (hex a w h) else 0
    refine wp_loop (fun a w=>∃ n,I a w n) μ ⟨n,B,F,V,L,hJ,ha,hs⟩ fun a w h=>?_
    have hμ:=Classical.choose_spec (hex a w h)
    have hμe:μ a w=Classical.choose (hex a w h):=dif_pos h
    obtain⟨⟨B,F,V,L,hJ,ha,hs⟩,_⟩:=hμ
    refine Code.wp_mono (fun e a' w' q=>?_) (round B F V L _ hJ a w ha hs)
    cases e with
    | normal =>
      obtain⟨B',F',V',L',m',hlt,hJ',ha',hs'⟩:=q
      have h':∃ n,I a' w' n:=⟨m',B',F',V',L',hJ',ha',hs'⟩
      refine⟨h',?_⟩
      have hμe':μ a' w'=Classical.choose (hex a' w' h'):=dif_pos h'
      have hmin:=(Classical.choose_spec (hex a' w' h')).2 m'
      rw [hμe,hμe']
      rcases Nat.lt_or_ge m' (Classical.choose (hex a' w' h')) with hl|hl
      · exact absurd ⟨B',F',V',L',hJ',ha',hs'⟩ (hmin hl)
      · omega
    | exit i=>exact q
    | goto l=>exact q
    | ret=>exact q
    | panic ch=>exact q
    | outgrown=>exact q
  exact key m B F' V L' a w h0 (ha.less hF) (hs.drop hL)
theorem at_roundB {J:Base→List (Nat×Value)→aD→List Box→Nat→Prop} {m:Nat} (F':List (Nat×Value)) {L':List Box} (m':Nat) (hJ:J B F' V L' m') (hm:m'<m) (hF:∀ p∈F',iM F p.1=some p.2) (hL:L'.Sublist L) :
    AtQ P B N Q (.thn (fun a w=>∃ B' F' V' L' m',m'<m∧J B' F' V' L' m'∧Kn N F' a∧St B' V' L' w) :: k) .normal F V L:=fun a w ha hs=>⟨B,F',V,L',m',hm,hJ,ha.less hF,hs.drop hL⟩
end
def ItEnd {α:Type} (J Jx:List α→World→Prop) (S Sp:List α→Prop) (e:Ending) (W':World):Prop:=(∃ v,e=.returned v)∧((∃ xs,S xs∧J xs W')∨(∃ pre,Sp pre∧Jx pre W'))
theorem at_endI {P:Program} {B:Base} {N:Nat} {F:List (Nat×Value)} {V:aD} {L:List Box} {fn:Func} {α:Type} {J Jx:List α→World→Prop} {S Sp:List α→Prop} {e:Exit} (he:e=.normal∨e=.ret) (hr:fn.results=#[]) (h:∀ w,St B V L w→(∃ xs,S xs∧J xs w)∨(∃ pre,Sp pre∧Jx pre w)):AtQ P B N (bodyPost P fn (ItEnd J Jx S Sp)) [] e F V L:=fun a w ha hs=>by
  have key:a.defers=[]∧∃ v,(results fn a.tmps).run P w=.ok v w∧ItEnd J Jx S Sp (.returned v) w:=⟨ha.1,.tuple #[],by simp [results,hr],⟨_,rfl⟩,h w hs⟩
  rcases he with rfl|rfl<;>exact key
theorem seq_of {α:Type} {P:Program} {gf NN Nm:Nat} {fn:Func} {c:Code} {lb:List Value} {encs:α→Array Value} {V:aD} {S Sp:List α→Prop} (hf:P.funcs[gf]?=some fn) (hb:fn.body=some c) (hN:fn.ntmps=NN) (hsz:Nat.ble (1+lb.length) NN=true)
    (h:∀ (l:Nat) (J Jx:List α→World→Prop) (W:World),(∀ s W1 W',J s W1→Exc [] W1 W'→J s W')→(∀ s W1 W',Jx s W1→Exc [] W1 W'→Jx s W') →
      (∀ pre x W1,J pre W1→VIn V W1→pre.length<Nm→YieldAt Fence.wide 1 P l (encs x) W1 fun e W'=>∃ b,e=.returned (.bool b)∧((b=true∧J (pre ++ [x]) W'∧VIn V W')∨(b=false∧Jx (pre ++ [x]) W')))→J [] W →
      GoC P ⟨V,W,[]⟩ NN c (bodyPost P fn (ItEnd J Jx S Sp)) [] (vZ (.func (.yield l) #[] #[] :: lb) 0) V []) :
    ∀ w,VIn V w→SeqStopsK Fence.wide 2 P gf lb.toArray encs (pK V) S Sp Nm w:=fun w hV l J Jx W hW hJ hJx hY h0=>by
  have hVW:VIn V W:=fun p x hp=>by
    have h1:=hV p x hp
    obtain⟨o,ho,_⟩:=cells_of_cell h1
    have h2:p.block<w.heap.size:=(Array.getElem?_eq_some_iff.1 ho).1
    exact(World.cell?_of_block (hW.block _ h2)).trans h1
  have hgr:∀ {X Y:World},Exc [] X Y→X.grownBy Y none:=fun h=>⟨h.os,h.tape,h.output,h.sz,fun k hk _=>h.block k hk (by simp)⟩
  have hg:=h l J Jx W (fun s X Y hs hx=>hJ s X Y none hs (hgr hx) (fun r e=>by cases e)) (fun s X Y hs hx=>hJx s X Y none hs (hgr hx) (fun r e=>by cases e))
    (fun pre x W1 hj hv hl=>YieldAt.mono (hY pre x W1 hj hl) fun e W' hr=>by
      rcases hr with ⟨rfl,h1,h2⟩|⟨rfl,h1⟩
      · exact⟨true,rfl,.inl ⟨rfl,h1,fun p y hp=>h2.cell p y hp (hv p y hp)⟩⟩
      · exact⟨false,rfl,.inr ⟨rfl,h1⟩⟩) h0
  refine callsIn_wide.2 (calls_of_wp hf hb ?_)
  have hargs:(#[.func (.yield l) #[] #[]] ++ lb.toArray:Array Value)=(.func (.yield l) #[] #[] :: lb:List Value).toArray:=by simp
  rw [hargs]
  refine hg _ W ⟨rfl,?_,fun t v hv=>?_⟩ ⟨Exc.refl _ W,fun p x hp=>⟨hVW p x hp,by simp⟩,fun p x hp _=>hp,VLe.refl V,by simp,by simp⟩
  · have:=Nat.le_of_ble_eq_true hsz
    simp [hN];omega
  · obtain⟨_,h2⟩:=nY _ 0 t v hv
    generalize (.func (.yield l) #[] #[] :: lb:List Value)=args at *
    have hlt:t<args.length:=by
      rcases Nat.lt_or_ge t args.length with hl|hl
      · exact hl
      · rw [List.getElem?_eq_none (by omega)] at h2;cases h2
    rw [List.getElem?_eq_getElem (by omega)] at h2
    simp only [Nat.sub_zero] at h2
    injection h2 with h2
    simp [Array.getElem?_append,hlt,h2]
end
section
theorem fn_enterM {P:Program} {N:Nat} {V:aD} {f:FuncId} {fn:Func} {c:Code} {args:List Value} {R:Value→aD→Prop} (hf:P.funcs[f]?=some fn) (hb:fn.body=some c) (hN:fn.ntmps=N) (hsz:Nat.ble args.length N=true)
    (h:∀ w,GoC P ⟨V,w,[]⟩ N c (bodyPostM Fence.wide 3 P fn (FnEnd V w R)) [] (vZ args 0) V []):Fn P f args V R:=fun w hV=>by
  refine callsIn_wide.1 (callsIn_of_wp_marks (n:=3) hf hb trivial (wpIn_wide.2 (h w _ w ⟨rfl,?_,fun t v hv=>?_⟩ ⟨Exc.refl _ w,fun p x hp=>⟨hV p x hp,by simp⟩,fun p x hp _=>hp,VLe.refl V,by simp,by simp⟩)))
  · have:=Nat.le_of_ble_eq_true hsz
    simp [hN];omega
  · obtain⟨_,h2⟩:=nY args 0 t v hv
    have hlt:t<args.length:=by
      rcases Nat.lt_or_ge t args.length with hl|hl
      · exact hl
      · rw [List.getElem?_eq_none (by omega)] at h2;cases h2
    rw [List.getElem?_eq_getElem (by omega)] at h2
    simp only [Nat.sub_zero] at h2
    injection h2 with h2
    simp [Array.getElem?_append,hlt,h2]
theorem tail_call {P:Program} {V0 V':aD} {w0 W:World} {N D id f t1 t2 t3:Nat} {F:List (Nat×Value)} {L:List Box} {a:Act} {fn:Func} {Rf R':Value→aD→Prop} {op1:Op} {v1:Value} {ty1 ty2 ty3:TypeId} {p1 p2 p3:String} {af1 af2 af3:Array Edge} {ats:Array TypeId}
    (hres:fn.results=#[.tmp t3]) (ha:Kn N F a) (hs:St ⟨V0,w0,[]⟩ V' L W) (hD:W.heap[D]?=some (.deferred (some []))) (hDw:w0.heap.size≤D) (hcl:∀ b∈L,∃ E,b.t=.cells E) (he:jV P f)
    (hd1:okD N (some t1)=true) (hd2:okD N (some t2)=true) (hd3:okD N (some t3)=true)
    (h1:QP P ⟨V0,w0,[]⟩ N V' L ⟨some t1,op1,ty1,p1,af1,none⟩ F v1) (hc:Fn P f [v1] V' R') (hR:∀ v V'',VLe V' V''→R' v V''→Rf v V'') :
    ((Code.region id #[⟨some t1,op1,ty1,p1,af1,none⟩,⟨some t2,.call ⟨.value (.func f),#[.tmp t1],ats⟩,ty2,p2,af2,none⟩,⟨some t3,.assign (.tmp t2),ty3,p3,af3,none⟩] false).seq .ret).wp P (bodyPostM Fence.wide 3 P fn (FnEnd V0 w0 Rf)) { a with defers:={ target:=.collected D,args:=#[] } :: a.defers } W:=by
  have hev:∀ b:Act,∀ ds,({ b with defers:=ds }:Act).eval=b.eval:=fun b ds=>by funext x;cases x<;>rfl
  have hput:∀ (b:Act) ds d v,({ b with defers:=ds }:Act).put d v={ b.put d v with defers:=ds }:=fun b ds d v=>by cases d<;>rfl
  refine wp_seq (wp_region_lit (l:=[_,_,_]) ?_)
  unfold wpList
  rw [if_pos (by simp [Region.wanted])]
  left
  unfold Oper.wp
  rw [hev,h1 a W ha hs]
  show wpList P _ _ _ (({ a with defers:=_ }:Act).put (some t1) v1) W
  rw [hput]
  have ha1:=ha.put hd1 v1
  unfold wpList
  rw [if_pos (by simp [Region.wanted])]
  left
  unfold Oper.wp
  rw [hev]
  have hx:=qG (d:=some t2) (ty:=ty2) (pos:=p2) (af:=af2) (gd:=none) (ats:=ats) (w:=W) he ha1 (args:=[.tmp t1]) (vs:=[v1]) (by simp [evL,evF,rT,iS])
  have hx':(execOp (a.put (some t1) v1).eval ⟨some t2,.call ⟨.value (.func f),#[.tmp t1],ats⟩,ty2,p2,af2,none⟩).run P W=.ok (.enter f [v1].toArray) W:=hx
  rw [hx',Oper.upon_enter]
  refine(hc W fun p x hp=>(hs.view p x hp).1).mono ?_
  rintro e W2 ⟨v2,rfl,hext,V2,g1,g2,g3,g4⟩
  have hs2:=hs.call hext g1 g2 g3
  show wpList P _ _ _ (({ a.put (some t1) v1 with defers:=_ }:Act).put (some t2) v2) W2
  rw [hput]
  have ha2:=ha1.put hd2 v2
  unfold wpList
  rw [if_pos (by simp [Region.wanted])]
  left
  unfold Oper.wp
  rw [hev]
  have e3:(execOp ((a.put (some t1) v1).put (some t2) v2).eval ⟨some t3,.assign (.tmp t2),ty3,p3,af3,none⟩).run P W2=.ok (.value v2) W2:=by
    have:=ha2.ev (x:=.tmp t2) (v:=v2) (by simp [evF,rT,iS])
    simp [execOp,this]
  rw [e3]
  rw [Oper.upon_value]
  show Code.wp P .ret _ (({ (a.put (some t1) v1).put (some t2) v2 with defers:=_ }:Act).put (some t3) v2) W2
  rw [hput]
  have ha3:=ha2.put hd3 v2
  refine wp_ret ?_
  have hD2:W2.heap[D]?=some (.deferred (some [])):=(hext.block D (Array.getElem?_eq_some_iff.1 hD).1).trans hD
  have hs3:St ⟨V0,w0,[]⟩ V2 L (W2.putObj D (.deferred none)):=hs2.ownFrom (b0:=w0.heap.size) (grownBy_putObj' W2 D _) (fun r e=>by cases e;exact⟨hDw,_,hD2,rfl⟩) (Nat.le_refl _) hcl
  have hdef:(((a.put (some t1) v1).put (some t2) v2).put (some t3) v2).defers=[]:=ha3.1
  show LeavesInM Fence.wide 3 P fn _ _ ({ target:=.collected D,args:=#[] } :: a.defers) .returning W2
  rw [ha.1]
  refine⟨by simp,.inl ⟨D,_,rfl,run_takeDeferred hD2,v2,?_,wZ hs3 (hR v2 V2 g1 g4)⟩⟩
  have hv:=ha3.2.2 t3 v2 (by simp [rT,iS])
  have hv':(((a.put (some t1) v1).put (some t2) v2).put (some t3) v2).tmps[t3]?.getD undef=v2:=by rw [←Array.getD_eq_getD_getElem?];exact hv
  simp [results,hres,hv']
end
section
structure LF where
  x:LN
  lay:Int
abbrev flC (f:LF):List Value:=[.int .i64 f.x.h.kind,.int .i64 f.x.h.mode,.int .i64 f.x.h.user,.int .i64 f.x.h.group,.bool f.x.h.opq,.slice f.x.A f.x.na f.x.ca,.string f.x.h.data,.slice f.x.K f.x.nk f.x.ck,.int .i64 f.lay]
abbrev flV (f:LF):Value:=.agg #[.int .i64 f.x.h.kind,.int .i64 f.x.h.mode,.int .i64 f.x.h.user,.int .i64 f.x.h.group,.bool f.x.h.opq,.slice f.x.A f.x.na f.x.ca,.string f.x.h.data,.slice f.x.K f.x.nk f.x.ck,.int .i64 f.lay]
def fz (f:LF):PF:=(f.x.n,f.lay)
theorem ones_fl (l:List LF):∀ u∈l.flatMap flC,gQ u=true:=fun u hu=>by
  obtain⟨r,_,hr⟩:=List.mem_flatMap.1 hu
  simp only [List.mem_cons,List.not_mem_nil,or_false] at hr
  rcases hr with rfl|rfl|rfl|rfl|rfl|rfl|rfl|rfl|rfl<;>rfl
theorem xR (f:LF):∀ u∈flC f,gQ u=true:=fun u hu=>ones_fl [f] u (by simpa using hu)
theorem fl_len (f:LF):(flC f).length=9:=rfl
def dB (V:aD) (A:Option Addr) (n:Nat) (fs:List LF):Prop:=eP V 9 flC A n fs∧∀ f∈fs,aT V f.x
theorem dB.le {V V':aD} (hv:VLe V V') {A:Option Addr} {n:Nat} {fs:List LF} (h:dB V A n fs):dB V' A n fs:=⟨h.1.le hv,fun f hf=>(h.2 f hf).le hv⟩
theorem dB.nil {V:aD} {A:Option Addr}:dB V A 0 []:=⟨eP.nil,by simp⟩
theorem dB.of {V:aD} {A:Option Addr} {n:Nat} {fs:List LF} (hc:eL V 9 A n (fs.flatMap flC)) (hl:fs.length=n) (hm:n≤maxLen) (hg:∀ f∈fs,aT V f.x):dB V A n fs:=⟨eP.of_cells hc fl_len hl hm,hg⟩
theorem dB.at_ {V:aD} {A:Option Addr} {n:Nat} {fs:List LF} (h:dB V A n fs) {k:Nat} (hk:k<n):∃ b off f,A=some ⟨b,off,none⟩∧fs[k]?=some f∧aG V b (off+k * 9) (flC f)∧aT V f.x:=by
  obtain⟨b,off,r,ha,hx,hc⟩:=h.1.at_ hk
  exact⟨b,off,r,ha,hx,hc,h.2 r (List.mem_of_getElem? hx)⟩
def pH (ps:List PF) (v:Value) (V':aD):Prop:=∃ (A:Option Addr) (n c:Nat) (fs:List LF),v=.slice A n c∧dB V' A n fs∧n≤c∧fs.map fz=ps
theorem fz_at {fs:List LF} {k:Nat} {f:LF} (h:fs[k]?=some f):(fs.map fz)[k]?=some (fz f):=by rw [List.getElem?_map,h];rfl
theorem wA {l:List PF} {i:Nat} {f:PF} (h:l[i]?=some f) (hk:¬f.1.h.kind=2):dI (l.drop i)=[]:=by
  obtain⟨hi,rfl⟩:=List.getElem?_eq_some_iff.1 h
  rw [List.drop_eq_getElem_cons hi,dI,if_neg hk]
theorem dirs_opq {l:List PF} {i:Nat} {f:PF} (h:l[i]?=some f) (hk:f.1.h.kind=2) (ho:f.1.h.opq=true):dI (l.drop i)=[f]:=by
  obtain⟨hi,rfl⟩:=List.getElem?_eq_some_iff.1 h
  rw [List.drop_eq_getElem_cons hi,dI,if_pos hk,if_pos ho]
theorem dirs_done {l:List PF} {i:Nat} (h:l.length≤i):dI (l.drop i)=[]:=by rw [List.drop_eq_nil_of_le h];rfl
theorem shown_file {l:List PF} {f:PF} (h:l[0]?=some f) (hk:f.1.h.kind=1):dF l=[f]:=by
  cases l with
  | nil=>cases h
  | cons g l=>simp at h;subst h;rw [dF,if_pos hk]
theorem shown_dirs {l:List PF} {f:PF} (h:l[0]?=some f) (hk:¬f.1.h.kind=1):dF l=dI l:=by
  cases l with
  | nil=>cases h
  | cons g l=>simp at h;subst h;rw [dF,if_neg hk]
theorem pX {fs:List LF} {k:Nat} {f:LF} (h:fs[k]?=some f):(fs.take (k+1)).map fz=(fs.take k).map fz ++ [fz f]:=by rw [List.take_add_one,h,List.map_append];rfl
theorem cell0 {V:aD} {g:Nat} {v:Value} (h:aG V g 0 [v]):V ⟨g,0,none⟩=some v:=h 0 v rfl
theorem vin_st {B:Base} {V:aD} {L:List Box} {w:World} (h:St B V L w):VIn V w:=fun p x hp=>(h.view p x hp).1
theorem dB.one {V:aD} {g:Nat} {f:LF} {cs:List Value} (h:aG V g 0 cs) (hcs:cs=flC f) (hN:aT V f.x):dB V (some ⟨g,0,none⟩) 1 [f]:=by
  subst hcs
  exact dB.of ⟨rfl,fun _=>⟨g,0,rfl,by simpa using h⟩⟩ rfl (by unfold maxLen;omega) (by simpa using hN)
theorem dB.part {V V':aD} {A A':Option Addr} {n k:Nat} {fs:List LF} (h:dB V A n fs) (hV:VLe V V') (hk:k≤n) (hn:n≤1000) (hc:eL V' 9 A' k ((fs.take k).flatMap flC)):dB V' A' k (fs.take k) :=
  dB.of hc (by have:=h.1.1;rw [List.length_take];omega) (by unfold maxLen;omega) fun f hf=>(h.2 f (List.mem_of_mem_take hf)).le hV
theorem find_first {α:Type} {p:α→Bool}:∀ {l:List α} {k:Nat} {x:α},l[k]?=some x→p x=true→(∀ j,j<k→∀ y,l[j]?=some y→¬p y=true)→l.find? p=some x
  | [],k,x,h,_,_=>by simp at h
  | a :: l,0,x,h,hp,_=>by simp at h;subst h;rw [List.find?_cons,hp]
  | a :: l,k+1,x,h,hp,hn=>by
    have h0:p a=false:=by simpa using hn 0 (by omega) a rfl
    rw [List.find?_cons,h0]
    exact find_first (by simpa using h) hp fun j hj y hy=>hn (j+1) (by omega) y (by simpa using hy)
theorem find_nothing {α:Type} {p:α→Bool} {l:List α} (h:∀ (j:Nat) (y:α),l[j]?=some y→¬p y=true):l.find? p=none:=by
  rw [List.find?_eq_none]
  intro x hx
  obtain⟨j,hj,rfl⟩:=List.getElem_of_mem hx
  exact h j _ (List.getElem?_eq_getElem hj)
theorem fm_take_len {α β:Type} {f:α→Option β} {l:List α} {i:Nat} {x:α} {y:β} (h:l[i]?=some x) (hf:f x=some y):((l.take i).filterMap f).length<(l.filterMap f).length:=by
  have e:l.filterMap f=(l.take i).filterMap f ++ (l.drop i).filterMap f:=by rw [←List.filterMap_append,List.take_append_drop]
  obtain⟨hi,rfl⟩:=List.getElem?_eq_some_iff.1 h
  rw [e,List.length_append,List.drop_eq_getElem_cons hi,List.filterMap_cons,hf]
  simp
attribute [local irreducible] AtQ GoC GoL GoW QO QP Fn RV bL aG VLe bR bK
theorem Shown_c (V:aD) (A:Option Addr) (n c:Nat) (fs:List LF) (h:dB V A n fs) (hn:n≤1000):Fn Tryz.prog 254 [.slice A n c] V (pH (dF (fs.map fz))):=by
  have hl:=h.1.1
  (refine aI Tryz.func254 rfl Tryz.ntmps254 rfl ?_;intro w0)
  repeat' (first|(refine aE ?_;refine pu9 ?_)|refine bY ?_|fail)
  have hlz:(fs.map fz).length=n:=by rw [List.length_map,hl]
  refine bN (fun F V' L' m=>∃ (k:Nat) (A':Option Addr) (c':Nat) (LA:List Box),V=V'∧LA=L'∧k≤n∧cO A' k c' 306 9 ((fs.take k).flatMap flC) LA∧dI (fs.map fz)=(fs.take k).map fz ++ dI ((fs.map fz).drop k)∧(0<k→dF (fs.map fz)=dI (fs.map fz))∧m=n - k∧F=[(3,.slice A' k c'),(6,.slice A n c),(7,.int .i64 n),(8,.int .i64 (k:Int))]) (m:=n) ⟨0,none,0,[],rfl,rfl,Nat.zero_le _,cO.nil,by simp,by simp,by omega,rfl⟩ bH rfl sl9 ?_
  rintro F V' L' m ⟨k,A',c',LA,rfl,rfl,hkn,hr,hd,hsh,rfl,rfl⟩
  have hcap:=hr.cap
  by_cases hlt:k<n
  · obtain⟨b,off,f,rfl,hf,hc,hN⟩:=h.at_ hlt
    have hfz:=fz_at hf
    have ho1:=xR f
    have htm:=pX hf
    have hfl:(fs.take (k+1)).flatMap flC=(fs.take k).flatMap flC ++ flC f:=by rw [List.take_add_one,hf,List.flatMap_append];simp
    have hsd:¬(f.x.h.kind=1∧k=0)→dF (fs.map fz)=dI (fs.map fz):=fun hh=>by
      rcases Nat.eq_zero_or_pos k with h0|h0
      · subst h0;exact shown_dirs hfz (fun e=>hh ⟨e,rfl⟩)
      · exact hsh h0
    repeat' (first|(refine aE ?_;first|(refine aC ?_;(refine aQ rfl und_272 inf_306 rfl rfl rfl hr aV (cY bA rfl) bJ (by omega) rfl rfl ?_;intro A2 c2 L2 hr2;have hcap2:=hr2.cap))|(refine cF ?_;(refine aN rfl und_272 siz_306 zec_306 rfl rfl rfl rfl rfl rfl rfl ?_;intro γ))|refine st9 ?_|(refine al9 ?_;intro γ)|refine pu9 ?_)|refine eE ?_|(refine aJ rfl rfl rfl ?_ ?_<;>intro hq<;>try exact no9)|(refine aA rfl ?_ ?_<;>intro hq<;>try exact no9)|(refine bM rfl ?_ ?_<;>intro hq))
    · obtain rfl:k=0:=by omega
      refine tP (fN.here _ _ _ _) ?_
      intro V2 hV2 hg2
      (refine aM Tryz.results254 (aB rfl) ?_)
      exact⟨_,1,1,[f],rfl,dB.one hg2 rfl (hN.le hV2),Nat.le_refl _,by rw [shown_file hfz (by assumption)];rfl⟩
    · refine fF hr aV ?_
      intro V2 hV2 hc2
      (refine aM Tryz.results254 (aB rfl) ?_)
      exact⟨_,_,_,fs.take k,rfl,h.part hV2 hkn hn hc2,hcap,by rw [hsd (by omega),hd,wA hfz hq,List.append_nil]⟩
    · refine fF hr aV ?_
      intro V2 hV2 hc2
      (refine aM Tryz.results254 (aB rfl) ?_)
      exact⟨_,_,_,fs.take k,rfl,h.part hV2 hkn hn hc2,hcap,by rw [hsd (by omega),hd,wA hfz hq,List.append_nil]⟩
    · refine fF hr2 aV ?_
      intro V2 hV2 hc2
      (refine aM Tryz.results254 (aB rfl) ?_)
      exact⟨_,_,_,fs.take (k+1),rfl,h.part hV2 hlt hn (by rw [hfl];exact hc2),hcap2,by rw [hsd (by omega),hd,dirs_opq hfz (by show f.x.h.kind=2;omega) hq,htm]⟩
    · refine aX _ (n - (k+1)) ⟨k+1,A2,c2,L2,rfl,rfl,by omega,by rw [hfl];exact hr2,by rw [htm,hd,dirs_at hfz (by show f.x.h.kind=2;omega) hq];simp,fun _=>hsd (by omega),rfl,rfl⟩ (by omega) bH sl9
  · obtain rfl:k=n:=by omega
    repeat' (first|(refine aE ?_;refine pu9 ?_)|refine dT ?_|(refine aA rfl ?_ ?_<;>intro hq<;>try exact no9))
    all_goals
      refine fF hr aV ?_
      intro V2 hV2 hc2
      (refine aM Tryz.results254 (aB rfl) ?_)
      refine⟨_,_,_,fs.take k,rfl,h.part hV2 hkn hn hc2,hcap,?_⟩
      rw [dirs_done (by omega),List.append_nil] at hd
      rcases Nat.eq_zero_or_pos k with h0|h0
      · obtain rfl:fs=[]:=List.eq_nil_of_length_eq_zero (by omega)
        simp [dF]
      · rw [hsh h0,hd]
theorem Kids_mc (V:aD) (A:Option Addr) (n c:Nat) (nm:ByteArray):Fn Tryz.prog 262 [.slice A n c,.string nm] V fun v V'=>∃ g1 g2,v=.func (.func 270) #[] [.pointer (some ⟨g1,0,none⟩),.pointer (some ⟨g2,0,none⟩)].toArray∧V' ⟨g1,0,none⟩=some (.slice A n c)∧V' ⟨g2,0,none⟩=some (.string nm):=by
  (refine aI Tryz.func262 rfl Tryz.ntmps262 rfl ?_;intro w0)
  repeat' (first|(refine aE ?_;first|(refine al9 ?_;intro γ)|refine pu9 ?_)|refine eE ?_|(refine aJ rfl rfl rfl ?_ ?_<;>intro hq<;>try exact no9)|(refine bS rfl rfl rfl ?_ ?_<;>intro hq)|(refine aA rfl ?_ ?_<;>intro hq<;>try exact no9)|(refine bM rfl ?_ ?_<;>intro hq))
  refine tP (fN.here _ _ _ _) ?_
  intro V2 hV2 hg2
  refine tP (fN.here _ _ _ _) ?_
  intro V3 hV3 hg3
  (refine aM Tryz.results262 (aB rfl) ?_)
  exact⟨_,_,rfl,cell0 hg3,cell0 (hg2.le hV3)⟩
def mB (nm:ByteArray) (g:LF×List LK):Option LF:=if g.1.x.h.kind=2 then (g.2.find? fun e=>decide (e.nm=nm)).map (fun e=>⟨e.x,g.1.lay⟩) else none
theorem kids_seq (V:aD) (g1 g2:Nat) (A:Option Addr) (n c:Nat) (nm:ByteArray) (gs:List (LF×List LK)) (h1:V ⟨g1,0,none⟩=some (.slice A n c)) (h2:V ⟨g2,0,none⟩=some (.string nm)) (h:dB V A n (gs.map Prod.fst)) (hk:∀ g∈gs,dV V g.1.x.K g.1.x.nk g.2) :
    ∀ w,VIn V w→SeqStopsK Fence.wide 2 Tryz.prog 270 [.pointer (some ⟨g1,0,none⟩),.pointer (some ⟨g2,0,none⟩)].toArray (fun f:LF=>#[flV f]) (pK V) (fun ys=>ys=gs.filterMap (mB nm)) (fun _=>True) (gs.filterMap (mB nm)).length w:=by
  have hl:=h.1.1
  rw [List.length_map] at hl
  have hm:=h.1.max
  refine seq_of Tryz.func270 rfl Tryz.ntmps270 rfl ?_
  intro l J Jx W hJ hJx hY h0
  repeat' (first|(refine aE ?_;refine pu9 ?_)|refine gxb9 ?_|refine cW (id:=0) ?_)
  refine gc_loopB (fun B F V' L' m=>∃ (i:Nat) (W1:World),B=⟨V,W1,[]⟩∧V=V'∧[]=L'∧J ((gs.take i).filterMap (mB nm)) W1∧i≤n∧m=n - i∧F=[(0,.func (.yield l) #[] #[]),(2,.pointer (some ⟨g2,0,none⟩)),(8,.slice A n c),(9,.int .i64 n),(10,.int .i64 (i:Int))]) (m:=n) ⟨0,W,rfl,rfl,rfl,by simpa using h0,Nat.zero_le _,by omega,rfl⟩ bH sl9 ?_
  rintro B F V' L' m ⟨i,W1,rfl,rfl,rfl,hJ1,hin,rfl,rfl⟩
  by_cases hlt:i<n
  · obtain⟨b,off,f,rfl,hf,hc,hN⟩:=h.at_ hlt
    obtain⟨g,hg,rfl⟩:∃ g,gs[i]?=some g∧g.1=f:=by
      rw [List.getElem?_map] at hf
      cases hgi:gs[i]? with
      | none=>rw [hgi] at hf;cases hf
      | some g=>rw [hgi] at hf;exact⟨g,rfl,by simpa using hf⟩
    obtain⟨f,es⟩:=g
    have hK:=hk _ (List.mem_of_getElem? hg)
    have hKm:=hK.max
    have hKl:=hK.len
    simp only [] at hc hN hK hKm hKl
    have htk:(gs.take (i+1)).filterMap (mB nm)=(gs.take i).filterMap (mB nm) ++ (mB nm (f,es)).toList:=by rw [List.take_add_one,hg,List.filterMap_append];simp [List.filterMap_cons];cases mB nm (f,es)<;>rfl
    repeat' (first|(refine aE ?_;first|refine st9 ?_|(refine al9 ?_;intro γ)|refine pu9 ?_)|refine gxb9 ?_|refine fE [1,2,3] rfl ?_|(refine aA rfl ?_ ?_<;>intro hq<;>try exact no9))
    refine bN (fun F V'' L'' m=>∃ k:Nat,V=V''∧[⟨γ,306,flC f⟩]=L''∧k≤f.x.nk∧(∀ j,j<k→∀ e,es[j]?=some e→¬(f.x.h.kind=2∧e.nm=nm))∧m=f.x.nk - k∧F=[(0,.func (.yield l) #[] #[]),(2,.pointer (some ⟨g2,0,none⟩)),(5,.pointer (some ⟨γ,0,none⟩)),(8,.slice (some ⟨b,off,none⟩) n c),(9,.int .i64 n),(10,.int .i64 (i:Int)),(16,.slice f.x.K f.x.nk f.x.ck),(17,.int .i64 f.x.nk),(18,.int .i64 (k:Int))]) (m:=f.x.nk) ⟨0,rfl,rfl,Nat.zero_le _,(by omega),by omega,rfl⟩ bH rfl sl9 ?_
    rintro F V'' L'' m ⟨k,rfl,rfl,hkn,hno,rfl,rfl⟩
    by_cases hlt2:k<f.x.nk
    · obtain⟨b1,o1,e,hKb,he,hem,hce,c0,c1,hms,hne⟩:=hK.at_ hlt2
      repeat' (first|(refine aE ?_;first|(refine cG ?_;refine aO (bF und_68 siz_156 rfl hKb rfl hlt2) ?_)|refine st9 ?_|(refine al9 ?_;intro γ)|refine pu9 ?_)|refine gxcbe9 ?_|(refine aJ rfl rfl rfl ?_ ?_<;>intro hq<;>try exact no9)|refine fE [4,5,6,8] rfl ?_|(refine aA rfl ?_ ?_<;>intro hq<;>try exact no9))
      · have hno':∀ j,j<k+1→∀ e',es[j]?=some e'→¬(f.x.h.kind=2∧e'.nm=nm):=fun j hj e' he' hh=>hq hh.1
        refine aX _ (f.x.nk - (k+1)) ⟨k+1,rfl,rfl,by omega,hno',rfl,rfl⟩ (by omega) bH sl9
      · have hno':∀ j,j<k+1→∀ e',es[j]?=some e'→¬(f.x.h.kind=2∧e'.nm=nm):=fun j hj e' he' hh=>by
          rcases Nat.lt_or_ge j k with h3|h3
          · exact hno j h3 e' he' hh
          · have hjk:j=k:=by omega
            rw [hjk,he] at he';cases he';exact hq hh.2
        refine aX _ (f.x.nk - (k+1)) ⟨k+1,rfl,rfl,by omega,hno',rfl,rfl⟩ (by omega) bH sl9
      · rename_i hk2
        have hkd:mB nm (f,es)=some ⟨e.x,f.lay⟩:=by
          unfold mB
          rw [if_pos (show f.x.h.kind=2 by omega),find_first he (decide_eq_true (Decidable.not_not.1 hq)) fun j hj y hy=>fun hd=>hno j hj y hy ⟨by omega,of_decide_eq_true hd⟩];rfl
        have hlen:=fm_take_len hg hkd
        rw [hkd] at htk
        have htk':(gs.take (i+1)).filterMap (mB nm)=(gs.take i).filterMap (mB nm) ++ [⟨e.x,f.lay⟩]:=htk
        refine gc_regionI ?_;refine qX rfl (jT rfl) ?_;refine qX rfl (dQ fld_156_1 rfl) ?_;(first|refine qX rfl (nP agg_70 rfl bA (by exact rfl)) ?_|refine qX rfl (uI agg_70 rfl (by assumption) (by exact rfl)) ?_|refine qX rfl (mH agg_70 rfl bA (by exact rfl) (by exact rfl)) ?_|refine qX rfl (mH agg_70 rfl bA (by assumption) (by exact rfl)) ?_);refine qX rfl (dQ fld_306_1 rfl) ?_;(first|refine qX rfl (bC one_3 rfl bA (by exact rfl)) ?_|refine qX rfl (bC one_3 rfl bA (by assumption)) ?_|refine qX rfl (cD one_3 rfl (by assumption)) ?_);refine qX rfl (q_build bld_306 rfl rfl) ?_
        refine gi_yield (vs:=[_]) (fun b=>if b=true then V else fun _=>none) (Rb:=fun b W'=>(b=true∧J ((gs.take i).filterMap (mB nm) ++ [⟨e.x,f.lay⟩]) W'∧VIn V W')∨(b=false∧Jx ((gs.take i).filterMap (mB nm) ++ [⟨e.x,f.lay⟩]) W')) rfl rfl rfl ?_ ?_ ?_
        · intro w hs
          refine Eq.mp ?_ (hY _ ⟨e.x,f.lay⟩ w (hJ _ W1 w hJ1 hs.ext) (vin_st hs) hlen)
          congr 1
        · rintro b' W' (⟨rfl,_,h3⟩|⟨rfl,_⟩)
          · exact h3
          · exact fun p x hp=>by simp at hp
        · rintro b' W' (⟨rfl,h3,h4⟩|⟨rfl,h3⟩)
          · (first|refine qX rfl (xH rfl) ?_|refine qX rfl (xM rfl) ?_|refine qX rfl (wH rfl) ?_|refine qX rfl (wT rfl) ?_)
            refine gi_nil ?_
            repeat' (first|(refine aE ?_;refine pu9 ?_)|refine gxce9 ?_|refine cW (id:=9) ?_)
            refine at_roundB _ (n - (i+1)) ⟨i+1,W',rfl,rfl,rfl,by rw [htk'];exact h3,by omega,rfl,rfl⟩ (by omega) bH sl9
          · (first|refine qX rfl (xH rfl) ?_|refine qX rfl (xM rfl) ?_|refine qX rfl (wH rfl) ?_|refine qX rfl (wT rfl) ?_)
            refine gi_nil ?_
            repeat' (first|refine jR ?_|fail)
            refine at_endI (.inr rfl) Tryz.results270 fun w hs=>.inr ⟨_,trivial,hJx _ W' w h3 hs.ext⟩
    · obtain rfl:k=f.x.nk:=by omega
      have hkd:mB nm (f,es)=none:=by
        unfold mB
        by_cases h2k:f.x.h.kind=2
        · rw [if_pos h2k,find_nothing fun j y hy hd=>?_];rfl
          have hj2:j<es.length:=(List.getElem?_eq_some_iff.1 hy).1
          have hj:j<f.x.nk:=by omega
          exact hno j hj y hy ⟨h2k,of_decide_eq_true hd⟩
        · rw [if_neg h2k]
      rw [hkd] at htk
      have htk':(gs.take (i+1)).filterMap (mB nm)=(gs.take i).filterMap (mB nm):=htk.trans (List.append_nil _)
      repeat' (first|(refine aE ?_;refine pu9 ?_)|refine gxe9 ?_|refine fE [4,9] rfl ?_|(refine aA rfl ?_ ?_<;>intro hq<;>try exact no9))
      refine at_roundB _ (n - (i+1)) ⟨i+1,W1,rfl,rfl,rfl,by rw [htk'];exact hJ1,by omega,rfl,rfl⟩ (by omega) bH sl9
  · obtain rfl:i=n:=by omega
    repeat' (first|(refine aE ?_;refine pu9 ?_)|refine gxe9 ?_|refine cW (id:=1) ?_|(refine aA rfl ?_ ?_<;>intro hq<;>try exact no9))
    refine at_endI (.inl rfl) Tryz.results270 fun w hs=>.inl ⟨_,rfl,hJ _ W1 w ?_ hs.ext⟩
    rw [List.take_of_length_le (by omega)] at hJ1
    exact hJ1
end
section
theorem at_weak {P:Program} {B:Base} {N:Nat} {Q:Exit→Act→World→Prop} {k:List jI} {e:Exit} {F F':List (Nat×Value)} {V:aD} {L L':List Box} (h:AtQ P B N Q k e F' V L') (hF:∀ p∈F',iM F p.1=some p.2) (hL:L'.Sublist L):AtQ P B N Q k e F V L:=fun a w ha hs=>h a w (ha.less hF) (hs.drop hL)
theorem floors_kids {V:aD}:∀ {fs:List LF},(∀ f∈fs,aT V f.x)→∃ gs:List (LF×List LK),gs.map Prod.fst=fs∧∀ g∈gs,dV V g.1.x.K g.1.x.nk g.2∧g.1.x.ks=g.2.map kz
  | [],_=>⟨[],rfl,by simp⟩
  | f :: fs,h=>by
    obtain⟨gs,h1,h2⟩:=floors_kids (fs:=fs) fun g hg=>h g (by simp [hg])
    obtain⟨_,_,_,_,es,h3,h4⟩:=(h f (by simp)).inv
    refine⟨(f,es) :: gs,by rw [List.map_cons,h1],fun g hg=>?_⟩
    rcases List.mem_cons.1 hg with rfl|hg
    · exact⟨h3,h4⟩
    · exact h2 g hg
theorem look_kz:∀ (es:List LK) (nm:ByteArray),fH (es.map kz) nm=(es.find? fun e=>decide (e.nm=nm)).map (fun e=>e.x.n)
  | [],nm=>rfl
  | e :: es,nm=>by
    rw [List.map_cons,fH,List.find?_cons]
    by_cases h:e.nm=nm
    · rw [if_pos (show (kz e).1=nm from h),decide_eq_true h];rfl
    · rw [if_neg (show ¬(kz e).1=nm from h),decide_eq_false h,look_kz es nm]
theorem kidF_fz {nm:ByteArray} {g:LF×List LK} (h:g.1.x.ks=g.2.map kz):(mB nm g).map fz=lX nm (fz g.1):=by
  unfold mB lX
  show Option.map fz _=if g.1.x.h.kind=2 then (fH g.1.x.ks nm).map (fun x=>(x,g.1.lay)) else none
  by_cases hk:g.1.x.h.kind=2
  · rw [if_pos hk,if_pos hk,h,look_kz,Option.map_map,Option.map_map];rfl
  · rw [if_neg hk,if_neg hk];rfl
theorem kids_fz {nm:ByteArray}:∀ {gs:List (LF×List LK)},(∀ g∈gs,g.1.x.ks=g.2.map kz)→(gs.filterMap (mB nm)).map fz=((gs.map Prod.fst).map fz).filterMap (lX nm)
  | [],_=>rfl
  | g :: gs,h=>by
    have h1:=kidF_fz (nm:=nm) (h g (by simp))
    have h2:=kids_fz (nm:=nm) (gs:=gs) fun k hk=>h k (by simp [hk])
    rw [List.filterMap_cons,List.map_cons,List.map_cons,List.filterMap_cons]
    cases h3:mB nm g with
    | none=>rw [h3] at h1;rw [←h1];exact h2
    | some f=>rw [h3] at h1;rw [←h1,List.map_cons,h2];rfl
theorem kidF_node {V:aD} {nm:ByteArray} {g:LF×List LK} {f:LF} (h:mB nm g=some f) (hk:dV V g.1.x.K g.1.x.nk g.2):aT V f.x:=by
  unfold mB at h
  split at h
  · cases h2:g.2.find? (fun e=>decide (e.nm=nm)) with
    | none=>rw [h2] at h;cases h
    | some e=>rw [h2] at h;cases h;exact(hk.2 e (List.mem_of_find?_eq_some h2)).2
  · cases h
attribute [local irreducible] AtQ GoC GoL GoW QO QP Fn RV bL aG VLe bR bK
theorem yC (V:aD) (A:Option Addr) (n c:Nat) (fs:List LF) (h:dB V A n fs) (hn:n≤1000) (nm:ByteArray):Fn Tryz.prog 234 [.slice A n c,.string nm] V (pH (dK (fs.map fz) nm)):=by
  have hl:=h.1.1
  obtain⟨gs,hgs,hkg⟩:=floors_kids h.2
  have hfz:=kids_fz (nm:=nm) fun g hg=>(hkg g hg).2
  rw [hgs] at hfz
  have hxl:(gs.filterMap (mB nm)).length≤1000:=by
    have:=List.length_filterMap_le (mB nm) gs
    have e:gs.length=fs.length:=by rw [←hgs,List.length_map]
    omega
  have hxN:∀ f∈gs.filterMap (mB nm),aT V f.x:=fun f hf=>by
    obtain⟨g,hg,hgf⟩:=List.mem_filterMap.1 hf
    exact kidF_node hgf (hkg g hg).1
  subst hgs
  refine fn_enterM Tryz.func234 rfl Tryz.ntmps234 rfl ?_
  intro w0
  repeat' (first|(refine aE ?_;first|(refine aC ?_;(refine aS rfl ⟨Tryz.call262⟩ rfl rfl (Kids_mc _ A n c nm) ?_;rintro v V2 hV2 ⟨g1,g2,rfl,hg1,hg2⟩))|(refine al9 ?_;intro γ)|refine pu9 ?_)|refine bY ?_|fail)
  have hseq:=kids_seq V2 g1 g2 A n c nm gs hg1 hg2 (h.le hV2) fun g hg=>(hkg g hg).1.le hV2
  generalize gs.filterMap (mB nm)=xs at *
  refine gc_collect flC flV xs (E:=306) (sz:=9) (lb:=[_,_]) (F6:=fun γ6=>[(6,.pointer (some ⟨γ6,0,none⟩)),(5,.pointer (some ⟨γ,0,none⟩))]) rfl (Tryz.call270) rfl hseq ?_ ?_ ?_ ?_ ?_
  · intro r o ho ev
    simp only [List.mem_cons,List.not_mem_nil,or_false] at ho
    rcases ho with rfl|rfl<;>rfl
  · intro r o ho ev
    simp only [List.mem_cons,List.not_mem_nil,or_false] at ho
    rcases ho with rfl|rfl|rfl|rfl|rfl<;>rfl
  · intro x V' L' B' Q' hK
    repeat' (first|(refine aE ?_;first|refine st9 ?_|(refine al9 ?_;intro γ))|refine gx9 ?_|fail)
    exact at_weak (hK _) bH (List.Sublist.refl _)
  · intro x V' B' Q' γ6 A1 n1 c1 us LA hr hn1 hK
    have ho1:=xR x
    repeat' (first|(refine aE ?_;first|(refine aC ?_;(refine aQ rfl und_272 inf_306 rfl rfl rfl hr aV (cY bA rfl) bJ (by omega) rfl rfl ?_;intro A2 c2 L2 hr2))|(refine cF ?_;(refine aN rfl und_272 siz_306 zec_306 rfl rfl rfl rfl rfl rfl rfl ?_;intro γ))|refine st9 ?_|refine pu9 ?_)|refine gx9 ?_|fail)
    exact at_weak (hK A2 c2 _ [] hr2) sub_nil (List.Sublist.cons _ (List.Sublist.refl _))
  · intro D V' A1 n1 c1 LA a W hD hV' hr hxn ha hs hD2
    have hcap:=hr.cap
    obtain⟨V3,hV3,hc3,hs3⟩:=hs.shut hr aV (by simp)
    have hF:dB V3 A1 n1 xs:=dB.of hc3 hxn (by unfold maxLen;omega) fun f hf=>(hxN f hf).le (hV2.trans (hV'.trans hV3))
    refine tail_call (f:=254) Tryz.results234 ha hs3 hD2 hD (by simp) ⟨Tryz.call254⟩ rfl rfl rfl (bC one_272 rfl bA (by exact rfl)) (Shown_c V3 A1 n1 c1 xs hF (by omega)) fun v V'' _ hh=>?_
    unfold dK
    rw [←hfz];exact hh
end
section
def OverR (p:Nat) (r:Nat×Int) (v:Value) (Bs:List Box):Prop:=∃ m:Nat,v=.tuple #[]∧Bs=[⟨p,206,[.int .i64 (m:Int),.int .i64 r.2]⟩]∧(r.2=0→m=r.1)
theorem OverR.of {p m:Nat} {f:Int} {r:Nat×Int} (h1:r.2=f) (h:f=0→m=r.1):OverR p r (.tuple #[]) [⟨p,206,[.int .i64 (m:Int),.int .i64 f]⟩]:=⟨m,rfl,by rw [h1],by rw [h1];exact h⟩
theorem over_next {c:Nat×Int} {r:Nat×Int} {m2:Nat} {q:Nat×Int} (h3:r.2=0→m2=r.1) (h1:¬r.2=0→c=r) (h2:r.2=0→c=q):(r.2=0∧c=q)∨(¬r.2=0∧c.2=r.2):=by
  by_cases h:r.2=0
  · exact .inl ⟨h,h2 h⟩
  · exact .inr ⟨h,by rw [h1 h]⟩
attribute [local irreducible] AtQ GoC GoL GoW QO QP Fn RV bL aG VLe bR bK
theorem over_c (V:aD) (x:LN) (hx:aT V x) (upper:Bool) (p:Nat):∀ (V1:aD),VLe V V1→∀ (deep so:Nat) (f0:Int),deep≤7→so≤60→FnB Tryz.prog 133 [.pointer (some ⟨p,0,none⟩),lnV x,.bool upper,.int .i64 (deep:Int)] V1 [⟨p,206,[.int .i64 (so:Int),.int .i64 f0]⟩] fun v _ Bs=>OverR p (bU upper deep so x.n) v Bs:=by
  refine aT.ind (C:=fun x=>∀ (V1:aD),VLe V V1→∀ (deep so:Nat) (f0:Int),deep≤7→so≤60→FnB Tryz.prog 133 [.pointer (some ⟨p,0,none⟩),lnV x,.bool upper,.int .i64 (deep:Int)] V1 [⟨p,206,[.int .i64 (so:Int),.int .i64 f0]⟩] fun v _ Bs=>OverR p (bU upper deep so x.n) v Bs) ?_ hx
  intro x es ha hca hd hck hk hks ih V1 hV1 deep so f0 hdeep hso
  have hl:=hk.len
  have hm:=hk.max
  have hz:x.ks.length=x.nk:=by rw [hks,List.length_map,hl]
  have hone:=nodeFault_c V1 x ((aT.of ha hca hd hck hk hks).le hV1) upper (decide (deep=0))
  have hob:=oneF_bd x.h (decide (0<x.nk)) upper (decide (deep=0))
  have hd0:decide ((deep:Int)=0)=decide (deep=0):=decide_eq_decide.2 (by omega)
  rw [←hd0] at hone
  (refine bD Tryz.func133 rfl Tryz.ntmps133 rfl ?_;intro w0)
  repeat' (first|(refine aE ?_;first|(refine aC ?_;refine aP rfl (aK ⟨Tryz.call220⟩ rfl (hone)) ?_)|refine st9 ?_|(refine al9 ?_;intro γ)|refine pu9 ?_)|refine dG ?_|(refine aJ rfl rfl rfl ?_ ?_<;>intro hq<;>try exact no9)|(refine aA rfl ?_ ?_<;>intro hq<;>try exact no9))
  all_goals first
    | ((first|refine kZ Tryz.results133  (List.Sublist.cons _ (List.Sublist.refl _)) ?_|refine lN Tryz.results133 (List.Sublist.cons _ (List.Sublist.refl _)) ?_);exact OverR.of (by rw [sU (by omega)]) (fun h=>absurd h (by decide)))
    | skip
  rw [hd0]
  have hinit:(iO x.h (decide (0<x.nk)) upper (decide (deep=0))=0∧bU upper deep so x.n=dD upper deep (so+1) (prevK x.ks 0) (x.ks.drop 0))∨(¬iO x.h (decide (0<x.nk)) upper (decide (deep=0))=0∧(bU upper deep so x.n).2=iO x.h (decide (0<x.nk)) upper (decide (deep=0))):=by
    by_cases h:iO x.h (decide (0<x.nk)) upper (decide (deep=0))=0
    · exact .inl ⟨h,mT (n:=x.n) (by omega) (by rw [←hz] at h;exact h)⟩
    · refine .inr ⟨h,?_⟩
      rw [vK (n:=x.n) (by omega) (by rw [←hz] at h;exact h)]
      rw [←hz];rfl
  refine bN (fun F V' L' m=>∃ (k s:Nat) (S f:Int),VLe V1 V'∧[⟨γ,70,lnC x⟩,⟨p,206,[.int .i64 S,.int .i64 f]⟩]=L'∧k≤x.nk∧m=x.nk - k∧(f=0→s≤60)∧S=s∧((f=0∧bU upper deep so x.n=dD upper deep s (prevK x.ks k) (x.ks.drop k))∨(¬f=0∧(bU upper deep so x.n).2=f))∧F=[(0,.pointer (some ⟨p,0,none⟩)),(2,.bool upper),(3,.int .i64 (deep:Int)),(5,.pointer (some ⟨γ,0,none⟩)),(8,.int .i64 k)]) (m:=x.nk) ⟨0,so+1,_,_,VLe.refl _,rfl,Nat.zero_le _,by omega,fun _=>by omega,rfl,hinit,rfl⟩ bH rfl (List.Sublist.refl _) ?_
  rintro F V' L' m ⟨k,s,S,f,hV',rfl,hkn,rfl,hs60,rfl,hcnt,rfl⟩
  by_cases hlt:k<x.nk∧f=0
  · obtain⟨hlt,hf0⟩:=hlt
    subst hf0
    have hs60:=hs60 rfl
    have hcnt:bU upper deep so x.n=dD upper deep s (prevK x.ks k) (x.ks.drop k):=by
      rcases hcnt with h|h
      · exact h.2
      · exact absurd rfl h.1
    obtain⟨b1,o1,e,hK1,he,hem,hc,c0,c1,hms,hne⟩  :=(hk.le (hV1.trans hV')).at_ hlt
    have hke:=pA hks he
    rw [xV hke] at hcnt
    have hcall:=ih e hem V' (hV1.trans hV') (deep+1) s 0 (by omega) hs60
    have hcb:=iT upper (deep+1) s e.x.n hs60
    have hN:=RName_c V' e.nm hms
    rw [Int.natCast_add,Int.natCast_one] at hcall
    by_cases h0:k=0
    · subst h0
      replace hcnt:bU upper deep so x.n=dD upper deep s none ((e.nm,e.x.n) :: x.ks.drop (0+1)):=hcnt
      repeat' (first|(refine aE ?_;first|(refine aC ?_;(first|refine aP rfl (aK ⟨Tryz.call221⟩ rfl (hN)) ?_|(refine aL rfl ⟨Tryz.call133⟩ rfl aV rfl (hcall) ?_;rintro v V2 B2 hV2 ⟨m2,rfl,rfl,hm2⟩)))|refine st9 ?_|refine pu9 ?_)|refine dG ?_|(refine aJ rfl rfl rfl ?_ ?_<;>intro hq<;>try exact no9)|(refine bM rfl ?_ ?_<;>intro hq)|refine bQ (id:=12) mixed (by kernel_rfl) ?_)
      all_goals first
        | (refine aX _ (x.nk - (0+1)) ⟨0+1,s,_,4,vl9,rfl,by omega,rfl,fun h=>absurd h (by decide),rfl,.inr ⟨by decide,by rw [hcnt,mU (not_t hq)]⟩,rfl⟩ (by omega) bH (List.Sublist.refl _))
        | (refine aX _ (x.nk - (0+1)) ⟨0+1,m2,_,_,vl9,rfl,by omega,rfl,fun h=>by rw [hm2 h];exact hcb.1,rfl,over_next hm2 (fun h=>by rw [hcnt,oC (uV (by assumption)) (fun y hy=>by cases hy) h]) (fun h=>?_),rfl⟩ (by omega) bH (List.Sublist.refl _)
           rw [hcnt,kN (uV (by assumption)) (fun y hy=>by cases hy) h,rN,hke,hm2 h];rfl)
    · obtain⟨y,hy,hcy⟩:=(hK1▸(hk.le (hV1.trans hV'))).prev hlt h0
      rw [prevK_pos h0,pA hks hy] at hcnt
      replace hcnt:bU upper deep so x.n=dD upper deep s (some y.nm) ((e.nm,e.x.n) :: x.ks.drop (k+1)):=hcnt
      repeat' (first|(refine aE ?_;first|(refine cN ?_;refine aO (q_sleq rfl rfl) ?_)|(refine aC ?_;(first|refine aP rfl (aK ⟨Tryz.call221⟩ rfl (hN)) ?_|(refine aL rfl ⟨Tryz.call133⟩ rfl aV rfl (hcall) ?_;rintro v V2 B2 hV2 ⟨m2,rfl,rfl,hm2⟩)))|refine st9 ?_|refine pu9 ?_)|refine dG ?_|(refine aJ rfl rfl rfl ?_ ?_<;>intro hq<;>try exact no9)|(refine aA rfl ?_ ?_<;>intro hq<;>try exact no9)|(refine bM rfl ?_ ?_<;>intro hq)|refine bQ (id:=12) mixed (by kernel_rfl) ?_)
      all_goals first
        | (refine aX _ (x.nk - (k+1)) ⟨k+1,s,_,4,vl9,rfl,by omega,rfl,fun h=>absurd h (by decide),rfl,.inr ⟨by decide,by rw [hcnt,mU (not_t hq)]⟩,rfl⟩ (by omega) bH (List.Sublist.refl _))
        | (refine aX _ (x.nk - (k+1)) ⟨k+1,s,_,3,vl9,rfl,by omega,rfl,fun h=>absurd h (by decide),rfl,.inr ⟨by decide,by rw [hcnt,sQ (uV (by assumption)) hq]⟩,rfl⟩ (by omega) bH (List.Sublist.refl _))
        | (refine aX _ (x.nk - (k+1)) ⟨k+1,m2,_,_,vl9,rfl,by omega,rfl,fun h=>by rw [hm2 h];exact hcb.1,rfl,over_next hm2 (fun h=>by rw [hcnt,oC (uV (by assumption)) (fun z hz=>by cases hz;exact Classical.byContradiction (by assumption)) h]) (fun h=>?_),rfl⟩ (by omega) bH (List.Sublist.refl _)
           rw [hcnt,kN (uV (by assumption)) (fun z hz=>by cases hz;exact Classical.byContradiction (by assumption)) h,rN,hke,hm2 h];rfl)
  · repeat' (first|(refine aE ?_;refine pu9 ?_)|refine iX ?_|(refine aJ rfl rfl rfl ?_ ?_<;>intro hq<;>try exact no9)|(refine aA rfl ?_ ?_<;>intro hq<;>try exact no9))
    all_goals
      (first|refine kZ Tryz.results133  (List.Sublist.cons _ (List.Sublist.refl _)) ?_|refine lN Tryz.results133 (List.Sublist.cons _ (List.Sublist.refl _)) ?_)
      rcases hcnt with ⟨h1,h2⟩|⟨h1,h2⟩
      · rw [List.drop_eq_nil_of_le (by omega),rW] at h2
        exact OverR.of (by rw [h2,h1]) (fun _=>by rw [h2])
      · exact OverR.of h2 (fun h=>absurd h h1)
theorem tI (V:aD) (x:LN) (hx:aT V x) (upper:Bool):Fn Tryz.prog 60 [lnV x,.bool upper] V fun v _=>v=.int .i64 (cP upper x.n):=by
  have hc:=fun p=>over_c V x hx upper p V (VLe.refl _) 0 0 0 (by omega) (by omega)
  (refine aI Tryz.func60 rfl Tryz.ntmps60 rfl ?_;intro w0)
  repeat' (first|(refine aE ?_;first|(refine aC ?_;(refine aL rfl ⟨Tryz.call133⟩ rfl aV rfl (hc _) ?_;rintro v V2 B2 hV2 ⟨m2,rfl,rfl,hm2⟩))|(refine al9 ?_;intro γ)|refine pu9 ?_)|refine cC ?_|(refine aA rfl ?_ ?_<;>intro hq<;>try exact no9))
  all_goals (refine aM Tryz.results60 (aB rfl) ?_)
  · unfold cP;rw [if_pos (show ¬x.n.h.kind=2 from hq)]
  · unfold cP;rw [if_neg (show ¬¬x.n.h.kind=2 from hq)]
end
section
def dirH:Hd:=⟨2,0,0,0,false,[],⟨#[]⟩⟩
def dirL:LN:=⟨dirH,none,0,0,none,0,0,[]⟩
theorem aT.dir {V:aD}:aT V dirL:=aT.of (es:=[]) eC.nil (Nat.le_refl _) (Nat.zero_le _) (Nat.le_refl _) ⟨eP.nil,by simp⟩ rfl
theorem Own_v (V:aD) (x:LN) (hx:aT V x) (hsm:cB eA x.n):Fn Tryz.prog 54 [lnV x] V fun v V2=>∃ y:LN,v=lnV y∧y.n=x.n∧aT V2 y:=fun w hV=>by
  have hs:St ⟨V,w,fW []⟩ V [] w:=⟨Exc.refl _ w,fun p x hp=>⟨hV p x hp,by simp⟩,fun p x hp _=>hp,VLe.refl V,by simp,by simp⟩
  refine(Own_c V x hx V (VLe.refl _) hsm w hs).mono fun e w' ⟨v,V',Bs',he,hst,y,es,hv,hyn,hO⟩=>?_
  obtain⟨V'',h1,h2,h3⟩:=hst.shut hO.row repl_all (by simp)
  exact⟨v,he,h3.ext.ext,V'',h3.v0,fun p x hp=>(h3.view p x hp).1,h3.old,y,hv,hyn,hO.node h1 h2 (hO.bound hyn hsm)⟩
attribute [local irreducible] AtQ GoC GoL GoW QO QP Fn RV bL aG VLe bR bK
end
section
def dR (V:aD) (A:Option Addr) (n:Nat) (xs:List LN):Prop:=eP V 8 lnC A n xs∧∀ x∈xs,aT V x
theorem dR.le {V V':aD} (hv:VLe V V') {A:Option Addr} {n:Nat} {xs:List LN} (h:dR V A n xs):dR V' A n xs:=⟨h.1.le hv,fun x hx=>(h.2 x hx).le hv⟩
theorem dR.at_ {V:aD} {A:Option Addr} {n:Nat} {xs:List LN} (h:dR V A n xs) {k:Nat} (hk:k<n):∃ b off x,A=some ⟨b,off,none⟩∧xs[k]?=some x∧aG V b (off+k * 8) (lnC x)∧aT V x:=by
  obtain⟨b,off,r,ha,hx,hc⟩:=h.1.at_ hk
  exact⟨b,off,r,ha,hx,hc,h.2 r (List.mem_of_getElem? hx)⟩
def oY:Int→List LN→List LF
  | _,[]=>[]
  | i,x :: l=>⟨x,i⟩ :: oY (i+1) l
theorem layF_snoc:∀ (l:List LN) (i:Int) (x:LN),oY i (l ++ [x])=oY i l ++ [⟨x,i+(l.length:Int)⟩]
  | [],i,x=>by simp [oY]
  | y :: l,i,x=>by
    rw [List.cons_append,oY,layF_snoc l,oY,List.cons_append,List.length_cons]
    congr 4;omega
theorem layF_len:∀ (l:List LN) (i:Int),(oY i l).length=l.length
  | [],_=>rfl
  | x :: l,i=>by rw [oY,List.length_cons,layF_len l,List.length_cons]
theorem layF_fz:∀ (l:List LN) (i:Int),(oY i l).map fz=jS i (l.map LN.n)
  | [],_=>rfl
  | x :: l,i=>by rw [oY,List.map_cons,List.map_cons,jS,layF_fz l];rfl
theorem layF_mem:∀ {l:List LN} {i:Int} {f:LF},f∈oY i l→f.x∈l
  | [],_,_,h=>by cases h
  | x :: l,i,f,h=>by
    rw [oY] at h
    rcases List.mem_cons.1 h with rfl|h
    · simp
    · exact List.mem_cons_of_mem _ (layF_mem h)
theorem dirsP_sub:∀ {l:List PF} {f:PF},f∈dI l→f∈l
  | [],_,h=>h
  | g :: l,f,h=>by
    rw [dI] at h
    split at h
    · split at h
      · rw [List.mem_singleton.1 h];simp
      · rcases List.mem_cons.1 h with rfl|h
        · simp
        · exact List.mem_cons_of_mem _ (dirsP_sub h)
    · cases h
theorem iJ {l:List PF} {f:PF} (h:f∈dF l):f∈l:=by
  cases l with
  | nil=>exact h
  | cons g l =>
    rw [dF] at h
    split at h
    · rw [List.mem_singleton.1 h];simp
    · exact dirsP_sub h
theorem stepP_all {p:Hd→PKs→Prop} {l:List PF} {s:ByteArray} (h:∀ f∈l,cB p f.1):∀ f∈dK l s,cB p f.1:=fun f hf=>by
  obtain⟨g,hg,hgf⟩:=List.mem_filterMap.1 (iJ hf)
  unfold lX at hgf
  split at hgf
  · cases h2:fH g.1.ks s with
    | none=>rw [h2] at hgf;cases hgf
    | some x=>rw [h2] at hgf;cases hgf;exact(h g hg).kid (jY h2)
  · cases hgf
theorem sI:∀ {l:List PN} {i:Int} {f:PF},f∈jS i l→f.1∈l
  | [],_,_,h=>by cases h
  | x :: l,i,f,h=>by
    rw [jS] at h
    rcases List.mem_cons.1 h with rfl|h
    · simp
    · exact List.mem_cons_of_mem _ (sI h)
theorem iE {p:Hd→PKs→Prop} {l:List PN} (h:∀ x∈l,cB p x) (ss:List ByteArray):∀ f∈cR l ss,cB p f.1:=by
  have key:∀ (ss:List ByteArray) (a:List PF),(∀ f∈a,cB p f.1)→∀ f∈ss.foldl dK a,cB p f.1:=fun ss=>by
    induction ss with
    | nil=>intro a ha;exact ha
    | cons s ss ih=>intro a ha;exact ih _ (stepP_all ha)
  exact key ss _ fun f hf=>h _ (sI (iJ hf))
theorem walk_snoc {l:List PN} {ss:List ByteArray} {k:Nat} {s:ByteArray} (h:ss[k]?=some s):cR l (ss.take (k+1))=dK (cR l (ss.take k)) s:=by
  unfold cR;rw [List.take_add_one,h,List.foldl_append];rfl
theorem tG {V:aD} {b o:Nat} {f:LF} (h:aG V b o (flC f)):aG V b (o+0) (lnC f.x)∧V ⟨b,o+8,none⟩=some (.int .i64 f.lay):=by
  refine⟨fun j v hj=>h j v ?_,h 8 _ rfl⟩
  have hj2:(lnC f.x)[j]?=some v:=hj
  have hlt:j<8:=(List.getElem?_eq_some_iff.1 hj2).1
  have e:flC f=lnC f.x ++ [.int .i64 f.lay]:=rfl
  rw [e,List.getElem?_append_left (by exact hlt)];exact hj2
def LookR (r:List PF) (v:Value) (V':aD):Prop:=(r=[]∧v=.tuple #[lnV lnZ,.int .i64 0,.bool false])∨(∃ f l y,r=f :: l∧v=.tuple #[lnV y,.int .i64 f.2,.bool true]∧aT V' y∧y.n=f.1)
attribute [local irreducible] AtQ GoC GoL GoW QO QP Fn RV bL aG VLe bR bK
theorem Roots_c (V:aD) (A:Option Addr) (n c:Nat) (xs:List LN) (h:dR V A n xs) (hn:n≤1000):Fn Tryz.prog 203 [.slice A n c] V (pH (lT (xs.map LN.n))):=by
  have hl:=h.1.1
  (refine aI Tryz.func203 rfl Tryz.ntmps203 rfl ?_;intro w0)
  repeat' (first|(refine aE ?_;refine pu9 ?_)|refine bY ?_|fail)
  refine bN (fun F V' L' m=>∃ (k:Nat) (A':Option Addr) (c':Nat) (LA:List Box),V=V'∧LA=L'∧k≤n∧cO A' k c' 306 9 ((oY 0 (xs.take k)).flatMap flC) LA∧m=n - k∧F=[(3,.slice A' k c'),(6,.slice A n c),(7,.int .i64 n),(8,.int .i64 (k:Int))]) (m:=n) ⟨0,none,0,[],rfl,rfl,Nat.zero_le _,cO.nil,by omega,rfl⟩ bH rfl sl9 ?_
  rintro F V' L' m ⟨k,A',c',LA,rfl,rfl,hkn,hr,rfl,rfl⟩
  by_cases hlt:k<n
  · obtain⟨b,off,x,rfl,hx,hc,hN⟩:=h.at_ hlt
    have ho1:=xR ⟨x,(k:Int)⟩
    have htk:(oY 0 (xs.take (k+1))).flatMap flC=(oY 0 (xs.take k)).flatMap flC ++ flC ⟨x,(k:Int)⟩:=by
      rw [List.take_add_one,hx]
      show (oY 0 (xs.take k ++ [x])).flatMap flC=_
      rw [layF_snoc,List.flatMap_append,List.length_take,Nat.min_eq_left (by omega),Int.zero_add];simp
    repeat' (first|(refine aE ?_;first|(refine aC ?_;(refine aQ rfl und_272 inf_306 rfl rfl rfl hr aV (cY bA rfl) bJ (by omega) rfl rfl ?_;intro A2 c2 L2 hr2))|(refine cF ?_;(refine aN rfl und_272 siz_306 zec_306 rfl rfl rfl rfl rfl rfl rfl ?_;intro γ))|refine st9 ?_|(refine al9 ?_;intro γ)|refine pu9 ?_)|refine bY ?_|(refine aA rfl ?_ ?_<;>intro hq<;>try exact no9))
    refine aX _ (n - (k+1)) ⟨k+1,A2,c2,L2,rfl,rfl,by omega,by rw [htk];exact hr2,rfl,rfl⟩ (by omega) bH sl9
  · obtain rfl:k=n:=by omega
    rw [List.take_of_length_le (by omega)] at hr
    refine gS hr aV ?_
    intro V2 hV2 hc2
    have hF:dB V2 A' k (oY 0 xs):=dB.of hc2 (by rw [layF_len,hl]) (by unfold maxLen;omega) fun f hf=>(h.2 _ (layF_mem hf)).le hV2
    have hS:=Shown_c V2 A' k c' _ hF hn
    rw [layF_fz] at hS
    repeat' (first|(refine aE ?_;first|(refine aC ?_;(refine aS rfl ⟨Tryz.call254⟩ rfl rfl (hS) ?_;rintro v V3 hV3 ⟨A3,n3,c3,gs,rfl,hG,hc3,hgz⟩))|refine pu9 ?_)|refine dT ?_|(refine aA rfl ?_ ?_<;>intro hq<;>try exact no9))
    all_goals
      (refine aM Tryz.results203 (aB rfl) ?_)
      exact⟨_,_,_,gs,rfl,hG,hc3,hgz⟩
theorem Walk_c (V:aD) (A:Option Addr) (n c:Nat) (xs:List LN) (h:dR V A n xs) (hn:n≤1000) (B:Option Addr) (m e:Nat) (ss:List ByteArray) (hs:cL V B m ss):Fn Tryz.prog 227 [.slice A n c,.slice B m e] V (pH (cR (xs.map LN.n) ss)):=by
  have hl:=h.1.1
  have sl:=hs.1.1
  have sm:=hs.1.max
  (refine aI Tryz.func227 rfl Tryz.ntmps227 rfl ?_;intro w0)
  repeat' (first|(refine aE ?_;first|(refine aC ?_;(refine aS rfl ⟨Tryz.call203⟩ rfl rfl (Roots_c _ A n c xs (h.le vl9) hn) ?_;rintro v V1 hV1 ⟨A1,n1,c1,fs,rfl,hF1,hc1,hz1⟩))|refine pu9 ?_)|refine bY ?_|fail)
  refine bN (fun F V' L' m'=>∃ (k:Nat) (A':Option Addr) (n' c':Nat) (gs:List LF),VLe V V'∧[]=L'∧k≤m∧dB V' A' n' gs∧n'≤c'∧gs.map fz=cR (xs.map LN.n) (ss.take k)∧m'=m - k∧F=[(5,.slice A' n' c'),(10,.slice B m e),(11,.int .i64 m),(12,.int .i64 (k:Int))]) (m:=m) ⟨0,A1,n1,c1,fs,vl9,rfl,Nat.zero_le _,hF1,hc1,hz1,by omega,rfl⟩ bH rfl sl9 ?_
  rintro F V' L' m' ⟨k,A',n',c',gs,hV',rfl,hkm,hG,hnc,hgz,rfl,rfl⟩
  have hgl:n'≤1000:=by
    have h1:=mN (xs.map LN.n) (ss.take k)
    rw [←hgz,List.length_map,List.length_map,hG.1.1,hl] at h1;omega
  by_cases hlt:k<m
  · obtain⟨b,off,s,hB,hx,hc,_⟩:=(hs.le hV').at_ hlt
    have hS:=yC V' A' n' c' gs hG hgl s
    rw [hgz,←walk_snoc hx] at hS
    repeat' (first|(refine aE ?_;first|(refine aC ?_;(refine aS rfl ⟨Tryz.call234⟩ rfl rfl (hS) ?_;rintro v V2 hV2 ⟨A2,n2,c2,fs2,rfl,hF2,hc2,hz2⟩))|(refine cG ?_;refine aO (bF und_47 siz_9 rfl hB rfl hlt) ?_)|refine pu9 ?_)|refine bY ?_|(refine aA rfl ?_ ?_<;>intro hq<;>try exact no9))
    refine aX _ (m - (k+1)) ⟨k+1,A2,n2,c2,fs2,vl9,rfl,by omega,hF2,hc2,hz2,rfl,rfl⟩ (by omega) bH sl9
  · obtain rfl:k=m:=by omega
    rw [List.take_of_length_le (by omega)] at hgz
    repeat' (first|(refine aE ?_;refine pu9 ?_)|refine dT ?_|(refine aA rfl ?_ ?_<;>intro hq<;>try exact no9))
    all_goals
      (refine aM Tryz.results227 (aB rfl) ?_)
      exact⟨_,_,_,gs,rfl,hG,hnc,hgz⟩
theorem LookM_c (V:aD) (A:Option Addr) (n c:Nat) (xs:List LN) (h:dR V A n xs) (hn:n≤1000) (hsm:∀ x∈xs,cB eA x.n) (B:Option Addr) (m e:Nat) (ss:List ByteArray) (hs:cL V B m ss):Fn Tryz.prog 232 [.slice A n c,.slice B m e] V (LookR (cR (xs.map LN.n) ss)):=by
  have hall:=iE (p:=eA) (l:=xs.map LN.n) (fun x hx=>by obtain⟨y,hy,rfl⟩:=List.mem_map.1 hx;exact hsm y hy) ss
  have hW:=Walk_c V A n c xs h hn B m e ss hs
  generalize cR (xs.map LN.n) ss=r at *
  (refine aI Tryz.func232 rfl Tryz.ntmps232 rfl ?_;intro w0)
  repeat' (first|(refine aE ?_;first|(refine aC ?_;(refine aS rfl ⟨Tryz.call227⟩ rfl rfl (hW) ?_;rintro v V1 hV1 ⟨A1,n1,c1,fs,rfl,hF1,hc1,rfl⟩))|refine st9 ?_|(refine al9 ?_;intro γ)|refine pu9 ?_)|refine cC ?_|(refine aA rfl ?_ ?_<;>intro hq<;>try exact no9))
  · (refine fV Tryz.results232 (aW agg_70 rfl bA (by exact rfl)) (aB rfl) (aB rfl) ?_)
    have hfl:=hF1.1.1
    obtain rfl:fs=[]:=List.eq_nil_of_length_eq_zero (by omega)
    exact .inl ⟨rfl,rfl⟩
  · have hfl:=hF1.1.1
    obtain⟨f,t,rfl⟩:∃ f t,fs=f :: t:=by
      cases fs with
      | nil=>simp at hfl;omega
      | cons f t=>exact⟨f,t,rfl⟩
    obtain⟨b,off,f',rfl,hf',hcf,hNf⟩:=hF1.at_ (k:=0) (by omega)
    obtain rfl:f=f':=by simpa using hf'
    have hO:=Own_v V1 f.x hNf (hall (fz f) (by simp))
    obtain⟨hc8,hc9⟩:=tG hcf
    refine bX (id:=4) _ mixed (List.nil_sublist _) ?_;refine gt9 0 ?_;refine fL 1 rfl rfl (eZ (k:=0) und_272 siz_306 rfl rfl (by omega)) ?_;refine gt9 2 ?_;refine gt9 3 ?_;refine gt9 5 ?_;refine fL 6 rfl rfl (eZ (k:=0) und_272 siz_306 rfl rfl (by omega)) ?_;refine gt9 7 ?_;refine gt9 8 ?_;refine aZ (i:=4) rfl ?_;(refine aS rfl ⟨Tryz.call54⟩ rfl rfl (hO) ?_;rintro v V2 hV2 ⟨y,rfl,hyn,hyN⟩);refine aZ (i:=9) rfl ?_;refine aR rfl siz_70 rfl rfl rfl rfl bJ dP rfl ?_;refine gt9 10 ?_;refine gt9 11 ?_;refine aY (by kernel_rfl) vl9 vl9 bP ?_
    repeat' (first|refine gx9 ?_|fail)
    (refine fV Tryz.results232 (aW agg_70 rfl bA (by exact rfl)) (aB rfl) (aB rfl) ?_)
    exact .inr ⟨fz f,t.map fz,y,rfl,rfl,hyN,hyn⟩
end
section
theorem xA {V:aD} {b o:Nat} {f:LF} (h:aG V b o (flC f)):V ⟨b,o+0+0,none⟩=some (.int .i64 f.x.h.kind)∧V ⟨b,o+0+4,none⟩=some (.bool f.x.h.opq):=⟨h 0 _ rfl,h 4 _ rfl⟩
theorem dB.take {V:aD} {A:Option Addr} {n k:Nat} {fs:List LF} (h:dB V A n fs) (hk:k≤n):dB V A k (fs.take k):=⟨h.1.take hk,fun f hf=>h.2 f (List.mem_of_mem_take hf)⟩
attribute [local irreducible] AtQ GoC GoL GoW QO QP Fn RV bL aG VLe bR bK
theorem RShown_c (V:aD) (A:Option Addr) (n c:Nat) (fs:List LF) (h:dB V A n fs) (hn:n≤1000) (hnc:n≤c):Fn Tryz.prog 265 [.slice A n c] V (pH (dF (fs.map fz))):=by
  have hl:=h.1.1
  have hlz:(fs.map fz).length=n:=by rw [List.length_map,hl]
  by_cases hfile:∃ f,fs[0]?=some f∧f.x.h.kind=1
  · obtain⟨f,hf,hk⟩:=hfile
    have hn0:0<n:=by rw [←hl];exact(List.getElem?_eq_some_iff.1 hf).1
    obtain⟨b,off,f',rfl,hf',hc,hN⟩:=h.at_ hn0
    obtain rfl:f=f':=by rw [hf] at hf';exact Option.some.inj hf'
    obtain⟨hb0,hb4⟩:=xA hc
    (refine aI Tryz.func265 rfl Tryz.ntmps265 rfl ?_;intro w0)
    repeat' (first|(refine aE ?_;first|(refine cG ?_;refine aO (eZ (k:=0) und_313 siz_316 rfl rfl hn0) ?_)|(refine eG ?_;(first|refine aO (cT (h:=1) und_313 siz_316 rfl rfl (by omega)) ?_|refine aO (cT und_313 siz_316 rfl rfl (by omega)) ?_|refine aO (eR und_313 siz_316 rfl rfl (by omega)) ?_))|refine pu9 ?_)|refine cC ?_|(refine aJ rfl rfl rfl ?_ ?_<;>intro hq<;>try exact no9)|(refine aA rfl ?_ ?_<;>intro hq<;>try exact no9))
    all_goals try exact no9
    all_goals
      (refine aM Tryz.results265 (aB rfl) ?_)
      refine⟨_,_,_,fs.take 1,rfl,h.take (by omega),by omega,?_⟩
      rw [shown_file (fz_at hf) hk,List.take_add_one,hf];rfl
  · have hsd:dF (fs.map fz)=dI (fs.map fz):=by
      cases fs with
      | nil=>rfl
      | cons f t=>exact shown_dirs (fz_at (k:=0) rfl) fun e=>hfile ⟨f,rfl,e⟩
    rcases Nat.eq_zero_or_pos n with h0|h0
    · (refine aI Tryz.func265 rfl Tryz.ntmps265 rfl ?_;intro w0)
      repeat' (first|(refine aE ?_;refine pu9 ?_)|refine dG ?_|(refine aJ rfl rfl rfl ?_ ?_<;>intro hq<;>try exact no9))
      all_goals try exact no9
      all_goals
        refine bN (fun F V' L' m=>∃ k:Nat,V=V'∧[]=L'∧k≤n∧dI (fs.map fz)=(fs.take k).map fz ++ dI ((fs.map fz).drop k)∧m=n - k∧F=[(0,.slice A n c),(3,.int .i64 (k:Int))]) (m:=n) ⟨0,rfl,rfl,Nat.zero_le _,by simp,by omega,rfl⟩ bH rfl sl9 ?_
        rintro F V' L' m ⟨k,rfl,rfl,hkn,hd,rfl,rfl⟩
        by_cases hlt:k<n
        · obtain⟨b,off,f,hA,hf,hc,hN⟩:=h.at_ hlt
          obtain⟨hb0,hb4⟩:=xA hc
          have hfz:=fz_at hf
          have htm:=pX hf
          have h9:((k:Int)+1 - 1).toNat=k:=by omega
          have hb4':V ⟨b,off+((k:Int)+1 - 1).toNat * 9+0+4,none⟩=some (.bool f.x.h.opq):=by rw [h9];exact hb4
          repeat' (first|(refine aE ?_;refine pu9 ?_)|refine cC ?_|(refine aJ rfl rfl rfl ?_ ?_<;>intro hq<;>try exact no9))
          all_goals first
            | exact no9
            | ((refine aM Tryz.results265 (aB rfl) ?_)
               exact⟨_,_,_,fs.take k,rfl,h.take hkn,by omega,by rw [hsd,hd,wA hfz hq,List.append_nil]⟩)
            | ((refine aM Tryz.results265 (aB rfl) ?_)
               exact⟨_,_,_,fs.take (k+1),rfl,h.take hlt,by omega,by rw [hsd,hd,dirs_opq hfz (by show f.x.h.kind=2;omega) hq,htm]⟩)
            | (refine aX _ (n - (k+1)) ⟨k+1,rfl,rfl,by omega,by rw [htm,hd,dirs_at hfz (by show f.x.h.kind=2;omega) hq];simp,rfl,rfl⟩ (by omega) bH sl9)
        · obtain rfl:k=n:=by omega
          repeat' (first|(refine aE ?_;first|(refine eG ?_;(first|refine aO (cT (h:=k) und_313 siz_316 rfl rfl (by omega)) ?_|refine aO (cT und_313 siz_316 rfl rfl (by omega)) ?_|refine aO (eR und_313 siz_316 rfl rfl (by omega)) ?_))|refine pu9 ?_)|refine iX ?_|(refine aJ rfl rfl rfl ?_ ?_<;>intro hq<;>try exact no9))
          all_goals
            (refine aM Tryz.results265 (aB rfl) ?_)
            exact⟨_,_,_,fs.take k,rfl,h.take hkn,by omega,by rw [hsd,hd,dirs_done (by omega),List.append_nil]⟩
    · obtain⟨b0,o0,f0,hA0,hf0,hc0,_⟩:=h.at_ h0
      have hk0:=(xA hc0).1
      have hk1:¬f0.x.h.kind=1:=fun e=>hfile ⟨f0,hf0,e⟩
      (refine aI Tryz.func265 rfl Tryz.ntmps265 rfl ?_;intro w0)
      repeat' (first|(refine aE ?_;first|(refine cG ?_;refine aO (bF (k:=0) und_313 siz_316 rfl hA0 rfl h0) ?_)|refine pu9 ?_)|refine bY ?_|(refine aJ rfl rfl rfl ?_ ?_<;>intro hq<;>try exact no9)|(refine aA rfl ?_ ?_<;>intro hq<;>try exact no9))
      all_goals try exact no9
      all_goals
        refine bN (fun F V' L' m=>∃ k:Nat,V=V'∧[]=L'∧k≤n∧dI (fs.map fz)=(fs.take k).map fz ++ dI ((fs.map fz).drop k)∧m=n - k∧F=[(0,.slice A n c),(3,.int .i64 (k:Int))]) (m:=n) ⟨0,rfl,rfl,Nat.zero_le _,by simp,by omega,rfl⟩ bH rfl sl9 ?_
        rintro F V' L' m ⟨k,rfl,rfl,hkn,hd,rfl,rfl⟩
        by_cases hlt:k<n
        · obtain⟨b,off,f,hA,hf,hc,hN⟩:=h.at_ hlt
          obtain⟨hb0,hb4⟩:=xA hc
          have hfz:=fz_at hf
          have htm:=pX hf
          have h9:((k:Int)+1 - 1).toNat=k:=by omega
          have hb4':V ⟨b,off+((k:Int)+1 - 1).toNat * 9+0+4,none⟩=some (.bool f.x.h.opq):=by rw [h9];exact hb4
          repeat' (first|(refine aE ?_;first|(refine cG ?_;refine aO (oN und_313 siz_316 rfl hA rfl (by omega)) ?_)|(refine eG ?_;(first|refine aO (cT (h:=k+1) und_313 siz_316 rfl rfl (by omega)) ?_|refine aO (cT (h:=k) und_313 siz_316 rfl rfl (by omega)) ?_))|refine pu9 ?_)|refine nG ?_|(refine aJ rfl rfl rfl ?_ ?_<;>intro hq<;>try exact no9)|(refine aA rfl ?_ ?_<;>intro hq<;>try exact no9)|(refine bM rfl ?_ ?_<;>intro hq))
          all_goals first
            | exact no9
            | ((refine aM Tryz.results265 (aB rfl) ?_)
               exact⟨_,_,_,fs.take k,rfl,h.take hkn,by omega,by rw [hsd,hd,wA hfz hq,List.append_nil]⟩)
            | ((refine aM Tryz.results265 (aB rfl) ?_)
               exact⟨_,_,_,fs.take (k+1),rfl,h.take hlt,by omega,by rw [hsd,hd,dirs_opq hfz (by show f.x.h.kind=2;omega) hq,htm]⟩)
            | (refine aX _ (n - (k+1)) ⟨k+1,rfl,rfl,by omega,by rw [htm,hd,dirs_at hfz (by show f.x.h.kind=2;omega) hq];simp,rfl,rfl⟩ (by omega) bH sl9)
        · obtain rfl:k=n:=by omega
          repeat' (first|(refine aE ?_;first|(refine eG ?_;(first|refine aO (cT (h:=k) und_313 siz_316 rfl rfl (by omega)) ?_|refine aO (cT und_313 siz_316 rfl rfl (by omega)) ?_|refine aO (eR und_313 siz_316 rfl rfl (by omega)) ?_))|refine pu9 ?_)|refine iX ?_|(refine aJ rfl rfl rfl ?_ ?_<;>intro hq<;>try exact no9))
          all_goals
            (refine aM Tryz.results265 (aB rfl) ?_)
            exact⟨_,_,_,fs.take k,rfl,h.take hkn,by omega,by rw [hsd,hd,dirs_done (by omega),List.append_nil]⟩
end
section
def sM (cut:Bool) (s:ByteArray) (f:PF):Option PF:=if cut=true∧f.2=0 then none else lX s f
def mO (l:List PN) (ss:List ByteArray) (bare:Bool):Nat→List PF
  | 0=>lT l
  | k+1=>match ss[k]? with
    | some s=>dF ((mO l ss bare k).filterMap (sM (bare && decide (k+1=ss.length)) s))
    | none=>mO l ss bare k
theorem pI {l:List PN} {ss:List ByteArray} {bare:Bool} {k:Nat} {s:ByteArray} (h:ss[k]?=some s):mO l ss bare (k+1)=dF ((mO l ss bare k).filterMap (sM (bare && decide (k+1=ss.length)) s)):=by
  rw [mO,h]
theorem stackK_len {l:List PN} {ss:List ByteArray} {bare:Bool}:∀ k,(mO l ss bare k).length≤l.length
  | 0=>by
    have:=oD (jS 0 l)
    rw [xK] at this;exact this
  | k+1=>by
    have:=stackK_len (l:=l) (ss:=ss) (bare:=bare) k
    rw [mO]
    split
    · exact Nat.le_trans (oD _) (Nat.le_trans (List.length_filterMap_le _ _) this)
    · exact this
theorem kidB_false (s:ByteArray):sM false s=lX s:=by funext f;unfold sM;rw [if_neg (by rintro ⟨h,_⟩;cases h)]
theorem sK {l:List PN} {ss:List ByteArray}:∀ k,k≤ss.length→mO l ss false k=cR l (ss.take k)
  | 0,_=>rfl
  | k+1,h=>by
    obtain⟨s,hs⟩:∃ s,ss[k]?=some s:=⟨_,List.getElem?_eq_getElem (by omega)⟩
    rw [pI hs,walk_snoc hs,sK k (by omega),Bool.false_and,kidB_false];rfl
theorem fl_kids {V:aD} {b o:Nat} {f:LF} (h:aG V b o (flC f)):V ⟨b,o+0+7,none⟩=some (.slice f.x.K f.x.nk f.x.ck):=h 7 _ rfl
theorem kidB_cut {cut:Bool} {s:ByteArray} {f:PF} (h:cut=true) (h0:f.2=0):sM cut s f=none:=if_pos ⟨h,h0⟩
theorem kidB_none {cut:Bool} {s:ByteArray} {f:PF} (h:kidR f.1 s<0):sM cut s f=none:=by
  unfold sM
  split
  · rfl
  · unfold lX
    by_cases hk:f.1.h.kind=2
    · rw [if_pos hk]
      cases hi:iB f.1.ks s
      · rw [isAt_no.1 hi];rfl
      · rw [kidR_is hk hi] at h;omega
    · rw [if_neg hk]
theorem kidB_some {cut:Bool} {s:ByteArray} {f:LF} {es:List LK} {e:LK} (hks:f.x.ks=es.map kz) (h:¬kidR f.x.n s<0) (hc:¬(cut=true∧f.lay=0)) (he:es[cJ f.x.ks s]?=some e):sM cut s (fz f)=some (e.x.n,f.lay):=by
  obtain⟨h1,h2,_⟩:=kidR_yes h
  obtain⟨a,y,b,g1,g2,g3⟩:=tS (ks:=f.x.ks) (s:=s) h2
  have hke:=pA hks he
  rw [g3] at hke
  rw [g1] at hke
  rw [List.getElem?_append_right (Nat.le_refl _),Nat.sub_self] at hke
  simp only [List.getElem?_cons_zero,Option.some.injEq,Prod.mk.injEq] at hke
  unfold sM
  rw [if_neg (show ¬(cut=true∧(fz f).2=0) from hc)]
  unfold lX
  rw [if_pos (show (fz f).1.h.kind=2 from h1)]
  show (fH f.x.ks s).map (fun x=>(x,f.lay))=_
  rw [g1,rC g2,hke.2];rfl
theorem fm_snoc {α β:Type} {p:α→Option β} {l:List α} {i:Nat} {x:α} (h:l[i]?=some x):(l.take (i+1)).filterMap p=(l.take i).filterMap p ++ (p x).toList:=by
  rw [List.take_add_one,h,List.filterMap_append]
  simp only [Option.toList_some,List.filterMap_cons,List.filterMap_nil]
  cases p x<;>rfl
attribute [local irreducible] AtQ GoC GoL GoW QO QP Fn RV bL aG VLe bR bK
theorem Stack_c (V:aD) (A:Option Addr) (n c:Nat) (xs:List LN) (h:dR V A n xs) (hn:n≤1000) (B:Option Addr) (m e:Nat) (ss:List ByteArray) (hs:cL V B m ss) (bare:Bool):Fn Tryz.prog 240 [.slice A n c,.slice B m e,.bool bare] V (pH (mO (xs.map LN.n) ss bare m)):=by
  have hl:=h.1.1
  have sl:=hs.1.1
  have sm:=hs.1.max
  (refine aI Tryz.func240 rfl Tryz.ntmps240 rfl ?_;intro w0)
  repeat' (first|(refine aE ?_;refine pu9 ?_)|refine bY ?_|fail)
  refine bN (fun F V' L' m'=>∃ (k:Nat) (A':Option Addr) (c':Nat) (LA:List Box),V=V'∧LA=L'∧k≤n∧cO A' k c' 316 9 ((oY 0 (xs.take k)).flatMap flC) LA∧m'=n - k∧F=[(0,.slice A n c),(1,.slice B m e),(2,.bool bare),(7,.slice A' k c'),(8,.int .i64 (k:Int))]) (m:=n) ⟨0,none,0,[],rfl,rfl,Nat.zero_le _,cO.nil,by omega,rfl⟩ bH rfl sl9 ?_
  rintro F V' L' m' ⟨k,A',c',LA,rfl,rfl,hkn,hr,rfl,rfl⟩
  by_cases hlt:k<n
  · obtain⟨b,off,x,rfl,hx,hc,hN⟩:=h.at_ hlt
    have ho1:=xR ⟨x,(k:Int)⟩
    have htk:(oY 0 (xs.take (k+1))).flatMap flC=(oY 0 (xs.take k)).flatMap flC ++ flC ⟨x,(k:Int)⟩:=by
      rw [List.take_add_one,hx]
      show (oY 0 (xs.take k ++ [x])).flatMap flC=_
      rw [layF_snoc,List.flatMap_append,List.length_take,Nat.min_eq_left (by omega),Int.zero_add];simp
    repeat' (first|(refine aE ?_;first|(refine aC ?_;(refine aQ rfl und_313 inf_316 rfl rfl rfl hr aV (cY bA rfl) bJ (by omega) rfl rfl ?_;intro A2 c2 L2 hr2))|(refine cF ?_;(refine aN rfl und_313 siz_316 zec_316 rfl rfl rfl rfl rfl rfl rfl ?_;intro γ))|refine pu9 ?_)|refine bY ?_|(refine aA rfl ?_ ?_<;>intro hq<;>try exact no9))
    refine aX _ (n - (k+1)) ⟨k+1,A2,c2,L2,rfl,rfl,by omega,by rw [htk];exact hr2,rfl,rfl⟩ (by omega) bH sl9
  · obtain rfl:k=n:=by omega
    rw [List.take_of_length_le (by omega)] at hr
    have hcap:=hr.cap
    refine gS hr aV ?_
    intro V2 hV2 hc2
    have hF:dB V2 A' k (oY 0 xs):=dB.of hc2 (by rw [layF_len,hl]) (by unfold maxLen;omega) fun f hf=>(h.2 _ (layF_mem hf)).le hV2
    have hS:=RShown_c V2 A' k c' _ hF hn hcap
    rw [layF_fz] at hS
    repeat' (first|(refine aE ?_;first|(refine aC ?_;(refine aS rfl ⟨Tryz.call265⟩ rfl rfl (hS) ?_;rintro v V3 hV3 ⟨A3,n3,c3,gs,rfl,hG,hc3,hgz⟩))|refine pu9 ?_)|refine nG ?_|(refine aA rfl ?_ ?_<;>intro hq<;>try exact no9))
    refine bN (fun F V' L' m'=>∃ (i:Nat) (A4:Option Addr) (n4 c4:Nat) (gs:List LF),VLe V3 V'∧[]=L'∧i≤m∧dB V' A4 n4 gs∧n4≤c4∧gs.map fz=mO (xs.map LN.n) ss bare i∧m'=m - i∧F=[(1,.slice B m e),(2,.bool bare),(7,.slice A4 n4 c4),(9,.int .i64 (i:Int))]) (m:=m) ⟨0,A3,n3,c3,gs,vl9,rfl,Nat.zero_le _,hG,hc3,hgz,by omega,rfl⟩ bH rfl sl9 ?_
    clear hr hS hG hgz hc3
    rintro F V' L' m' ⟨i,A4,n4,c4,gs,hV',rfl,him,hG,hc4,hgz,rfl,rfl⟩
    have hgl:n4≤1000:=by
      have h1:=stackK_len (l:=xs.map LN.n) (ss:=ss) (bare:=bare) i
      rw [←hgz,List.length_map,List.length_map,hG.1.1,hl] at h1;omega
    have gl:=hG.1.1
    have hV4:VLe V V':=hV2.trans (hV3.trans hV')
    by_cases hlt2:i<m
    · obtain⟨bs,os,s,hB,hx,hcs,hss⟩:=(hs.le hV4).at_ hlt2
      have hst:=pI (l:=xs.map LN.n) (bare:=bare) hx
      rw [←hgz,sl] at hst
      repeat' (first|(refine aE ?_;refine pu9 ?_)|refine bY ?_|(refine aA rfl ?_ ?_<;>intro hq<;>try exact no9))
      refine bN (fun F V5 L' m'=>∃ (j:Nat) (acc:List LF) (A6:Option Addr) (n6 c6:Nat) (LA:List Box),V'=V5∧LA=L'∧j≤n4∧cO A6 n6 c6 316 9 (acc.flatMap flC) LA∧acc.length=n6∧n6≤j∧acc.map fz=((gs.map fz).take j).filterMap (sM (bare && decide (i+1=m)) s)∧(∀ f∈acc,aT V' f.x)∧m'=n4 - j∧F=[(1,.slice B m e),(2,.bool bare),(7,.slice A4 n4 c4),(9,.int .i64 (i:Int)),(10,.slice A6 n6 c6),(11,.int .i64 (j:Int))]) (m:=n4) ⟨0,[],none,0,0,[],rfl,rfl,Nat.zero_le _,cO.nil,rfl,Nat.le_refl _,rfl,by simp,by omega,rfl⟩ bH rfl sl9 ?_
      rintro F V5 L' m' ⟨j,acc,A6,n6,c6,LA,rfl,rfl,hjn,hr,hacc,hnj,hz,haN,rfl,rfl⟩
      by_cases hlt3:j<n4
      · obtain⟨b,off,f,hA4,hf,hc,hN⟩:=hG.at_ hlt3
        obtain⟨hc8,hc9⟩:=tG hc
        have hk7:=fl_kids hc
        obtain⟨_,_,_,hnk,es,hK,hks⟩:=hN.inv
        have hfs:=fm_snoc (p:=sM (bare && decide (i+1=m)) s) (fz_at hf)
        rw [←hz] at hfs
        have hkid:=kid_c V' f.x hN s
        by_cases hkr:kidR f.x.n s<0
        · rw [kidB_none (f:=fz f) hkr] at hfs
          have hfs':acc.map fz=((gs.map fz).take (j+1)).filterMap (sM (bare && decide (i+1=m)) s):=by rw [hfs];simp
          repeat' (first|(refine aE ?_;first|(refine aC ?_;refine aP rfl (aK ⟨Tryz.call245⟩ rfl (hkid)) ?_)|(refine cG ?_;(first|refine aO (bF und_47 siz_9 rfl hB rfl hlt2) ?_|refine aO (bF und_313 siz_316 rfl hA4 rfl hlt3) ?_))|refine pu9 ?_)|refine eE ?_|(refine aJ rfl rfl rfl ?_ ?_<;>intro hq<;>try exact no9)|(refine aA rfl ?_ ?_<;>intro hq<;>try exact no9)|refine bQ (id:=14) mixed (by kernel_rfl) ?_)
          all_goals try exact no9
          all_goals (refine aX _ (n4 - (j+1)) ⟨j+1,acc,A6,n6,c6,LA,rfl,rfl,by omega,hr,hacc,by omega,hfs',haN,rfl,rfl⟩ (by omega) bH sl9)
        · obtain⟨k1,k2,k3⟩:=kidR_yes hkr
          rw [k3] at hkid
          have hp:cJ f.x.ks s<f.x.nk:=by
            have h1:=nS (ks:=f.x.ks) (s:=s) k2
            have h2:=hK.len
            rw [hks,List.length_map] at h1;rw [←hks] at h1;omega
          obtain⟨b1,o1,e1,hKb,he,hem,hce,c0,c1,hms,hne⟩:=hK.at_ hp
          have hsome:=fun hc=>kidB_some (cut:=bare && decide (i+1=m)) hks hkr hc he
          have hcutn:=fun hc h0=>kidB_cut (cut:=bare && decide (i+1=m)) (s:=s) (f:=fz f) hc h0
          have hpl:((f.x.n.ks):PKs)=f.x.ks:=rfl
          rw [hpl] at hkid
          generalize cJ f.x.ks s=p at *
          repeat' (first|(refine aE ?_;first|(refine aC ?_;refine aP rfl (aK ⟨Tryz.call245⟩ rfl (hkid)) ?_)|(refine cG ?_;(first|refine aO (bF und_47 siz_9 rfl hB rfl hlt2) ?_|refine aO (bF und_313 siz_316 rfl hA4 rfl hlt3) ?_))|refine pu9 ?_)|refine eE ?_|(refine aJ rfl rfl rfl ?_ ?_<;>intro hq<;>try exact no9)|(refine bS rfl rfl rfl ?_ ?_<;>intro hq)|(refine aA rfl ?_ ?_<;>intro hq<;>try exact no9)|refine bQ (id:=14) mixed (by kernel_rfl) ?_)
          all_goals try exact no9
          · have hcn:=hcutn (by rw [show bare=true by assumption,decide_eq_true (by omega)];rfl) hq
            rw [hcn] at hfs
            have hfs':acc.map fz=((gs.map fz).take (j+1)).filterMap (sM (bare && decide (i+1=m)) s):=by rw [hfs];simp
            refine aX _ (n4 - (j+1)) ⟨j+1,acc,A6,n6,c6,LA,rfl,rfl,by omega,hr,hacc,by omega,hfs',haN,rfl,rfl⟩ (by omega) bH sl9
          all_goals
            have hcc:¬((bare && decide (i+1=m))=true∧f.lay=0):=fun ⟨g1,g2⟩=>by
              rw [Bool.and_eq_true,decide_eq_true_eq] at g1
              first
                | exact hq g2
                | (exact hq (by omega))
                | (rw [hq] at g1;exact absurd g1.1 (by decide))
            have hsm:=hsome hcc
            rw [hsm] at hfs
            have hfs':(acc ++ [(⟨e1.x,f.lay⟩:LF)]).map fz=((gs.map fz).take (j+1)).filterMap (sM (bare && decide (i+1=m)) s):=by rw [hfs,List.map_append];rfl
            have ho1:=xR ⟨e1.x,f.lay⟩
            clear hsome hcutn hfs hkid
            refine bX (id:=16) _ mixed (List.nil_sublist _) ?_;refine gt9 0 ?_;refine gt9 1 ?_;refine gt9 2 ?_;refine fL 3 rfl rfl (bF und_313 siz_316 rfl hA4 rfl hlt3) ?_;refine gt9 4 ?_;refine gt9 5 ?_;refine gt9 6 ?_;refine gt9 7 ?_;refine fL 8 rfl rfl (bF und_68 siz_156 rfl hKb rfl hp) ?_;refine gt9 9 ?_;refine gt9 10 ?_;refine gt9 11 ?_;refine gt9 12 ?_;refine fL 13 rfl rfl (bF und_313 siz_316 rfl hA4 rfl hlt3) ?_;refine gt9 14 ?_;refine gt9 15 ?_;refine gt9 16 ?_;refine aZ (i:=17) rfl ?_;(refine aN rfl und_313 siz_316 zec_316 rfl rfl rfl rfl rfl rfl rfl ?_;intro γ);refine aZ (i:=18) rfl ?_;(refine aQ rfl und_313 inf_316 rfl rfl rfl hr aV (cY bA rfl) bJ (by omega) rfl rfl ?_;intro A7 c7 L7 hr7);refine gt9 19 ?_;refine aY (by kernel_rfl) vl9 vl9 bP ?_
            repeat' (first|(refine aE ?_;refine pu9 ?_)|refine cC ?_|fail)
            refine aX _ (n4 - (j+1)) ⟨j+1,acc ++ [⟨e1.x,f.lay⟩],A7,n6+1,c7,L7,rfl,rfl,by omega,by rw [List.flatMap_append];exact hr7,by simp [hacc],by omega,hfs',fun g hg=>?_,rfl,rfl⟩ (by omega) bH sl9
            rcases List.mem_append.1 hg with hg|hg
            · exact haN g hg
            · rw [List.mem_singleton.1 hg];exact hne
      · obtain rfl:j=n4:=by omega
        rw [List.take_of_length_le (by rw [List.length_map];omega),] at hz
        rw [←hz] at hst
        have hcap6:=hr.cap
        refine gS hr aV ?_
        intro V7 hV7 hc7
        have hF7:dB V7 A6 n6 acc:=dB.of hc7 hacc (by unfold maxLen;omega) fun f hf=>(haN f hf).le hV7
        have hS7:=RShown_c V7 A6 n6 c6 _ hF7 (by omega) hcap6
        rw [←hst] at hS7
        repeat' (first|(refine aE ?_;first|(refine aC ?_;(refine aS rfl ⟨Tryz.call265⟩ rfl rfl (hS7) ?_;rintro v V8 hV8 ⟨A8,n8,c8,gs8,rfl,hG8,hc8,hgz8⟩))|refine pu9 ?_)|refine dT ?_|(refine aA rfl ?_ ?_<;>intro hq<;>try exact no9))
        refine aX _ (m - (i+1)) ⟨i+1,A8,n8,c8,gs8,vl9,rfl,by omega,hG8,hc8,hgz8,rfl,rfl⟩ (by omega) bH sl9
    · obtain rfl:i=m:=by omega
      repeat' (first|(refine aE ?_;refine pu9 ?_)|refine dT ?_|(refine aA rfl ?_ ?_<;>intro hq<;>try exact no9))
      all_goals
        (refine aM Tryz.results240 (aB rfl) ?_)
        exact⟨_,_,_,gs,rfl,hG,hc4,hgz⟩
theorem RLook_c (V:aD) (A:Option Addr) (n c:Nat) (xs:List LN) (h:dR V A n xs) (hn:n≤1000) (B:Option Addr) (m e:Nat) (ss:List ByteArray) (hs:cL V B m ss):Fn Tryz.prog 241 [.slice A n c,.slice B m e] V (LookR (cR (xs.map LN.n) ss)):=by
  have hW:=Stack_c V A n c xs h hn B m e ss hs false
  rw [sK m (by rw [hs.1.1];exact Nat.le_refl _),List.take_of_length_le (by rw [hs.1.1];exact Nat.le_refl _)] at hW
  generalize cR (xs.map LN.n) ss=r at *
  (refine aI Tryz.func241 rfl Tryz.ntmps241 rfl ?_;intro w0)
  repeat' (first|(refine aE ?_;first|(refine aC ?_;(refine aS rfl ⟨Tryz.call240⟩ rfl rfl (hW) ?_;rintro v V1 hV1 ⟨A1,n1,c1,fs,rfl,hF1,hc1,rfl⟩))|refine st9 ?_|(refine al9 ?_;intro γ)|refine pu9 ?_)|refine cC ?_|(refine aA rfl ?_ ?_<;>intro hq<;>try exact no9))
  · (refine fV Tryz.results241 (aW agg_70 rfl bA (by exact rfl)) (aB rfl) (aB rfl) ?_)
    have hfl:=hF1.1.1
    obtain rfl:fs=[]:=List.eq_nil_of_length_eq_zero (by omega)
    exact .inl ⟨rfl,rfl⟩
  · have hfl:=hF1.1.1
    obtain⟨f,t,rfl⟩:∃ f t,fs=f :: t:=by
      cases fs with
      | nil=>simp at hfl;omega
      | cons f t=>exact⟨f,t,rfl⟩
    obtain⟨b,off,f',rfl,hf',hcf,hNf⟩:=hF1.at_ (k:=0) (by omega)
    obtain rfl:f=f':=by simpa using hf'
    obtain⟨hc8,hc9⟩:=tG hcf
    refine bX (id:=4) _ mixed (List.nil_sublist _) ?_;refine gt9 0 ?_;refine fL 1 rfl rfl (eZ (k:=0) und_313 siz_316 rfl rfl (by omega)) ?_;refine gt9 2 ?_;refine gt9 3 ?_;refine gt9 4 ?_;refine fL 5 rfl rfl (eZ (k:=0) und_313 siz_316 rfl rfl (by omega)) ?_;refine gt9 6 ?_;refine gt9 7 ?_;refine aZ (i:=8) rfl ?_;refine aR rfl siz_70 rfl rfl rfl rfl bJ dP rfl ?_;refine gt9 9 ?_;refine gt9 10 ?_;refine aY (by kernel_rfl) vl9 vl9 bP ?_
    repeat' (first|refine gx9 ?_|fail)
    (refine fV Tryz.results241 (aW agg_70 rfl bA (by exact rfl)) (aB rfl) (aB rfl) ?_)
    exact .inr ⟨fz f,t.map fz,f.x,rfl,rfl,hNf,rfl⟩
end
section
def b8 (x:Int):UInt8:=UInt8.ofNat (x % 256).toNat
def b16 (x:Int):List UInt8:=[b8 (x / 256),b8 x]
def jL (s:ByteArray):List UInt8:=b8 (s.size:Int) :: s.toList
def oP (h:Hd):Int:=if h.opq=true then h.kind+8 else h.kind
def oX (h:Hd):List UInt8:=b8 (oP h) :: (b16 h.mode ++ b16 h.user ++ b16 h.group) ++ [b8 (h.attrs.length:Int)]
def iF (l:List PA):List UInt8:=l.flatMap fun a=>jL a.n ++ jL a.v
mutual
def kM:PN→List UInt8
  | .mk h ks=>oX h ++ iF h.attrs ++ (jL h.data ++ [b8 (ks.length:Int)]) ++ jE ks
termination_by n=>SizeOf.sizeOf n
def jE:PKs→List UInt8
  | []=>[]
  | (nm,n) :: ks=>jL nm ++ kM n ++ jE ks
termination_by ks=>SizeOf.sizeOf ks
end
theorem layK_app:∀ (l m:PKs),jE (l ++ m)=jE l ++ jE m
  | [],m=>by simp [jE]
  | (nm,n) :: l,m=>by rw [List.cons_append,jE,jE,layK_app l m];simp
theorem layA_app (l m:List PA):iF (l ++ m)=iF l ++ iF m:=by unfold iF;simp
theorem yL (x:Int):((b8 x).toNat:Int)=x % 256:=by
  unfold b8
  rw [UInt8.toNat_ofNat']
  have h1:0≤x % 256:=Int.emod_nonneg _ (by omega)
  have h2:x % 256<256:=Int.emod_lt_of_pos _ (by omega)
  omega
theorem dX (s:ByteArray):(jL s).length=s.size+1:=by unfold jL;rw [List.length_cons,Lib.toList_data];rfl
theorem fS (h:Hd):(oX h).length=8:=by simp [oX,b16]
def uO (h:Hd) (ks:PKs):Prop:=(1≤h.kind∧h.kind≤3)∧(0≤h.mode∧h.mode≤4095)∧(0≤h.user∧h.user≤65535)∧(0≤h.group∧h.group≤65535)∧(h.attrs.length≤4∧∀ a∈h.attrs,a.n.size≤14∧a.v.size≤20)∧h.data.size≤200∧ks.length≤60∧∀ k∈ks,k.1.size≤12
theorem class_len {s:ByteArray} (h:¬eJ s=0):s.size≤14:=by
  unfold eJ at h
  split at h
  · rename_i h1
    have h2:=h1.2
    unfold eV at h2
    simp only [Bool.and_eq_true,decide_eq_true_eq] at h2
    have h3:=h2.1.1.1.2
    rw [List.length_drop,show s.toList.length=s.size by rw [Lib.toList_data];rfl] at h3
    omega
  · exact absurd rfl h
theorem name_len {s:ByteArray} (h:eV s.toList=true):s.size≤12:=by
  unfold eV at h
  simp only [Bool.and_eq_true,decide_eq_true_eq] at h
  have h3:=h.1.1.1.2
  rw [show s.toList.length=s.size by rw [Lib.toList_data];rfl] at h3
  exact h3
theorem layA_len {l:List PA} (h:∀ a∈l,a.n.size≤14∧a.v.size≤20):(iF l).length≤36 * l.length:=by
  induction l with
  | nil=>simp [iF]
  | cons a l ih =>
    have h1:=h a (by simp)
    have h2:=ih fun b hb=>h b (by simp [hb])
    have e:iF (a :: l)=(jL a.n ++ jL a.v) ++ iF l:=by simp [iF]
    rw [e,List.length_append,List.length_append,dX,dX,List.length_cons];omega
theorem oneF_fit {h:Hd} {many upper root:Bool} (h0:iO h many upper root=0):(1≤h.kind∧h.kind≤3)∧(0≤h.mode∧h.mode≤4095)∧(0≤h.user∧h.user≤65535)∧(0≤h.group∧h.group≤65535)∧(h.attrs.length≤4∧∀ a∈h.attrs,a.n.size≤14∧a.v.size≤20)∧h.data.size≤200:=by
  unfold iO at h0
  split at h0
  · omega
  · rename_i h1
    split at h0
    · omega
    · rename_i h2
      split at h0
      · rename_i h3;exact absurd h0 h3
      · rename_i h3
        split at h0
        · omega
        · rename_i h4
          have h2:=Decidable.not_not.1 h2
          obtain⟨a1,_,a3⟩:=pB (Decidable.not_not.1 h3)
          exact⟨by omega,h2.1,h2.2.1,h2.2.2,⟨a1,fun a ha=>⟨class_len (a3 a ha).1,(a3 a ha).2⟩⟩,by omega⟩
mutual
theorem countF_fit (upper:Bool):∀ (deep so:Nat) (n:PN),so≤60→(bU upper deep so n).2=0→cB uO n∧so<(bU upper deep so n).1∧(bU upper deep so n).1≤60∧(kM n).length+13+400 * so≤400 * (bU upper deep so n).1
  | deep,so,.mk h ks,hs,h0=>by
    rw [bU] at h0 ⊢
    by_cases h1:so=60∨6<deep
    · rw [if_pos h1] at h0;simp at h0
    · rw [if_neg h1] at h0 ⊢
      by_cases h2:iO h (decide (0<ks.length)) upper (decide (deep=0))=0
      · rw [if_neg (not_not_intro h2)] at h0 ⊢
        obtain⟨b1,b2,b3,b4⟩:=countK_fit upper deep (so+1) none ks (by omega) h0
        obtain⟨a1,a2,a3,a4,a5,a6⟩:=oneF_fit h2
        refine⟨.mk ⟨a1,a2,a3,a4,a5,a6,by omega,fun k hk=>(b1 k hk).1⟩ fun k hk=>(b1 k hk).2,by omega,b3,?_⟩
        have:=layA_len a5.2
        rw [kM]
        simp only [List.length_append,List.length_cons,List.length_nil,dX,fS]
        omega
      · rw [if_pos h2] at h0;exact absurd h0 h2
theorem countK_fit (upper:Bool):∀ (deep so:Nat) (prev:Option ByteArray) (ks:PKs),so≤60→(dD upper deep so prev ks).2=0→(∀ k∈ks,k.1.size≤12∧cB uO k.2)∧so+ks.length≤(dD upper deep so prev ks).1∧(dD upper deep so prev ks).1≤60∧(jE ks).length+400 * so≤400 * (dD upper deep so prev ks).1
  | deep,so,prev,[],hs,h0=>by rw [dD,jE];simp;exact hs
  | deep,so,prev,(nm,n) :: ks,hs,h0=>by
    rw [dD] at h0 ⊢
    by_cases h1:eV nm.toList=true
    · rw [if_neg (not_not_intro h1)] at h0 ⊢
      split at h0
      · simp at h0
      · rename_i h2
        rw [if_neg h2]
        by_cases h3:(bU upper (deep+1) so n).2=0
        · rw [if_neg (not_not_intro h3)] at h0 ⊢
          obtain⟨a1,a2,a3,a4⟩:=countF_fit upper (deep+1) so n hs h3
          obtain⟨b1,b2,b3,b4⟩:=countK_fit upper deep _ _ ks a3 h0
          have hn:=name_len h1
          refine⟨fun k hk=>?_,by simp only [List.length_cons];omega,b3,?_⟩
          · rcases List.mem_cons.1 hk with rfl|hk
            · exact⟨hn,a1⟩
            · exact b1 k hk
          · rw [jE,List.length_append,List.length_append,dX];omega
        · rw [if_pos h3] at h0;exact absurd h0 h3
    · rw [if_pos h1] at h0;simp at h0
end
theorem kP {upper:Bool} {n:PN} (h:cP upper n=0):cB uO n∧(kM n).length≤24000:=by
  unfold cP at h
  split at h
  · omega
  · obtain⟨h1,_,h3,h4⟩:=countF_fit upper 0 0 n (by omega) h
    exact⟨h1,by omega⟩
theorem layA_take {l:List PA} {k:Nat} {a:PA} (h:l[k]?=some a):iF (l.take (k+1))=iF (l.take k) ++ (jL a.n ++ jL a.v):=by
  rw [List.take_add_one,h,layA_app];simp [iF]
theorem layK_take {ks:PKs} {k:Nat} {e:ByteArray×PN} (h:ks[k]?=some e):jE (ks.take (k+1))=jE (ks.take k) ++ jL e.1 ++ kM e.2:=by
  obtain⟨a,b⟩:=e
  rw [List.take_add_one,h,layK_app];simp [jE]
theorem layA_le (l:List PA) (k:Nat):(iF (l.take k)).length≤(iF l).length:=by
  have:=layA_app (l.take k) (l.drop k)
  rw [List.take_append_drop] at this;rw [this,List.length_append];omega
theorem layK_le (ks:PKs) (k:Nat):(jE (ks.take k)).length≤(jE ks).length:=by
  have:=layK_app (ks.take k) (ks.drop k)
  rw [List.take_append_drop] at this;rw [this,List.length_append];omega
theorem wR (h:Hd) (ks:PKs):kM (.mk h ks)=oX h ++ iF h.attrs ++ (jL h.data ++ [b8 (ks.length:Int)]) ++ jE ks:=by rw [kM]
end
section
structure xP (P:Program) (f:FuncId) (e:Array Value→Sem Value):Prop where
  h:∀ args w,(callFunc f args).run P w=((e args).run P w).andThen fun v w'=>.ok (.value v) w'
structure PInf (P:Program) (T:TypeId):Prop where
  h:∃ te j,P.underlying T=some (.pointer te)∧P.info? te=some j
structure SzInf (P:Program) (T:TypeId):Prop where
  h:∃ j,P.info? T=some j∧j.size≠0
structure U8Inf (P:Program) (E:TypeId):Prop where
  h:∃ i,P.info? E=some i∧i.zero=some (.int .u8 0)∧i.size=1∧i.bytes=1
def OwnT (L:List Box) (g:Nat) (t:TypeId) (n:Nat):Prop:=∃ cs:List Value,cs.length=n∧⟨g,t,cs⟩∈L
theorem ownT_here {g n:Nat} {t:TypeId} {cs:List Value} {L:List Box} (h:cs.length=n):OwnT (⟨g,t,cs⟩ :: L) g t n:=⟨cs,h,by simp⟩
theorem u8C_byte (l:List UInt8):u8C l=Lib.byteCells l:=rfl
theorem u8C_str (s:ByteArray):u8C s.toList=Lib.strCells s:=by rw [Lib.strCells_eq,u8C_byte,Lib.toList_data]
theorem lS (a b:List UInt8):u8C (a ++ b)=u8C a ++ u8C b:=by simp [u8C]
section
variable {P : Program} {B : Base} {N : Nat} {Q : Exit → Act → World → Prop} {k : List jI} {F : List (Nat × Value)} {V : aD} {L : List Box} {w : World}
variable {d : Option Tmp} {ty : TypeId} {pos : String} {af : Array Edge} {gd : Option (Nat × Bool)} {x y : Operand} {T T2 : TypeId} {ops : Array Oper} {rest : List Oper}
theorem exec_extern {f:FuncId} {e:Array Value→Sem Value} {args:List Operand} {ats:Array TypeId} {vs:List Value} {a:Act} (he:xP P f e) (ha:Kn N F a) (hv:evL F args=some vs) :
    (execOp a.eval ⟨d,.call ⟨.value (.func f),args.toArray,ats⟩,ty,pos,af,gd⟩).run P w=((e vs.toArray).run P w).andThen fun v w'=>.ok (.value v) w':=by
  have h:=ha.evL hv
  simp [execOp,resolve,Deferred.ofValue,invoke,Act.eval,h,he.h]
theorem q_extern {f:FuncId} {e:Array Value→Sem Value} {args:List Operand} {ats:Array TypeId} {vs:List Value} {v:Value} (he:xP P f e) (hv:evL F args=some vs) (hr:∀ w,(e vs.toArray).run P w=.ok v w):QP P B N V L ⟨d,.call ⟨.value (.func f),args.toArray,ats⟩,ty,pos,af,gd⟩ F v:=gN fun a w ha hs=>by
  rw [exec_extern he ha hv,hr];rfl
theorem q_pneq_same {t ty2:TypeId} {a:Addr} (hp:PInf P t) (hx:evF F x=some (.pointer (some a))) (hy:evF F y=some (.pointer (some a))):QP P B N V L ⟨d,.binOp .neq t x y ty2,ty,pos,af,gd⟩ F (.bool false):=by
  obtain⟨te,j,h1,h2⟩:=hp.h
  exact pC hx hy (fun w=>by cases y<;>simp [eqGuard]<;>(split<;>simp_all)) (fun w=>Lib.run_neq_ptr_same w a h1 h2)
theorem OwnT.shape {g n:Nat} {t:TypeId} (h:OwnT L g t n) (hs:St B V L w):w.shape? g=some (t,n):=by
  obtain⟨cs,hn,hm⟩:=h
  have ho:=(hs.own _ hm).1
  simp only [] at ho
  simp [World.shape?,ho,hn]
theorem q_toUnsafe {src dst t e:TypeId} {g n:Nat} (hs:bV P src (.pointer t)) (hd:bV P dst .unsafePointer) (hj:SzInf P t) (hx:evF F x=some (.pointer (some ⟨g,0,none⟩))) (ho:OwnT L g e n) (hn:Nat.blt 0 n=true):QP P B N V L ⟨d,.convert src dst x,ty,pos,af,gd⟩ F (.pointer (some ⟨g,0,none⟩)):=gN fun a w ha hst=>by
  obtain⟨j,h1,h2⟩:=hj.h
  have h:=Lib.run_to_unsafe (P:=P) w ⟨g,0,none⟩ hs.u hd.u h1 h2 (ho.shape hst) (by simpa [Nat.blt_eq] using hn)
  simp [execOp,ha.ev hx,h]
theorem q_fromUnsafe {src dst u e:TypeId} {g n:Nat} (hs:bV P src .unsafePointer) (hd:bV P dst (.pointer u)) (hj:SzInf P u) (hx:evF F x=some (.pointer (some ⟨g,0,none⟩))) (ho:OwnT L g e n) (hl:liesAt P P.depth e (n / P.cellsOf e) 0 u 1=true):QP P B N V L ⟨d,.convert src dst x,ty,pos,af,gd⟩ F (.pointer (some ⟨g,0,none⟩)):=gN fun a w ha hst=>by
  obtain⟨j,h1,h2⟩:=hj.h
  have h:=Lib.run_from_unsafe (P:=P) w ⟨g,0,none⟩ hs.u hd.u h1 (ho.shape hst) hl
  simp [execOp,ha.ev hx,h]
theorem q_slData {g n c:Nat} (hx:evF F x=some (.slice (some ⟨g,0,none⟩) n c)) (hc:0<c):QP P B N V L ⟨d,.call ⟨.builtin .unsafeSliceData,#[x],#[T]⟩,ty,pos,af,gd⟩ F (.pointer (some ⟨g,0,none⟩)):=gN fun a w ha hst=>by
  have h:=Lib.run_unsafeSliceData_row (P:=P) w #[T] ty ⟨g,0,none⟩ n c (by omega)
  simp [execOp,ha.ev hx,resolve,invoke,builtin,h]
theorem q_slData0 {n c:Nat} (hx:evF F x=some (.slice none n c)):QP P B N V L ⟨d,.call ⟨.builtin .unsafeSliceData,#[x],#[T]⟩,ty,pos,af,gd⟩ F (.pointer none):=gN fun a w ha hst=>by
  have h:=Lib.run_unsafeSliceData_nil (P:=P) w #[T] ty n c
  simp [execOp,ha.ev hx,resolve,invoke,builtin,h]
theorem q_ustr0 {p:Option Addr} (hx:evF F x=some (.pointer p)) (hy:evF F y=some (.int .i64 0)):QP P B N V L ⟨d,.call ⟨.builtin .unsafeString,#[x,y],#[T,T2]⟩,ty,pos,af,gd⟩ F (.string ⟨#[]⟩):=gN fun a w ha hst=>by
  have h:=Lib.run_unsafeString_none (P:=P) w T T2 ty p
  simp [execOp,ha.ev hx,ha.ev hy,resolve,invoke,builtin,h]
  rfl
theorem St.freeze {X Y:List Box} {g n:Nat} {E:TypeId} {cs:List Value} (hs:St B V (X ++ (⟨g,E,cs⟩ :: Y)) w):St B V (X ++ Y) (w.freeze ⟨g,0,none⟩ n):=by
  have hg:=hs.own ⟨g,E,cs⟩ (by simp)
  have hne:∀ b∈X ++ Y,b.g≠g:=by
    intro b hb e
    have hnd:=hs.nodup
    rw [List.map_append,List.map_cons,List.nodup_append] at hnd
    obtain⟨_,h2,h3⟩:=hnd
    rcases List.mem_append.1 hb with hb|hb
    · exact h3 b.g (List.mem_map_of_mem hb) g (by simp) e
    · exact(List.nodup_cons.1 h2).1 (List.mem_map.2 ⟨b,hb,e⟩)
  have hsub:(X ++ Y).Sublist (X ++ (⟨g,E,cs⟩ :: Y)):=List.Sublist.append (List.Sublist.refl X) (List.sublist_cons_self _ _)
  have hblk:∀ k,¬k=g→(w.freeze ⟨g,0,none⟩ n).heap[k]?=w.heap[k]?:=by
    intro k hk
    unfold World.freeze
    split
    · rfl
    · simp only [Array.getElem?_modify]
      rw [if_neg (by omega)]
  have hx:Exc [g] w (w.freeze ⟨g,0,none⟩ n):=by
    refine⟨?_,?_,?_,?_,fun k _ hn=>hblk k (by simpa using hn)⟩
    all_goals (unfold World.freeze;split)
    all_goals first|rfl|simp
  refine⟨hs.ext.trans hx (by intro y hy;simp at hy;subst hy;exact hg.2),fun p x hp=>?_,hs.old,hs.v0,fun b hb=>?_,List.Nodup.sublist (hsub.map Box.g) hs.nodup⟩
  · obtain⟨h1,h2⟩:=hs.view p x hp
    refine⟨?_,fun b hb=>h2 b (hsub.subset hb)⟩
    have hpg:¬p.block=g:=fun e=>h2 ⟨g,E,cs⟩ (by simp) e.symm
    rw [World.cell?_of_block (hblk _ hpg)];exact h1
  · have ho:=hs.own b (hsub.subset hb)
    exact⟨by rw [hblk _ (hne b hb)];exact ho.1,ho.2⟩
theorem gw_ustr {dr:gO} (hdr:dr.loud=true) {e g c:Nat} {us:List UInt8} {m:Int} {L1:List Box} {f:List Box→List Box} (hp:bV P T (.pointer e)) (hc:P.cellsOf e=1) (hx:evF F x=some (.pointer (some ⟨g,0,none⟩))) (hy:evF F y=some (.int .i64 m)) (hm:m=us.length) (hr:cO (some ⟨g,0,none⟩) us.length c e 1 (u8C us) L1) (hL:mY L L1 f) (h0:0<us.length) (hd:okD N d=true)
    (h:GoL P B N dr ops Q k rest (rT F d (.string ⟨us.toArray⟩)) V (f [])):GoW P B N dr ops Q k ⟨d,.call ⟨.builtin .unsafeString,#[x,y],#[T,T2]⟩,ty,pos,af,gd⟩ rest F V L:=iG hdr fun a w ha hs=>by
  subst hm
  obtain⟨X,Y,hX,hf⟩:=hL.h
  rcases hr.2 with ⟨_,h,_⟩|⟨g',cs,he,rfl,h2,h3,h4,h5⟩
  · cases h
  obtain rfl:g=g':=by injection he with he;injection he
  subst hX
  have ho:=(hs.own ⟨g,e,cs⟩ (by simp)).1
  simp only [] at ho
  have hsh:w.shape? g=some (e,cs.length):=by simp [World.shape?,ho]
  have hcell:∀ j u,us[j]?=some u→w.cell? ((⟨g,0,none⟩:Addr).add j)=some (.int .u8 u.toNat):=by
    intro j u hj
    rw [iP,Nat.zero_add]
    have hu:(u8C us)[j]?=some (.int .u8 u.toNat):=by simp [u8C,hj]
    rw [←h5,List.getElem?_take] at hu
    split at hu
    · simp [World.cell?,ho,hu]
    · cases hu
  have h63:us.length≤9223372036854775807:=by unfold maxLen at h3;omega
  have hrun:=Lib.run_unsafeString_row (P:=P) w T T2 ty e hp.u hc g cs.length hsh us (by intro e;subst e;simp at h0) (by omega) h63 hcell
  refine mV (w':=w.freeze ⟨g,0,none⟩ us.length) (v:=.string ⟨us.toArray⟩) ?_ (fT hdr h _ _ (ha.put hd _) (by rw [hf];exact hs.freeze))
  simp [execOp,ha.ev hx,ha.ev hy,resolve,invoke,builtin,hrun]
theorem oG {dr:gO} (hdr:dr.loud=true) {E n c:Nat} {dd:Nat} {A:Option Addr} {s:ByteArray} {xs:List Value} {L1:List Box} (hu:bV P T (.slice E)) (hu2:bV P T2 .string) (hi:U8Inf P E) (hx:evF F x=some (.slice A n c)) (hy:evF F y=some (.string s))
    (hr:cO A n c E 1 xs L1) (hA:A=none∨0<c) {f:List Box→List Box} (hL:mY L L1 f) (h63:n+s.size≤1000000000) (hd:okD N (some dd)=true)
    (h:∀ A' c' L1',cO A' (n+s.size) c' E 1 (xs ++ u8C s.toList) L1'→(A'=none∨0<c')→GoL P B N dr ops Q k rest ((dd,.slice A' (n+s.size) c') :: F) V (f L1')):GoW P B N dr ops Q k ⟨some dd,.call ⟨.builtin .append,#[x,y],#[T,T2]⟩,ty,pos,af,gd⟩ rest F V L:=iG hdr fun a w ha hs=>by
  obtain⟨i,hinfo,hz,hi1,hi2⟩:=hi.h
  obtain⟨X,Y,hX,hf⟩:=hL.h
  have hown:=hr.owns hs (fun b hb=>by rw [hX];simp [hb])
  obtain⟨v',w',hrun,ho,hg,hnil⟩:=Lib.run_append_own_string (P:=P) w 0 T T2 ty E i hu.u hu2.u hinfo hz hi1 hi2 (.slice A n c) n xs hown s (by unfold maxLen;omega) (by omega) (Nat.zero_le _)
  have hxl:xs.length=n:=by simpa using hr.1
  have hat:(v'.ownBlock=(Value.slice A n c).ownBlock∨v'.ownBlock=some w.heap.size)∧(s.size=0→∃ A',v'=.slice A' (n+s.size) c∧A'=A):=by
    rcases hr.2 with ⟨_,rfl,rfl,rfl⟩|⟨g,cs,rfl,rfl,h2,h3,h4,h5⟩
    · by_cases h0:s.size=0
      · have e:=hnil.2 ⟨rfl,h0⟩
        subst e
        exact⟨.inl rfl,fun _=>⟨none,by rw [h0],rfl⟩⟩
      · have hr2:=run_append_nil_string (P:=P) w T T2 ty E i (.int .u8 0) hu.u hu2.u hinfo hz s (by omega) (by omega) (by rw [hi2];omega)
        rw [hr2] at hrun
        injection hrun with e1 e2
        subst e1
        exact⟨.inr rfl,fun h=>absurd h h0⟩
    · subst hX
      have hob:=(hs.own ⟨g,E,cs⟩ (by simp)).1
      simp only [] at hob
      by_cases hroom:n+s.size≤c
      · have hr2:=Lib.run_append_room_string (P:=P) w T T2 ty E i hu.u hu2.u hinfo hi1 g n c cs.toArray hob s hroom (by simp;omega)
        rw [hr2] at hrun
        injection hrun with e1 e2
        subst e1
        exact⟨.inl rfl,fun _=>⟨_,rfl,rfl⟩⟩
      · have holds:∀ j u,xs[j]?=some u→w.cell? ((⟨g,0,none⟩:Addr).add j)=some u:=by
          intro j u hj
          rw [iP,Nat.zero_add]
          rw [←h5,List.getElem?_take] at hj
          split at hj
          · simp [World.cell?,hob,hj]
          · cases hj
        have hr2:=Lib.run_append_grow_string (P:=P) w T T2 ty E i (.int .u8 0) hu.u hu2.u hinfo hz ⟨g,0,none⟩ n c xs (by rw [hi1];omega) holds s (by omega) (by omega) (by rw [hi2];exact growslice_fits (by omega) (by omega))
        rw [hr2] at hrun
        injection hrun with e1 e2
        subst e1
        exact⟨.inr rfl,fun h=>absurd h2 (by omega)⟩
  subst hX
  obtain⟨A',c',L1',rfl,hr',hs'⟩:=hs.grown hr hg ho hat.1
  refine mV (w':=w') (v:=.slice A' (n+s.size) c') ?_ (fT hdr (h A' c' L1' (by rw [u8C_str];exact hr') ?_) _ w' (ha.put hd _) (by rw [hf];exact hs'))
  · have hrun':(Builtin.append_ #[T,T2] ty #[.slice A n c,.string s]).run P w=.ok (.slice A' (n+s.size) c') w':=hrun
    simp [execOp,ha.ev hx,ha.ev hy,resolve,invoke,builtin,hrun']
  · by_cases h0:s.size=0
    · obtain⟨A2,e1,e2⟩:=hat.2 h0
      injection e1 with e1 _ e3
      subst e1;subst e2;subst e3;exact hA
    · rcases hr'.2 with ⟨_,h1,_⟩|⟨_,_,_,_,h2,_⟩
      · exact .inl h1
      · exact .inr (by omega)
end
end
end Go.Proofs.YtejkmomfpidnbabGreat
