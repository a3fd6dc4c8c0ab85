/- Walks and plain laws, part 7: what functions compute, proved once each (ComesP, ComesQ, LayE, LayE2, BoxP, PathE3, Whole, BoxE, BoxE2, Lend, LendN, Nodes, BoxG). -/
import Derived.Test.YtejkmomfpidnbabGreatPart6
import Derived.Test.YtejkmomfpidnbabGreatPart5
import Derived.Test.YtejkmomfpidnbabGreatPart3
import Derived.Test.YtejkmomfpidnbabGreatPart4
import Derived.Test.YtejkmomfpidnbabGreatPart2
import Derived.Test.YtejkmomfpidnbabGreatPart1
set_option linter.unusedSimpArgs false
set_option linter.unusedVariables false
set_option maxRecDepth 100000
set_option maxHeartbeats 40000000
namespace Go.Proofs.YtejkmomfpidnbabGreat
open Go.RowKit
section
def gP (us gs:List PR):Hd→Int→Hd:=fun h lay=>if 0<lay then h else ((cT false us gs (.mk h [])).getD pnZ).h
theorem gP_low {us gs:List PR} {h:Hd} {lay:Int} (hl:0<lay):gP us gs h lay=h:=if_pos hl
theorem gP_up {us gs:List PR} {h:Hd}:gP us gs h 0=((cT false us gs (.mk h [])).getD pnZ).h:=if_neg (by omega)
theorem hz_back {m:List PR} {x y:Int} (h:hz true m x=some y):hz false m y=some x:=by
  have h:eS m x=some y:=h
  show jM m y=some x
  unfold eS at h
  unfold jM
  by_cases hf:cN m=0
  · rw [if_pos hf] at h ⊢
    have hz:=jG hf
    exact back_of hz.2.2.1 hz.2.2.2 h
  · rw [if_neg hf] at h;cases h
theorem vP {us gs:List PR} {n x:PN} (h:cT true us gs n=some x):∃ u g,x=.mk { n.h with user:=u,group:=g } n.ks∧hz true us n.h.user=some u∧hz true gs n.h.group=some g:=by
  unfold cT at h
  cases h1:hz true us n.h.user with
  | none=>rw [h1] at h;cases h
  | some u =>
    cases h2:hz true gs n.h.group with
    | none=>rw [h1,h2] at h;cases h
    | some g=>rw [h1,h2] at h;cases h;exact⟨u,g,rfl,rfl,rfl⟩
theorem moved_in {us gs:List PR} {n x:PN} (h:cT true us gs (jT n)=some x):x.ks=[]∧x.h.kind=n.h.kind∧x.h.opq=false∧gP us gs { x.h with opq:=false } 0={ n.h with opq:=false }:=by
  obtain⟨u,g,rfl,h1,h2⟩:=vP h
  refine⟨rfl,rfl,rfl,?_⟩
  rw [gP_up]
  have h3:=hz_back h1
  have h4:=hz_back h2
  show ((cT false us gs (.mk { kind:=n.h.kind,mode:=n.h.mode,user:=u,group:=g,opq:=false,attrs:=n.h.attrs,data:=n.h.data } [])).getD pnZ).h=_
  rw [lL (u:=n.h.user) (g:=n.h.group) h3 h4];rfl
theorem kid_up {u:PN} {lay:Int} {s:ByteArray} (h:u.h.kind=2):gU s (u,lay)=(dV u.ks s).map fun x=>(x,lay):=if_pos h
theorem fm_cons {s:ByteArray} {f:PF} {D:List PF}:(f :: D).filterMap (gU s)=(gU s f).toList ++ D.filterMap (gU s):=by
  rw [List.filterMap_cons]
  cases gU s f<;>rfl
theorem qY {u:PN} {lay:Int} {D:List PF} {s:ByteArray} (hk:u.h.kind=2) (h:dV u.ks s=none):cO ((u,lay) :: D) s=dJ (D.filterMap (gU s)):=by
  unfold cO;rw [fm_cons,kid_up hk,h];rfl
theorem kC {u m:PN} {lay:Int} {D:List PF} {s:ByteArray} (hk:u.h.kind=2) (h:dV u.ks s=some m):cO ((u,lay) :: D) s=dJ ((m,lay) :: D.filterMap (gU s)):=by
  unfold cO;rw [fm_cons,kid_up hk,h];rfl
theorem step_bare {x:PN} {lay:Int} {D:List PF} (hx:x.ks=[]) (s:ByteArray):cO ((x,lay) :: D) s=cO D s:=by
  unfold cO;rw [fm_cons]
  have:gU s (x,lay)=none:=by
    unfold gU
    split
    · rw [hx];rfl
    · rfl
  rw [this];rfl
theorem rA {f:PF} (h:f.1.h.kind=1) (s:ByteArray):cO [f] s=[]:=by
  unfold cO
  have:gU s f=none:=by unfold gU;rw [if_neg (by omega)]
  rw [List.filterMap_cons,this];rfl
theorem flat_same {g:Hd→Int→Hd} {f f2:PF} {t t2:List PF} (hh:g { f.1.h with opq:=false } f.2=g { f2.1.h with opq:=false } f2.2) (hs:∀ s,cO (f :: t) s=cO (f2 :: t2) s) (d:Nat):eQ g d (f :: t)=eQ g d (f2 :: t2):=by
  cases d with
  | zero=>rfl
  | succ d =>
    rw [eQ,eQ,hh,listP_ext (r:=f :: t) (r2:=f2 :: t2) fun x=>by rw [hs]]
    refine congrArg (PN.mk _) (List.map_congr_left fun nm _=>?_)
    rw [hs]
theorem flat_alike {g:Hd→Int→Hd} {f f2:PF} {t t2:List PF} {d:Nat} (hh:g { f.1.h with opq:=false } f.2=g { f2.1.h with opq:=false } f2.2) (hn:∀ s,(cO (f :: t) s).length≠0↔(cO (f2 :: t2) s).length≠0) (hs:∀ s,eQ g d (cO (f :: t) s)=eQ g d (cO (f2 :: t2) s)):eQ g (d+1) (f :: t)=eQ g (d+1) (f2 :: t2):=by
  rw [eQ,eQ,hh,listP_ext (r:=f :: t) (r2:=f2 :: t2) hn]
  refine congrArg (PN.mk _) (List.map_congr_left fun nm _=>?_)
  rw [hs]
theorem put_up {us gs:List PR} {x:PN}:∀ (ss:List ByteArray) (u:PN) (D:List PF) (f:PF) (t:List PF),ss.foldl cO ((u,0) :: D)=f :: t→0<f.2→cT true us gs (jT f.1)=some x→pF false x u ss=0 →
    ss.foldl cO ((pN false x u ss,0) :: D)=(x,0) :: (if f.1.h.kind=1 then [] else f :: t)∧(∀ d,eQ (gP us gs) d ((pN false x u ss,0) :: D)=eQ (gP us gs) d ((u,0) :: D))∧∀ s,(cO ((pN false x u ss,0) :: D) s).length≠0↔(cO ((u,0) :: D) s).length≠0∨ss.head?=some s
  | [],u,D,f,t,_,_,_,h=>by simp [pF] at h
  | [s],u,D,f,t,hw,hf,hm,hp=>by
    obtain⟨hx1,hx2,hx3,hx4⟩:=moved_in hm
    rw [pF] at hp
    have hk:u.h.kind=2:=by
      by_cases hk:u.h.kind=2
      · exact hk
      · rw [if_neg hk] at hp;omega
    rw [List.foldl_cons,List.foldl_nil] at hw
    have hno:dV u.ks s=none:=by
      cases hl:dV u.ks s with
      | none=>rfl
      | some m =>
        rw [kC hk hl] at hw
        obtain⟨_,X,hX⟩:=iJ hw
        injection hX with h1 h2
        rw [←h1] at hf;simp at hf
    have hst:=qY (lay:=0) (D:=D) hk hno
    rw [hw] at hst
    have hkd:=(iJ hst.symm).1
    have hnew:cO ((pN false x u [s],0) :: D) s=(x,0) :: (if f.1.h.kind=1 then [] else f :: t):=by
      rw [pN,kC (m:=x) (by exact hk) (by rw [PN.ks_mk,look_edit])]
      by_cases h1:f.1.h.kind=1
      · rw [if_pos h1,kN (by show x.h.kind=1;omega)]
      · have h2:f.1.h.kind=2:=by
          rcases hkd with ⟨h,_⟩|h
          · exact absurd h h1
          · exact h
        rw [if_neg h1,fY (by show ¬x.h.kind=1;omega),dI,if_pos (by show x.h.kind=2;omega),if_neg (by show ¬x.h.opq=true;rw [hx3];decide)]
        congr 1
        obtain⟨_,X,hX⟩:=iJ hst.symm
        rw [hX] at hst ⊢
        rw [fY h1] at hst
        exact hst.symm
    have hoth:∀ s',¬s=s'→cO ((pN false x u [s],0) :: D) s'=cO ((u,0) :: D) s':=fun s' hs=>by
      have:dV (pN false x u [s]).ks s'=dV u.ks s':=by rw [pN,PN.ks_mk,xR hs]
      cases hl:dV u.ks s' with
      | none=>rw [qY (by exact hk) (by rw [this,hl]),qY hk hl]
      | some m=>rw [kC (m:=m) (by exact hk) (by rw [this,hl]),kC hk hl]
    have hmem:∀ s',(cO ((pN false x u [s],0) :: D) s').length≠0↔(cO ((u,0) :: D) s').length≠0:=fun s'=>by
      by_cases hs:s=s'
      · subst hs;rw [hnew,hw];simp
      · rw [hoth s' hs]
    refine⟨?_,fun d=>?_,fun s'=>?_⟩
    · rw [List.foldl_cons,List.foldl_nil,hnew]
    · cases d with
      | zero=>rfl
      | succ d =>
        refine flat_alike (by rw [show (pN false x u [s]).h=u.h from pN_h]) hmem fun s'=>?_
        by_cases hs:s=s'
        · subst hs
          rw [hnew,hw]
          refine flat_same (by rw [hx4,gP_low hf]) (fun r=>?_) d
          by_cases h1:f.1.h.kind=1
          · rw [if_pos h1,rA (by show x.h.kind=1;omega)]
            rcases hkd with ⟨_,rfl⟩|h
            · rw [rA h1]
            · omega
          · rw [if_neg h1,step_bare hx1]
        · rw [hoth s' hs]
    · rw [hmem s']
      constructor
      · exact .inl
      · rintro (h|h)
        · exact h
        · simp at h;subst h;rw [hw];simp
  | s :: s2 :: l,u,D,f,t,hw,hf,hm,hp=>by
    obtain⟨hk,m,hlm,hp2⟩:=vN.1 hp
    have hmk:m.h.kind=2:=by
      cases l with
      | nil =>
        rw [pF] at hp2
        by_cases h:m.h.kind=2
        · exact h
        · rw [if_neg h] at hp2;omega
      | cons s3 l=>exact(vN.1 hp2).1
    have e0:cO ((u,0) :: D) s=(m,0) :: (if m.h.opq=true then [] else dI (D.filterMap (gU s))):=by
      rw [kC hk hlm,fY (by show ¬m.h.kind=1;omega),dI,if_pos (by exact hmk)]
      split
      · rfl
      · rfl
    rw [List.foldl_cons,e0] at hw
    obtain⟨r1,r2,r3⟩:=put_up (s2 :: l) m _ f t hw hf hm hp2
    have hmh:(pN false x m (s2 :: l)).h=m.h:=pN_h
    have e1:cO ((pN false x u (s :: s2 :: l),0) :: D) s=(pN false x m (s2 :: l),0) :: (if m.h.opq=true then [] else dI (D.filterMap (gU s))):=by
      rw [vD hlm,kC (m:=pN false x m (s2 :: l)) (by exact hk) (by rw [PN.ks_mk,look_edit]),fY (by show ¬(pN false x m (s2 :: l)).h.kind=1;rw [hmh];omega),dI,if_pos (by show (pN false x m (s2 :: l)).h.kind=2;rw [hmh];exact hmk)]
      show (if (pN false x m (s2 :: l)).h.opq=true then _ else _)=_
      rw [hmh]
      split
      · rfl
      · rfl
    have hoth:∀ s',¬s=s'→cO ((pN false x u (s :: s2 :: l),0) :: D) s'=cO ((u,0) :: D) s':=fun s' hs=>by
      have:dV (pN false x u (s :: s2 :: l)).ks s'=dV u.ks s':=by rw [vD hlm,PN.ks_mk,xR hs]
      have hk2:(pN false x u (s :: s2 :: l)).h.kind=2:=by rw [pN_h];exact hk
      cases hl:dV u.ks s' with
      | none=>rw [qY hk2 (by rw [this,hl]),qY hk hl]
      | some m=>rw [kC (m:=m) hk2 (by rw [this,hl]),kC hk hl]
    have hmem:∀ s',(cO ((pN false x u (s :: s2 :: l),0) :: D) s').length≠0↔(cO ((u,0) :: D) s').length≠0:=fun s'=>by
      by_cases hs:s=s'
      · subst hs;rw [e0,e1];simp
      · rw [hoth s' hs]
    refine⟨?_,fun d=>?_,fun s'=>?_⟩
    · rw [List.foldl_cons,e1];exact r1
    · cases d with
      | zero=>rfl
      | succ d =>
        refine flat_alike (by rw [show (pN false x u (s :: s2 :: l)).h=u.h from pN_h]) hmem fun s'=>?_
        by_cases hs:s=s'
        · subst hs
          rw [e0,e1];exact r2 d
        · rw [hoth s' hs]
    · rw [hmem s']
      constructor
      · exact .inl
      · rintro (h|h)
        · exact h
        · simp at h;subst h;rw [e0];simp
theorem iG {u:PN} {l:List PN} (h:u.h.kind=2):jE (u :: l)=(u,0) :: (if u.h.opq=true then [] else dI (iA 1 l)):=by
  unfold jE
  rw [iA,fY (by show ¬u.h.kind=1;omega),dI,if_pos (by exact h)]
  split
  · rfl
  · rfl
theorem walk_prefix {l:List PN} {ss:List ByteArray} (h:bY l ss≠[]) (i:Nat):bY l (ss.take i)≠[]:=by
  intro e
  apply h
  unfold bY at e ⊢
  rw [←List.take_append_drop i ss,List.foldl_append,e]
  exact xZ _
theorem shown_lay {X:List PF} (h:∀ f∈X,0≤f.2):∀ f∈dJ X,0≤f.2:=fun f hf=>h f (gO hf)
theorem step_lay {r:List PF} {s:ByteArray} (h:∀ f∈r,0≤f.2):∀ f∈cO r s,0≤f.2:=fun f hf=>by
  obtain⟨g,hg,hgf⟩:=List.mem_filterMap.1 (gO hf)
  unfold gU at hgf
  split at hgf
  · cases h2:dV g.1.ks s with
    | none=>rw [h2] at hgf;cases hgf
    | some x=>rw [h2] at hgf;cases hgf;exact h g hg
  · cases hgf
theorem lay_ge0:∀ (l:List PN) (i:Int),0≤i→∀ f∈iA i l,0≤f.2
  | [],_,_,_,h=>by cases h
  | n :: l,i,hi,f,h=>by
    rw [iA] at h
    rcases List.mem_cons.1 h with rfl|h
    · exact hi
    · exact lay_ge0 l (i+1) (by omega) f h
theorem walk_lay (l:List PN) (ss:List ByteArray):∀ f∈bY l ss,0≤f.2:=by
  have key:∀ (ss:List ByteArray) (a:List PF),(∀ f∈a,0≤f.2)→∀ f∈ss.foldl cO a,0≤f.2:=fun ss=>by
    induction ss with
    | nil=>intro a ha;exact ha
    | cons s ss ih=>intro a ha;exact ih _ (step_lay ha)
  exact key ss _ (shown_lay (lay_ge0 l 0 (Int.le_refl _)))
structure UpI (us gs:List PR) (n0:PN) (t:List PN) (ss:List ByteArray) (i:Nat) (u:PN):Prop where
  k:u.h.kind=2
  w:∃ f r,bY (u :: t) (ss.take i)=f :: r∧f.2=0
  s:∀ s,cO (bY (u :: t) (ss.take i)) s=cO (bY (n0 :: t) (ss.take i)) s
  fl:∀ d,eQ (gP us gs) d (jE (u :: t))=eQ (gP us gs) d (jE (n0 :: t))
theorem upI {us gs:List PR} {n0:PN} {t:List PN} {ss:List ByteArray} (hk:n0.h.kind=2) (hw:bY (n0 :: t) ss≠[]):∀ i,i≤ss.length→(upK (n0 :: t) us gs ss n0 i).2=0→UpI us gs n0 t ss i (upK (n0 :: t) us gs ss n0 i).1
  | 0,_,_=>⟨hk,⟨_,_,iG hk,rfl⟩,fun _=>rfl,fun _=>rfl⟩
  | i+1,hi,h=>by
    have hprev:(upK (n0 :: t) us gs ss n0 i).2=0:=by
      by_cases hp:(upK (n0 :: t) us gs ss n0 i).2=0
      · exact hp
      · rw [upK,if_neg hp] at h;exact absurd h hp
    have ih:=upI hk hw i (by omega) hprev
    rw [sM hprev] at h ⊢
    generalize (upK (n0 :: t) us gs ss n0 i).1=u at *
    obtain⟨s,hs⟩:∃ s,ss[i]?=some s:=⟨_,List.getElem?_eq_getElem (by omega)⟩
    have e1:=nP (l:=u :: t) hs
    have e2:=nP (l:=n0 :: t) hs
    have e3:bY (u :: t) (ss.take (i+1))=bY (n0 :: t) (ss.take (i+1)):=by rw [e1,e2,ih.s s]
    cases hq:bY (n0 :: t) (ss.take (i+1)) with
    | nil=>exact absurd hq (walk_prefix hw (i+1))
    | cons f r =>
      have hf0:=walk_lay (n0 :: t) (ss.take (i+1)) f (by rw [hq];simp)
      by_cases hf:f.2=0
      · rw [lS hq hf] at h ⊢
        exact⟨ih.k,⟨f,r,by rw [e3,hq],hf⟩,fun s=>by rw [e3],ih.fl⟩
      · cases hm:cT true us gs (jT f.1) with
        | none=>rw [oK hq hf hm] at h;simp at h
        | some x =>
          by_cases hp:pF false x u (ss.take (i+1))=0
          · rw [lZ hq hf hm hp]
            have hr:=iG (l:=t) ih.k
            have hfold:(ss.take (i+1)).foldl cO ((u,0) :: (if u.h.opq=true then [] else dI (iA 1 t)))=f :: r:=by
              rw [←hr];exact e3.trans hq
            obtain⟨r1,r2,_⟩:=put_up _ u _ f r hfold (by omega) hm hp
            have hk2:(pN false x u (ss.take (i+1))).h.kind=2:=by rw [pN_h];exact ih.k
            have hr2:jE (pN false x u (ss.take (i+1)) :: t)=(pN false x u (ss.take (i+1)),0) :: (if u.h.opq=true then [] else dI (iA 1 t)):=by
              rw [iG hk2,pN_h]
            have hw2:bY (pN false x u (ss.take (i+1)) :: t) (ss.take (i+1))=(x,0) :: (if f.1.h.kind=1 then [] else f :: r):=by
              unfold bY;rw [hr2];exact r1
            obtain⟨hx1,hx2,hx3,hx4⟩:=moved_in hm
            refine⟨hk2,⟨_,_,hw2,rfl⟩,fun s'=>?_,fun d=>?_⟩
            · rw [hw2,hq]
              by_cases h1:f.1.h.kind=1
              · rw [if_pos h1,rA (by show x.h.kind=1;omega)]
                have hsh:bY (n0 :: t) (ss.take (i+1))=dJ ((bY (n0 :: t) (ss.take i)).filterMap (gU s)):=e2
                rw [hq] at hsh
                rcases (iJ hsh.symm).1 with ⟨_,rfl⟩|h2
                · rw [rA h1]
                · omega
              · rw [if_neg h1,step_bare hx1]
            · rw [hr2,r2 d,←hr];exact ih.fl d
          · rw [lQ hq hf hm hp] at h;exact absurd h hp
end
section
def nmP (h:Hd) (ks:PKs):Prop:=∀ k∈ks,eX k.1.toList=true
theorem names_ok {u:Bool}:∀ (n:PN) (d so:Nat),so≤60→(cH u d so n).2=0→cA nmP n:=by
  refine PN.ind (p:=fun n=>∀ (d so:Nat),so≤60→(cH u d so n).2=0→cA nmP n) ?_
  intro h ks ih d so hs hc
  obtain⟨⟨h1,_⟩,_,h3⟩:=rB.1 hc
  obtain⟨_,h4⟩:=tE (by omega) h3
  exact .mk (fun k hk=>(h4 k hk).2.1) fun k hk=>by
    obtain⟨so',hs',hc'⟩:=(h4 k hk).2.2
    exact ih k hk (d+1) so' hs' hc'
theorem tree_names {u:Bool} {n:PN} (h:dK u n=0):cA nmP n:=names_ok n 0 0 (by omega) (rU.1 h).2
theorem step_pos {r:List PF} {s:ByteArray} (h:∀ f∈r,0<f.2):∀ f∈r.filterMap (gU s),0<f.2:=fun f hf=>by
  obtain⟨g,hg,hgf⟩:=List.mem_filterMap.1 hf
  unfold gU at hgf
  split at hgf
  · cases h2:dV g.1.ks s with
    | none=>rw [h2] at hgf;cases hgf
    | some x=>rw [h2] at hgf;cases hgf;exact h g hg
  · cases hgf
theorem fold_pos:∀ (ss:List ByteArray) {r:List PF},(∀ f∈r,0<f.2)→∀ f∈ss.foldl cO r,0<f.2
  | [],_,h=>h
  | s :: ss,r,h=>by
    rw [List.foldl_cons]
    exact fold_pos ss fun f hf=>step_pos h f (gO hf)
theorem lay_pos:∀ (l:List PN) (i:Int),0<i→∀ f∈iA i l,0<f.2
  | [],_,_,_,h=>by cases h
  | n :: l,i,hi,f,h=>by
    rw [iA] at h
    rcases List.mem_cons.1 h with rfl|h
    · exact hi
    · exact lay_pos l (i+1) (by omega) f h
theorem wS (l:List PN):∀ ss:List ByteArray,∃ X,bY l ss=dJ X:=by
  have key:∀ (ss:List ByteArray) (a:List PF),(∃ X,a=dJ X)→∃ X,ss.foldl cO a=dJ X:=fun ss=>by
    induction ss with
    | nil=>intro a h;exact h
    | cons s ss ih=>intro a h;exact ih _ ⟨_,rfl⟩
  exact fun ss=>key ss _ ⟨_,rfl⟩
end
section
attribute [local irreducible] AtQ GoC GoL GoW QO QP Fn RV bX aL VLe cG bT
theorem two_c (V:aI) (n:Int) (hn:0≤n):Fn Tryz.prog 249 [.int .i64 n] V fun v _=>v=.string ⟨(b16 n).toArray⟩:=by
  (refine aH Tryz.func249 rfl Tryz.ntmps249 rfl ?_;intro w0)
  repeat' (first|(refine aE ?_;first|(refine cX ?_;(first|refine aR (q_shr8 rfl rfl hn) ?_|refine aR (q_shr rfl rfl (by omega)) ?_))|(refine gL ?_;(first|refine aR (jH (us:=b16 n) und_145 und_5 und_9 rfl (cZ bB rfl)) ?_|refine aR (fS und_3 und_5 rfl) ?_))|(refine cJ ?_;(refine aP rfl und_145 siz_5 zec_5 rfl rfl rfl rfl rfl rfl rfl ?_;intro γ))|refine pu9 ?_)|refine bV ?_|fail)
  all_goals (refine aQ Tryz.results249 (aB rfl) ?_)
  all_goals rfl
theorem text_c (V:aI) (s:ByteArray) (hs:s.size≤100000000):Fn Tryz.prog 250 [.string s] V fun v _=>v=.string ⟨(nJ s).toArray⟩:=by
  (refine aH Tryz.func250 rfl Tryz.ntmps250 rfl ?_;intro w0)
  repeat' (first|(refine aE ?_;first|(refine gL ?_;(first|refine aR (jH (us:=[b8 (s.size:Int)]) und_145 und_5 und_9 rfl (cZ bB rfl)) ?_|refine aR (fS und_3 und_5 rfl) ?_))|(refine cJ ?_;(refine aP rfl und_145 siz_5 zec_5 rfl rfl rfl rfl rfl rfl rfl ?_;intro γ))|(refine cX ?_;(first|refine aR (q_sadds rfl rfl (by simp;omega)) ?_|refine aR (tX rfl rfl (by first|omega|(simp only [ByteArray.size_append,ByteArray.size_extract];omega)|fail)) ?_))|refine pu9 ?_)|refine bV ?_|fail)
  all_goals (refine aQ Tryz.results250 (aB rfl) ?_)
  all_goals rfl

theorem flag_t {h:Hd} (ho:h.opq=true):flagN h=h.kind+8:=if_pos ho
theorem flag_f {h:Hd} (ho:h.opq=false):flagN h=h.kind:=by unfold flagN;rw [if_neg (by rw [ho];decide)]
theorem lay_c (V:aI) (x:LN) (hx:aX V x) (p:Nat):∀ (V1:aI),VLe V V1→cA fitP x.n→∀ (l:List UInt8) (Bs:List Box),xC p l Bs→l.length+(qH x.n).length≤100000→FnB Tryz.prog 198 [.pointer (some ⟨p,0,none⟩),lnV x] V1 Bs fun v _ Bs'=>v=.tuple #[]∧xC p (l ++ qH x.n) Bs':=by
  refine aX.ind (C:=fun x=>∀ (V1:aI),VLe V V1→cA fitP x.n→∀ (l:List UInt8) (Bs:List Box),xC p l Bs→l.length+(qH x.n).length≤100000→FnB Tryz.prog 198 [.pointer (some ⟨p,0,none⟩),lnV x] V1 Bs fun v _ Bs'=>v=.tuple #[]∧xC p (l ++ qH x.n) Bs') ?_ hx
  intro x es ha hca hd hck hk hks ih V1 hV1 hfit l Bs hB hlen
  have hl:=hk.len
  have hm:=hk.max
  have hz:x.ks.length=x.nk:=by rw [hks,List.length_map,hl]
  obtain⟨f1,f2,f3,f4,f5,f6,f7,f8⟩:=hfit.here
  simp only [LN.n,PN.h_mk,PN.ks_mk] at f1 f2 f3 f4 f5 f6 f7 f8
  have hal:=ha.1.1
  have hP:qH x.n=rT x.h ++ lH x.h.attrs ++ (nJ x.h.data ++ [b8 (x.ks.length:Int)]) ++ oG x.ks:=layP_eq x.h x.ks
  have hPl:=congrArg List.length hP
  simp only [List.length_append,List.length_cons,List.length_nil,eK,gN] at hPl
  have hA0:=layA_le x.h.attrs
  have hK0:=layK_le x.ks
  (refine fn_enterH Tryz.func198 rfl Tryz.ntmps198 rfl ?_;intro w0 hfl0)
  repeat' (first|(refine aE ?_;first|(refine al9 ?_;intro γ)|refine pu9 ?_)|refine bV ?_|(refine bP rfl ?_ ?_<;>intro hq))
  all_goals
    have hflag:=(by first|exact flag_t hq|exact flag_f hq)
    refine gc_grow ([(0,.pointer (some ⟨p,0,none⟩)),(3,.pointer (some ⟨γ,0,none⟩)),(4,.int .i64 (flagN x.h))]) mixed (by repeat (first|exact List.forall_mem_nil _|refine List.forall_mem_cons.2 ⟨?_,?_⟩|exact rfl|(rw [hflag];exact rfl))) ?_;(apply cP (n:=0) [] rfl rfl rfl (by kernel_rfl);(focus (intro V' hV;refine cF ?_;intro K hK;refine aR (kV rfl) ?_;refine cW rfl ?_;exact cY hK rfl (VLe.refl _) rfl));(try dsimp only [List.cons_append,List.nil_append]));(apply cP (n:=1) [] rfl rfl rfl (by kernel_rfl);(focus (intro V' hV;refine cF ?_;intro K hK;refine aR (kV rfl) ?_;refine cW rfl ?_;exact cY hK rfl (VLe.refl _) rfl));(try dsimp only [List.cons_append,List.nil_append]));(apply cP (n:=2) [1] rfl rfl rfl (by kernel_rfl);(focus (intro V' hV;refine cQ (j:=1) (d:=16) rfl rfl ?_;refine cF ?_;intro K hK;(first|refine aR (fS und_3 und_5 rfl) ?_|refine aR (jH (us:=[_]) und_145 und_5 und_9 rfl (xI (by assumption) rfl)) ?_);refine cW rfl ?_;exact cY hK rfl (VLe.refl _) rfl));(try dsimp only [List.cons_append,List.nil_append]));(apply grow_new (n:=3) [2] rfl rfl rfl (by kernel_rfl);(focus (intro V' hV;refine cQ (j:=2) (d:=17) rfl rfl ?_;refine cF ?_;intro K hK;(refine pT rfl hfl0 und_145 siz_5 zec_5 rfl rfl rfl rfl rfl rfl rfl ?_;intro γ V2 hV2 hg2);refine cW rfl ?_;exact cY hK rfl hV2 ⟨_,rfl,hg2⟩));(try dsimp only [List.cons_append,List.nil_append]));(apply cP (n:=4) [3] rfl rfl rfl (by kernel_rfl);(focus (intro V' hV;refine deps_new (j:=3) (d:=18) rfl rfl ?_;intro g3 hg3;refine cF ?_;intro K hK;(first|refine aR (fS und_3 und_5 rfl) ?_|refine aR (jH (us:=[_]) und_145 und_5 und_9 rfl (xI (by assumption) rfl)) ?_);refine cW rfl ?_;exact cY hK rfl (VLe.refl _) rfl));(try dsimp only [List.cons_append,List.nil_append]));(apply cP (n:=5) [] rfl rfl rfl (by kernel_rfl);(focus (intro V' hV;refine cF ?_;intro K hK;refine aR (eE fld_70_1 rfl) ?_;refine cW rfl ?_;exact cY hK rfl (VLe.refl _) rfl));(try dsimp only [List.cons_append,List.nil_append]));(apply cP (n:=6) [5] rfl rfl rfl (by kernel_rfl);(focus (intro V' hV;refine cQ (j:=5) (d:=20) rfl rfl ?_;refine cF ?_;intro K hK;(first|refine aR (bE one_3 rfl bB (by exact rfl)) ?_|refine aR (bE one_3 rfl bB (by assumption)) ?_|refine aR (cI one_3 rfl (by assumption)) ?_);refine cW rfl ?_;exact cY hK rfl (VLe.refl _) rfl));(try dsimp only [List.cons_append,List.nil_append]));(apply cP (n:=7) [6] rfl rfl rfl (by kernel_rfl);(focus (intro V' hV;refine cQ (j:=6) (d:=21) rfl rfl ?_;refine cF ?_;intro K hK;refine aN rfl (aG ⟨Tryz.call249⟩ rfl (two_c _ _ (by omega))) ?_;refine cW rfl ?_;exact cY hK rfl (VLe.refl _) rfl));(try dsimp only [List.cons_append,List.nil_append]));(apply cP (n:=8) [4,7] rfl rfl rfl (by kernel_rfl);(focus (intro V' hV;refine cQ (j:=4) (d:=19) rfl rfl ?_;refine cQ (j:=7) (d:=22) rfl rfl ?_;refine cF ?_;intro K hK;(first|refine aR (jU rfl rfl (by simp [b16])) ?_|refine aR (tX rfl rfl (by first|omega|(simp only [ByteArray.size_append,ByteArray.size_extract];omega)|fail)) ?_);refine cW rfl ?_;exact cY hK rfl (VLe.refl _) rfl));(try dsimp only [List.cons_append,List.nil_append]));(apply cP (n:=9) [] rfl rfl rfl (by kernel_rfl);(focus (intro V' hV;refine cF ?_;intro K hK;refine aR (eE fld_70_2 rfl) ?_;refine cW rfl ?_;exact cY hK rfl (VLe.refl _) rfl));(try dsimp only [List.cons_append,List.nil_append]));(apply cP (n:=10) [9] rfl rfl rfl (by kernel_rfl);(focus (intro V' hV;refine cQ (j:=9) (d:=24) rfl rfl ?_;refine cF ?_;intro K hK;(first|refine aR (bE one_3 rfl bB (by exact rfl)) ?_|refine aR (bE one_3 rfl bB (by assumption)) ?_|refine aR (cI one_3 rfl (by assumption)) ?_);refine cW rfl ?_;exact cY hK rfl (VLe.refl _) rfl));(try dsimp only [List.cons_append,List.nil_append]));(apply cP (n:=11) [10] rfl rfl rfl (by kernel_rfl);(focus (intro V' hV;refine cQ (j:=10) (d:=25) rfl rfl ?_;refine cF ?_;intro K hK;refine aN rfl (aG ⟨Tryz.call249⟩ rfl (two_c _ _ (by omega))) ?_;refine cW rfl ?_;exact cY hK rfl (VLe.refl _) rfl));(try dsimp only [List.cons_append,List.nil_append]));(apply cP (n:=12) [8,11] rfl rfl rfl (by kernel_rfl);(focus (intro V' hV;refine cQ (j:=8) (d:=23) rfl rfl ?_;refine cQ (j:=11) (d:=26) rfl rfl ?_;refine cF ?_;intro K hK;(first|refine aR (jU rfl rfl (by simp [b16])) ?_|refine aR (tX rfl rfl (by first|omega|(simp only [ByteArray.size_append,ByteArray.size_extract];omega)|fail)) ?_);refine cW rfl ?_;exact cY hK rfl (VLe.refl _) rfl));(try dsimp only [List.cons_append,List.nil_append]));(apply cP (n:=13) [] rfl rfl rfl (by kernel_rfl);(focus (intro V' hV;refine cF ?_;intro K hK;refine aR (eE fld_70_3 rfl) ?_;refine cW rfl ?_;exact cY hK rfl (VLe.refl _) rfl));(try dsimp only [List.cons_append,List.nil_append]));(apply cP (n:=14) [13] rfl rfl rfl (by kernel_rfl);(focus (intro V' hV;refine cQ (j:=13) (d:=28) rfl rfl ?_;refine cF ?_;intro K hK;(first|refine aR (bE one_3 rfl bB (by exact rfl)) ?_|refine aR (bE one_3 rfl bB (by assumption)) ?_|refine aR (cI one_3 rfl (by assumption)) ?_);refine cW rfl ?_;exact cY hK rfl (VLe.refl _) rfl));(try dsimp only [List.cons_append,List.nil_append]));(apply cP (n:=15) [14] rfl rfl rfl (by kernel_rfl);(focus (intro V' hV;refine cQ (j:=14) (d:=29) rfl rfl ?_;refine cF ?_;intro K hK;refine aN rfl (aG ⟨Tryz.call249⟩ rfl (two_c _ _ (by omega))) ?_;refine cW rfl ?_;exact cY hK rfl (VLe.refl _) rfl));(try dsimp only [List.cons_append,List.nil_append]));(apply cP (n:=16) [12,15] rfl rfl rfl (by kernel_rfl);(focus (intro V' hV;refine cQ (j:=12) (d:=27) rfl rfl ?_;refine cQ (j:=15) (d:=30) rfl rfl ?_;refine cF ?_;intro K hK;(first|refine aR (jU rfl rfl (by simp [b16])) ?_|refine aR (tX rfl rfl (by first|omega|(simp only [ByteArray.size_append,ByteArray.size_extract];omega)|fail)) ?_);refine cW rfl ?_;exact cY hK rfl (VLe.refl _) rfl));(try dsimp only [List.cons_append,List.nil_append]));(apply cP (n:=17) [] rfl rfl rfl (by kernel_rfl);(focus (intro V' hV;refine cF ?_;intro K hK;refine aR (eE fld_70_5 rfl) ?_;refine cW rfl ?_;exact cY hK rfl (VLe.refl _) rfl));(try dsimp only [List.cons_append,List.nil_append]));(apply cP (n:=18) [17] rfl rfl rfl (by kernel_rfl);(focus (intro V' hV;refine cQ (j:=17) (d:=32) rfl rfl ?_;refine cF ?_;intro K hK;(first|refine aR (bE one_67 rfl bB (by exact rfl)) ?_|refine aR (bE one_67 rfl bB (by assumption)) ?_|refine aR (cI one_67 rfl (by assumption)) ?_);refine cW rfl ?_;exact cY hK rfl (VLe.refl _) rfl));(try dsimp only [List.cons_append,List.nil_append]));(apply cP (n:=19) [18] rfl rfl rfl (by kernel_rfl);(focus (intro V' hV;refine cQ (j:=18) (d:=33) rfl rfl ?_;refine cF ?_;intro K hK;refine aR (wF rfl und_67 rfl) ?_;refine cW rfl ?_;exact cY hK rfl (VLe.refl _) rfl));(try dsimp only [List.cons_append,List.nil_append]));(apply cP (n:=20) [19] rfl rfl rfl (by kernel_rfl);(focus (intro V' hV;refine cQ (j:=19) (d:=34) rfl rfl ?_;refine cF ?_;intro K hK;(first|refine aR (fS und_3 und_5 rfl) ?_|refine aR (jH (us:=[_]) und_145 und_5 und_9 rfl (xI (by assumption) rfl)) ?_);refine cW rfl ?_;exact cY hK rfl (VLe.refl _) rfl));(try dsimp only [List.cons_append,List.nil_append]));(apply grow_new (n:=21) [20] rfl rfl rfl (by kernel_rfl);(focus (intro V' hV;refine cQ (j:=20) (d:=35) rfl rfl ?_;refine cF ?_;intro K hK;(refine pT rfl hfl0 und_145 siz_5 zec_5 rfl rfl rfl rfl rfl rfl rfl ?_;intro γ V2 hV2 hg2);refine cW rfl ?_;exact cY hK rfl hV2 ⟨_,rfl,hg2⟩));(try dsimp only [List.cons_append,List.nil_append]));(apply cP (n:=22) [21] rfl rfl rfl (by kernel_rfl);(focus (intro V' hV;refine deps_new (j:=21) (d:=36) rfl rfl ?_;intro g21 hg21;refine cF ?_;intro K hK;(first|refine aR (fS und_3 und_5 rfl) ?_|refine aR (jH (us:=[_]) und_145 und_5 und_9 rfl (xI (by assumption) rfl)) ?_);refine cW rfl ?_;exact cY hK rfl (VLe.refl _) rfl));(try dsimp only [List.cons_append,List.nil_append]));(apply cP (n:=23) [16,22] rfl rfl rfl (by kernel_rfl);(focus (intro V' hV;refine cQ (j:=16) (d:=31) rfl rfl ?_;refine cQ (j:=22) (d:=37) rfl rfl ?_;refine cF ?_;intro K hK;(first|refine aR (jU rfl rfl (by simp [b16])) ?_|refine aR (tX rfl rfl (by first|omega|(simp only [ByteArray.size_append,ByteArray.size_extract];omega)|fail)) ?_);refine cW rfl ?_;exact cY hK rfl (VLe.refl _) rfl));(try dsimp only [List.cons_append,List.nil_append]));refine grow_last (n:=24) [0,23] rfl rfl rfl rfl (by kernel_rfl) (by kernel_rfl) (by kernel_rfl) ?_;intro VG hVG;refine cQ (j:=0) (d:=15) rfl rfl ?_;refine cQ (j:=23) (d:=38) rfl rfl ?_;refine cF ?_
    repeat' (first|(refine aE ?_;first|(refine aD ?_;(refine aW rfl ⟨Tryz.call248⟩ rfl bF rfl (jQ _ p l Bs hB _ (by rw [nH];simp [b16];omega)) ?_;rintro v V2 B2 hV2 ⟨rfl,hB2⟩;rw [mF] at hB2))|refine pu9 ?_)|refine bW ?_|fail)
    refine bQ (fun F V' L' m=>∃ (k:Nat) (Bk:List Box),VLe V1 V'∧(⟨γ,70,lnC x⟩ :: Bk:List Box)=L'∧xC p (l ++ (rT x.h ++ lH (x.h.attrs.take k))) Bk∧k≤x.na∧m=x.na - k∧F=[(0,.pointer (some ⟨p,0,none⟩)),(3,.pointer (some ⟨γ,0,none⟩)),(41,.slice x.A x.na x.ca),(42,.int .i64 x.na),(43,.int .i64 k)]) (m:=x.na) ⟨0,B2,vl9,rfl,?_,by omega,rfl,rfl⟩ bH rfl sl9 ?_
    · rw [←hal] at hB2
      have e:([b8 (flagN x.h)] ++ b16 x.h.mode ++ b16 x.h.user ++ b16 x.h.group ++ [b8 (x.h.attrs.length:Int)]:List UInt8)=rT x.h ++ lH (x.h.attrs.take 0):=by simp [rT,lH]
      rw [←e];exact hB2
    rintro F V' L' m ⟨k,Bk,hV',rfl,hBk,hkn,rfl,rfl⟩
    by_cases hlt:k<x.na
    · obtain⟨b1,o1,a,hA1,ha1,hc1,_⟩:=(ha.le (hV1.trans hV')).at_ hlt
      have hfa:=f5.2 a (List.mem_of_getElem? ha1)
      have hA2:=hA0 (k+1)
      have hA3:=layA_take ha1
      have hA4:=congrArg List.length hA3
      simp only [List.length_append,eK] at hA4
      repeat' (first|(refine aE ?_;first|refine st9 ?_|(refine al9 ?_;intro γ)|refine pu9 ?_)|refine bW ?_|(refine aA rfl ?_ ?_<;>intro hq<;>try exact no9))
      refine bM (id:=8) _ mixed (List.Sublist.cons_cons _ (List.Sublist.cons_cons _ (List.nil_sublist _))) ?_;refine gt9 0 ?_;refine gt9 1 ?_;refine gt9 2 ?_;refine gt9 4 ?_;refine gt9 5 ?_;refine aY (i:=3) rfl ?_;refine aN rfl (aG ⟨Tryz.call250⟩ rfl (text_c _ a.n (by omega))) ?_;refine aY (i:=6) rfl ?_;refine aN rfl (aG ⟨Tryz.call250⟩ rfl (text_c _ a.v (by omega))) ?_;refine fP 7 rfl rfl (jU rfl rfl (by simp only [eK];omega)) ?_;refine aY (i:=8) rfl ?_;(refine aW rfl ⟨Tryz.call248⟩ rfl bF rfl (jQ _ p _ Bk hBk _ (by rw [nH];simp only [List.length_append,eK,gN];omega)) ?_;rintro v V3 B3 hV3 ⟨rfl,hB3⟩;rw [mF] at hB3);refine aU (by kernel_rfl) vl9 vl9 bD ?_
      all_goals
        repeat' (first|(refine aE ?_;refine pu9 ?_)|refine bV ?_|fail)
      all_goals
        refine aZ _ (x.na - (k+1)) ⟨k+1,B3,vl9,rfl,?_,by omega,rfl,rfl⟩ (by omega) bH sl9
        rw [hA3,←List.append_assoc (rT x.h),←List.append_assoc l]
        exact hB3
    · obtain rfl:k=x.na:=by omega
      rw [←hal,List.take_length] at hBk
      repeat' (first|(refine aE ?_;refine pu9 ?_)|refine dR ?_|(refine aA rfl ?_ ?_<;>intro hq<;>try exact no9))
      refine bM (id:=10) _ mixed (List.Sublist.cons_cons _ (List.nil_sublist _)) ?_;refine gt9 0 ?_;refine gt9 1 ?_;refine gt9 2 ?_;refine gt9 4 ?_;refine gt9 5 ?_;refine gt9 6 ?_;refine fP 7 rfl rfl (fS und_3 und_5 rfl) ?_;(refine dF (i:=3) (j:=8) (by kernel_rfl) rfl rfl rfl rfl vl9 vl9 bD ?_ ?_<;>first|(refine aN rfl (aG ⟨Tryz.call250⟩ rfl (text_c _ x.h.data (by omega))) ?_;refine aY (i:=8) rfl ?_;(refine aP rfl und_145 siz_5 zec_5 rfl rfl rfl rfl rfl rfl rfl ?_;intro γ);refine aY (i:=9) rfl ?_;refine aR (jH (us:=[b8 (x.nk:Int)]) und_145 und_5 und_9 rfl (cZ bB rfl)) ?_;refine fP 10 rfl rfl (jU rfl rfl (by simp only [eK,List.length_cons,List.length_nil];omega)) ?_;refine aY (i:=11) rfl ?_;(refine aW rfl ⟨Tryz.call248⟩ rfl bF rfl (jQ _ p _ Bk hBk _ (by rw [nH];simp only [List.length_append,eK,gN,List.length_cons,List.length_nil];omega)) ?_;rintro v V3 B3 hV3 ⟨rfl,hB3⟩;rw [mF] at hB3);refine aU (by kernel_rfl) vl9 vl9 bD ?_)|((refine aP rfl und_145 siz_5 zec_5 rfl rfl rfl rfl rfl rfl rfl ?_;intro γ);(refine dF (i:=3) (j:=9) (by kernel_rfl) rfl rfl rfl rfl vl9 vl9 bD ?_ ?_<;>first|(refine aN rfl (aG ⟨Tryz.call250⟩ rfl (text_c _ x.h.data (by omega))) ?_;refine aY (i:=9) rfl ?_;refine aR (jH (us:=[b8 (x.nk:Int)]) und_145 und_5 und_9 rfl (cZ bB rfl)) ?_;refine fP 10 rfl rfl (jU rfl rfl (by simp only [eK,List.length_cons,List.length_nil];omega)) ?_;refine aY (i:=11) rfl ?_;(refine aW rfl ⟨Tryz.call248⟩ rfl bF rfl (jQ _ p _ Bk hBk _ (by rw [nH];simp only [List.length_append,eK,gN,List.length_cons,List.length_nil];omega)) ?_;rintro v V3 B3 hV3 ⟨rfl,hB3⟩;rw [mF] at hB3);refine aU (by kernel_rfl) vl9 vl9 bD ?_)|(refine aR (jH (us:=[b8 (x.nk:Int)]) und_145 und_5 und_9 rfl (cZ bB rfl)) ?_;refine aY (i:=3) rfl ?_;refine aN rfl (aG ⟨Tryz.call250⟩ rfl (text_c _ x.h.data (by omega))) ?_;refine fP 10 rfl rfl (jU rfl rfl (by simp only [eK,List.length_cons,List.length_nil];omega)) ?_;refine aY (i:=11) rfl ?_;(refine aW rfl ⟨Tryz.call248⟩ rfl bF rfl (jQ _ p _ Bk hBk _ (by rw [nH];simp only [List.length_append,eK,gN,List.length_cons,List.length_nil];omega)) ?_;rintro v V3 B3 hV3 ⟨rfl,hB3⟩;rw [mF] at hB3);refine aU (by kernel_rfl) vl9 vl9 bD ?_))))
      all_goals
        repeat' (first|(refine aE ?_;refine pu9 ?_)|refine bW ?_|fail)
      all_goals
        refine bQ (fun F V' L' m=>∃ (k:Nat) (Bk:List Box),VLe V1 V'∧Bk=L'∧xC p (l ++ (rT x.h ++ lH x.h.attrs ++ (nJ x.h.data ++ [b8 (x.ks.length:Int)]) ++ oG (x.ks.take k))) Bk∧k≤x.nk∧m=x.nk - k∧F=[(0,.pointer (some ⟨p,0,none⟩)),(70,.slice x.K x.nk x.ck),(71,.int .i64 x.nk),(72,.int .i64 k)]) (m:=x.nk) ⟨0,B3,vl9,rfl,?_,by omega,rfl,rfl⟩ bH rfl sl9 ?_
        · rw [List.take_zero,oG,List.append_nil,hz,←List.append_assoc l];exact hB3
        rintro F V' L' m ⟨k,Bk,hV',rfl,hBk,hkn,rfl,rfl⟩
        by_cases hlt:k<x.nk
        · obtain⟨b1,o1,e,hK1,he,hem,hc,c0,c1,hms,hne⟩:=(hk.le (hV1.trans hV')).at_ hlt
          have hke:=mP hks he
          have hfk:=f8 _ (List.mem_of_getElem? hke)
          simp only [] at hfk
          have hK2:=hK0 (k+1)
          have hK3:=layK_take hke
          have hK4:=congrArg List.length hK3
          simp only [List.length_append,eK] at hK4
          repeat' (first|(refine aE ?_;first|(refine aD ?_;(first|refine aN rfl (aG ⟨Tryz.call250⟩ rfl (text_c _ e.nm (by omega))) ?_|(refine aW rfl ⟨Tryz.call248⟩ rfl bF rfl (jQ _ p _ Bk hBk _ (by rw [nH];simp only [List.length_append,eK,gN,List.length_cons,List.length_nil];omega)) ?_;rintro v V4 B4 hV4 ⟨rfl,hB4⟩;rw [mF] at hB4)|(refine aW rfl ⟨Tryz.call198⟩ rfl bF rfl (ih e hem _ (hV1.trans (hV'.trans hV4)) (hfit.kid (List.mem_of_getElem? hke)) _ B4 hB4 (by simp only [List.length_append,eK,gN,List.length_cons,List.length_nil];omega)) ?_;rintro v V5 B5 hV5 ⟨rfl,hB5⟩)))|refine st9 ?_|(refine al9 ?_;intro γ)|refine pu9 ?_)|refine bW ?_|(refine aA rfl ?_ ?_<;>intro hq<;>try exact no9))
          refine aZ _ (x.nk - (k+1)) ⟨k+1,B5,vl9,rfl,?_,by omega,rfl,rfl⟩ (by omega) bH sl9
          rw [hK3]
          simp only [List.append_assoc] at hB5 ⊢
          exact hB5
        · obtain rfl:k=x.nk:=by omega
          rw [List.take_of_length_le (by omega),←hP] at hBk
          repeat' (first|(refine aE ?_;refine pu9 ?_)|refine dR ?_|(refine aA rfl ?_ ?_<;>intro hq<;>try exact no9))
          (first|refine nB Tryz.results198  (List.Sublist.refl _) ?_|refine nC Tryz.results198 (List.Sublist.refl _) ?_)
          exact⟨rfl,hBk⟩
end
section
def iS (n:PN):List UInt8:=if dK true n=0 then qH n else []
theorem bytesP_len (n:PN):(iS n).length≤24000:=by
  unfold iS;split
  · rename_i h;exact(pK h).2
  · simp
def eF (n:PN):Int:=(((iS n).length:Int)+63) / 64
attribute [local irreducible] AtQ GoC GoL GoW QO QP Fn RV bX aL VLe cG bT
theorem Bytes_tc (V:aI) (x:LN) (hx:aX V x):Fn Tryz.prog 92 [lnV x] V fun v _=>v=.tuple #[.string ⟨(iS x.n).toArray⟩,bT (dK true x.n)]:=by
  have hC:=TCheck_c V x hx true
  have hft:dK true x.n=0→cA fitP x.n∧(qH x.n).length≤24000:=pK
  (refine aH Tryz.func92 rfl Tryz.ntmps92 rfl ?_;intro w0)
  repeat' (first|(refine aE ?_;first|(refine aD ?_;(first|refine aN rfl (aG ⟨Tryz.call65⟩ rfl (hC)) ?_|(refine aW rfl ⟨Tryz.call198⟩ rfl bF rfl (lay_c V x hx _ _ (VLe.refl _) (hft (Decidable.not_not.1 hq)).1 [] _ xC.nil (by have:=(hft (Decidable.not_not.1 hq)).2;simp;omega)) ?_;rintro v V2 B2 hV2 ⟨rfl,hB2⟩)|(refine aW rfl ⟨Tryz.call199⟩ rfl bF rfl (BString_c _ _ _ B2 hB2 (by have:=(hft (Decidable.not_not.1 hq)).2;simp;omega)) ?_;rintro v V3 B3 hV3 rfl)))|(refine al9 ?_;intro γ)|refine pu9 ?_)|refine bV ?_|(refine aA rfl ?_ ?_<;>intro hq<;>try exact no9))
  · (refine bA Tryz.results92 (aB rfl) (aB rfl) ?_)
    unfold iS;rw [if_neg hq]
  · (refine bA Tryz.results92 (aB rfl) (aB rfl) ?_)
    have hq:=Decidable.not_not.1 hq
    unfold iS;rw [if_pos hq,hq,dA];rfl
theorem TSize_c (V:aI) (x:LN) (hx:aX V x):Fn Tryz.prog 173 [lnV x] V fun v _=>v=.int .i64 ((iS x.n).length:Int):=by
  have hB:=Bytes_tc V x hx
  (refine aH Tryz.func173 rfl Tryz.ntmps173 rfl ?_;intro w0)
  repeat' (first|(refine aE ?_;first|(refine aD ?_;refine aN rfl (aG ⟨Tryz.call92⟩ rfl (hB)) ?_)|(refine al9 ?_;intro γ)|refine pu9 ?_)|refine bV ?_|fail)
  all_goals (refine aQ Tryz.results173 (aB rfl) ?_)
  all_goals rfl
theorem QBlocks_c (V:aI) (x:LN) (hx:aX V x):Fn Tryz.prog 77 [lnV x] V fun v _=>v=.int .i64 (eF x.n):=by
  have hB:=TSize_c V x hx
  have hl:=bytesP_len x.n
  (refine aH Tryz.func77 rfl Tryz.ntmps77 rfl ?_;intro w0)
  repeat' (first|(refine aE ?_;first|(refine aD ?_;refine aN rfl (aG ⟨Tryz.call173⟩ rfl (hB)) ?_)|(refine al9 ?_;intro γ)|refine pu9 ?_)|refine bV ?_|fail)
  all_goals (refine aQ Tryz.results77 (aB rfl) ?_)
  all_goals (unfold eF;refine congrArg _ ?_;omega)
end
section
structure BX where
  us:List PR
  gs:List PR
  c:CR
  q:Int
  ls:List PN
def pB (up:Bool) (us gs:List PR) (h:Hd):TH:=⟨decide (h.kind=2),h.mode,(if up=true then (jM us h.user).getD 65534 else if (eS us h.user).isSome=true then h.user else 65534),(if up=true then (jM gs h.group).getD 65534 else if (eS gs h.group).isSome=true then h.group else 65534),(if up=true then (jM us h.user).isSome && (jM gs h.group).isSome else (eS us h.user).isSome && (eS gs h.group).isSome)⟩
structure SP where
  is:Bool
  n:PN
  lay:Int
  th:TH
  par:TH
def fF (b:BX) (ss:List ByteArray) (par:TH):SP :=
  match bY b.ls ss with
  | []=>⟨false,pnZ,0,pB true b.us b.gs hZ,par⟩
  | f :: _=>⟨true,f.1,f.2,pB (decide (f.2=0)) b.us b.gs f.1.h,par⟩
def eN (b:BX) (ss:List ByteArray):Nat→SP×Int
  | 0=>(fF b [] thZ,0)
  | k+1=>if ¬(eN b ss k).2=0 then eN b ss k
    else if ¬(eN b ss k).1.n.h.kind=2 then ((eN b ss k).1,7)
    else if iL b.c (eN b ss k).1.th 1=false then ((eN b ss k).1,9)
    else if (fF b (ss.take (k+1)) (eN b ss k).1.th).is=false∧k+1<ss.length then ((eN b ss k).1,5)
    else (fF b (ss.take (k+1)) (eN b ss k).1.th,0)
def cC (b:BX) (ss:List ByteArray):SP×Int:=eN b ss ss.length
theorem xE {b:BX} {ss:List ByteArray} {k:Nat} (h:¬(eN b ss k).2=0):∀ d,eN b ss (k+d)=eN b ss k
  | 0=>rfl
  | d+1=>by
    have:=xE h d
    rw [←Nat.add_assoc,eN,this,if_pos h]
theorem mR (b:BX) (ss:List ByteArray):∀ k,0≤(eN b ss k).2∧(eN b ss k).2≤9
  | 0=>by simp [eN]
  | k+1=>by
    have:=mR b ss k
    rw [eN]
    (repeat' split)<;>first|exact this|(simp only [];omega)|simp
def cS (b:BX) (l:List UInt8):Int:=if ¬dY l=0 then dY l else if ¬(cC b (aK l)).2=0 then (cC b (aK l)).2 else if (cC b (aK l)).1.is=false then 5 else 0
def aV (b:BX) (l:List UInt8):SP:=(cC b (aK l)).1
def iZ (b:BX) (u:PN):BX×Int:=if ¬dK true u=0 then (b,dK true u) else if b.q<eF u then (b,12) else ({ b with ls:=u :: b.ls.tail },0)
def fV (b:BX) (ss:List ByteArray) (f:Hd→Hd):BX×Int :=
  if ¬(upP b.ls b.us b.gs ss).2=0 then (b,(upP b.ls b.us b.gs ss).2)
  else if ss=[] then iZ b (.mk (f (upP b.ls b.us b.gs ss).1.h) (upP b.ls b.us b.gs ss).1.ks)
  else if ¬pF false (.mk (f ((dN (upP b.ls b.us b.gs ss).1 ss).getD pnZ).h) ((dN (upP b.ls b.us b.gs ss).1 ss).getD pnZ).ks) (upP b.ls b.us b.gs ss).1 ss=0 then (b,pF false (.mk (f ((dN (upP b.ls b.us b.gs ss).1 ss).getD pnZ).h) ((dN (upP b.ls b.us b.gs ss).1 ss).getD pnZ).ks) (upP b.ls b.us b.gs ss).1 ss)
  else iZ b (pN false (.mk (f ((dN (upP b.ls b.us b.gs ss).1 ss).getD pnZ).h) ((dN (upP b.ls b.us b.gs ss).1 ss).getD pnZ).ks) (upP b.ls b.us b.gs ss).1 ss)
end
section
theorem vR (s:ByteArray) (i:Nat):s[i]?=s.toList[i]?:=by
  rw [Lib.toList_data]
  by_cases h:i<s.size
  · rw [getElem?_pos s i h,List.getElem?_eq_getElem (by exact h)];rfl
  · rw [getElem?_neg s i h,List.getElem?_eq_none (by simpa using h)]
theorem u8_47 {b:UInt8}:(b.toNat:Int)=47↔b=47:=by
  constructor
  · intro h;exact UInt8.toNat_inj.1 (by have:(47:UInt8).toNat=47:=rfl;omega)
  · rintro rfl;rfl
theorem sL {l m:List UInt8}:(⟨l.toArray⟩:ByteArray)=⟨m.toArray⟩↔l=m:=by
  constructor
  · intro h;have:=congrArg ByteArray.toList h;rwa [mF,mF] at this
  · rintro rfl;rfl
theorem ex_mid9 (l:List UInt8) (i j:Nat):(⟨l.toArray⟩:ByteArray).extract i j=⟨((l.drop i).take (j - i)).toArray⟩:=by
  rw [ba_is ((⟨l.toArray⟩:ByteArray).extract i j),Lib.toList_data]
  simp [ByteArray.data_extract]
section
variable {P : Program} {B : Base} {N : Nat} {F : List (Nat × Value)} {V : aI} {L : List Box}
variable {d : Option Tmp} {ty : TypeId} {pos : String} {af : Array Edge} {gd : Option (Nat × Bool)} {t : TypeId} {x : Operand}
theorem q_sslice_ld {lo:Operand} {l:List UInt8} {i:Nat} (hu:cM P t .string) (hx:evF F x=some (.string ⟨l.toArray⟩)) (hl:evF F lo=some (.int .i64 (i:Int))) (h2:i≤l.length):QP P B N V L ⟨d,.slice t x (some lo) none none,ty,pos,af,gd⟩ F (.string ⟨(l.drop i).toArray⟩):=by
  have:=lN (P:=P) (B:=B) (N:=N) (V:=V) (L:=L) (d:=d) (ty:=ty) (pos:=pos) (af:=af) (gd:=gd) hu hx hl (by rw [nH];exact h2)
  rw [ex_drop9] at this;exact this
theorem q_sslice_m {lo hi:Operand} {l:List UInt8} {i j:Nat} (hu:cM P t .string) (hx:evF F x=some (.string ⟨l.toArray⟩)) (hl:evF F lo=some (.int .i64 (i:Int))) (hh:evF F hi=some (.int .i64 (j:Int))) (h1:i≤j) (h2:j≤l.length):QP P B N V L ⟨d,.slice t x (some lo) (some hi) none,ty,pos,af,gd⟩ F (.string ⟨((l.drop i).take (j - i)).toArray⟩):=by
  have:=yC (P:=P) (B:=B) (N:=N) (V:=V) (L:=L) (d:=d) (ty:=ty) (pos:=pos) (af:=af) (gd:=gd) hu hx hl hh h1 (by rw [nH];exact h2)
  rw [ex_mid9] at this;exact this
end
def gV (l:List UInt8) (er:Value) (v:Value) (V':aI):Prop:=∃ (A:Option Addr) (n c:Nat),v=.tuple #[.slice A n c,er]∧bZ V' A n (aK l)∧n≤c
theorem pathF_root:dY [47]=0:=by unfold dY;rw [if_pos rfl]
theorem pathN_root:aK [47]=[]:=by unfold aK;rw [if_neg (fun h=>h.2 rfl)]
theorem pathF_bad {l:List UInt8} (h0:¬l=[47]) (h:l=[]∨¬l.head?=some 47∨79<l.length):dY l=4:=by unfold dY;rw [if_neg h0,if_pos h]
theorem sS {r:List UInt8} (h0:¬r=[]) (h2:r.length≤78) (h:xK (parts r)=false):dY (47 :: r)=4:=by
  unfold dY;rw [if_neg (by simpa using h0),if_neg (by simp;omega),if_pos (by show ¬xK (parts r)=true;rw [h];decide)]
theorem pathF_many {r:List UInt8} (h0:¬r=[]) (h2:r.length≤78) (h:xK (parts r)=true) (h6:6<(parts r).length):dY (47 :: r)=2:=by
  unfold dY;rw [if_neg (by simpa using h0),if_neg (by simp;omega),if_neg (by show ¬¬xK (parts r)=true;rw [h];decide)];exact if_pos h6
theorem pathF_ok {r:List UInt8} (h0:¬r=[]) (h2:r.length≤78) (h:xK (parts r)=true) (h6:¬6<(parts r).length):dY (47 :: r)=0:=by
  unfold dY;rw [if_neg (by simpa using h0),if_neg (by simp;omega),if_neg (by show ¬¬xK (parts r)=true;rw [h];decide)];exact if_neg h6
theorem pathN_no {l:List UInt8} (h:¬dY l=0):aK l=[]:=by unfold aK;rw [if_neg (fun hh=>h hh.1)]
theorem pathN_ok {r:List UInt8} (h0:¬r=[]) (h:dY (47 :: r)=0):aK (47 :: r)=baL (parts r):=by unfold aK;rw [if_pos ⟨h,by simpa using h0⟩];rfl
theorem mO (l:List UInt8):0≤dY l∧dY l≤7:=by unfold dY;(repeat' split)<;>omega
theorem allN_no {ps qs:List (List UInt8)} {p:List UInt8} (h:eX p=false):xK (ps ++ p :: qs)=false:=by
  unfold xK;rw [List.all_append,List.all_cons,h];simp
theorem rP {ps:List (List UInt8)} {p:List UInt8} (h1:xK ps=true) (h:eX p=true):xK (ps ++ [p])=true:=by
  unfold xK at *;rw [List.all_append,h1];simp [h]
theorem baL_snoc {ps:List (List UInt8)} {p:List UInt8}:(baL (ps ++ [p])).flatMap strC=(baL ps).flatMap strC ++ [.string ⟨p.toArray⟩]:=by
  unfold baL;simp
theorem gV.err {l:List UInt8} {V:aI} {er:Value} (h:¬dY l=0):gV l er (.tuple #[.slice none 0 0,er]) V:=⟨none,0,0,rfl,by rw [pathN_no h];exact bZ.nil,Nat.le_refl _⟩
theorem gV.root {V:aI} {er:Value}:gV [47] er (.tuple #[.slice none 0 0,er]) V:=⟨none,0,0,rfl,by rw [pathN_root];exact bZ.nil,Nat.le_refl _⟩
theorem gV.ok {r:List UInt8} {V:aI} {er:Value} {A:Option Addr} {n c:Nat} {ps:List (List UInt8)} (h0:¬r=[]) (h2:r.length≤78) (hp:parts r=ps) (h:xK ps=true) (h6:¬6<ps.length) (hc:eU V 1 A n ((baL ps).flatMap strC)) (hl:ps.length=n) (hnc:n≤c):gV (47 :: r) er (.tuple #[.slice A n c,er]) V:=by
  subst hp
  refine⟨A,n,c,rfl,?_,hnc⟩
  rw [pathN_ok h0 (pathF_ok h0 h2 h h6)]
  refine⟨eT.of_cells hc (fun _=>rfl) (by unfold baL;rw [List.length_map];exact hl) (by unfold maxLen;omega),fun s hs=>?_⟩
  obtain⟨p,hp,rfl⟩:=List.mem_map.1 hs
  have:=name_size (s:=⟨p.toArray⟩) (by rw [mF];exact List.all_eq_true.1 h p hp)
  unfold maxLen;omega
attribute [local irreducible] AtQ GoC GoL GoW QO QP Fn RV bX aL VLe cG bT
theorem yF (V:aI) (l:List UInt8) (hl:l.length≤1000000):Fn Tryz.prog 145 [.string ⟨l.toArray⟩] V (gV l (bT (dY l))):=by
  have hsz:=nH l
  by_cases hroot:l=[47]
  · subst hroot
    (refine aH Tryz.func145 rfl Tryz.ntmps145 rfl ?_;intro w0)
    repeat' (first|(refine aE ?_;refine pu9 ?_)|refine cD ?_|fail)
    all_goals first
      | (exfalso;exact hq rfl)
      | ((refine bA Tryz.results145 (aB rfl) (aB rfl) ?_);rw [pathF_root,dA];exact gV.root)
  by_cases hbad:l=[]∨¬l.head?=some 47∨79<l.length
  · have hf:=pathF_bad hroot hbad
    cases l with
    | nil =>
      (refine aH Tryz.func145 rfl Tryz.ntmps145 rfl ?_;intro w0)
      repeat' (first|(refine aE ?_;refine pu9 ?_)|refine cD ?_|fail)
      all_goals first
        | ((refine bA Tryz.results145 (aB rfl) (aB rfl) ?_);rw [hf,dU (by decide)];exact gV.err (by omega))
        | (exfalso;first|exact hq rfl|exact hroot (sL.1 hq))
    | cons a r =>
      have hc:(⟨(a :: r).toArray⟩:ByteArray)[((0:Int)).toNat]?=some a:=by rw [vR,mF];rfl
      have hb:¬a=47∨79<(a :: r).length:=by
        rcases hbad with h|h|h
        · cases h
        · left;rintro rfl;exact h rfl
        · exact .inr h
      (refine aH Tryz.func145 rfl Tryz.ntmps145 rfl ?_;intro w0)
      repeat' (first|(refine aE ?_;first|(refine mX ?_;refine aR (kF und_9 rfl rfl (by omega) (by assumption)) ?_)|refine pu9 ?_)|refine cD ?_|(refine aJ rfl rfl rfl ?_ ?_<;>intro hq<;>try exact no9)|(refine aA rfl ?_ ?_<;>intro hq<;>try exact no9))
      all_goals first
        | ((refine bA Tryz.results145 (aB rfl) (aB rfl) ?_);rw [hf,dU (by decide)];exact gV.err (by omega))
        | (exfalso;exact hroot ((sL (m:=[47])).1 hq))
        | (exfalso;rename_i hb1;have hb3:a=47:=u8_47.1 (by omega);rcases hb with hb|hb;exact hb hb3;rw [hsz] at hq;omega)
  obtain⟨r,rfl⟩:∃ r,l=47 :: r:=by
    cases l with
    | nil=>exact absurd (.inl rfl) hbad
    | cons a r =>
      refine⟨r,?_⟩
      by_cases ha:a=47
      · rw [ha]
      · exact absurd (.inr (.inl (by simpa using ha))) hbad
  have hr0:¬r=[]:=fun e=>hroot (by rw [e])
  have hr78:r.length≤78:=by
    refine Nat.not_lt.1 fun h=>hbad (.inr (.inr ?_));simp only [List.length_cons];omega
  have hc:(⟨(47 :: r).toArray⟩:ByteArray)[((0:Int)).toNat]?=some 47:=by rw [vR,mF];rfl
  (refine aH Tryz.func145 rfl Tryz.ntmps145 rfl ?_;intro w0)
  repeat' (first|(refine aE ?_;first|(refine mX ?_;refine aR (kF und_9 rfl rfl (by omega) (by assumption)) ?_)|(refine eG ?_;(first|refine aR (q_sslice_ld (i:=1) und_9 rfl rfl (by simp)) ?_|refine aR (lN und_9 rfl rfl (by omega)) ?_|refine aR (lX und_9 rfl rfl (by omega)) ?_))|refine pu9 ?_)|refine bW ?_|(refine aA rfl ?_ ?_<;>intro hq<;>try exact no9))
  · exfalso;exact hroot ((sL (m:=[47])).1 hq)
  all_goals first
    | (exfalso;rw [hsz] at hq;simp only [List.length_cons] at hq;omega)
    | exact no9
    | skip
  refine bQ (fun F V' L' m=>∃ (u:List UInt8) (ps:List (List UInt8)) (A:Option Addr) (n c:Nat) (LA:List Box),V=V'∧LA=L'∧cU A n c 9 1 ((baL ps).flatMap strC) LA∧ps.length=n∧parts r=ps ++ parts u∧xK ps=true∧n+u.length≤78∧m=u.length∧F=[(4,.slice A n c),(5,.string ⟨u.toArray⟩)]) (m:=r.length) ⟨r,[],none,0,0,[],rfl,rfl,cU.nil,rfl,rfl,rfl,by omega,rfl,rfl⟩ bH rfl sl9 ?_
  rintro F V' L' m ⟨u,ps,A,n,c,LA,rfl,rfl,hr,hn,hps,hall,hnu,rfl,rfl⟩
  have hcut:=SCut_c V u (by omega)
  unfold cutL at hcut
  by_cases h0:0≤Lib.indexByte u 47
  · obtain⟨g1,g2,g3⟩:=index_at h0
    rw [if_pos h0] at hcut
    have hpu:parts u=u.take (Lib.indexByte u 47).toNat :: parts (u.drop ((Lib.indexByte u 47).toNat+1)):=by
      conv=>lhs;rw [g2]
      exact parts_at g1
    rw [hpu] at hps
    have hN:=Name_c V ⟨(u.take (Lib.indexByte u 47).toNat).toArray⟩ (by rw [nH,List.length_take];omega)
    rw [mF] at hN
    have hdl:(u.drop ((Lib.indexByte u 47).toNat+1)).length<u.length:=by rw [List.length_drop];omega
    generalize u.take (Lib.indexByte u 47).toNat=one at *
    generalize u.drop ((Lib.indexByte u 47).toNat+1)=more at *
    repeat' (first|(refine aE ?_;first|(refine aD ?_;(first|refine aN rfl (aG ⟨Tryz.call229⟩ rfl (hcut)) ?_|refine aN rfl (aG ⟨Tryz.call225⟩ rfl (hN)) ?_|(refine aT rfl und_47 inf_9 rfl rfl rfl hr bF (cZ bB rfl) bG (by omega) rfl rfl ?_;intro A2 c2 L2 hr2)))|(refine cJ ?_;(refine aP rfl und_47 siz_9 zec_9 rfl rfl rfl rfl rfl rfl rfl ?_;intro γ))|refine pu9 ?_)|refine cV ?_|(refine bP rfl ?_ ?_<;>intro hq))
    · (refine bA Tryz.results145 (aB rfl) (aB rfl) ?_)
      have hf:=sS hr0 hr78 (by rw [hps];exact allN_no (pnot_t hq))
      rw [hf,dU (by decide)];exact gV.err (by omega)
    · refine aZ _ more.length ⟨more,ps ++ [one],A2,n+1,c2,L2,rfl,rfl,by rw [baL_snoc];exact hr2,by simp [hn],by rw [hps];simp,rP hall (pnot_f hq),by omega,rfl,rfl⟩ hdl bH sl9
  · rw [if_neg h0] at hcut
    have hpu:parts u=[u]:=parts_no (index_no (by omega))
    rw [hpu] at hps
    have hN:=Name_c V ⟨u.toArray⟩ (by rw [nH];omega)
    rw [mF] at hN
    repeat' (first|(refine aE ?_;first|(refine aD ?_;(first|refine aN rfl (aG ⟨Tryz.call229⟩ rfl (hcut)) ?_|refine aN rfl (aG ⟨Tryz.call225⟩ rfl (hN)) ?_|(refine aT rfl und_47 inf_9 rfl rfl rfl hr bF (cZ bB rfl) bG (by omega) rfl rfl ?_;intro A2 c2 L2 hr2;have hcap:=hr2.cap)))|(refine cJ ?_;(refine aP rfl und_47 siz_9 zec_9 rfl rfl rfl rfl rfl rfl rfl ?_;intro γ))|refine pu9 ?_)|refine dQ ?_|(refine aA rfl ?_ ?_<;>intro hq<;>try exact no9)|(refine bP rfl ?_ ?_<;>intro hq))
    · (refine bA Tryz.results145 (aB rfl) (aB rfl) ?_)
      have hf:=sS hr0 hr78 (by rw [hps];exact allN_no (pnot_t hq))
      rw [hf,dU (by decide)];exact gV.err (by omega)
    · (refine bA Tryz.results145 (aB rfl) (aB rfl) ?_)
      rename_i hnm
      have hf:=pathF_many hr0 hr78 (by rw [hps];exact rP hall (pnot_f hnm)) (by rw [hps];simp;omega)
      rw [hf,dU (by decide)];exact gV.err (by omega)
    · rename_i hnm
      refine eA hr2 bF ?_
      intro V2 hV2 hc2
      (refine bA Tryz.results145 (aB rfl) (aB rfl) ?_)
      have h6:¬6<(ps ++ [u]).length:=by simp;omega
      have hall2:=rP hall (pnot_f hnm)
      rw [pathF_ok hr0 hr78 (by rw [hps];exact hall2) (by rw [hps];exact h6),dA]
      exact gV.ok hr0 hr78 hps hall2 h6 (by rw [baL_snoc];exact hc2) (by simp [hn]) hcap
end
section
theorem spl_get:∀ (vs cs:List Value) (i j:Nat),i+vs.length≤cs.length→(spl cs i vs)[j]?=if i≤j∧j<i+vs.length then vs[j - i]? else cs[j]?
  | [],cs,i,j,_=>by
    rw [if_neg (by simp)];rfl
  | v :: vs,cs,i,j,h=>by
    rw [List.length_cons] at h
    rw [spl,spl_get vs (cs.set i v) (i+1) j (by rw [List.length_set];omega),List.length_cons]
    by_cases h1:i+1≤j∧j<i+1+vs.length
    · rw [if_pos h1,if_pos (by omega),show j - i=(j - (i+1))+1 by omega,List.getElem?_cons_succ]
    · rw [if_neg h1]
      by_cases h2:j=i
      · subst h2
        rw [if_pos (by omega),Nat.sub_self,List.getElem?_cons_zero,List.getElem?_set_self (by omega)]
      · rw [if_neg (by omega),List.getElem?_set_ne (by omega)]
theorem gY {cs vs:List Value} (h:vs.length=cs.length):spl cs 0 vs=vs:=by
  apply List.ext_getElem?
  intro j
  rw [spl_get vs cs 0 j (by omega)]
  by_cases h1:j<vs.length
  · rw [if_pos (by omega)];rfl
  · rw [if_neg (by omega),List.getElem?_eq_none (by omega),List.getElem?_eq_none (by omega)]
theorem fN.whole (g:Nat) (t:TypeId) (cs:List Value) (L:List Box) (vs:List Value) (h:vs.length=cs.length):fN (⟨g,t,cs⟩ :: L) g 0 vs (⟨g,t,vs⟩ :: L):=by
  have:=fN.here g t cs L 0 vs (by omega)
  rwa [gY h] at this
end
section
structure BI where
  M:LM
  A:Option Addr
  n:Nat
  k:Nat
  K:Option Addr
  m:Nat
  e:Nat
  xs:List LN
abbrev mC (M:LM):List Value:=[.slice M.A M.n M.c,.slice M.B M.m M.e]
abbrev crC (c:CR) (A:Option Addr) (n k:Nat):List Value:=[.int .i64 c.u,.int .i64 c.g,.slice A n k,.int .i64 c.d]
abbrev bxC (I:BI) (b:BX):List Value:=[.slice I.M.A I.M.n I.M.c,.slice I.M.B I.M.m I.M.e,.int .i64 b.c.u,.int .i64 b.c.g,.slice I.A I.n I.k,.int .i64 b.c.d,.int .i64 b.q,.slice I.K I.m I.e]
structure BoxI (V:aI) (b:BX) (I:BI):Prop where
  M:mS V I.M
  us:I.M.us=b.us
  gs:I.M.gs=b.gs
  xs:eV V I.A I.n b.c.xs
  nk:True
  ls:dP V I.K I.m I.xs
  le:I.m≤I.e
  eq:I.xs.map LN.n=b.ls
theorem BoxI.len {V:aI} {b:BX} {I:BI} (h:BoxI V b I):b.ls.length=I.m:=by rw [←h.eq,List.length_map];exact h.ls.1.1
theorem BoxI.up {V V':aI} {b:BX} {I:BI} (h:BoxI V b I) (hv:VLe V V'):BoxI V' b I:=⟨h.M.le hv,h.us,h.gs,h.xs.le hv,h.nk,h.ls.le hv,h.le,h.eq⟩
def mZ (V:aI) (p:Nat) (b:BX) (I:BI):Prop:=aL V p 0 (bxC I b)∧BoxI V b I
theorem mZ.le {V V':aI} {p:Nat} {b:BX} {I:BI} (h:mZ V p b I) (hv:VLe V V'):mZ V' p b I:=⟨h.1.le hv,h.2.up hv⟩
theorem cells_sub {V:aI} {g o:Nat} {xs:List Value} (h:aL V g o xs) (a n:Nat) {ys:List Value} (hy:(xs.drop a).take n=ys):aL V g (o+a) ys:=fun j v hj=>by
  subst hy
  rw [List.getElem?_take] at hj
  split at hj
  · rw [List.getElem?_drop] at hj
    have:=h (a+j) v hj
    rw [show o+a+j=o+(a+j) by omega];exact this
  · cases hj
theorem mZ.parts {V:aI} {p:Nat} {b:BX} {I:BI} (h:mZ V p b I):aL V p (0+0) (mC I.M)∧aL V p (0+2) (crC b.c I.A I.n I.k)∧V ⟨p,0+6,none⟩=some (.int .i64 b.q)∧V ⟨p,0+7,none⟩=some (.slice I.K I.m I.e) :=
  ⟨cells_sub h.1 0 2 rfl,cells_sub h.1 2 4 rfl,h.1 6 _ rfl,h.1 7 _ rfl⟩
structure bK (b:BX):Prop where
  c:fR b.c.u b.c.g b.c.d b.c.xs=0
  q:1≤b.q∧b.q≤64
  l1:0<b.ls.length
  l4:b.ls.length≤4
  up:∀ x,b.ls[0]?=some x→dK true x=0
  lo:∀ j x,0<j→b.ls[j]?=some x→dK false x=0
theorem bK.tree {b:BX} (h:bK b):∀ x∈b.ls,∃ u,dK u x=0:=fun x hx=>by
  obtain⟨j,hj,rfl⟩:=List.getElem_of_mem hx
  rcases Nat.eq_zero_or_pos j with rfl|h0
  · exact⟨true,h.up _ (List.getElem?_eq_getElem hj)⟩
  · exact⟨false,h.lo j _ h0 (List.getElem?_eq_getElem hj)⟩
theorem fit_small {h:Hd} {ks:PKs} (k:fitP h ks):dZ h ks:=by
  obtain⟨_,_,_,_,h5,_,h7,_⟩:=k
  exact⟨by have:=h5.1;omega,by omega⟩
theorem bK.fit {b:BX} (h:bK b):∀ x∈b.ls,cA fitP x:=fun x hx=>by
  obtain⟨u,hu⟩:=h.tree x hx
  exact(pK hu).1
theorem bK.small {b:BX} (h:bK b):∀ x∈b.ls,cA dZ x:=fun x hx=>(h.fit x hx).imp fun _ _=>fit_small
theorem bK.smallL {V:aI} {b:BX} {I:BI} (h:bK b) (hI:BoxI V b I):∀ x∈I.xs,cA dZ x.n:=fun x hx=>h.small _ (by rw [←hI.eq];exact List.mem_map_of_mem (f:=LN.n) hx)
theorem bK.names {b:BX} (h:bK b):∀ x∈b.ls,cA nmP x:=fun x hx=>by
  obtain⟨u,hu⟩:=h.tree x hx
  exact tree_names hu
theorem bK.d {b:BX} (h:bK b):0≤b.c.d∧b.c.d≤15:=(fI h.c).2.2.1
theorem bK.root {b:BX} (h:bK b):∃ n0 t,b.ls=n0 :: t∧n0.h.kind=2:=by
  cases hl:b.ls with
  | nil=>have:=h.l1;rw [hl] at this;simp at this
  | cons n0 t=>exact⟨n0,t,rfl,(rU.1 (h.up n0 (by rw [hl];rfl))).1⟩
theorem n_hd' {y:LN} {p:PN} (h:y.n=p):y.h=p.h:=by rw [←h];rfl
section
variable {B : Base} {N : Nat} {F : List (Nat × Value)} {V : aI} {L : List Box}
variable {d : Option Tmp} {ty : TypeId} {pos : String} {af : Array Edge} {gd : Option (Nat × Bool)}
theorem xT {x0 x1 x3:Operand} {a1 a2 a3 a4 a5 a6 a7 a8 c1 c2 c3 c4 c5:Value} {n:Int} (h0:evF F x0=some (.agg #[a1,a2,a3,a4,a5,a6,a7,a8])) (h1:evF F x1=some (.int .i64 n)) (h3:evF F x3=some (.agg #[c1,c2,c3,c4,c5])) :
    QP Tryz.prog B N V L ⟨d,.build 214 #[(0,x0),(1,x1),(3,x3)],ty,pos,af,gd⟩ F (.agg #[a1,a2,a3,a4,a5,a6,a7,a8,.int .i64 n,.bool false,.int .i64 0,.int .i64 0,.int .i64 0,.bool false,c1,c2,c3,c4,c5]) :=
  q_build (ps:=[(0,x0),(1,x1),(3,x3)]) (vs:=[(0,.agg #[a1,a2,a3,a4,a5,a6,a7,a8]),(1,.int .i64 n),(3,.agg #[c1,c2,c3,c4,c5])]) (us:=[a1,a2,a3,a4,a5,a6,a7,a8,.int .i64 n,.bool false,.int .i64 0,.int .i64 0,.int .i64 0,.bool false,c1,c2,c3,c4,c5]) bld_214 (by simp [evP,h0,h1,h3]) (by kernel_rfl)
end
abbrev foC (x:LN) (lay:Int) (par th:TH):List Value:=[.int .i64 x.h.kind,.int .i64 x.h.mode,.int .i64 x.h.user,.int .i64 x.h.group,.bool x.h.opq,.slice x.A x.na x.ca,.string x.h.data,.slice x.K x.nk x.ck,.int .i64 lay,.bool par.dir,.int .i64 par.mode,.int .i64 par.user,.int .i64 par.group,.bool par.mapped,.bool th.dir,.int .i64 th.mode,.int .i64 th.user,.int .i64 th.group,.bool th.mapped]
abbrev foV (x:LN) (lay:Int) (par th:TH):Value:=.agg (foC x lay par th).toArray
def FoundR (s:SP) (v:Value) (V':aI):Prop:=∃ x:LN,v=.tuple #[foV x s.lay s.par s.th,.bool s.is]∧aX V' x∧x.n=s.n
theorem rH {b:BX} {ss:List ByteArray} {par:TH} (h:bY b.ls ss=[]):fF b ss par=⟨false,pnZ,0,pB true b.us b.gs hZ,par⟩:=by unfold fF;rw [h]
theorem kG {b:BX} {ss:List ByteArray} {par:TH} {f:PF} {t:List PF} (h:bY b.ls ss=f :: t):fF b ss par=⟨true,f.1,f.2,pB (decide (f.2=0)) b.us b.gs f.1.h,par⟩:=by unfold fF;rw [h]
attribute [local irreducible] AtQ GoC GoL GoW QO QP Fn RV bX aL VLe cG bT
theorem seen_c (V:aI) (p:Nat) (b:BX) (I:BI) (hok:bK b) (h:mZ V p b I) (B:Option Addr) (m e:Nat) (ss:List ByteArray) (hs:bZ V B m ss):Fn Tryz.prog 230 [.pointer (some ⟨p,0,none⟩),.slice B m e] V (FoundR (fF b ss thZ)):=by
  obtain⟨hcM,hcC,hcq,hcl⟩:=h.parts
  have hI:=h.2
  have hm4:I.m≤4:=by rw [←hI.len];exact hok.l4
  have hL:=LookM_c V I.K I.m I.e I.xs hI.ls (by omega) (hok.smallL hI) B m e ss hs
  rw [hI.eq] at hL
  have hS:=fun V' (hV:VLe V V') (x:LN) (hx:aX V' x) (u:Bool) (h0:Hd) (hh:x.h=h0) (th:TH) (ht:pB u b.us b.gs h0=th)=>(by
    have h9:=Seen_c V' I.M (hI.M.le hV) x hx u
    rw [hI.us,hI.gs,hh] at h9
    have e:seenV u b.us b.gs h0=thV th:=by rw [←ht];rfl
    rw [e] at h9
    exact h9:Fn Tryz.prog 260 [lmV I.M,lnV x,.bool u] V' fun v _=>v=thV th)
  rcases hw:bY b.ls ss with _|⟨f,t⟩
  · rw [hw] at hL
    rw [rH hw]
    have hS1:=fun V' (hV:VLe V V')=>hS V' hV lnZ aX.zero true hZ rfl _ rfl
    generalize pB true b.us b.gs hZ=th at hS1 ⊢
    clear hS
    (refine aH Tryz.func230 rfl Tryz.ntmps230 rfl ?_;intro w0)
    repeat' (first|(refine aE ?_;first|(refine aD ?_;(refine aM rfl ⟨Tryz.call232⟩ rfl rfl (hL) ?_;rintro v V1 hV1 (⟨_,rfl⟩|⟨_,_,_,hx,_⟩);rotate_left;cases hx;have hcM1:=hcM.le hV1))|refine st9 ?_|(refine al9 ?_;intro γ)|refine pu9 ?_)|refine bV ?_|fail)
    refine bM (id:=2) _ mixed (List.Sublist.cons_cons _ (List.nil_sublist _)) ?_;refine gt9 0 ?_;refine gt9 1 ?_;refine gt9 2 ?_;refine gt9 3 ?_;refine gt9 4 ?_;refine gt9 5 ?_;refine gt9 6 ?_;refine gt9 7 ?_;refine gt9 8 ?_;refine gt9 11 ?_;refine aY (i:=9) rfl ?_;refine aN rfl (aG ⟨Tryz.call260⟩ rfl (hS1 _ vl9)) ?_;refine fP 10 rfl rfl (xT rfl rfl rfl) ?_;refine aY (i:=12) rfl ?_;refine aO rfl siz_214 rfl rfl rfl rfl bG gG rfl ?_;refine gt9 13 ?_;refine aU (by kernel_rfl) vl9 vl9 bD ?_
    all_goals
      repeat' (first|refine gx9 ?_|fail)
      (refine bA Tryz.results230 (aS agg_214 rfl bB (by exact rfl)) (aB rfl) ?_)
      exact⟨lnZ,rfl,aX.zero,rfl⟩
  · rw [hw] at hL
    rw [kG hw]
    obtain⟨fn,fl⟩:=f
    have hS1:=fun V' (hV:VLe V V') (y:LN) (hy:aX V' y) (hh:y.h=fn.h)=>hS V' hV y hy (decide (fl=0)) fn.h hh _ rfl
    show Fn _ _ _ _ (FoundR ⟨true,fn,fl,pB (decide (fl=0)) b.us b.gs fn.h,thZ⟩)
    generalize pB (decide (fl=0)) b.us b.gs fn.h=th at hS1 ⊢
    clear hS
    (refine aH Tryz.func230 rfl Tryz.ntmps230 rfl ?_;intro w0)
    repeat' (first|(refine aE ?_;first|(refine aD ?_;(refine aM rfl ⟨Tryz.call232⟩ rfl rfl (hL) ?_;rintro v V1 hV1 (⟨hx,_⟩|⟨f',t',y,hx,rfl,hyN,hyn⟩);cases hx;cases hx;have hcM1:=hcM.le hV1))|refine st9 ?_|(refine al9 ?_;intro γ)|refine pu9 ?_)|refine bV ?_|fail)
    have hyh:=n_hd' hyn
    have hS2:=fun V' (hV:VLe V1 V')=>hS1 V' (hV1.trans hV) y (hyN.le hV) hyh
    refine bM (id:=2) _ mixed (List.Sublist.cons_cons _ (List.nil_sublist _)) ?_;refine gt9 0 ?_;refine gt9 1 ?_;refine gt9 2 ?_;refine gt9 3 ?_;refine gt9 4 ?_;refine gt9 5 ?_;refine gt9 6 ?_;refine gt9 7 ?_;refine gt9 8 ?_;refine gt9 11 ?_;refine aY (i:=9) rfl ?_;refine aN rfl (aG ⟨Tryz.call260⟩ rfl (hS2 _ (VLe.refl _))) ?_;refine fP 10 rfl rfl (xT rfl rfl rfl) ?_;refine aY (i:=12) rfl ?_;refine aO rfl siz_214 rfl rfl rfl rfl bG gG rfl ?_;refine gt9 13 ?_;refine aU (by kernel_rfl) vl9 vl9 bD ?_
    all_goals
      repeat' (first|refine gx9 ?_|fail)
      (refine bA Tryz.results230 (aS agg_214 rfl bB (by exact rfl)) (aB rfl) ?_)
      exact⟨y,rfl,hyN.le vl9,hyn⟩
def ToR (s:SP×Int) (v:Value) (V':aI):Prop:=(s.2=0∧∃ x:LN,v=.tuple #[foV x s.1.lay s.1.par s.1.th,.bool s.1.is,bT 0]∧aX V' x∧x.n=s.1.n)∨(¬s.2=0∧v=.tuple #[foV lnZ 0 thZ thZ,.bool false,bT s.2])
theorem look_mode {b:BX} (hok:bK b) (ss:List ByteArray) (par:TH):0≤(fF b ss par).th.mode∧(fF b ss par).th.mode≤4095:=by
  cases hw:bY b.ls ss with
  | nil=>rw [rH hw];show 0≤(0:Int)∧(0:Int)≤4095;omega
  | cons f t =>
    rw [kG hw]
    have:=(fZ hok.fit ss f (by rw [hw];simp)).here
    exact this.2.1
theorem pL {b:BX} (hok:bK b) (ss:List ByteArray):∀ k,0≤(eN b ss k).1.th.mode∧(eN b ss k).1.th.mode≤4095
  | 0=>look_mode hok _ _
  | k+1=>by
    have ih:=pL hok ss k
    rw [eN]
    (repeat' split)<;>first|exact ih|exact look_mode hok _ _
theorem look_par {b:BX} {ss:List ByteArray} {par:TH}:(fF b ss par).par=par:=by unfold fF;split<;>rfl
theorem look_th {b:BX} {ss:List ByteArray} {par par':TH}:(fF b ss par).th=(fF b ss par').th∧(fF b ss par).n=(fF b ss par').n∧(fF b ss par).lay=(fF b ss par').lay∧(fF b ss par).is=(fF b ss par').is:=by unfold fF;split<;>exact⟨rfl,rfl,rfl,rfl⟩
theorem jZ {V:aI} {A:Option Addr} {n k:Nat} {xs:List ByteArray} (h:bZ V A n xs) (hk:k≤n):bZ V A k (xs.take k):=⟨h.1.take hk,fun x hx=>h.2 x (List.mem_of_mem_take hx)⟩
theorem spot_on {b:BX} {ss:List ByteArray} {k:Nat} {s:SP} (h:eN b ss k=(s,0)):eN b ss (k+1)=if ¬s.n.h.kind=2 then (s,7) else if iL b.c s.th 1=false then (s,9) else if (fF b (ss.take (k+1)) s.th).is=false∧k+1<ss.length then (s,5) else (fF b (ss.take (k+1)) s.th,0):=by
  rw [eN,h,if_neg (by simp)]
theorem spot_end {b:BX} {ss:List ByteArray} {k:Nat} {r:SP×Int} (h:eN b ss (k+1)=r) (hr:¬r.2=0) (hk:k<ss.length):cC b ss=r:=by
  have h2:=xE (b:=b) (ss:=ss) (k:=k+1) (by rw [h];exact hr) (ss.length - (k+1))
  rw [show k+1+(ss.length - (k+1))=ss.length by omega,h] at h2
  exact h2
theorem ToR.no {s:SP×Int} {e:Int} {V':aI} (h:s.2=e) (he:¬e=0):ToR s (.tuple #[foV lnZ 0 thZ thZ,.bool false,.iface 120 (.int .i64 e)]) V':=.inr ⟨by rw [h];exact he,by rw [h,dU he]⟩
theorem to_c (V:aI) (p:Nat) (b:BX) (I:BI) (hok:bK b) (h:mZ V p b I) (B:Option Addr) (m e:Nat) (ss:List ByteArray) (hs:bZ V B m ss) (hme:m≤e):Fn Tryz.prog 146 [.pointer (some ⟨p,0,none⟩),.slice B m e] V (ToR (cC b ss)):=by
  have sl:=hs.1.1
  have sm:=hs.1.max
  have hd:=hok.d
  obtain⟨n0,t0,hls,hkd0⟩:=hok.root
  have hr0:bY b.ls []=(n0,0) :: (if n0.h.opq=true then [] else dI (iA 1 t0)):=by
    show jE b.ls=_
    rw [hls];exact iG hkd0
  have hS0:Fn Tryz.prog 230 [.pointer (some ⟨p,0,none⟩),.slice none 0 0] V (FoundR ⟨true,n0,0,pB true b.us b.gs n0.h,thZ⟩):=by
    have:=seen_c V p b I hok h none 0 0 [] bZ.nil
    rw [kG hr0] at this;exact this
  have e0:eN b ss 0=(⟨true,n0,0,pB true b.us b.gs n0.h,thZ⟩,0):=by rw [eN,kG hr0];rfl
  generalize pB true b.us b.gs n0.h=th0 at e0 hS0
  (refine aH Tryz.func146 rfl Tryz.ntmps146 rfl ?_;intro w0)
  repeat' (first|(refine aE ?_;first|(refine aD ?_;(refine aM rfl ⟨Tryz.call230⟩ rfl rfl (hS0) ?_;rintro v V1 hV1 ⟨x,rfl,hxN,hxn⟩))|(refine dG ?_;refine aO rfl siz_214 rfl rfl rfl rfl bG gG rfl ?_)|(refine al9 ?_;intro γ)|refine pu9 ?_)|refine bW ?_|fail)
  rename_i g4
  refine bQ (fun F V' L' m'=>∃ (k:Nat) (x:LN) (n:PN) (lay:Int) (th par:TH),VLe V1 V'∧aX V' x∧x.n=n∧eN b ss k=(⟨true,n,lay,th,par⟩,0)∧[⟨γ,214,foC x lay par th⟩,⟨g4,214,foC lnZ 0 thZ thZ⟩]=L'∧k≤m∧m'=m - k∧F=[(0,.pointer (some ⟨p,0,none⟩)),(1,.slice B m e),(4,.pointer (some ⟨g4,0,none⟩)),(7,.pointer (some ⟨γ,0,none⟩)),(18,.int .i64 m),(19,.int .i64 (k:Int))]) (m:=m) ⟨0,x,n0,0,th0,thZ,VLe.refl _,hxN,hxn,e0,rfl,Nat.zero_le _,by omega,rfl⟩ bH rfl sl9 ?_
  rintro F V' L' m' ⟨k,x,n,lay,th,par,hV',hxN,rfl,hsp,rfl,hkm,rfl,rfl⟩
  have hV0:=hV1.trans hV'
  have hth:=pL hok ss k
  rw [hsp] at hth
  by_cases hlt:k<m
  · have hb':=h.le hV0
    obtain⟨hcM,hcC,hcq,hcl⟩:=hb'.parts
    have hon:=spot_on hsp
    have hend:=fun (r:SP×Int) (hr:eN b ss (k+1)=r) (hn:¬r.2=0)=>spot_end hr hn (by omega)
    by_cases hkd:x.n.h.kind=2
    · have hMay:=fun V2 (hV2:VLe V' V2)=>May_c V2 b.c I.A I.n I.k (hb'.2.xs.le hV2) hd th hth 1 (.inl rfl)
      cases hmy:iL b.c th 1 with
      | false =>
        rw [hmy] at hMay
        have hsp2:=hend _ (hon.trans (by rw [if_neg (not_not_intro hkd),if_pos hmy])) (by simp)
        repeat' (first|(refine aE ?_;first|(refine aD ?_;refine aN rfl (aG ⟨Tryz.call144⟩ rfl (hMay _ vl9)) ?_)|(refine dG ?_;refine aO rfl siz_214 rfl rfl rfl rfl bG gG rfl ?_)|refine pu9 ?_)|refine cV ?_|(refine aA rfl ?_ ?_<;>intro hq<;>try exact no9)|refine bN (id:=7) mixed (by kernel_rfl) ?_)
        all_goals first
          | (exfalso;exact absurd hkd (by assumption))
          | skip
        all_goals
          (refine eB Tryz.results146 (aS agg_214 rfl bB (by exact rfl)) (aB rfl) (aB rfl) ?_)
          rw [hsp2]
          exact ToR.no rfl (by decide)
      | true =>
        rw [hmy] at hMay
        rw [if_neg (not_not_intro hkd),if_neg (by rw [hmy];decide)] at hon
        have hstr:=jZ (hs.le hV0) (k:=k+1) (by omega)
        have hS:=seen_c V' p b I hok hb' B (k+1) e _ hstr
        have hl1:=look_th (b:=b) (ss:=ss.take (k+1)) (par:=th) (par':=thZ)
        have hl2:=look_par (b:=b) (ss:=ss.take (k+1)) (par:=th)
        have hS':=fun V2 (hV2:VLe V' V2)=>seen_c V2 p b I hok (hb'.le hV2) B (k+1) e _ (hstr.le hV2)
        generalize fF b (ss.take (k+1)) thZ=s9 at hl1 hS hS'
        generalize hs8:fF b (ss.take (k+1)) th=s8 at hl1 hl2 hon
        obtain⟨is8,n8,lay8,th8,par8⟩:=s8
        obtain⟨is9,n9,lay9,th9,par9⟩:=s9
        obtain⟨l1,l2,l3,l4⟩:=hl1
        simp only at l1 l2 l3 l4 hl2
        subst l1 l2 l3 l4 hl2
        simp only at hon
        have hon:eN b ss (k+1)=if is8=false∧k+1<ss.length then (⟨true,x.n,lay,par8,par⟩,5) else (⟨is8,n8,lay8,th8,par8⟩,0):=hon
        have e11:((k:Int)+1).toNat=k+1:=by omega
        cases is8 with
        | false =>
          by_cases hk1:k+1<m
          · have hsp2:=hend _ (hon.trans (if_pos ⟨rfl,by omega⟩)) (by simp)
            repeat' (first|(refine aE ?_;first|(refine aD ?_;(first|refine aN rfl (aG ⟨Tryz.call144⟩ rfl (hMay _ vl9)) ?_|(refine aM rfl ⟨Tryz.call230⟩ rfl rfl (hS' _ vl9) ?_;rintro v V3 hV3 ⟨y,rfl,hyN,hyn⟩)))|(refine dG ?_;refine aO rfl siz_214 rfl rfl rfl rfl bG gG rfl ?_)|(refine eG ?_;(first|refine aR (cE (h:=k+1) und_47 siz_9 rfl rfl (by omega)) ?_|refine aR (cE und_47 siz_9 rfl rfl (by omega)) ?_|refine aR (dS und_47 siz_9 rfl rfl (by omega)) ?_))|(refine al9 ?_;intro γ)|refine pu9 ?_)|refine cV ?_|(refine aA rfl ?_ ?_<;>intro hq<;>try exact no9)|refine bN (id:=7) mixed (by kernel_rfl) ?_)
            all_goals first
              | (exfalso;exact absurd hkd (by assumption))
              | exact no9
              | skip
            all_goals
              (refine eB Tryz.results146 (aS agg_214 rfl bB (by exact rfl)) (aB rfl) (aB rfl) ?_)
              rw [hsp2]
              exact ToR.no rfl (by decide)
          · have hfin:cC b ss=(⟨false,n8,lay8,th8,par8⟩,0):=by
              have:=hon.trans (if_neg (by rintro ⟨_,h9⟩;omega))
              unfold cC
              rw [show ss.length=k+1 by omega];exact this
            repeat' (first|(refine aE ?_;first|(refine aD ?_;(first|refine aN rfl (aG ⟨Tryz.call144⟩ rfl (hMay _ vl9)) ?_|(refine aM rfl ⟨Tryz.call230⟩ rfl rfl (hS' _ vl9) ?_;rintro v V3 hV3 ⟨y,rfl,hyN,hyn⟩)))|(refine dG ?_;refine aO rfl siz_214 rfl rfl rfl rfl bG gG rfl ?_)|(refine eG ?_;(first|refine aR (cE (h:=k+1) und_47 siz_9 rfl rfl (by omega)) ?_|refine aR (cE und_47 siz_9 rfl rfl (by omega)) ?_|refine aR (dS und_47 siz_9 rfl rfl (by omega)) ?_))|refine st9 ?_|(refine al9 ?_;intro γ)|refine pu9 ?_)|refine cV ?_|(refine aA rfl ?_ ?_<;>intro hq<;>try exact no9)|refine bN (id:=7) mixed (by kernel_rfl) ?_)
            all_goals first
              | (exfalso;exact absurd hkd (by assumption))
              | exact no9
              | skip
            all_goals
              (refine eB Tryz.results146 (aS agg_214 rfl bB (by exact rfl)) (aB rfl) (aB rfl) ?_)
              rw [hfin]
              exact .inl ⟨rfl,y,(by rw [dA];first|done|rfl),hyN.le vl9,hyn⟩
        | true =>
          have hnx:=hon.trans (if_neg (by rintro ⟨h9,_⟩;cases h9))
          repeat' (first|(refine aE ?_;first|(refine aD ?_;(first|refine aN rfl (aG ⟨Tryz.call144⟩ rfl (hMay _ vl9)) ?_|(refine aM rfl ⟨Tryz.call230⟩ rfl rfl (hS' _ vl9) ?_;rintro v V3 hV3 ⟨y,rfl,hyN,hyn⟩)))|(refine dG ?_;refine aO rfl siz_214 rfl rfl rfl rfl bG gG rfl ?_)|(refine eG ?_;(first|refine aR (cE (h:=k+1) und_47 siz_9 rfl rfl (by omega)) ?_|refine aR (cE und_47 siz_9 rfl rfl (by omega)) ?_|refine aR (dS und_47 siz_9 rfl rfl (by omega)) ?_))|refine st9 ?_|(refine al9 ?_;intro γ)|refine pu9 ?_)|refine cV ?_|(refine aA rfl ?_ ?_<;>intro hq<;>try exact no9)|refine bN (id:=7) mixed (by kernel_rfl) ?_)
          all_goals first
            | (exfalso;exact absurd hkd (by assumption))
            | exact no9
            | skip
          all_goals refine aZ _ (m - (k+1)) ⟨k+1,y,n8,lay8,th8,par8,hV'.trans hV3,hyN,hyn,hnx,rfl,by omega,rfl,rfl⟩ (by omega) bH sl9
    · have hsp2:=hend _ (hon.trans (if_pos hkd)) (by simp)
      repeat' (first|(refine aE ?_;first|(refine dG ?_;refine aO rfl siz_214 rfl rfl rfl rfl bG gG rfl ?_)|refine pu9 ?_)|refine bW ?_|(refine aA rfl ?_ ?_<;>intro hq<;>try exact no9))
      all_goals first
        | (exfalso;exact absurd (by assumption) hkd)
        | (exfalso;exact absurd hkd (by assumption))
        | (exfalso;rename_i hq9;exact hq9 hkd)
        | skip
      all_goals
        (refine eB Tryz.results146 (aS agg_214 rfl bB (by exact rfl)) (aB rfl) (aB rfl) ?_)
        rw [hsp2]
        exact ToR.no rfl (by decide)
  · obtain rfl:k=m:=by omega
    have hfin:cC b ss=(⟨true,x.n,lay,th,par⟩,0):=by
      unfold cC
      rw [sl];exact hsp
    repeat' (first|(refine aE ?_;first|(refine dG ?_;refine aO rfl siz_214 rfl rfl rfl rfl bG gG rfl ?_)|refine pu9 ?_)|refine dR ?_|(refine aA rfl ?_ ?_<;>intro hq<;>try exact no9))
    all_goals try exact no9
    all_goals
      (refine eB Tryz.results146 (aS agg_214 rfl bB (by exact rfl)) (aB rfl) (aB rfl) ?_)
      rw [hfin]
      exact .inl ⟨rfl,x,(by rw [dA];first|done|rfl),hxN.le vl9,rfl⟩
end
section
def oT (b:BX) (l:List UInt8) (v:Value) (V':aI):Prop:=(cS b l=0∧∃ (A:Option Addr) (n c:Nat) (x:LN),v=.tuple #[.slice A n c,foV x (aV b l).lay (aV b l).par (aV b l).th,bT 0]∧bZ V' A n (aK l)∧n≤c∧aX V' x∧x.n=(aV b l).n)∨(¬cS b l=0∧∃ (A:Option Addr) (n c:Nat) (x:LN) (lay:Int) (par th:TH),v=.tuple #[.slice A n c,foV x lay par th,bT (cS b l)])
theorem oT.no {b:BX} {l:List UInt8} {e:Int} {A:Option Addr} {n c:Nat} {x:LN} {lay:Int} {par th:TH} {V':aI} (h:cS b l=e) (he:¬e=0):oT b l (.tuple #[.slice A n c,foV x lay par th,bT e]) V':=.inr ⟨by rw [h];exact he,A,n,c,x,lay,par,th,by rw [h]⟩
theorem there_path {b:BX} {l:List UInt8} (h:¬dY l=0):cS b l=dY l:=if_pos h
theorem there_spot {b:BX} {l:List UInt8} (h:dY l=0) (h2:¬(cC b (aK l)).2=0):cS b l=(cC b (aK l)).2:=by unfold cS;rw [if_neg (not_not_intro h),if_pos h2]
theorem there_none {b:BX} {l:List UInt8} (h:dY l=0) (h2:(cC b (aK l)).2=0) (h3:(cC b (aK l)).1.is=false):cS b l=5:=by unfold cS;rw [if_neg (not_not_intro h),if_neg (not_not_intro h2),if_pos h3]
theorem there_ok {b:BX} {l:List UInt8} (h:dY l=0) (h2:(cC b (aK l)).2=0) (h3:(cC b (aK l)).1.is=true):cS b l=0:=by unfold cS;rw [if_neg (not_not_intro h),if_neg (not_not_intro h2),if_neg (by rw [h3];decide)]
attribute [local irreducible] AtQ GoC GoL GoW QO QP Fn RV bX aL VLe cG bT
theorem there_c (V:aI) (p:Nat) (b:BX) (I:BI) (hok:bK b) (h:mZ V p b I) (l:List UInt8) (hl:l.length≤1000000):Fn Tryz.prog 142 [.pointer (some ⟨p,0,none⟩),.string ⟨l.toArray⟩] V (oT b l):=by
  have hS:=yF V l hl
  have hsb:=mR b (aK l) (aK l).length
  by_cases hp:dY l=0
  · rw [hp] at hS
    (refine aH Tryz.func142 rfl Tryz.ntmps142 rfl ?_;intro w0)
    repeat' (first|(refine aE ?_;first|(refine aD ?_;(refine aM rfl ⟨Tryz.call145⟩ rfl rfl (hS) ?_;rintro v V1 hV1 ⟨A1,n1,c1,rfl,hS1,hc1⟩))|(refine cX ?_;refine aR (wY rfl) ?_)|(refine al9 ?_;intro γ)|refine pu9 ?_)|refine cD ?_|fail)
    have hT:=to_c V1 p b I hok (h.le hV1) A1 n1 c1 _ hS1 hc1
    by_cases hs2:(cC b (aK l)).2=0
    · cases his:(cC b (aK l)).1.is with
      | false =>
        have hth:=there_none hp hs2 his
        rw [show cC b (aK l)=((cC b (aK l)).1,(cC b (aK l)).2) from rfl] at hT
        generalize (cC b (aK l)).1=s at *
        obtain⟨is0,n0,lay0,th0,par0⟩:=s
        simp only at his
        subst his
        repeat' (first|(refine aE ?_;first|(refine aD ?_;(refine aM rfl ⟨Tryz.call146⟩ rfl rfl (hT) ?_;rintro v V2 hV2 (⟨_,x,rfl,hxN,hxn⟩|⟨hx,_⟩);rotate_left;exact absurd hs2 hx))|(refine cX ?_;refine aR (wY rfl) ?_)|(refine dG ?_;refine aO rfl siz_214 rfl rfl rfl rfl bG gG rfl ?_)|(refine al9 ?_;intro γ)|refine pu9 ?_)|refine cD ?_|fail)
        refine bM (id:=7) _ mixed (List.Sublist.cons_cons _ (List.nil_sublist _)) ?_;refine gt9 0 ?_;refine gt9 1 ?_;refine gt9 2 ?_;refine gt9 3 ?_;refine aY (i:=4) rfl ?_;refine aO rfl siz_214 rfl rfl rfl rfl bG gG rfl ?_;refine gt9 5 ?_;refine aU (by kernel_rfl) vl9 vl9 bD ?_
        all_goals
          repeat' (first|refine gx9 ?_|fail)
          (refine eB Tryz.results142 (aB rfl) (aS agg_214 rfl bB (by exact rfl)) (aB rfl) ?_)
          rw [←dU (e:=5) (by decide)]
          exact oT.no hth (by decide)
      | true =>
        have hth:=there_ok hp hs2 his
        have hts:aV b l=(cC b (aK l)).1:=rfl
        rw [show cC b (aK l)=((cC b (aK l)).1,(cC b (aK l)).2) from rfl] at hT
        generalize (cC b (aK l)).1=s at *
        obtain⟨is0,n0,lay0,th0,par0⟩:=s
        simp only at his
        subst his
        repeat' (first|(refine aE ?_;first|(refine aD ?_;(refine aM rfl ⟨Tryz.call146⟩ rfl rfl (hT) ?_;rintro v V2 hV2 (⟨_,x,rfl,hxN,hxn⟩|⟨hx,_⟩);rotate_left;exact absurd hs2 hx))|(refine cX ?_;refine aR (wY rfl) ?_)|(refine dG ?_;refine aO rfl siz_214 rfl rfl rfl rfl bG gG rfl ?_)|(refine al9 ?_;intro γ)|refine pu9 ?_)|refine cD ?_|fail)
        refine bM (id:=7) _ mixed (List.Sublist.cons_cons _ (List.nil_sublist _)) ?_;refine gt9 0 ?_;refine gt9 1 ?_;refine gt9 2 ?_;refine gt9 3 ?_;refine aY (i:=4) rfl ?_;refine aO rfl siz_214 rfl rfl rfl rfl bG gG rfl ?_;refine gt9 5 ?_;refine aU (by kernel_rfl) vl9 vl9 bD ?_
        all_goals
          repeat' (first|refine gx9 ?_|fail)
          (refine eB Tryz.results142 (aB rfl) (aS agg_214 rfl bB (by exact rfl)) (aB rfl) ?_)
          refine .inl ⟨hth,A1,n1,c1,x,?_,hS1.le hV2,hc1,hxN,by rw [hts];exact hxn⟩
          rw [hts]
          first|done|rfl
    · have hth:=there_spot hp hs2
      repeat' (first|(refine aE ?_;first|(refine aD ?_;(refine aM rfl ⟨Tryz.call146⟩ rfl rfl (hT) ?_;rintro v V2 hV2 (⟨hx,_⟩|⟨_,rfl⟩);exact absurd hx hs2))|(refine cX ?_;refine aR (wY rfl) ?_)|(refine dG ?_;refine aO rfl siz_214 rfl rfl rfl rfl bG gG rfl ?_)|(refine al9 ?_;intro γ)|refine pu9 ?_)|refine cD ?_|(refine aJ rfl rfl rfl ?_ ?_<;>intro hq<;>try exact no9))
      all_goals first
        | (exfalso;exact hs2 (by assumption))
        | skip
      refine bM (id:=7) _ mixed (List.Sublist.cons_cons _ (List.nil_sublist _)) ?_;refine gt9 0 ?_;refine gt9 1 ?_;refine gt9 2 ?_;refine gt9 3 ?_;refine aY (i:=4) rfl ?_;refine aO rfl siz_214 rfl rfl rfl rfl bG gG rfl ?_;refine gt9 5 ?_;refine aU (by kernel_rfl) vl9 vl9 bD ?_
      all_goals
        repeat' (first|refine gx9 ?_|fail)
        (refine eB Tryz.results142 (aB rfl) (aS agg_214 rfl bB (by exact rfl)) (aB rfl) ?_)
        exact oT.no hth hs2
  · have hth:=there_path (b:=b) hp
    (refine aH Tryz.func142 rfl Tryz.ntmps142 rfl ?_;intro w0)
    repeat' (first|(refine aE ?_;first|(refine aD ?_;(refine aM rfl ⟨Tryz.call145⟩ rfl rfl (hS) ?_;rintro v V1 hV1 ⟨A1,n1,c1,rfl,hS1,hc1⟩))|(refine cX ?_;refine aR (wY rfl) ?_)|(refine dG ?_;refine aO rfl siz_214 rfl rfl rfl rfl bG gG rfl ?_)|(refine al9 ?_;intro γ)|refine pu9 ?_)|refine bV ?_|(refine aA rfl ?_ ?_<;>intro hq<;>try exact no9))
    all_goals first
      | (exfalso;exact absurd hp (by assumption))
      | skip
    all_goals
      (refine eB Tryz.results142 (aB rfl) (aS agg_214 rfl bB (by exact rfl)) (aB rfl) ?_)
      exact oT.no (x:=lnZ) (lay:=0) (par:=thZ) (th:=thZ) hth hp
def eM (b:BX) (s:SP):Int:=if iL b.c s.par 2=false then 9 else if tY b.c s.par s.th=false then 10 else 0
theorem takes_c (V:aI) (p:Nat) (b:BX) (I:BI) (hok:bK b) (h:mZ V p b I) (x:LN) (lay:Int) (s:SP) (hp:0≤s.par.mode∧s.par.mode≤4095) (ht:0≤s.th.mode∧s.th.mode≤4095):Fn Tryz.prog 151 [.pointer (some ⟨p,0,none⟩),foV x lay s.par s.th] V fun v _=>v=bT (eM b s):=by
  obtain⟨hcM,hcC,hcq,hcl⟩:=h.parts
  have hd:=hok.d
  have hMay:=fun V2 (hV2:VLe V V2)=>May_c V2 b.c I.A I.n I.k (h.2.xs.le hV2) hd s.par hp 2 (.inr (.inl rfl))
  have hTk:=fun V2=>Takes_c V2 b.c I.A I.n I.k hd s.par s.th hp
  cases hmy:iL b.c s.par 2 with
  | false =>
    have e:eM b s=9:=if_pos hmy
    rw [e]
    rw [hmy] at hMay
    (refine aH Tryz.func151 rfl Tryz.ntmps151 rfl ?_;intro w0)
    repeat' (first|(refine aE ?_;first|(refine aD ?_;refine aN rfl (aG ⟨Tryz.call144⟩ rfl (hMay _ vl9)) ?_)|(refine al9 ?_;intro γ)|refine pu9 ?_)|refine cD ?_|refine bN (id:=1) mixed (by kernel_rfl) ?_)
    all_goals
      (refine aQ Tryz.results151 (aB rfl) ?_)
      exact dE 9 rfl
  | true =>
    rw [hmy] at hMay
    cases htk:tY b.c s.par s.th with
    | false =>
      have e:eM b s=10:=by unfold eM;rw [if_neg (by rw [hmy];decide),if_pos htk]
      rw [e]
      rw [htk] at hTk
      (refine aH Tryz.func151 rfl Tryz.ntmps151 rfl ?_;intro w0)
      repeat' (first|(refine aE ?_;first|(refine aD ?_;(first|refine aN rfl (aG ⟨Tryz.call144⟩ rfl (hMay _ vl9)) ?_|refine aN rfl (aG ⟨Tryz.call231⟩ rfl (hTk _)) ?_))|(refine al9 ?_;intro γ)|refine pu9 ?_)|refine cD ?_|refine bN (id:=1) mixed (by kernel_rfl) ?_|refine bN (id:=3) mixed (by kernel_rfl) ?_)
      all_goals
        (refine aQ Tryz.results151 (aB rfl) ?_)
        exact dE 10 rfl
    | true =>
      have e:eM b s=0:=by unfold eM;rw [if_neg (by rw [hmy];decide),if_neg (by rw [htk];decide)]
      rw [e]
      rw [htk] at hTk
      (refine aH Tryz.func151 rfl Tryz.ntmps151 rfl ?_;intro w0)
      repeat' (first|(refine aE ?_;first|(refine aD ?_;(first|refine aN rfl (aG ⟨Tryz.call144⟩ rfl (hMay _ vl9)) ?_|refine aN rfl (aG ⟨Tryz.call231⟩ rfl (hTk _)) ?_))|(refine al9 ?_;intro γ)|refine pu9 ?_)|refine cD ?_|refine bN (id:=1) mixed (by kernel_rfl) ?_|refine bN (id:=3) mixed (by kernel_rfl) ?_)
      all_goals
        (refine aQ Tryz.results151 (aB rfl) ?_)
        exact dA.symm
def gE (b:BX) (th:TH) (nm:ByteArray) (want:Int):Int:=if dH nm=1 then (if iL b.c th want=false then 9 else 0) else if nI b.c th=false then 10 else 0
theorem attrs_c (V:aI) (p:Nat) (b:BX) (I:BI) (hok:bK b) (h:mZ V p b I) (th:TH) (ht:0≤th.mode∧th.mode≤4095) (nm:ByteArray) (hm:nm.size≤9223372036854775807) (want:Int) (hw:want=1∨want=2∨want=4):Fn Tryz.prog 167 [.pointer (some ⟨p,0,none⟩),thV th,.string nm,.int .i64 want] V fun v _=>v=bT (gE b th nm want):=by
  obtain⟨hcM,hcC,hcq,hcl⟩:=h.parts
  have hd:=hok.d
  have hMay:=fun V2 (hV2:VLe V V2)=>May_c V2 b.c I.A I.n I.k (h.2.xs.le hV2) hd th ht want hw
  have hOw:=fun V2=>Owns_c V2 b.c I.A I.n I.k hd th
  have hC:=fun V2=>kQ V2 nm hm
  have e:gE b th nm want=if dH nm=1 then (if iL b.c th want=false then 9 else 0) else if nI b.c th=false then 10 else 0:=rfl
  rw [e]
  generalize iL b.c th want=m1 at *
  generalize nI b.c th=o1 at *
  (refine aH Tryz.func167 rfl Tryz.ntmps167 rfl ?_;intro w0)
  repeat' (first|(refine aE ?_;first|(refine aD ?_;(first|refine aN rfl (aG ⟨Tryz.call166⟩ rfl (hC _)) ?_|refine aN rfl (aG ⟨Tryz.call144⟩ rfl (hMay _ vl9)) ?_|refine aN rfl (aG ⟨Tryz.call160⟩ rfl (hOw _)) ?_))|(refine al9 ?_;intro γ)|refine pu9 ?_)|refine bV ?_|(refine aA rfl ?_ ?_<;>intro hq<;>try exact no9)|(refine bP rfl ?_ ?_<;>intro hq)|refine bN (id:=2) mixed (by kernel_rfl) ?_|refine bN (id:=5) mixed (by kernel_rfl) ?_)
  all_goals
    (refine aQ Tryz.results167 (aB rfl) ?_)
    first
      | (rw [if_pos (by assumption),if_pos (by simpa using hq)];exact dE 9 rfl)
      | (rw [if_pos (by assumption),if_neg (by simpa using hq)];exact dA.symm)
      | (rw [if_neg (by assumption),if_pos (by simpa using hq)];exact dE 10 rfl)
      | (rw [if_neg (by assumption),if_neg (by simpa using hq)];exact dA.symm)
structure CL where
  op:Int
  path:ByteArray
  other:ByteArray
  name:ByteArray
  data:ByteArray
  a:Int
  b:Int
abbrev clC (c:CL):List Value:=[.int .i64 c.op,.string c.path,.string c.other,.string c.name,.string c.data,.int .i64 c.a,.int .i64 c.b]
abbrev clV (c:CL):Value:=.agg #[.int .i64 c.op,.string c.path,.string c.other,.string c.name,.string c.data,.int .i64 c.a,.int .i64 c.b]
structure TD where
  kind:Int
  mode:Int
  user:Int
  group:Int
  size:Int
  names:List ByteArray
  data:ByteArray
def tdZ:TD:=⟨0,0,0,0,0,[],⟨#[]⟩⟩
abbrev tdV (t:TD) (A:Option Addr) (n c:Nat):Value:=.agg #[.int .i64 t.kind,.int .i64 t.mode,.int .i64 t.user,.int .i64 t.group,.int .i64 t.size,.slice A n c,.string t.data]
def kS (r:TD×Int) (ev:Value) (v:Value) (V':aI):Prop:=∃ (A:Option Addr) (n c:Nat),v=.tuple #[tdV r.1 A n c,ev]∧bZ V' A n r.1.names∧n≤c
theorem kS.zero {ev:Value} {e:Int} {V':aI}:kS (tdZ,e) ev (.tuple #[tdV tdZ none 0 0,ev]) V':=⟨none,0,0,rfl,bZ.nil,Nat.le_refl _⟩
theorem kS.no {e:Int} {V':aI} (he:¬e=0):kS (tdZ,e) (bT e) (.tuple #[tdV tdZ none 0 0,.iface 120 (.int .i64 e)]) V':=by rw [dU he];exact kS.zero
def iY (b:BX) (c:CL):TD×Int :=
  if ¬cS b (aC c.path)=0 then (tdZ,cS b (aC c.path))
  else if c.op=1 then (⟨(aV b (aC c.path)).n.h.kind,(aV b (aC c.path)).n.h.mode,(aV b (aC c.path)).th.user,(aV b (aC c.path)).th.group,((aV b (aC c.path)).n.h.data.size:Int)+((gQ (bY b.ls (aK (aC c.path)))).length:Int),[],⟨#[]⟩⟩,0)
  else if ¬(aV b (aC c.path)).th.dir=decide (c.op=2) then (tdZ,7)
  else if iL b.c (aV b (aC c.path)).th 4=false then (tdZ,9)
  else (⟨0,0,0,0,0,gQ (bY b.ls (aK (aC c.path))),(aV b (aC c.path)).n.h.data⟩,0)
theorem there_s (V:aI) (p:Nat) (b:BX) (I:BI) (hok:bK b) (h:mZ V p b I) (s:ByteArray) (hl:s.size≤1000000):Fn Tryz.prog 142 [.pointer (some ⟨p,0,none⟩),.string s] V (oT b (aC s)):=by
  have:=there_c V p b I hok h (aC s) (by show s.data.toList.length≤1000000;rw [Array.length_toList];exact hl)
  have e:(⟨(aC s).toArray⟩:ByteArray)=s:=fJ s
  rw [e] at this;exact this
theorem fH {b:BX} (hok:bK b) (l:List UInt8):0≤(aV b l).th.mode∧(aV b l).th.mode≤4095:=pL hok _ _
theorem look_data {b:BX} (hok:bK b) (ss:List ByteArray) (par:TH):(fF b ss par).n.h.data.size≤200:=by
  cases hw:bY b.ls ss with
  | nil=>rw [rH hw];exact Nat.zero_le _
  | cons f t =>
    rw [kG hw]
    have:=(fZ hok.fit ss f (by rw [hw];simp)).here
    exact this.2.2.2.2.2.1
theorem spot_data {b:BX} (hok:bK b) (ss:List ByteArray):∀ k,(eN b ss k).1.n.h.data.size≤200
  | 0=>look_data hok _ _
  | k+1=>by
    have ih:=spot_data hok ss k
    rw [eN]
    (repeat' split)<;>first|exact ih|exact look_data hok _ _
theorem there_data {b:BX} (hok:bK b) (l:List UInt8):(aV b l).n.h.data.size≤200:=spot_data hok _ _
theorem rS {b:BX} (hok:bK b) (ss:List ByteArray):(dW (bY b.ls ss)).length≤1000000:=by
  have h1:=names_few (fZ (p:=dZ) hok.small ss)
  have h2:=nM b.ls ss
  have h3:=hok.l4
  omega
theorem look_c (V:aI) (p:Nat) (b:BX) (I:BI) (hok:bK b) (h:mZ V p b I) (c:CL) (hc:c.path.size≤1000000):Fn Tryz.prog 67 [.pointer (some ⟨p,0,none⟩),clV c] V (kS (iY b c) (bT (iY b c).2)):=by
  have hT:=there_s V p b I hok h c.path hc
  have hmo:=fH hok (aC c.path)
  have hd:=hok.d
  have hm4:I.m≤4:=by rw [←h.2.len];exact hok.l4
  have hnm:=rS hok (aK (aC c.path))
  by_cases hf:cS b (aC c.path)=0
  · have e1:iY b c=if c.op=1 then (⟨(aV b (aC c.path)).n.h.kind,(aV b (aC c.path)).n.h.mode,(aV b (aC c.path)).th.user,(aV b (aC c.path)).th.group,((aV b (aC c.path)).n.h.data.size:Int)+((gQ (bY b.ls (aK (aC c.path)))).length:Int),[],⟨#[]⟩⟩,0)
      else if ¬(aV b (aC c.path)).th.dir=decide (c.op=2) then (tdZ,7)
      else if iL b.c (aV b (aC c.path)).th 4=false then (tdZ,9)
      else (⟨0,0,0,0,0,gQ (bY b.ls (aK (aC c.path))),(aV b (aC c.path)).n.h.data⟩,0):=if_neg (not_not_intro hf)
    rw [e1]
    (refine aH Tryz.func67 rfl Tryz.ntmps67 rfl ?_;intro w0)
    repeat' (first|(refine aE ?_;first|(refine aD ?_;(refine aM rfl ⟨Tryz.call142⟩ rfl rfl (hT) ?_;rintro v V1 hV1 (⟨_,A1,n1,c1,x,rfl,hS1,hc1,hxN,hxn⟩|⟨hx,_⟩);rotate_left;exact absurd hf hx;have hb1:=h.le hV1;obtain⟨hcM1,hcC1,hcq1,hcl1⟩:=hb1.parts))|(refine dG ?_;refine aO rfl siz_214 rfl rfl rfl rfl bG gG rfl ?_)|(refine cX ?_;refine aR (q_bneq und_4 rfl rfl) ?_)|(refine al9 ?_;intro γ)|refine pu9 ?_)|refine cD ?_|fail)
    have hLi:=List_c V1 I.K I.m I.e I.xs hb1.2.ls (by omega) A1 n1 c1 _ hS1 (by rw [hb1.2.eq];exact hnm)
    rw [hb1.2.eq] at hLi
    have hll:=pJ (bY b.ls (aK (aC c.path)))
    have hxh:=n_hd' hxn
    have hds:=(hxN.inv).2.2.1
    rw [←hxh]
    have hMay:=fun V2 (hV2:VLe V1 V2)=>May_c V2 b.c I.A I.n I.k (hb1.2.xs.le hV2) hd (aV b (aC c.path)).th hmo 4 (.inr (.inr rfl))
    generalize gQ (bY b.ls (aK (aC c.path)))=ls at *
    generalize (aV b (aC c.path)).th=th at *
    generalize (aV b (aC c.path)).par=par at *
    generalize iL b.c th 4=m4 at *
    have hds':x.h.data.size≤200:=by rw [hxh];exact there_data hok _
    repeat' (first|(refine aE ?_;first|(refine aD ?_;(refine aM rfl ⟨Tryz.call143⟩ rfl rfl (hLi) ?_;rintro v V2 hV2 ⟨A2,n2,c2,rfl,hS2,hc2⟩;have hsl:=hS2.1.1;have hcC2:=hcC1.le hV2))|(refine cX ?_;refine aR (q_bneq und_4 rfl rfl) ?_)|refine st9 ?_|refine pu9 ?_)|refine bV ?_|(refine aA rfl ?_ ?_<;>intro hq<;>try exact no9))
    all_goals first
      | ((refine bA Tryz.results67 (aS agg_49 rfl bB (by exact rfl)) (aB rfl) ?_)
         rw [if_pos (show c.op=1 from hq)]
         exact⟨none,0,0,by rw [dA,hsl];first|done|rfl,bZ.nil,Nat.le_refl _⟩)
      | ((refine bA Tryz.results67 (aS agg_49 rfl bB (by exact rfl)) (aB rfl) ?_)
         rename_i hq1
         rw [if_neg hq1,if_pos hq]
         exact kS.no (by decide))
      | skip
    rename_i hq1
    have hq2:¬¬th.dir=decide (c.op=2):=hq
    repeat' (first|(refine aE ?_;first|(refine aD ?_;refine aN rfl (aG ⟨Tryz.call144⟩ rfl (hMay _ vl9)) ?_)|refine st9 ?_|refine pu9 ?_)|refine bV ?_|(refine bP rfl ?_ ?_<;>intro hq)|refine bN (id:=9) mixed (by kernel_rfl) ?_)
    all_goals
      (refine bA Tryz.results67 (aS agg_49 rfl bB (by exact rfl)) (aB rfl) ?_)
      rw [if_neg hq1,if_neg hq2]
      first
        | (rw [if_pos (by simpa using hq)];exact kS.no (by decide))
        | (rw [if_neg (by simpa using hq)]
           exact⟨A2,n2,c2,by rw [dA];first|done|rfl,hS2.le vl9,hc2⟩)
  · have e1:iY b c=(tdZ,cS b (aC c.path)):=if_pos hf
    rw [e1]
    (refine aH Tryz.func67 rfl Tryz.ntmps67 rfl ?_;intro w0)
    repeat' (first|(refine aE ?_;first|(refine aD ?_;(refine aM rfl ⟨Tryz.call142⟩ rfl rfl (hT) ?_;rintro v V1 hV1 (⟨hx,_⟩|⟨_,A1,n1,c1,x,lay,par,th,rfl⟩);exact absurd hx hf))|(refine dG ?_;refine aO rfl siz_214 rfl rfl rfl rfl bG gG rfl ?_)|(refine cX ?_;refine aR (q_bneq und_4 rfl rfl) ?_)|refine st9 ?_|(refine al9 ?_;intro γ)|refine pu9 ?_)|refine bV ?_|(refine aA rfl ?_ ?_<;>intro hq<;>try exact no9))
    all_goals first
      | (exfalso;exact hf (by assumption))
      | skip
    all_goals
      (refine bA Tryz.results67 (aS agg_49 rfl bB (by exact rfl)) (aB rfl) ?_)
      exact kS.zero
end
section
def kT:List (Nat×List Value)→Addr→Option Value
  | [],_=>none
  | (g,cs) :: t,p=>if p.block=g∧p.spot=none then cs[p.off]? else kT t p
def aI.plus (V:aI) (Cs:List (Nat×List Value)):aI:=fun p=>(V p).or (kT Cs p)
def aI.off (V:aI) (gs:List Nat):aI:=fun p=>if p.block∈gs then none else V p
theorem lD {V:aI} {Cs:List (Nat×List Value)}:VLe V (V.plus Cs):=fun p x h=>by unfold aI.plus;rw [h];rfl
theorem sO:∀ {Cs:List (Nat×List Value)} {p:Addr} {x:Value},kT Cs p=some x→∃ cs,(p.block,cs)∈Cs∧p.spot=none∧cs[p.off]?=some x
  | [],_,_,h=>by cases h
  | (g,cs) :: t,p,x,h=>by
    rw [kT] at h
    by_cases hc:p.block=g∧p.spot=none
    · rw [if_pos hc] at h
      exact⟨cs,by rw [hc.1];simp,hc.2,h⟩
    · rw [if_neg hc] at h
      obtain⟨cs',h1,h2,h3⟩:=sO h
      exact⟨cs',by simp [h1],h2,h3⟩
def Lent (Cs:List (Nat×List Value)) (Bs:List Box):Prop:=∀ c∈Cs,∃ (t:TypeId) (cs:List Value),(⟨c.1,.cells t,cs⟩:Box)∈Bs∧c.2 <+: cs
theorem Lent.in_ {Cs:List (Nat×List Value)} {Bs:List Box} (h:Lent Cs Bs) {B:Base} {V:aI} {w:World} (hs:St B V Bs w):VIn (V.plus Cs) w:=fun p x hp=>by
  unfold aI.plus at hp
  cases hV:V p with
  | some y=>rw [hV] at hp;cases hp;exact(hs.view p _ hV).1
  | none =>
    rw [hV] at hp
    obtain⟨cs,h1,h2,h3⟩:=sO hp
    obtain⟨t,cs',h4,h5⟩:=h _ h1
    have:=hs.cell (g:=p.block) (cs:=cs') ⟨t,h4⟩ p.off
    obtain⟨r,hr⟩:=h5
    have e:cs'[p.off]?=some x:=by
      rw [←hr,List.getElem?_append_left (List.getElem?_eq_some_iff.1 h3).1];exact h3
    rw [e] at this
    obtain⟨pb,po,ps⟩:=p
    simp only at h2
    subst h2
    exact this
structure Apart (V:aI) (Bs:List Box):Prop where
  v:∀ p x,V p=some x→∀ b∈Bs,b.g≠p.block
  nd:(Bs.map Box.g).Nodup
theorem St.apart {B:Base} {V:aI} {Bs:List Box} {w:World} (hs:St B V Bs w):Apart V Bs:=⟨fun p x hp=>(hs.view p x hp).2,hs.nodup⟩
theorem pZ {V:aI} {Bs:List Box} {Cs:List (Nat×List Value)} {g:Nat} {cs:List Value} (ha:Apart V Bs) (hg:g∈jK Bs) (hc:∀ j,kT Cs ⟨g,j,none⟩=cs[j]?):aL (V.plus Cs) g 0 cs:=fun j v hj=>by
  unfold aI.plus
  rw [Nat.zero_add]
  cases hV:V ⟨g,j,none⟩ with
  | some y =>
    obtain⟨b,hb,he⟩:=List.mem_map.1 hg
    exact absurd he (ha.v _ _ hV b hb)
  | none=>rw [hc j,hj];rfl
section
variable {P : Program}
theorem Fn.lend {f:FuncId} {args:List Value} {V:aI} {Bs:List Box} {Cs:List (Nat×List Value)} {R:Value→aI→Prop} (hL:Lent Cs Bs) (h:Apart V Bs→Fn P f args (V.plus Cs) R) :
    FnB P f args V Bs fun v V2 Bs'=>Bs'=Bs∧∃ V3,VLe (V.plus Cs) V3∧V2=V3.off (jK Bs)∧R v V3∧∀ p x,p.block∈jK Bs→V3 p=some x→kT Cs p=some x:=fun w hs=>by
  refine(h hs.apart w (hL.in_ hs)).mono fun e w' ⟨v,he,hx,V3,h1,h2,h3,h4⟩=>?_
  have hlt:∀ g∈jK Bs,g<w.heap.size:=fun g hg=>by
    obtain⟨b,hb,rfl⟩:=List.mem_map.1 hg
    exact hs.lt hb
  have hVn:∀ p x,V p=some x→¬p.block∈jK Bs:=fun p x hp hg=>by
    obtain⟨b,hb,he⟩:=List.mem_map.1 hg
    exact(hs.view p x hp).2 b hb he
  have hcl:∀ p x,p.block∈jK Bs→V3 p=some x→kT Cs p=some x:=fun p x hg hp=>by
    have:=h3 p x hp (hlt _ hg)
    unfold aI.plus at this
    cases hV:V p with
    | some y=>exact absurd hg (hVn p y hV)
    | none=>rw [hV] at this;exact this
  refine⟨v,V3.off (jK Bs),Bs,he,⟨?_,?_,?_,?_,?_,hs.nodup⟩,rfl,V3,h1,rfl,h4,hcl⟩
  · exact⟨hx.os,hx.tape,hx.output,hx.size,fun k hk _=>hx.block k hk⟩
  · intro p x hp
    unfold aI.off at hp
    split at hp
    · cases hp
    · rename_i hn
      exact⟨h2 p x hp,fun b hb e=>hn (by rw [←e];exact List.mem_map_of_mem (f:=Box.g) hb)⟩
  · intro p x hp hlt2
    unfold aI.off at hp
    split at hp
    · cases hp
    · rename_i hn
      have:=h3 p x hp hlt2
      unfold aI.plus at this
      cases hV:V p with
      | some y =>
        rw [hV] at this
        show V p=some x
        rw [hV];exact this
      | none =>
        rw [hV] at this
        obtain⟨cs,g1,_,_⟩:=sO this
        obtain⟨t,cs',g4,_⟩:=hL _ g1
        exact absurd (List.mem_map_of_mem (f:=Box.g) g4) hn
  · intro p x hp
    unfold aI.off
    rw [if_neg (hVn p x hp)]
    exact h1 p x (lD p x hp)
  · intro b hb
    exact⟨(hx.block b.g (hs.lt hb)).trans (hs.own b hb).1,.inr (List.mem_map_of_mem (f:=Box.g) hb)⟩
end
def qX (V:aI) (gs:List Nat):Prop:=∀ b o s,b∈gs→V ⟨b,o,none⟩=some (.string s)→s.size=0∧∀ u,V ⟨b,o+1,none⟩=some u→∃ A n c,u=.slice A n c
def calmC (cs:List Value):Prop:=∀ (i:Nat) (s:ByteArray),cs[i]?=some (.string s)→s.size=0∧∀ u,cs[i+1]?=some u→∃ A n c,u=.slice A n c
theorem off_at {V:aI} {gs:List Nat} {p:Addr} {x:Value} (hn:¬p.block∈gs) (h:V p=some x):V.off gs p=some x:=by unfold aI.off;rw [if_neg hn];exact h
theorem qX.of {V:aI} {gs:List Nat} {Cs:List (Nat×List Value)} (h:∀ p x,p.block∈gs→V p=some x→kT Cs p=some x) (hc:∀ c∈Cs,calmC c.2) (hu:(Cs.map Prod.fst).Nodup):qX V gs:=fun b o s hb hs=>by
  have key:∀ {Cs:List (Nat×List Value)},(Cs.map Prod.fst).Nodup→∀ {cs:List Value} {o:Nat} {x:Value},(b,cs)∈Cs→kT Cs ⟨b,o,none⟩=some x→cs[o]?=some x:=fun {Cs}=>by
    induction Cs with
    | nil=>intro _ cs o x hm;cases hm
    | cons c Cs ih =>
      intro hu cs o x hm hx
      obtain⟨g,cs0⟩:=c
      rw [List.map_cons,List.nodup_cons] at hu
      rw [kT] at hx
      rcases List.mem_cons.1 hm with h1|h1
      · cases h1
        rw [if_pos ⟨rfl,rfl⟩] at hx;exact hx
      · have hne:¬b=g:=fun e=>hu.1 (by rw [←e];exact List.mem_map.2 ⟨_,h1,rfl⟩)
        rw [if_neg (by rintro ⟨e,_⟩;exact hne e)] at hx
        exact ih hu.2 h1 hx
  obtain⟨cs,h1,h2,h3⟩:=sO (h _ _ hb hs)
  obtain⟨h4,h5⟩:=hc _ h1 _ _ h3
  exact⟨h4,fun u hu2=>h5 u (key hu h1 (h _ _ hb hu2))⟩
end
section
theorem cells_off {V:aI} {gs:List Nat} {b o:Nat} {cs:List Value} (hb:¬b∈gs) (h:aL V b o cs):aL (V.off gs) b o cs:=fun j v hj=>off_at hb (h j v hj)
theorem els_off {α:Type} {V:aI} {gs:List Nat} {sz:Nat} {f:α→List Value} {A:Option Addr} {n:Nat} {xs:List α} (h:eT V sz f A n xs) (hb:∀ (b o:Nat) (x:α),b∈gs→¬aL V b o (f x)):eT (V.off gs) sz f A n xs:=by
  refine⟨h.1,h.2.1,fun hn=>?_⟩
  obtain⟨b,off,ha,hc⟩:=h.2.2 hn
  have hl:=h.1
  have h0:xs[0]?=some (xs[0]'(by omega)):=List.getElem?_eq_getElem (by omega)
  have hnb:¬b∈gs:=fun hm=>hb b _ _ hm (hc 0 _ h0)
  exact⟨b,off,ha,fun k x hk=>cells_off hnb (hc k x hk)⟩
theorem eH.off {V:aI} {gs:List Nat} (hc:qX V gs) {A:Option Addr} {n:Nat} {xs:List PA} (h:eH V A n xs):eH (V.off gs) A n xs :=
  ⟨els_off h.1 (fun b o x hb hx=>by
    obtain⟨_,h2⟩:=hc b (o+0) x.n hb (hx 0 _ rfl)
    obtain⟨A',n',c',h3⟩:=h2 _ (hx 1 _ rfl)
    cases h3),h.2⟩
theorem kids_off {V:aI} {gs:List Nat} (hc:qX V gs) {A:Option Addr} {n:Nat} {es:List LK} (h:eT V 9 lkC A n es):eT (V.off gs) 9 lkC A n es :=
  els_off h fun b o x hb hx=>by
    obtain⟨_,h2⟩:=hc b (o+0) x.nm hb (hx 0 _ rfl)
    obtain⟨A',n',c',h3⟩:=h2 _ (hx 1 _ rfl)
    cases h3
theorem aX.off {V:aI} {gs:List Nat} (hc:qX V gs) {x:LN} (h:aX V x):aX (V.off gs) x:=by
  induction h with
  | mk x es ha hca hd hk hck hks hn hs ih=>exact .mk x es (ha.off hc) hca hd (kids_off hc hk) hck hks hn ih
theorem bZ.off {V:aI} {gs:List Nat} (hc:qX V gs) {A:Option Addr} {n:Nat} {xs:List ByteArray} (h:bZ V A n xs) (hne:∀ s∈xs,0<s.size):bZ (V.off gs) A n xs:=by
  refine⟨⟨h.1.1,h.1.2.1,fun hn=>?_⟩,h.2⟩
  obtain⟨b,off,ha,hcs⟩:=h.1.2.2 hn
  have hl:=h.1.1
  have h0:xs[0]?=some (xs[0]'(by omega)):=List.getElem?_eq_getElem (by omega)
  have hnb:¬b∈gs:=fun hm=>by
    obtain⟨h1,_⟩:=hc b (off+0 * 1+0) _ hm (hcs 0 _ h0 0 _ rfl)
    have:=hne _ (List.getElem_mem (by omega:0<xs.length))
    omega
  exact⟨b,off,ha,fun k x hk=>cells_off hnb (hcs k x hk)⟩
end
section
theorem ones_ln (l:List LN):∀ u∈l.flatMap lnC,iO u=true:=fun u hu=>by
  obtain⟨r,_,hr⟩:=List.mem_flatMap.1 hu
  simp only [List.mem_cons,List.not_mem_nil,or_false] at hr
  rcases hr with rfl|rfl|rfl|rfl|rfl|rfl|rfl|rfl<;>rfl
theorem tD (x:LN):∀ u∈lnC x,iO u=true:=fun u hu=>ones_ln [x] u (by simpa using hu)
theorem lG (x:LN):(lnC x).length=8:=rfl
theorem dP.of {V:aI} {A:Option Addr} {n:Nat} {xs:List LN} (hc:eU V 8 A n (xs.flatMap lnC)) (hl:xs.length=n) (hm:n≤maxLen) (hg:∀ x∈xs,aX V x):dP V A n xs:=⟨eT.of_cells hc lG hl hm,hg⟩
theorem take_all {α:Type} {p:α→Prop} {xs:List α} {k:Nat} {x:α} (h:∀ y∈xs.take k,p y) (hx:xs[k]?=some x) (hp:p x):∀ y∈xs.take (k+1),p y:=fun y hy=>by
  rw [List.take_add_one,hx] at hy
  rcases List.mem_append.1 hy with hy|hy
  · exact h y hy
  · simp at hy;subst hy;exact hp
theorem map_at {xs ys:List LN} (h:xs.map LN.n=ys.map LN.n) {k:Nat} {x y:LN} (hx:xs[k]?=some x) (hy:ys[k]?=some y):x.n=y.n:=by
  have:=congrArg (fun l=>l[k]?) h
  simp only [List.getElem?_map,hx,hy,Option.map_some,Option.some.injEq] at this
  exact this
attribute [local irreducible] AtQ GoC GoL GoW QO QP Fn RV bX aL VLe cG bT
theorem Lights_c (V:aI) (A:Option Addr) (n c:Nat) (xs:List LN) (h:dP V A n xs):Fn Tryz.prog 10 [.slice A n c] V fun v _=>∃ b:Bool,v=.bool b∧(b=true→n≤5∧∀ x∈xs,cA eW x.n):=by
  have hl:=h.1.1
  have hm:=h.1.max
  (refine aH Tryz.func10 rfl Tryz.ntmps10 rfl ?_;intro w0)
  repeat' (first|(refine aE ?_;refine pu9 ?_)|refine bW ?_|(refine aA rfl ?_ ?_<;>intro hq<;>try exact no9))
  all_goals first
    | ((refine aQ Tryz.results10 (aB rfl) ?_);exact⟨false,rfl,fun h=>by cases h⟩)
    | skip
  refine bQ (fun F V' L' m=>∃ k:Nat,VLe V V'∧[]=L'∧k≤n∧(∀ x∈xs.take k,cA eW x.n)∧m=n - k∧F=[(0,.slice A n c),(3,.int .i64 (k:Int))]) (m:=n) ⟨0,VLe.refl _,rfl,Nat.zero_le _,by simp,by omega,rfl⟩ bH rfl sl9 ?_
  rintro F V' L' m ⟨k,hV',rfl,hk,hall,rfl,rfl⟩
  by_cases hlt:k<n
  · obtain⟨b,off,x,hA,hx,hc,hN⟩:=(h.le hV').at_ hlt
    repeat' (first|(refine aE ?_;first|(refine aD ?_;(refine aM rfl ⟨Tryz.call53⟩ rfl rfl (Light_c V' x hN) ?_;rintro v V2 hV2 ⟨b1,rfl,hb1⟩))|(refine cK ?_;refine aR (bL und_30 siz_70 rfl hA rfl hlt) ?_)|refine pu9 ?_)|refine bW ?_|(refine aA rfl ?_ ?_<;>intro hq<;>try exact no9)|(refine bP rfl ?_ ?_<;>intro hq))
    all_goals first
      | ((refine aQ Tryz.results10 (aB rfl) ?_);exact⟨false,rfl,fun h=>by cases h⟩)
      | skip
    refine aZ _ (n - (k+1)) ⟨k+1,vl9,rfl,by omega,take_all hall hx (hb1 (by revert hq;cases b1<;>simp)),rfl,rfl⟩ (by omega) bH sl9
  · obtain rfl:k=n:=by omega
    rw [List.take_of_length_le (by omega)] at hall
    repeat' (first|(refine aE ?_;refine pu9 ?_)|refine dR ?_|(refine aA rfl ?_ ?_<;>intro hq<;>try exact no9))
    all_goals ((refine aQ Tryz.results10 (aB rfl) ?_);exact⟨true,rfl,fun _=>⟨by omega,hall⟩⟩)
theorem copies_c (V:aI) (A:Option Addr) (n c:Nat) (xs:List LN) (h:dP V A n xs) (hn:n≤1000) (hsm:∀ x∈xs,cA dZ x.n):Fn Tryz.prog 12 [.slice A n c] V fun v V'=>∃ (A':Option Addr) (c':Nat) (ys:List LN),v=.slice A' n c'∧dP V' A' n ys∧n≤c'∧ys.map LN.n=xs.map LN.n:=by
  have hl:=h.1.1
  (refine aH Tryz.func12 rfl Tryz.ntmps12 rfl ?_;intro w0)
  repeat' (first|(refine aE ?_;refine pu9 ?_)|refine bW ?_|fail)
  refine bQ (fun F V' L' m=>∃ (k:Nat) (ys:List LN) (A':Option Addr) (c':Nat) (LA:List Box),VLe V V'∧LA=L'∧k≤n∧cU A' k c' 70 8 (ys.flatMap lnC) LA∧ys.map LN.n=(xs.take k).map LN.n∧(∀ y∈ys,aX V' y)∧m=n - k∧F=[(0,.slice A n c),(3,.slice A' k c'),(4,.int .i64 (k:Int))]) (m:=n) ⟨0,[],none,0,[],VLe.refl _,rfl,Nat.zero_le _,cU.nil,rfl,by simp,by omega,rfl⟩ bH rfl sl9 ?_
  rintro F V' L' m ⟨k,ys,A',c',LA,hV',rfl,hk,hr,hyz,hyN,rfl,rfl⟩
  by_cases hlt:k<n
  · obtain⟨b,off,x,hA,hx,hc,hN⟩:=(h.le hV').at_ hlt
    have hO:=Own_v V' x hN (hsm x (List.mem_of_getElem? hx))
    repeat' (first|(refine aE ?_;first|(refine aD ?_;(first|(refine aM rfl ⟨Tryz.call54⟩ rfl rfl (hO) ?_;rintro v V2 hV2 ⟨y,rfl,hyn,hyN2⟩;have ho1:=tD y)|(refine aT rfl und_30 inf_70 rfl rfl rfl hr bF (cZ bB rfl) bG (by omega) rfl rfl ?_;intro A2 c2 L2 hr2)))|(refine cK ?_;refine aR (bL und_30 siz_70 rfl hA rfl hlt) ?_)|(refine cJ ?_;(refine aP rfl und_30 siz_70 zec_70 rfl rfl rfl rfl rfl rfl rfl ?_;intro γ))|refine st9 ?_|(refine al9 ?_;intro γ)|refine pu9 ?_)|refine bW ?_|(refine aA rfl ?_ ?_<;>intro hq<;>try exact no9))
    refine aZ _ (n - (k+1)) ⟨k+1,ys ++ [y],A2,c2,L2,vl9,rfl,by omega,by rw [show (ys ++ [y]).flatMap lnC=ys.flatMap lnC ++ lnC y by rw [List.flatMap_append];simp];exact hr2,by rw [List.take_add_one,hx,List.map_append,List.map_append,hyz];simp [hyn],fun z hz=>?_,rfl,rfl⟩ (by omega) bH sl9
    rcases List.mem_append.1 hz with hz|hz
    · exact(hyN z hz).le hV2
    · rw [List.mem_singleton.1 hz];exact hyN2
  · obtain rfl:k=n:=by omega
    rw [List.take_of_length_le (by omega)] at hyz
    have hcap:=hr.cap
    repeat' (first|(refine aE ?_;refine pu9 ?_)|refine dR ?_|(refine aA rfl ?_ ?_<;>intro hq<;>try exact no9))
    all_goals
      refine eA hr bF ?_
      intro V2 hV2 hc2
      (refine aQ Tryz.results12 (aB rfl) ?_)
      exact⟨_,_,ys,rfl,dP.of hc2 (by have:=congrArg List.length hyz;simp only [List.length_map] at this;omega) (by unfold maxLen;omega) fun y hy=>(hyN y hy).le hV2,hcap,hyz⟩
theorem sameNodes_c (V:aI) (A B:Option Addr) (n c e:Nat) (xs ys:List LN) (h:dP V A n xs) (g:dP V B n ys) (heq:xs.map LN.n=ys.map LN.n):Fn Tryz.prog 22 [.slice A n c,.slice B n e] V fun v _=>v=.bool true:=by
  have hl:=h.1.1
  have hm:=h.1.max
  (refine aH Tryz.func22 rfl Tryz.ntmps22 rfl ?_;intro w0)
  repeat' (first|(refine aE ?_;refine pu9 ?_)|refine bW ?_|(refine aA rfl ?_ ?_<;>intro hq<;>try exact no9))
  all_goals try exact no9
  refine bQ (fun F V' L' m=>∃ k:Nat,V=V'∧[]=L'∧k≤n∧m=n - k∧F=[(0,.slice A n c),(1,.slice B n e),(5,.int .i64 (k:Int))]) (m:=n) ⟨0,rfl,rfl,Nat.zero_le _,by omega,rfl⟩ bH rfl sl9 ?_
  rintro F V' L' m ⟨k,rfl,rfl,hk,rfl,rfl⟩
  by_cases hlt:k<n
  · obtain⟨b1,o1,x,hA,hx,hc1,hN1⟩:=h.at_ hlt
    obtain⟨b2,o2,y,hB,hy,hc2,hN2⟩:=g.at_ hlt
    have hS:=Same1 V x y hN1 hN2 (map_at heq hx hy)
    repeat' (first|(refine aE ?_;first|(refine aD ?_;refine aN rfl (aG ⟨Tryz.call27⟩ rfl (hS)) ?_)|(refine cK ?_;(first|refine aR (bL und_30 siz_70 rfl hB rfl hlt) ?_|refine aR (bL und_30 siz_70 rfl hA rfl hlt) ?_))|refine pu9 ?_)|refine cV ?_|(refine aA rfl ?_ ?_<;>intro hq<;>try exact no9)|refine bN (id:=6) mixed (by kernel_rfl) ?_)
    all_goals (refine aZ _ (n - (k+1)) ⟨k+1,rfl,rfl,by omega,rfl,rfl⟩ (by omega) bH sl9)
  · repeat' (first|(refine aE ?_;refine pu9 ?_)|refine dR ?_|(refine aA rfl ?_ ?_<;>intro hq<;>try exact no9))
    all_goals ((refine aQ Tryz.results22 (aB rfl) ?_);rfl)
end
section
structure oS (V:aI) (b:BX) (I:BI) (L1:List Box):Prop where
  M:mS V I.M
  us:I.M.us=b.us
  gs:I.M.gs=b.gs
  xs:eV V I.A I.n b.c.xs
  nk:True
  row:cU I.K I.m I.e 70 8 (I.xs.flatMap lnC) L1
  ls:∀ x∈I.xs,aX V x
  len:I.xs.length=I.m
  eq:I.xs.map LN.n=b.ls
def eO (V:aI) (p:Nat) (b:BX) (Bs:List Box):Prop:=∃ (I:BI) (L1:List Box),Bs=⟨p,113,bxC I b⟩ :: L1∧oS V b I L1
theorem oS.le {V V':aI} {b:BX} {I:BI} {L1:List Box} (h:oS V b I L1) (hv:VLe V V'):oS V' b I L1:=⟨h.M.le hv,h.us,h.gs,h.xs.le hv,h.nk,h.row,fun x hx=>(h.ls x hx).le hv,h.len,h.eq⟩
theorem eO.le {V V':aI} {p:Nat} {b:BX} {Bs:List Box} (h:eO V p b Bs) (hv:VLe V V'):eO V' p b Bs:=by
  obtain⟨I,L1,h1,h2⟩:=h
  exact⟨I,L1,h1,h2.le hv⟩
theorem oS.lens {V:aI} {b:BX} {I:BI} {L1:List Box} (h:oS V b I L1):b.ls.length=I.m:=by rw [←h.eq,List.length_map,h.len]
theorem oS.open_ {V:aI} {b:BX} {I:BI} {L1:List Box} (h:oS V b I L1) (hok:bK b):∃ (q:Nat) (x0:LN) (xt:List LN) (rest:List Value),I.K=some ⟨q,0,none⟩∧I.xs=x0 :: xt∧L1=[⟨q,70,(x0 :: xt).flatMap lnC ++ rest⟩]∧((x0 :: xt).flatMap lnC ++ rest).length=I.e * 8∧I.m≤I.e∧I.e≤maxLen∧0<I.m:=by
  have hm:0<I.m:=by rw [←h.lens];exact hok.l1
  obtain⟨q,rest,h1,h2,h3,h4,h5⟩:=h.row.open hm
  obtain⟨x0,xt,hx⟩:∃ x0 xt,I.xs=x0 :: xt:=by
    cases hxs:I.xs with
    | nil=>have:=h.len;rw [hxs] at this;simp at this;omega
    | cons x t=>exact⟨x,t,rfl⟩
  rw [hx] at h2 h3
  exact⟨q,x0,xt,rest,h1,hx,h2,h3,h4,h5,hm⟩
theorem calm_bx (I:BI) (b:BX):calmC (bxC I b):=fun i s h=>by
  match i,h with
  | 0,h=>simp at h
  | 1,h=>simp at h
  | 2,h=>simp at h
  | 3,h=>simp at h
  | 4,h=>simp at h
  | 5,h=>simp at h
  | 6,h=>simp at h
  | 7,h=>simp at h
  | i+8,h=>simp at h
theorem sE:∀ {xs:List LN},(∀ x∈xs,x.h.data.size=0)→calmC (xs.flatMap lnC)
  | [],_=>fun i s h=>by simp at h
  | x :: xs,hx=>fun i s h=>by
    have ih:=sE (xs:=xs) fun y hy=>hx y (by simp [hy])
    rw [List.flatMap_cons] at h ⊢
    have h0:=hx x (by simp)
    match i,h with
    | 0,h=>simp at h
    | 1,h=>simp at h
    | 2,h=>simp at h
    | 3,h=>simp at h
    | 4,h=>simp at h
    | 5,h=>simp at h
    | 6,h =>
      simp at h
      refine⟨by rw [←h];exact h0,fun u hu=>?_⟩
      simp at hu
      exact⟨_,_,_,hu.symm⟩
    | 7,h=>simp at h
    | i+8,h =>
      have h':(xs.flatMap lnC)[i]?=some (.string s):=by
        rw [List.getElem?_append_right (by show 8≤i+8;omega)] at h
        exact h
      obtain⟨g1,g2⟩:=ih i s h'
      refine⟨g1,fun u hu=>g2 u ?_⟩
      rw [List.getElem?_append_right (by show 8≤i+8+1;omega)] at hu
      exact hu
theorem bK.data {V:aI} {b:BX} {I:BI} {L1:List Box} (hok:bK b) (h:oS V b I L1):∀ x∈I.xs,x.h.data.size=0:=fun x hx=>by
  have hm:x.n∈b.ls:=by rw [←h.eq];exact List.mem_map_of_mem (f:=LN.n) hx
  obtain⟨u,hu⟩:=hok.tree _ hm
  obtain⟨hk,hc⟩:=rU.1 hu
  obtain⟨_,h1,_⟩:=rB.1 hc
  unfold jJ at h1
  have hk':x.h.kind=2:=hk
  by_cases hd:x.h.data.size=0
  · exact hd
  · exfalso
    split at h1
    · omega
    · split at h1
      · omega
      · split at h1
        · rename_i h9;exact h9 h1
        · split at h1
          · omega
          · split at h1
            · omega
            · rename_i h9
              exact h9 (.inr (.inl ⟨by show ¬x.h.kind=1;omega,by show 0<x.h.data.size;omega⟩))
theorem eO.lend {V:aI} {p:Nat} {b:BX} {Bs:List Box} (hok:bK b) (h:eO V p b Bs):∃ (I:BI) (Cs:List (Nat×List Value)),Lent Cs Bs∧(∀ c∈Cs,calmC c.2)∧(Apart V Bs→(Cs.map Prod.fst).Nodup∧mZ (V.plus Cs) p b I):=by
  obtain⟨I,L1,rfl,hW⟩:=h
  obtain⟨q,x0,xt,rest,hK,hx,rfl,hlen,hme,hml,hm⟩:=hW.open_ hok
  have hd:=hok.data hW
  refine⟨I,[(p,bxC I b),(q,(x0 :: xt).flatMap lnC)],?_,?_,fun ha=>?_⟩
  · intro c hc
    simp only [List.mem_cons,List.not_mem_nil,or_false] at hc
    rcases hc with rfl|rfl
    · exact⟨_,_,List.mem_cons_self,List.prefix_refl _⟩
    · exact⟨_,_,List.mem_cons_of_mem _ List.mem_cons_self,List.prefix_append _ _⟩
  · intro c hc
    simp only [List.mem_cons,List.not_mem_nil,or_false] at hc
    rcases hc with rfl|rfl
    · exact calm_bx I b
    · exact sE (by rw [←hx];exact hd)
  · have hnd:=ha.nd
    simp only [List.map_cons,List.map_nil,List.nodup_cons,List.mem_singleton,List.not_mem_nil,not_false_eq_true,List.nodup_nil,and_true,true_and] at hnd
    have hpq:¬p=q:=hnd
    refine⟨by simp [hpq],pZ ha (by unfold jK;simp) (fun j=>by rw [kT,if_pos ⟨rfl,rfl⟩]),?_⟩
    have hq:aL (V.plus [(p,bxC I b),(q,(x0 :: xt).flatMap lnC)]) q 0 ((x0 :: xt).flatMap lnC):=pZ ha (by unfold jK;simp) (fun j=>by rw [kT,if_neg (by rintro ⟨e,_⟩;exact hpq e.symm),kT,if_pos ⟨rfl,rfl⟩])
    refine⟨hW.M.le lD,hW.us,hW.gs,hW.xs.le lD,hW.nk,?_,hme,hW.eq⟩
    rw [hK,hx]
    refine dP.of ⟨?_,fun _=>⟨q,0,rfl,hq⟩⟩ (by rw [←hx];exact hW.len) (Nat.le_trans hme hml) (fun y hy=>(hW.ls y (by rw [hx];exact hy)).le lD)
    rw [kA lnC lG,←hx,hW.len]
theorem eO.read {f:FuncId} {args:List Value} {V:aI} {p:Nat} {b:BX} {Bs:List Box} {R:Value→aI→Prop} (hok:bK b) (h:eO V p b Bs) (hR:∀ v V gs,qX V gs→R v V→R v (V.off gs)) (hc:∀ V' I,VLe V V'→mZ V' p b I→Fn Tryz.prog f args V' R):FnB Tryz.prog f args V Bs fun v V' Bs'=>Bs'=Bs∧R v V':=fun w hs=>by
  obtain⟨I,Cs,h1,h2,h3⟩:=h.lend hok
  obtain⟨h4,h5⟩:=h3 hs.apart
  refine(Fn.lend h1 (fun _=>hc _ I lD h5) w hs).mono fun e w' ⟨v,V',Bs',he,hst,hB,V3,g1,g2,g3,g4⟩=>?_
  exact⟨v,V',Bs',he,hst,hB,by rw [g2];exact hR v V3 _ (qX.of g4 h2 h4) g3⟩
theorem ToR.off {s:SP×Int} {v:Value} {V:aI} {gs:List Nat} (hc:qX V gs) (h:ToR s v V):ToR s v (V.off gs):=by
  rcases h with ⟨h1,x,h2,h3,h4⟩|h
  · exact .inl ⟨h1,x,h2,h3.off hc,h4⟩
  · exact .inr h
theorem name_pos {s:ByteArray} (h:eX s.toList=true):0<s.size:=by
  rcases Nat.eq_zero_or_pos s.size with h0|h0
  · exfalso
    have:s.toList=[]:=List.eq_nil_of_length_eq_zero (by rw [Lib.toList_data,Array.length_toList];exact h0)
    rw [this] at h
    exact absurd h (by decide)
  · exact h0
theorem pathN_pos {l:List UInt8}:∀ s∈aK l,0<s.size:=fun s hs=>by
  unfold aK at hs
  split at hs
  · rename_i hc
    obtain⟨h1,h2⟩:=hc
    unfold dY at h1
    rw [if_neg h2] at h1
    split at h1
    · omega
    · split at h1
      · omega
      · rename_i h3
        have h3:=Decidable.not_not.1 h3
        obtain⟨q,hq,rfl⟩:=List.mem_map.1 hs
        have:=List.all_eq_true.1 h3 q hq
        refine name_pos ?_
        rw [Lib.toList_data];exact this
  · cases hs
theorem oT.off {b:BX} {l:List UInt8} {v:Value} {V:aI} {gs:List Nat} (hc:qX V gs) (h:oT b l v V):oT b l v (V.off gs):=by
  rcases h with ⟨h1,A,n,c,x,h2,h3,h4,h5,h6⟩|h
  · exact .inl ⟨h1,A,n,c,x,h2,h3.off hc pathN_pos,h4,h5.off hc,h6⟩
  · exact .inr h
theorem grow_bad {b:BX} {u:PN} (h:¬dK true u=0):iZ b u=(b,dK true u):=if_pos h
theorem grow_quota {b:BX} {u:PN} (h:dK true u=0) (h2:b.q<eF u):iZ b u=(b,12):=by unfold iZ;rw [if_neg (not_not_intro h),if_pos h2]
theorem grow_ok {b:BX} {u:PN} (h:dK true u=0) (h2:¬b.q<eF u):iZ b u=({ b with ls:=u :: b.ls.tail },0):=by unfold iZ;rw [if_neg (not_not_intro h),if_neg h2]
def ChB (p:Nat) (r:BX×Int) (v:Value) (V':aI) (Bs':List Box):Prop:=v=bT r.2∧eO V' p r.1 Bs'
theorem bK.grow {b:BX} {u:PN} (hok:bK b) (h:dK true u=0):bK { b with ls:=u :: b.ls.tail }:=by
  obtain⟨n0,t,hl,_⟩:=hok.root
  have h4:=hok.l4
  refine⟨hok.c,hok.q,by simp,?_,?_,?_⟩
  · show (u :: b.ls.tail).length≤4
    rw [hl] at h4 ⊢;simpa using h4
  · intro x hx
    have hx:(u :: b.ls.tail)[0]?=some x:=hx
    simp at hx;rw [←hx];exact h
  · intro j x hj hx
    have hx:(u :: b.ls.tail)[j]?=some x:=hx
    obtain⟨j',rfl⟩:∃ j',j=j'+1:=⟨j - 1,by omega⟩
    refine hok.lo (j'+1) x (by omega) ?_
    rw [hl] at hx ⊢
    simpa using hx
theorem growOk {b:BX} (hok:bK b) (u:PN):bK (iZ b u).1:=by
  unfold iZ
  split
  · exact hok
  · rename_i h
    split
    · exact hok
    · exact hok.grow (Decidable.not_not.1 h)
attribute [local irreducible] AtQ GoC GoL GoW QO QP Fn RV bX aL VLe cG bT
theorem xW (V:aI) (p:Nat) (b:BX) (Bs:List Box) (hok:bK b) (h:eO V p b Bs) (y:LN) (hy:aX V y):FnB Tryz.prog 154 [.pointer (some ⟨p,0,none⟩),lnV y] V Bs (ChB p (iZ b y.n)):=by
  have h0:=h
  obtain⟨I,L1,rfl,hW⟩:=h
  obtain⟨q,x0,xt,rest,hK,hx,rfl,hlen,hme,hml,hm⟩:=hW.open_ hok
  have hC:=fun V2 (hV2:VLe V V2)=>TCheck_c V2 y (hy.le hV2) true
  have hB:=fun V2 (hV2:VLe V V2)=>QBlocks_c V2 y (hy.le hV2)
  by_cases ht:dK true y.n=0
  · rw [ht] at hC
    by_cases hq2:b.q<eF y.n
    · rw [grow_quota ht hq2]
      (refine bI Tryz.func154 rfl Tryz.ntmps154 rfl ?_;intro w0)
      repeat' (first|(refine aE ?_;first|(refine aD ?_;(first|refine aN rfl (aG ⟨Tryz.call65⟩ rfl (hC _ vl9)) ?_|refine aN rfl (aG ⟨Tryz.call77⟩ rfl (hB _ vl9)) ?_))|(refine al9 ?_;intro γ)|refine pu9 ?_)|refine cD ?_|(refine aA rfl ?_ ?_<;>intro hq<;>try exact no9)|refine bN (id:=4) mixed (by kernel_rfl) ?_)
      all_goals try exact no9
      all_goals
        (refine bC Tryz.results154 (aB rfl) (List.Sublist.cons _ (List.Sublist.refl _)) ?_)
        exact⟨dE 12 rfl,I,_,rfl,hW⟩
    · rw [grow_ok ht hq2]
      (refine bI Tryz.func154 rfl Tryz.ntmps154 rfl ?_;intro w0)
      repeat' (first|(refine aE ?_;first|(refine aD ?_;(first|refine aN rfl (aG ⟨Tryz.call65⟩ rfl (hC _ vl9)) ?_|refine aN rfl (aG ⟨Tryz.call77⟩ rfl (hB _ vl9)) ?_))|(refine al9 ?_;intro γ)|refine pu9 ?_)|refine cD ?_|(refine aA rfl ?_ ?_<;>intro hq<;>try exact no9)|refine bN (id:=4) mixed (by kernel_rfl) ?_)
      all_goals try exact no9
      refine bM (id:=6) _ mixed (List.Sublist.cons_cons _ (List.Sublist.cons_cons _ (List.nil_sublist _))) ?_;refine gt9 0 ?_;refine gt9 1 ?_;refine gt9 2 ?_;refine gt9 3 ?_;refine gt9 4 ?_;refine fP 5 rfl rfl (bL (k:=0) und_30 siz_70 rfl hK rfl hm) ?_;refine aY (i:=6) rfl ?_;refine aO rfl siz_70 rfl rfl rfl rfl bG dC rfl ?_;refine aU (by kernel_rfl) vl9 vl9 bD ?_
      all_goals
        repeat' (first|(refine aE ?_;refine pu9 ?_)|refine bV ?_|fail)
        (refine bC Tryz.results154 (aB rfl) (List.Sublist.cons _ (List.Sublist.refl _)) ?_)
        refine⟨dA.symm,{ I with xs:=y :: xt },_,rfl,hW.M,hW.us,hW.gs,hW.xs,hW.nk,?_,?_,?_,?_⟩
        · show cU I.K I.m I.e _ 8 _ _
          rw [hK]
          exact cU.close (f:=lnC) lG (by rw [←hW.len,hx];rfl) (show ((y :: xt).flatMap lnC ++ rest).length=I.e * 8 by rw [←hlen];simp) hme hml
        · intro z hz
          rcases List.mem_cons.1 hz with rfl|hz
          · exact hy
          · exact hW.ls z (by rw [hx];exact List.mem_cons_of_mem _ hz)
        · show (y :: xt).length=I.m
          rw [←hW.len,hx];rfl
        · show y.n :: xt.map LN.n=y.n :: b.ls.tail
          rw [←hW.eq,hx];rfl
  · rw [grow_bad ht]
    (refine bI Tryz.func154 rfl Tryz.ntmps154 rfl ?_;intro w0)
    repeat' (first|(refine aE ?_;first|(refine aD ?_;refine aN rfl (aG ⟨Tryz.call65⟩ rfl (hC _ vl9)) ?_)|(refine al9 ?_;intro γ)|refine pu9 ?_)|refine bV ?_|(refine aA rfl ?_ ?_<;>intro hq<;>try exact no9))
    all_goals first
      | (exfalso;exact ht (by assumption))
      | skip
    all_goals
      (refine bC Tryz.results154 (aB rfl) (List.Sublist.cons _ (List.Sublist.refl _)) ?_)
      exact⟨rfl,I,_,rfl,hW⟩
end
end Go.Proofs.YtejkmomfpidnbabGreat
