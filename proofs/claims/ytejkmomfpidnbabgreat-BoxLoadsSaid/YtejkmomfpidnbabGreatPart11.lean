/- Walks and plain laws, part 11: what functions compute, proved once each (ReadE5, ReadE6, BxZ, RwZ, BoxLc, Open, Fn, Open2, OpenT, Open3, OpenN, OpenB). -/
import Derived.Test.YtejkmomfpidnbabGreatPart9
import Derived.Test.YtejkmomfpidnbabGreatPart10
import Derived.Test.YtejkmomfpidnbabGreatPart4
import Derived.Test.YtejkmomfpidnbabGreatPart1
import Derived.ProofKit
import Derived.OpenShut
import Derived.ShutString
import Derived.ChangeOld
import Derived.Deep.Slices
import Derived.Test.YtejkmomfpidnbabGreatPart2
import Derived.Test.YtejkmomfpidnbabGreatChecked
import Derived.Test.YtejkmomfpidnbabGreatPart3
import Derived.Test.YtejkmomfpidnbabGreatPart6
set_option linter.unusedSimpArgs false
set_option linter.unusedVariables false
set_option maxRecDepth 100000
set_option maxHeartbeats 40000000
namespace Go.Proofs.YtejkmomfpidnbabGreat
open Go.RowKit
section
theorem iQ.own {q:Nat} {full:List UInt8} {st st0:Rd} {Bs Bs0 X:List Box} (h0:iQ q full st0 Bs0) (h:iQ q full st Bs) (hL:∀ b∈Bs,b∈X):∀ x∈fW Bs0,∃ cs,bL X x cs:=by
  obtain⟨a,rfl,_⟩:=h0
  obtain⟨b,rfl,_⟩:=h
  intro x hx
  simp [fW] at hx;subst hx
  exact⟨_,153,hL _ (List.mem_singleton.2 rfl)⟩
theorem pJ (V:aD) (q:Nat) (full:List UInt8) (st:Rd) (Bs:List Box) (h:iQ q full st Bs) (hf:full.length≤1000000) :
    FnB Tryz.prog 95 [.pointer (some ⟨q,0,none⟩),.int .i64 1] V Bs fun v _ Bs'=>v=.int .i64 (cM st).1∧iQ q full (cM st).2 Bs':=by
  have:=snum_c V q full st Bs h hf 1 (by omega)
  rw [numV_one] at this;exact this
theorem snum2_c (V:aD) (q:Nat) (full:List UInt8) (st:Rd) (Bs:List Box) (h:iQ q full st Bs) (hf:full.length≤1000000) :
    FnB Tryz.prog 95 [.pointer (some ⟨q,0,none⟩),.int .i64 2] V Bs fun v _ Bs'=>v=.int .i64 (fZ st).1∧iQ q full (fZ st).2 Bs':=by
  have:=snum_c V q full st Bs h hf 2 (by omega)
  rw [numV_two] at this;exact this
theorem wL (V:aD) (q:Nat) (full:List UInt8) (st:Rd) (Bs:List Box) (h:iQ q full (cM st).2 Bs) (hf:full.length≤1000000) :
    FnB Tryz.prog 201 [.pointer (some ⟨q,0,none⟩),.int .i64 (cM st).1] V Bs fun v _ Bs'=>v=.string (dH st).1∧iQ q full (dH st).2 Bs':=by
  have hb:=jC st
  have:=stext_c V q full (cM st).2 Bs h hf (cM st).1.toNat (by omega)
  rw [show (((cM st).1.toNat:Nat):Int)=(cM st).1 by omega] at this;exact this
attribute [local irreducible] AtQ GoC GoL GoW QO QP Fn RV bL aG VLe bR bK
theorem snode_c (q:Nat) (full:List UInt8) (hf:full.length≤1000000):∀ (f deep:Nat) (V:aD) (st:Rd) (Bs:List Box),iQ q full st Bs→deep+f=7 →
    FnB Tryz.prog 202 [.pointer (some ⟨q,0,none⟩),.int .i64 deep] V Bs fun v V' Bs'=>∃ y:LN,v=lnV y∧aT V' y∧y.n=(eN fZ f st).1∧iQ q full (eN fZ f st).2 Bs':=by
  intro f
  induction f with
  | zero =>
    intro deep V st Bs hB hdf
    obtain⟨a,rfl,h1,h2⟩:=hB
    (refine bD Tryz.func202 rfl Tryz.ntmps202 rfl ?_;intro w0)
    repeat' (first|(refine aE ?_;first|refine st9 ?_|(refine al9 ?_;intro γ)|refine pu9 ?_)|refine cC ?_|(refine aA rfl ?_ ?_<;>intro hq<;>try exact no9))
    all_goals
      (refine bE Tryz.results202 (aW agg_70 rfl bA (by exact rfl)) (List.Sublist.cons _ (List.Sublist.cons _ (List.Sublist.refl _))) ?_)
      exact⟨lnZ,rfl,aT.zero,rfl,a,rfl,h1,h2⟩
  | succ f ih =>
    intro deep V st Bs hB hdf
    simp only [eN]
    have d1:=jC st
    have c1:=fun V Bs h=>pJ V q full st Bs h hf
    generalize cM st=k at *
    have c2:=fun V Bs h=>snum2_c V q full k.2 Bs h hf
    generalize fZ k.2=m at *
    have c3:=fun V Bs h=>snum2_c V q full m.2 Bs h hf
    generalize fZ m.2=u at *
    have c4:=fun V Bs h=>snum2_c V q full u.2 Bs h hf
    generalize fZ u.2=g at *
    have d5:=jC g.2
    have c5:=fun V Bs h=>pJ V q full g.2 Bs h hf
    generalize cM g.2=an at *
    have hfl9:∀ {st:Rd} {B X:List Box},iQ q full st B→(∀ b∈B,b∈X)→∀ x∈fW Bs,∃ cs,bL X x cs:=fun h hL=>iQ.own hB h hL
    (refine bD Tryz.func202 rfl Tryz.ntmps202 rfl ?_;intro w0)
    repeat' (first|(refine aE ?_;first|(refine al9 ?_;intro γ)|refine pu9 ?_)|refine nG ?_|fail)
    refine aA rfl ?_ ?_<;>intro hd6
    · exfalso;omega
    repeat' (first|(refine aE ?_;first|(refine aC ?_;(refine aL rfl ⟨Tryz.call95⟩ rfl aV rfl (c1 _ _ hB) ?_;rintro v V1 B1 hV1 ⟨rfl,hB1⟩))|refine st9 ?_|refine pu9 ?_)|refine nG ?_|fail)
    rename_i γ4
    refine gc_join (fun F V' L'=>V1=V'∧(⟨γ,70,[.int .i64 (if 7<k.1 then k.1 - 8 else k.1),.int .i64 0,.int .i64 0,.int .i64 0,.bool (decide (7<k.1)),.slice none 0 0,.string ⟨#[]⟩,.slice none 0 0]⟩ :: ⟨γ4,70,[.int .i64 0,.int .i64 0,.int .i64 0,.int .i64 0,.bool false,.slice none 0 0,.string ⟨#[]⟩,.slice none 0 0]⟩ :: B1:List Box)=L'∧F=[(0,.pointer (some ⟨q,0,none⟩)),(1,.int .i64 deep),(4,.pointer (some ⟨γ4,0,none⟩)),(5,.pointer (some ⟨γ,0,none⟩))]) ?_ ?_
    · repeat' (first|(refine aE ?_;first|refine st9 ?_|refine pu9 ?_)|refine cC ?_|(refine aA rfl ?_ ?_<;>intro hq<;>try exact no9))
      all_goals exact eX _ ⟨rfl,rfl,rfl⟩ bH (sub_of_eq (by first|(rw [if_pos (show 7<k.1 by omega),decide_eq_true (show 7<k.1 by omega)];rfl)|(rw [if_neg (show ¬7<k.1 by omega),decide_eq_false (show ¬7<k.1 by omega)];rfl)))
    · rintro F V' L' ⟨rfl,rfl,rfl⟩
      repeat' (first|(refine aE ?_;first|(refine aC ?_;(first|(refine aL rfl ⟨Tryz.call95⟩ rfl aV rfl (c2 V1 B1 hB1) ?_;rintro v V2 B2 hV2 ⟨rfl,hB2⟩;clear c2;replace c3:=c3 V2 B2 hB2)|(refine aL rfl ⟨Tryz.call95⟩ rfl aV rfl (c3) ?_;rintro v V3 B3 hV3 ⟨rfl,hB3⟩;clear c3;replace c4:=c4 V3 B3 hB3)|(refine aL rfl ⟨Tryz.call95⟩ rfl aV rfl (c4) ?_;rintro v V4 B4 hV4 ⟨rfl,hB4⟩;clear c4;replace c5:=c5 V4 B4 hB4)|(refine aL rfl ⟨Tryz.call95⟩ rfl aV rfl (c5) ?_;rintro v V5 B5 hV5 ⟨rfl,hB5⟩;clear c5)))|refine st9 ?_|refine pu9 ?_)|refine cC ?_|fail)
      refine gc_join (fun F V' L'=>∃ (A:Option Addr) (na ca:Nat) (B6:List Box),eC V' A na (eB an.1.toNat an.2).1∧na≤ca∧VLe V V'∧iQ q full (eB an.1.toNat an.2).2 B6∧(⟨γ,70,[.int .i64 (if 7<k.1 then k.1 - 8 else k.1),.int .i64 m.1,.int .i64 u.1,.int .i64 g.1,.bool (decide (7<k.1)),.slice A na ca,.string ⟨#[]⟩,.slice none 0 0]⟩ :: ⟨γ4,70,[.int .i64 0,.int .i64 0,.int .i64 0,.int .i64 0,.bool false,.slice none 0 0,.string ⟨#[]⟩,.slice none 0 0]⟩ :: B6:List Box)=L'∧F=[(0,.pointer (some ⟨q,0,none⟩)),(1,.int .i64 deep),(4,.pointer (some ⟨γ4,0,none⟩)),(5,.pointer (some ⟨γ,0,none⟩))]) ?_ ?_
      · refine kC ?_
        refine bN (fun F V' L' m'=>∃ (j:Nat) (s:Rd) (acc:List PA) (A:Option Addr) (na ca:Nat) (LA Bk:List Box) (S:Int),VLe V V'∧iQ q full s Bk∧(⟨γ,70,[.int .i64 (if 7<k.1 then k.1 - 8 else k.1),.int .i64 m.1,.int .i64 u.1,.int .i64 g.1,.bool (decide (7<k.1)),.slice A na ca,.string ⟨#[]⟩,.slice none 0 0]⟩ :: ⟨γ4,70,[.int .i64 0,.int .i64 0,.int .i64 0,.int .i64 0,.bool false,.slice none 0 0,.string ⟨#[]⟩,.slice none 0 0]⟩ :: (LA ++ Bk):List Box)=L'∧cO A na ca 271 2 (acc.flatMap paC) LA∧acc.length=na∧(eB an.1.toNat an.2).1=acc ++ (eB j s).1∧(eB an.1.toNat an.2).2=(eB j s).2∧(∀ a∈acc,a.n.size≤255∧a.v.size≤255)∧na+j≤255∧S=j∧j=m'∧F=[(0,.pointer (some ⟨q,0,none⟩)),(1,.int .i64 deep),(4,.pointer (some ⟨γ4,0,none⟩)),(5,.pointer (some ⟨γ,0,none⟩)),(6,.int .i64 S)]) (m:=an.1.toNat) ⟨an.1.toNat,an.2,[],none,0,0,[],B5,an.1,vl9,hB5,rfl,cO.nil,rfl,rfl,rfl,by simp,by omega,by omega,rfl,rfl⟩ bH rfl (List.Sublist.refl _) ?_
        rintro F V' L' m' ⟨j,s,acc,A,na,ca,LA,Bk,S,hV',hBk,rfl,hr,hacc,ha1,ha2,has,hnj,hS,rfl,rfl⟩
        by_cases hlt:0<j∧s.bad=false
        · obtain⟨hj,hsb⟩:=hlt
          obtain⟨j,rfl⟩:∃ i,j=i+1:=⟨j - 1,by omega⟩
          rw [attrsR_step hsb] at ha1 ha2
          have t1:=gB s
          have t2:=gB (dH s).2
          obtain⟨sl,rfl⟩:∃ sl,s=⟨sl,false⟩:=⟨s.l,by cases s;simp_all⟩
          have e1:=fun V Bs h=>pJ V q full ⟨sl,false⟩ Bs h hf
          have e2:=fun V Bs h=>wL V q full ⟨sl,false⟩ Bs h hf
          have e3:=fun V Bs h=>pJ V q full (dH ⟨sl,false⟩).2 Bs h hf
          have e4:=fun V Bs h=>wL V q full (dH ⟨sl,false⟩).2 Bs h hf
          obtain⟨a0,rfl,z1,z2⟩:=id hBk
          replace e1:=e1 V' _ hBk
          repeat' (first|(refine aE ?_;first|(refine aC ?_;(first|(refine aL rfl ⟨Tryz.call95⟩ rfl aV rfl (e1) ?_;rintro v V6 B6 hV6 ⟨rfl,hB6⟩;clear e1;replace e2:=e2 V6 B6 hB6)|(refine aL rfl ⟨Tryz.call201⟩ rfl aV rfl (e2) ?_;rintro v V7 B7 hV7 ⟨rfl,hB7⟩;clear e2;replace e3:=e3 V7 B7 hB7)|(refine aL rfl ⟨Tryz.call95⟩ rfl aV rfl (e3) ?_;rintro v V8 B8 hV8 ⟨rfl,hB8⟩;clear e3;replace e4:=e4 V8 B8 hB8)|(refine aL rfl ⟨Tryz.call201⟩ rfl aV rfl (e4) ?_;rintro v V9 B9 hV9 ⟨rfl,hB9⟩;clear e4)|(refine aQ rfl und_67 inf_271 rfl rfl rfl hr aV (cY bA rfl) bJ (by omega) rfl rfl ?_;intro A2 c2 L2 hr2)))|(refine cF ?_;(first|(refine aN rfl und_67 siz_271 zec_271 rfl rfl rfl rfl rfl rfl rfl ?_;intro γ)|(refine aN rfl und_68 siz_156 zec_156 rfl rfl rfl rfl rfl rfl rfl ?_;intro γ)))|refine st9 ?_|refine pu9 ?_)|refine dG ?_|(refine aJ rfl rfl rfl ?_ ?_<;>intro hq<;>try exact no9))
          refine aX _ j ⟨j,(dH (dH ⟨sl,false⟩).2).2,acc ++ [⟨(dH ⟨sl,false⟩).1,(dH (dH ⟨sl,false⟩).2).1⟩],A2,na+1,c2,L2,B9,S - 1,vl9,hB9,rfl,by rw [List.flatMap_append];exact hr2,by rw [List.length_append,hacc];rfl,by rw [ha1];simp,ha2,fun a ha=>?_,by omega,by omega,rfl,rfl⟩ (by omega) bH sl9
          rcases List.mem_append.1 ha with ha|ha
          · exact has a ha
          · obtain rfl:=List.mem_singleton.1 ha;exact⟨t1.2,t2.2⟩
        · rw [rJ hlt,List.append_nil] at ha1
          rw [rJ hlt] at ha2
          have hcap:=hr.cap
          rw [ha1,ha2]
          refine gS hr aV ?_ (hfl9 hBk (fun b hb=>by simp [hb]))
          intro V8 hV8 hc8
          have hatt:eC V8 A na acc:=lP hc8 hacc (by unfold maxLen;omega) (fun a ha=>by have:=has a ha;unfold maxLen;omega)
          obtain⟨a0,rfl,z1,z2⟩:=id hBk
          rcases (show j=0∨s.bad=true by rcases Nat.eq_zero_or_pos j with h|h;exact .inl h;exact .inr (by cases hb:s.bad;exact absurd ⟨h,hb⟩ hlt;rfl)) with h0|h0
          · subst h0;subst hS
            repeat' (first|(refine aE ?_;refine pu9 ?_)|refine iX ?_|fail)
            all_goals exact eX _ ⟨A,na,ca,_,hatt,hcap,vl9,hBk,rfl,rfl⟩ bH sl9
          · obtain⟨sl,rfl⟩:∃ sl,s=⟨sl,true⟩:=⟨s.l,by cases s;simp_all⟩
            repeat' (first|(refine aE ?_;refine pu9 ?_)|refine iX ?_|(refine aJ rfl rfl rfl ?_ ?_<;>intro hq<;>try exact no9))
            all_goals exact eX _ ⟨A,na,ca,_,hatt,hcap,vl9,hBk,rfl,rfl⟩ bH sl9
      · generalize eB an.1.toNat an.2=at9 at *
        rintro F V' L' ⟨A,na,ca,B6,hatt,hna,hV',hB6,rfl,rfl⟩
        have c6:=fun V Bs h=>pJ V q full at9.2 Bs h hf
        have l7:=gB at9.2
        have c7:=fun V Bs h=>wL V q full at9.2 Bs h hf
        generalize cM at9.2=bd9 at *
        generalize dH at9.2=d at *
        have d8:=jC d.2
        have c8:=fun V Bs h=>pJ V q full d.2 Bs h hf
        generalize cM d.2=kn at *
        repeat' (first|(refine aE ?_;first|(refine aC ?_;(first|(refine aL rfl ⟨Tryz.call95⟩ rfl aV rfl (c6 V' B6 hB6) ?_;rintro v V2 B2 hV2 ⟨rfl,hB2⟩;clear c6;replace c7:=c7 V2 B2 hB2)|(refine aL rfl ⟨Tryz.call201⟩ rfl aV rfl (c7) ?_;rintro v V3 B3 hV3 ⟨rfl,hB3⟩;clear c7;replace c8:=c8 V3 B3 hB3)|(refine aL rfl ⟨Tryz.call95⟩ rfl aV rfl (c8) ?_;rintro v V4 B4 hV4 ⟨rfl,hB4⟩;clear c8)))|refine st9 ?_|refine pu9 ?_)|refine cC ?_|fail)
        have hV3':VLe V' V4:=hV2.trans (hV3.trans hV4)
        refine kC ?_
        refine bN (fun F V5 L' m'=>∃ (j:Nat) (s:Rd) (es:List LK) (K:Option Addr) (nk ck:Nat) (LK0 Bk:List Box) (S:Int),VLe V4 V5∧iQ q full s Bk∧(⟨γ,70,[.int .i64 (if 7<k.1 then k.1 - 8 else k.1),.int .i64 m.1,.int .i64 u.1,.int .i64 g.1,.bool (decide (7<k.1)),.slice A na ca,.string d.1,.slice K nk ck]⟩ :: ⟨γ4,70,[.int .i64 0,.int .i64 0,.int .i64 0,.int .i64 0,.bool false,.slice none 0 0,.string ⟨#[]⟩,.slice none 0 0]⟩ :: (LK0 ++ Bk):List Box)=L'∧cO K nk ck 156 9 (es.flatMap lkC) LK0∧es.length=nk∧(fX (eN fZ f) kn.1.toNat kn.2).1=es.map kz ++ (fX (eN fZ f) j s).1∧(fX (eN fZ f) kn.1.toNat kn.2).2=(fX (eN fZ f) j s).2∧(∀ e∈es,e.nm.size≤maxLen∧aT V5 e.x)∧nk+j≤255∧S=j∧j=m'∧F=[(0,.pointer (some ⟨q,0,none⟩)),(1,.int .i64 deep),(4,.pointer (some ⟨γ4,0,none⟩)),(5,.pointer (some ⟨γ,0,none⟩)),(9,.int .i64 S)]) (m:=kn.1.toNat) ⟨kn.1.toNat,kn.2,[],none,0,0,[],B4,kn.1,vl9,hB4,rfl,cO.nil,rfl,rfl,rfl,by simp,by omega,by omega,rfl,rfl⟩ bH rfl (List.Sublist.refl _) ?_
        rintro F V5 L' m' ⟨j,s,es,K,nk,ck,LK0,Bk,S,hV5,hBk,rfl,hr,hes,ha1,ha2,hg,hnj,hS,rfl,rfl⟩
        by_cases hlt:0<j∧s.bad=false
        · obtain⟨hj,hsb⟩:=hlt
          obtain⟨j,rfl⟩:∃ i,j=i+1:=⟨j - 1,by omega⟩
          rw [kidsR_step hsb] at ha1 ha2
          have t1:=gB s
          obtain⟨sl,rfl⟩:∃ sl,s=⟨sl,false⟩:=⟨s.l,by cases s;simp_all⟩
          have e1:=fun V Bs h=>pJ V q full ⟨sl,false⟩ Bs h hf
          have e2:=fun V Bs h=>wL V q full ⟨sl,false⟩ Bs h hf
          have hcall:=fun V Bs h=>ih (deep+1) V (dH ⟨sl,false⟩).2 Bs h (by omega)
          rw [Int.natCast_add,Int.natCast_one] at hcall
          generalize cM ⟨sl,false⟩=by9 at *
          generalize dH ⟨sl,false⟩=tx at *
          generalize eN fZ f tx.2=nd at *
          obtain⟨a0,rfl,z1,z2⟩:=id hBk
          replace e1:=e1 V5 _ hBk
          repeat' (first|(refine aE ?_;first|(refine aC ?_;(first|(refine aL rfl ⟨Tryz.call95⟩ rfl aV rfl (e1) ?_;rintro v V6 B6 hV6 ⟨rfl,hB6⟩;clear e1;replace e2:=e2 V6 B6 hB6)|(refine aL rfl ⟨Tryz.call201⟩ rfl aV rfl (e2) ?_;rintro v V7 B7 hV7 ⟨rfl,hB7⟩;clear e2;replace hcall:=hcall V7 B7 hB7)|(refine aL rfl ⟨Tryz.call202⟩ rfl aV rfl (hcall) ?_;rintro v V8 B8 hV8 ⟨y,rfl,hyN,hyn,hB8⟩;have ho1:=ones_k1 ⟨tx.1,y⟩)|(refine aQ rfl und_68 inf_156 rfl rfl rfl hr aV (cY bA rfl) bJ (by omega) rfl rfl ?_;intro A2 c2 L2 hr2)))|(refine cF ?_;(first|(refine aN rfl und_67 siz_271 zec_271 rfl rfl rfl rfl rfl rfl rfl ?_;intro γ)|(refine aN rfl und_68 siz_156 zec_156 rfl rfl rfl rfl rfl rfl rfl ?_;intro γ)))|refine st9 ?_|(refine al9 ?_;intro γ)|refine pu9 ?_)|refine dG ?_|(refine aJ rfl rfl rfl ?_ ?_<;>intro hq<;>try exact no9))
          refine aX _ j ⟨j,nd.2,es ++ [⟨tx.1,y⟩],A2,nk+1,c2,L2,B8,S - 1,vl9,hB8,rfl,by rw [List.flatMap_append];exact hr2,by rw [List.length_append,hes];rfl,by rw [ha1,List.map_append,←hyn];simp [kz],ha2,fun e he=>?_,by omega,by omega,rfl,rfl⟩ (by omega) bH sl9
          rcases List.mem_append.1 he with he|he
          · exact⟨(hg e he).1,(hg e he).2.le vl9⟩
          · obtain rfl:=List.mem_singleton.1 he;exact⟨by have:=t1.2;unfold maxLen;show tx.1.size≤_;omega,hyN⟩
        · rw [tT hlt,List.append_nil] at ha1
          rw [tT hlt] at ha2
          have hcap:=hr.cap
          rw [ha1,ha2]
          refine gS hr aV ?_ (hfl9 hBk (fun b hb=>by simp [hb]))
          intro V8 hV8 hc8
          have hkids:dV V8 K nk es:=dV.of hc8 hes (by unfold maxLen;omega) (fun e he=>⟨(hg e he).1,(hg e he).2.le hV8⟩)
          have hN:aT V8 ⟨hdR k.1 m.1 u.1 g.1 at9.1 d.1,A,na,ca,K,nk,ck,es.map kz⟩:=aT.of (hatt.le (hV3'.trans (hV5.trans hV8))) hna (by have:=l7.2;unfold maxLen;show d.1.size≤_;omega) hcap hkids rfl
          obtain⟨a0,rfl,z1,z2⟩:=id hBk
          rcases (show j=0∨s.bad=true by rcases Nat.eq_zero_or_pos j with h|h;exact .inl h;exact .inr (by cases hb:s.bad;exact absurd ⟨h,hb⟩ hlt;rfl)) with h0|h0
          · subst h0;subst hS
            repeat' (first|(refine aE ?_;first|refine st9 ?_|refine pu9 ?_)|refine iX ?_|fail)
            all_goals
              (refine bE Tryz.results202 (aW agg_70 rfl bA (by exact rfl)) (List.Sublist.cons _ (List.Sublist.cons _ (List.Sublist.refl _))) ?_)
              exact⟨_,rfl,hN,rfl,hBk⟩
          · obtain⟨sl,rfl⟩:∃ sl,s=⟨sl,true⟩:=⟨s.l,by cases s;simp_all⟩
            repeat' (first|(refine aE ?_;first|refine st9 ?_|refine pu9 ?_)|refine iX ?_|(refine aJ rfl rfl rfl ?_ ?_<;>intro hq<;>try exact no9))
            all_goals
              (refine bE Tryz.results202 (aW agg_70 rfl bA (by exact rfl)) (List.Sublist.cons _ (List.Sublist.cons _ (List.Sublist.refl _))) ?_)
              exact⟨_,rfl,hN,rfl,hBk⟩
end
section
attribute [local irreducible] AtQ GoC GoL GoW QO QP Fn RV bL aG VLe bR bK
theorem RParse_c (V:aD) (l:List UInt8) (upper:Bool) (hl:l.length≤100000):Fn Tryz.prog 96 [.string ⟨l.toArray⟩,.bool upper] V (ParseR fZ upper l (.bool true) (.bool false)):=by
  have hsz:=gU l
  have hcall:=fun q V=>snode_c q l (by omega) 7 0 V ⟨l,false⟩ [sBox q l 0 false] ⟨0,rfl,rfl,Nat.zero_le _⟩ rfl
  unfold ParseR okB
  generalize eN fZ 7 ⟨l,false⟩=q at *
  obtain⟨n,rest,bad⟩:=q
  have hbd:=treeF_bd' upper n
  (refine aI Tryz.func96 rfl Tryz.ntmps96 rfl ?_;intro w0)
  repeat' (first|(refine aE ?_;first|(refine aC ?_;(first|(refine aL rfl ⟨Tryz.call202⟩ rfl aV rfl (hcall _ _) ?_;rintro v V2 B2 hV2 ⟨y,rfl,hyN,hyn,a,rfl,ha1,ha2⟩;have hla:=congrArg List.length ha1;rw [List.length_drop] at hla)|refine aP rfl (aK ⟨Tryz.call60⟩ rfl (tI _ y hyN upper)) ?_))|refine st9 ?_|(refine al9 ?_;intro γ)|refine pu9 ?_)|refine cX ?_|(refine aJ rfl rfl rfl ?_ ?_<;>intro hq<;>try exact no9)|(refine bS rfl rfl rfl ?_ ?_<;>intro hq)|(refine aA rfl ?_ ?_<;>intro hq<;>try exact no9))
  all_goals (refine bB Tryz.results96 (aW agg_70 rfl bA (by exact rfl)) (aB rfl) ?_)
  · replace hq:bad=true:=hq
    refine .inr ⟨by rw [hq];rfl,rfl⟩
  · have hne:¬rest=[]:=fun e=>by
      replace hla:rest.length=l.length - a:=hla
      rw [e] at hla;simp at hla;omega
    refine .inr ⟨?_,rfl⟩
    cases rest with
    | nil=>exact absurd rfl hne
    | cons _ _=>simp
  · rw [hyn] at hq
    replace hq:0<cP upper n:=hq
    have hq':¬cP upper n=0:=by omega
    refine .inr ⟨by simp [hq'],rfl⟩
  · rename_i hb hr
    rw [hyn] at hq
    replace hq:¬0<cP upper n:=hq
    replace hb:bad=false:=hb
    replace hla:rest.length=l.length - a:=hla
    have h0:cP upper n=0:=by omega
    have hr':rest=[]:=List.eq_nil_of_length_eq_zero (by omega)
    refine .inl ⟨by simp [hb,hr',h0],y,rfl,hyN,hyn⟩
end
section
section
variable {P : Program} {B : Base} {N : Nat} {F : List (Nat × Value)} {V : aD} {L : List Box} {d : Option Tmp} {ty : TypeId} {pos : String} {af : Array Edge} {gd : Option (Nat × Bool)} {x : Operand}
theorem q_sslice_le {lo:Operand} {i:Int} {s r:ByteArray} {t:TypeId} (hu:bV P t .string) (hx:evF F x=some (.string s)) (hl:evF F lo=some (.int .i64 i)) (h:0≤i∧i≤(s.size:Int)) (he:s.extract i.toNat s.size=r):QP P B N V L ⟨d,.slice t x (some lo) none none,ty,pos,af,gd⟩ F (.string r):=by
  subst he;exact fP hu hx hl h
theorem q_conv_e {k0 k1:IntKind} {s t:TypeId} {a z:Int} (hs:bV P s (.int k0)) (ht:bV P t (.int k1)) (hx:evF F x=some (.int k0 a)) (hw:k1.wrap a=a) (he:a=z):QP P B N V L ⟨d,.convert s t x,ty,pos,af,gd⟩ F (.int k1 z):=by
  subst he;exact sY hs ht hx hw
end
theorem ba_nth {l:List UInt8} {k:Nat} {i:Int} (hi:i=k) (h:k<l.length):∃ c:UInt8,(⟨l.toArray⟩:ByteArray)[i.toNat]?=some c∧l[k]?=some c:=by
  have e:(⟨l.toArray⟩:ByteArray)[i.toNat]?=l[k]?:=by rw [ba_get9,mA,hi,Int.toNat_natCast]
  rw [e,List.getElem?_eq_getElem h]
  exact⟨_,rfl,rfl⟩
attribute [local irreducible] AtQ GoC GoL GoW QO QP Fn RV bL aG VLe bR bK
theorem num_c (V:aD) (g:Nat) (l:List UInt8) (hg:V ⟨g,0,none⟩=some (.string ⟨l.toArray⟩)) (k:Nat) (i:Int) (hi:i=k) (h:k+1<l.length) (hl:l.length≤100000):Fn Tryz.prog 93 [.int .i64 i,.pointer (some ⟨g,0,none⟩)] V fun v _=>v=.int .i64 (kL l k):=by
  obtain⟨a,ha,ha2⟩:=ba_nth (l:=l) (k:=k) (i:=i) hi (by omega)
  obtain⟨b,hb,hb2⟩:=ba_nth (l:=l) (k:=k+1) (i:=i+1) (by omega) h
  have hal:=a.toNat_lt
  have hbl:=b.toNat_lt
  have e:kL l k=(a.toNat:Int) * 256+(b.toNat:Int):=by unfold kL at8;rw [ha2,hb2];rfl
  (refine aI Tryz.func93 rfl Tryz.ntmps93 rfl ?_;intro w0)
  repeat' (first|(refine aE ?_;first|(refine jQ ?_;refine aO (gH und_9 rfl rfl (by omega) (by assumption)) ?_)|(refine eK ?_;refine aO (sY und_5 und_3 rfl (mW (by omega))) ?_)|(refine cN ?_;(first|refine aO (q_shl8 rfl rfl (by omega)) ?_|refine aO (q_shl rfl rfl (by omega)) ?_))|refine pu9 ?_)|refine cC ?_|refine bQ (id:=1) mixed (by kernel_rfl) ?_)
  all_goals
    (refine aM Tryz.results93 (aB rfl) ?_)
    rw [e]
theorem Load_bx (V:aD) (x:CF) (hx:CfV V x) (A:Option Addr) (n c:Nat) (ls:List LN) (h:dR V A n ls) (l:List UInt8) (hl:l.length≤100000):FnB Tryz.prog 25 [cfV x,.slice A n c,.string ⟨l.toArray⟩] V [] fun v V' Bs'=>(¬lY x (ls.map LN.n)=0∧v=.tuple #[.pointer none,bK (lY x (ls.map LN.n))]∧Bs'=[])∨(lY x (ls.map LN.n)=0∧¬pV x.q l∧v=.tuple #[.pointer none,bK 17]∧Bs'=[])∨(lY x (ls.map LN.n)=0∧pV x.q l∧∃ p,v=.tuple #[.pointer (some ⟨p,0,none⟩),bK 0]∧eD V' p (uT (sF x.M.us x.M.gs x.c x.q (ls.map LN.n)) l) Bs'):=by
  have hsz:=gU l
  have hNew:=fun V2 (hV2:VLe V V2)=>New_bx V2 x (hx.le hV2) A n c ls (h.le hV2)
  have hok9:=fun h9=>newOk (x:=x) (ls:=ls.map LN.n) h9
  generalize lY x (ls.map LN.n)=cf at *
  (refine bD Tryz.func25 rfl Tryz.ntmps25 rfl ?_;intro w0)
  repeat' (first|(refine aE ?_;first|(refine al9 ?_;intro γ)|refine pu9 ?_)|refine gx9 ?_|refine cW (id:=0) ?_)
  rename_i g3
  obtain⟨g5,rfl⟩:∃ g5,g5=γ:=⟨γ,rfl⟩
  have hfl0:∀ (V9:aD) (L9:List Box),∀ x9∈(Base.mk V9 w0 (fW [])).fl,∃ cs,bL L9 x9 cs:=fun _ _ x9 h9=>absurd h9 (by simp [fW])
  refine iU (fN.here _ _ _ _) ?_ (hfl0 _ _)
  intro V1 hV1 hcs
  refine iU (fN.here _ _ _ _) ?_ (hfl0 _ _)
  intro V2 hV2 hcx
  have hs0:=dJ hV2 (mP (j:=0) hcs rfl)
  clear hcs
  by_cases h6:6≤l.length
  · obtain⟨k5,hk5,hk5'⟩:=ba_nth (l:=l) (k:=5) (i:=5) rfl (by omega)
    have hkl:=k5.toNat_lt
    have hK:nI l=k5.toNat:=by unfold nI;rw [hk5'];rfl
    repeat' (first|(refine aE ?_;first|(refine k_load ?_;refine aO (cD one_9 rfl (dJ vl9 hs0)) ?_)|(refine aC ?_;(refine aL rfl ⟨Tryz.call13⟩ rfl aV rfl (hNew _ vl9) ?_;rintro v V3 B3 hV3 (⟨hn,rfl,rfl⟩|⟨hn,p,rfl,hB⟩)))|(refine jQ ?_;refine aO (gH und_9 rfl rfl (by omega) (by assumption)) ?_)|(refine eK ?_;refine aO (sY und_5 und_3 rfl (mW (by omega))) ?_)|refine pu9 ?_)|refine cX ?_|(refine aJ rfl rfl rfl ?_ ?_<;>intro hq<;>try exact no9)|(refine aA rfl ?_ ?_<;>intro hq<;>try exact no9)|refine bQ (id:=4) mixed (by kernel_rfl) ?_)
    · (refine dA Tryz.results25 (aB rfl) (aB rfl) (List.nil_sublist _) ?_)
      exact .inl ⟨hn,rfl,rfl⟩
    · (refine dA Tryz.results25 (aB rfl) (aB rfl) (List.nil_sublist _) ?_)
      exact .inr (.inl ⟨hn,fun h9=>by have:=h9.1;omega,by rw [cU (show ¬(17:Int)=0 by decide)],rfl⟩)
    have hok:=hok9 hn
    generalize sF x.M.us x.M.gs x.c x.q (ls.map LN.n)=bx at *
    have hn0:=fun V9 (h9:VLe V2 V9)=>num_c V9 g5 l (dJ h9 hs0) 0 0 rfl (by omega) hl
    have hn2:=fun V9 (h9:VLe V2 V9)=>num_c V9 g5 l (dJ h9 hs0) 2 2 rfl (by omega) hl
    obtain⟨k4,hk4,hk4'⟩:=ba_nth (l:=l) (k:=4) (i:=4) rfl (by omega)
    have hk4l:=k4.toNat_lt
    have h4:at8 l 4=(k4.toNat:Int):=by unfold at8;rw [hk4'];rfl
    refine dZ (fun F V' L'=>∃ (γ11:Nat),VLe V3 V'∧(⟨γ11,27,[.int .i64 (kL l 0),.int .i64 (kL l 2),.slice none 0 0,.int .i64 (at8 l 4)]⟩ :: B3)=L'∧F=[(3,.pointer (some ⟨g3,0,none⟩)),(5,.pointer (some ⟨g5,0,none⟩)),(8,.pointer (some ⟨p,0,none⟩)),(10,.func (.func 93) #[] #[.pointer (some ⟨g5,0,none⟩)]),(11,.pointer (some ⟨γ11,0,none⟩))]) ?_ ?_
    · refine bX (id:=7) _ mixed (List.Sublist.refl _) ?_;refine gt9 0 ?_;refine gt9 2 ?_;refine fL 4 rfl rfl (cD one_9 rfl (dJ vl9 hs0)) ?_;refine fL 5 rfl rfl (gH und_9 rfl rfl (by omega) (by assumption)) ?_;refine fL 6 rfl rfl (q_conv_e und_5 und_3 rfl (mW (by omega)) h4.symm) ?_;(refine dL (i:=1) (j:=8) (by kernel_rfl) rfl rfl rfl rfl vl9 vl9 bP ?_ ?_<;>first|((first|refine aP rfl (iY ⟨Tryz.call93⟩ rfl rfl (hn0 _ vl9)) ?_|refine aP rfl (iY ⟨Tryz.call93⟩ rfl rfl (hn2 _ vl9)) ?_);(refine dL (i:=3) (j:=8) (by kernel_rfl) rfl rfl rfl rfl vl9 vl9 bP ?_ ?_<;>first|((first|refine aP rfl (iY ⟨Tryz.call93⟩ rfl rfl (hn0 _ vl9)) ?_|refine aP rfl (iY ⟨Tryz.call93⟩ rfl rfl (hn2 _ vl9)) ?_);refine gt9 7 ?_;refine aZ (i:=8) rfl ?_;(refine cV rfl zer_27 rfl ?_;intro γ);refine aZ (i:=9) rfl ?_;refine aR rfl siz_27 rfl rfl rfl rfl bJ dP rfl ?_;refine aY (by kernel_rfl) vl9 vl9 bP ?_)|((refine cV rfl zer_27 rfl ?_;intro γ);refine aZ (i:=3) rfl ?_;(first|refine aP rfl (iY ⟨Tryz.call93⟩ rfl rfl (hn0 _ vl9)) ?_|refine aP rfl (iY ⟨Tryz.call93⟩ rfl rfl (hn2 _ vl9)) ?_);refine gt9 7 ?_;refine aZ (i:=9) rfl ?_;refine aR rfl siz_27 rfl rfl rfl rfl bJ dP rfl ?_;refine aY (by kernel_rfl) vl9 vl9 bP ?_)))|((refine cV rfl zer_27 rfl ?_;intro γ);refine aZ (i:=1) rfl ?_;(first|refine aP rfl (iY ⟨Tryz.call93⟩ rfl rfl (hn0 _ vl9)) ?_|refine aP rfl (iY ⟨Tryz.call93⟩ rfl rfl (hn2 _ vl9)) ?_);refine aZ (i:=3) rfl ?_;(first|refine aP rfl (iY ⟨Tryz.call93⟩ rfl rfl (hn0 _ vl9)) ?_|refine aP rfl (iY ⟨Tryz.call93⟩ rfl rfl (hn2 _ vl9)) ?_);refine gt9 7 ?_;refine aZ (i:=9) rfl ?_;refine aR rfl siz_27 rfl rfl rfl rfl bJ dP rfl ?_;refine aY (by kernel_rfl) vl9 vl9 bP ?_))
      all_goals exact dN _ ⟨_,vl9,rfl,rfl⟩ bH sp9
    rintro F V4 L' ⟨γ11,hV4,rfl,rfl⟩
    have hV24:VLe V2 V4:=vl9
    repeat' (first|(refine aE ?_;first|(refine k_load ?_;refine aO (cD one_9 rfl (dJ vl9 hs0)) ?_)|(refine jQ ?_;refine aO (gH und_9 rfl rfl (by omega) (by assumption)) ?_)|(refine eK ?_;refine aO (sY und_5 und_3 rfl (mW (by omega))) ?_)|refine pu9 ?_)|refine bY ?_|fail)
    have hnK:=fun V9 (h9:VLe V4 V9) (k:Nat) (i:Int) (hi:i=((6+2 * k:Nat):Int)) (h8:6+2 * k+1<l.length)=>num_c V9 g5 l (dJ (hV24.trans h9) hs0) (6+2 * k) i hi h8 hl
    refine bN (fun F V' L' m=>∃ (k:Nat) (A9:Option Addr) (c9:Nat) (Lg:List Box),V4=V'∧(⟨γ11,27,[.int .i64 (kL l 0),.int .i64 (kL l 2),.slice A9 k c9,.int .i64 (at8 l 4)]⟩ :: (Lg ++ B3))=L'∧cO A9 k c9 3 1 ((lL l k).map (.int .i64)) Lg∧k≤k5.toNat∧m=k5.toNat - k∧F=[(3,.pointer (some ⟨g3,0,none⟩)),(5,.pointer (some ⟨g5,0,none⟩)),(8,.pointer (some ⟨p,0,none⟩)),(10,.func (.func 93) #[] #[.pointer (some ⟨g5,0,none⟩)]),(11,.pointer (some ⟨γ11,0,none⟩)),(48,.int .i64 k5.toNat),(49,.int .i64 (k:Int))]) (m:=k5.toNat) ⟨0,none,0,[],rfl,rfl,cO.nil,Nat.zero_le _,by omega,rfl⟩ bH rfl sl9 ?_
    rintro F V' L' m ⟨k,A9,c9,Lg,rfl,rfl,hr,hk,rfl,rfl⟩
    by_cases hlt:k<k5.toNat
    · have hnk:=fun V9 (h9:VLe V4 V9)=>hnK V9 h9 k (6+2 * (k:Int)) (by omega) (by omega)
      have hkc:=hr.cap
      repeat' (first|(refine aE ?_;refine pu9 ?_)|refine bY ?_|(refine aA rfl ?_ ?_<;>intro hq<;>try exact no9))
      refine bX (id:=11) _ mixed (List.Sublist.cons _ (List.sublist_append_of_sublist_right (List.Sublist.refl _))) ?_;refine gt9 0 ?_;refine gt9 2 ?_;refine gt9 3 ?_;refine gt9 4 ?_;refine gt9 5 ?_;(refine dL (i:=1) (j:=6) (by kernel_rfl) rfl rfl rfl rfl vl9 vl9 bP ?_ ?_<;>first|((first|refine aO (bC one_25 rfl bA (by exact rfl)) ?_|refine aO (bC one_25 rfl bA (by assumption)) ?_|refine aO (cD one_25 rfl (by assumption)) ?_);refine aZ (i:=6) rfl ?_;refine aP rfl (iY ⟨Tryz.call93⟩ rfl rfl (hnk _ vl9)) ?_;refine aZ (i:=7) rfl ?_;(refine aN rfl und_25 siz_3 zec_3 rfl rfl rfl rfl rfl rfl rfl ?_;intro γ);refine aZ (i:=8) rfl ?_;(refine aQ rfl und_25 inf_3 rfl rfl rfl hr aV (cY bA rfl) bJ (by omega) rfl rfl ?_;intro A8 c8 L8 hr8);refine gt9 9 ?_;refine aZ (i:=10) rfl ?_;refine aR rfl siz_25 rfl rfl rfl rfl bJ dP rfl ?_;refine aY (by kernel_rfl) vl9 vl9 bP ?_)|(refine aP rfl (iY ⟨Tryz.call93⟩ rfl rfl (hnk _ vl9)) ?_;(refine dL (i:=1) (j:=7) (by kernel_rfl) rfl rfl rfl rfl vl9 vl9 bP ?_ ?_<;>first|((first|refine aO (bC one_25 rfl bA (by exact rfl)) ?_|refine aO (bC one_25 rfl bA (by assumption)) ?_|refine aO (cD one_25 rfl (by assumption)) ?_);refine aZ (i:=7) rfl ?_;(refine aN rfl und_25 siz_3 zec_3 rfl rfl rfl rfl rfl rfl rfl ?_;intro γ);refine aZ (i:=8) rfl ?_;(refine aQ rfl und_25 inf_3 rfl rfl rfl hr aV (cY bA rfl) bJ (by omega) rfl rfl ?_;intro A8 c8 L8 hr8);refine gt9 9 ?_;refine aZ (i:=10) rfl ?_;refine aR rfl siz_25 rfl rfl rfl rfl bJ dP rfl ?_;refine aY (by kernel_rfl) vl9 vl9 bP ?_)|((refine aN rfl und_25 siz_3 zec_3 rfl rfl rfl rfl rfl rfl rfl ?_;intro γ);refine aZ (i:=1) rfl ?_;(first|refine aO (bC one_25 rfl bA (by exact rfl)) ?_|refine aO (bC one_25 rfl bA (by assumption)) ?_|refine aO (cD one_25 rfl (by assumption)) ?_);refine aZ (i:=8) rfl ?_;(refine aQ rfl und_25 inf_3 rfl rfl rfl hr aV (cY bA rfl) bJ (by omega) rfl rfl ?_;intro A8 c8 L8 hr8);refine gt9 9 ?_;refine aZ (i:=10) rfl ?_;refine aR rfl siz_25 rfl rfl rfl rfl bJ dP rfl ?_;refine aY (by kernel_rfl) vl9 vl9 bP ?_))))
      all_goals repeat' (first|(refine aE ?_;refine pu9 ?_)|refine cC ?_|fail)
      all_goals
        refine aX _ (k5.toNat - (k+1)) ⟨k+1,A8,c8,L8,rfl,rfl,?_,by omega,rfl,rfl⟩ (by omega) bH wE
        rw [loadXs_succ,List.map_append];exact hr8
    · obtain rfl:k=k5.toNat:=by omega
      have hkc:=hr.cap
      have hXs:lL l k5.toNat=(fR l).xs:=by rw [←hK];rfl
      have hlen:(lL l k5.toNat).length=k5.toNat:=loadXs_len l _
      refine gS hr aV ?_ (hfl0 _ _)
      intro V5 hV5 hc5
      have hI:eM V5 A9 k5.toNat (fR l).xs:=by rw [←hXs];exact mR hlen (by omega) (by rw [Nat.zero_add,List.nil_append];exact hc5)
      have hT:pD l=l.drop (6+2 * k5.toNat):=by unfold pD;rw [hK]
      have htl:(pD l).length≤100000:=by rw [hT,List.length_drop];omega
      have hP:=fun V9 (h9:VLe V5 V9)=>TParse_c V9 (pD l) true htl
      have hex:(⟨l.toArray⟩:ByteArray).extract (6+2 * (k5.toNat:Int)).toNat (⟨l.toArray⟩:ByteArray).size=⟨(pD l).toArray⟩:=by rw [hT,show (6+2 * (k5.toNat:Int)).toNat=6+2 * k5.toNat by omega];exact ex_drop l _
      have hV25:VLe V2 V5:=vl9
      have hV35:VLe V3 V5:=hV4.trans hV5
      have gq:=dJ hV25 (mP (j:=6) hcx rfl)
      have hC:=fun V9 (h9:VLe V5 V9)=>Check_c V9 (kL l 0) (kL l 2) (at8 l 4) A9 k5.toNat c9 (fR l).xs (hI.le h9)
      have hCe:eT (kL l 0) (kL l 2) (at8 l 4) (fR l).xs=eT (fR l).u (fR l).g (fR l).d (fR l).xs:=rfl
      rw [hCe] at hC
      obtain⟨I,L1,rfl,hW⟩:=hB
      obtain⟨q,x0,xt,rest,hKq,hx9,rfl,hlen9,hme,hml,hm⟩:=hW.open_ hok
      repeat' (first|(refine aE ?_;first|(refine k_load ?_;refine aO (cD one_9 rfl (dJ vl9 hs0)) ?_)|(refine aC ?_;(refine aS rfl ⟨Tryz.call94⟩ rfl rfl (hP _ vl9) ?_;rintro v V6 hV6 (⟨hob,y,rfl,hyN,hyn⟩|⟨hob,rfl⟩)))|(refine eG ?_;(first|refine aO (q_sslice_le und_9 rfl rfl (by omega) hex) ?_|refine aO (iN und_9 rfl rfl (by omega)) ?_|refine aO (fP und_9 rfl rfl (by omega)) ?_))|refine st9 ?_|(refine al9 ?_;intro γ)|refine pu9 ?_)|refine dT ?_|(refine aA rfl ?_ ?_<;>intro hq<;>try exact no9))
      · have hBl:=fun V9 (h9:VLe V6 V9)=>QBlocks_c V9 y (hyN.le h9)
        have hyn9:y.n=sJ l:=hyn
        rw [hyn9] at hBl
        have hgq6:=dJ hV6 gq
        repeat' (first|(refine aE ?_;first|(refine k_load ?_;refine aO (cD one_3 rfl (dJ vl9 gq)) ?_)|(refine aC ?_;(first|refine aP rfl (aK ⟨Tryz.call63⟩ rfl (hC _ vl9)) ?_|refine aP rfl (aK ⟨Tryz.call77⟩ rfl (hBl _ vl9)) ?_))|refine st9 ?_|refine pu9 ?_)|refine cX ?_|(refine aJ rfl rfl rfl ?_ ?_<;>intro hq<;>try exact no9)|(refine aA rfl ?_ ?_<;>intro hq<;>try exact no9)|refine bQ (id:=14) mixed (by kernel_rfl) ?_)
        · (refine dA Tryz.results25 (aB rfl) (aB rfl) (List.nil_sublist _) ?_)
          exact .inr (.inl ⟨hn,fun h9=>hq h9.2.2.2.1,by rw [cU (show ¬(17:Int)=0 by decide)],rfl⟩)
        · (refine dA Tryz.results25 (aB rfl) (aB rfl) (List.nil_sublist _) ?_)
          exact .inr (.inl ⟨hn,fun h9=>by have:=h9.2.2.2.2;omega,by rw [cU (show ¬(17:Int)=0 by decide)],rfl⟩)
        · refine bX (id:=17) _ mixed (List.Sublist.cons_cons _ (List.Sublist.cons_cons _ (List.Sublist.cons_cons _ (List.nil_sublist _)))) ?_;refine gt9 0 ?_;refine gt9 1 ?_;refine gt9 2 ?_;refine gt9 3 ?_;refine gt9 4 ?_;refine fL 5 rfl rfl (bF (k:=0) und_30 siz_70 rfl hKq rfl hm) ?_;refine aZ (i:=6) rfl ?_;refine aR rfl siz_70 rfl rfl rfl rfl bJ dP rfl ?_;refine aY (by kernel_rfl) vl9 vl9 bP ?_
          all_goals
            repeat' (first|(refine aE ?_;refine pu9 ?_)|refine cC ?_|fail)
            (refine dA Tryz.results25 (aB rfl) (aB rfl) (List.Sublist.cons _ (List.Sublist.cons _ (List.Sublist.refl _))) ?_)
            refine .inr (.inr ⟨hn,⟨by omega,h6,hob,by first|assumption|exact Decidable.not_not.1 (by assumption)|omega,by omega⟩,p,by rw [cH],{ I with A:=A9,n:=k5.toNat,k:=c9,xs:=y :: xt },_,rfl,hW.M.le vl9,hW.us,hW.gs,hI.le vl9,trivial,?_,?_,?_,?_⟩)
            · show cO I.K I.m I.e _ 8 _ _
              rw [hKq]
              exact cO.close (f:=lnC) oB (by rw [←hW.len,hx9];rfl) (show ((y :: xt).flatMap lnC ++ rest).length=I.e * 8 by rw [←hlen9];simp) hme hml
            · intro z hz
              rcases List.mem_cons.1 hz with rfl|hz
              · exact hyN.le vl9
              · exact(hW.ls z (by rw [hx9];exact List.mem_cons_of_mem _ hz)).le vl9
            · show (y :: xt).length=I.m
              rw [←hW.len,hx9];rfl
            · show y.n :: xt.map LN.n=sJ l :: bx.ls.tail
              rw [←hW.eq,hx9,hyn9];rfl
      · repeat' (first|(refine aE ?_;refine pu9 ?_)|refine cX ?_|refine bQ (id:=14) mixed (by kernel_rfl) ?_)
        (refine dA Tryz.results25 (aB rfl) (aB rfl) (List.nil_sublist _) ?_)
        exact .inr (.inl ⟨hn,fun h9=>by have h8:=h9.2.2.1;rw [hob] at h8;exact absurd h8 (by decide),by rw [cU (show ¬(17:Int)=0 by decide)],rfl⟩)
  · repeat' (first|(refine aE ?_;first|(refine k_load ?_;refine aO (cD one_9 rfl (dJ vl9 hs0)) ?_)|(refine aC ?_;(refine aL rfl ⟨Tryz.call13⟩ rfl aV rfl (hNew _ vl9) ?_;rintro v V3 B3 hV3 (⟨hn,rfl,rfl⟩|⟨hn,p,rfl,hB⟩)))|refine pu9 ?_)|refine cX ?_|(refine aJ rfl rfl rfl ?_ ?_<;>intro hq<;>try exact no9)|(refine aA rfl ?_ ?_<;>intro hq<;>try exact no9)|refine bQ (id:=4) mixed (by kernel_rfl) ?_)
    · (refine dA Tryz.results25 (aB rfl) (aB rfl) (List.nil_sublist _) ?_)
      exact .inl ⟨hn,rfl,rfl⟩
    · (refine dA Tryz.results25 (aB rfl) (aB rfl) (List.nil_sublist _) ?_)
      exact .inr (.inl ⟨hn,fun h9=>by have:=h9.2.1;omega,by rw [cU (show ¬(17:Int)=0 by decide)],rfl⟩)
end
section
attribute [local irreducible] AtQ GoC GoL GoW QO QP Fn RV bL aG VLe bR bK
attribute [local irreducible] FnB
theorem LoadBox_c (V:aD) (x:CF) (hx:CfV V x) (A:Option Addr) (n c:Nat) (ls:List LN) (h:dR V A n ls) (hcf:lY x (ls.map LN.n)=0) (l:List UInt8) (hl:l.length≤100000):FnB Tryz.prog 26 [cfV x,.slice A n c,.string ⟨l.toArray⟩] V [] fun v V' Bs'=>(¬pV x.q l∧v=.tuple #[.pointer none,.bool false]∧Bs'=[])∨(pV x.q l∧∃ (p:Nat) (I:BI) (L1:List Box),v=.tuple #[.pointer (some ⟨p,0,none⟩),.bool true]∧Bs'=⟨p,130,bxC I (uT (sF x.M.us x.M.gs x.c x.q (ls.map LN.n)) l)⟩ :: L1∧nL V' (uT (sF x.M.us x.M.gs x.c x.q (ls.map LN.n)) l) I L1):=by
  have hsz:=gU l
  obtain⟨k1',k2,k3,k4,k5,k6,k7⟩:=cfg_ok hcf
  have hnl:n≤3:=by rw [←h.1.1];simpa using k1'
  have hNew:=fun V2 (hV2:VLe V V2)=>RNew_bx V2 x (hx.le hV2) A n c ls (h.le hV2) hnl k7
  have hok:=newOk hcf
  generalize sF x.M.us x.M.gs x.c x.q (ls.map LN.n)=bx at *
  have hN1:=fun (V2:aD) (q:Nat) (st:Rd) (Bs:List Box) (hB:iQ q l st Bs)=>pJ V2 q l st Bs hB (by omega)
  have hN2:=fun (V2:aD) (q:Nat) (st:Rd) (Bs:List Box) (hB:iQ q l st Bs)=>snum2_c V2 q l st Bs hB (by omega)
  clear k1' k2 k3 k4 k6 hcf
  (refine bD Tryz.func26 rfl Tryz.ntmps26 rfl ?_;intro w0)
  have hfl0:∀ (V9:aD) (L9:List Box),∀ x9∈(Base.mk V9 w0 (fW [])).fl,∃ cs,bL L9 x9 cs:=fun _ _ x9 h9=>absurd h9 (by simp [fW])
  repeat' (first|(refine aE ?_;first|(refine al9 ?_;intro γ)|refine pu9 ?_)|refine gx9 ?_|refine fE [0,1,2] rfl ?_)
  rename_i g3 g8
  obtain⟨g9,rfl⟩:∃ g9,g9=γ:=⟨γ,rfl⟩
  have h0:iQ g8 l ⟨l,false⟩ [sBox g8 l 0 false]:=⟨0,rfl,rfl,Nat.zero_le _⟩
  repeat' (first|(refine aE ?_;first|(refine aC ?_;(refine aL rfl ⟨Tryz.call95⟩ rfl aV rfl (hN2 _ g8 _ _ h0) ?_;rintro v V1 B1 hV1 ⟨rfl,h1⟩))|refine st9 ?_|refine pu9 ?_)|refine gx9 ?_|refine cW (id:=3) ?_)
  repeat' (first|(refine aE ?_;first|(refine aC ?_;(refine aL rfl ⟨Tryz.call95⟩ rfl aV rfl (hN2 _ g8 _ _ h1) ?_;rintro v V2 B2 hV2 ⟨rfl,h2⟩))|refine st9 ?_|refine pu9 ?_)|refine gx9 ?_|refine cW (id:=4) ?_)
  repeat' (first|(refine aE ?_;first|(refine aC ?_;(refine aL rfl ⟨Tryz.call95⟩ rfl aV rfl (hN1 _ g8 _ _ h2) ?_;rintro v V3 B3 hV3 ⟨rfl,h3⟩))|refine st9 ?_|refine pu9 ?_)|refine gx9 ?_|refine cW (id:=5) ?_)
  repeat' (first|(refine aE ?_;first|(refine aC ?_;(refine aL rfl ⟨Tryz.call95⟩ rfl aV rfl (hN1 _ g8 _ _ h3) ?_;rintro v V4 B4 hV4 ⟨rfl,h4⟩))|refine pu9 ?_)|refine bY ?_|fail)
  have h4':iQ g8 l (hd4 l) B4:=h4
  by_cases h6:6≤l.length
  rotate_left
  · have hbad:=hd4_short (l:=l) (by omega)
    obtain⟨a4,rfl,ha4,ha4'⟩:=h4'
    rw [hbad]
    generalize (cM (cM (fZ (fZ ⟨l,false⟩).2).2).2).1=K at *
    generalize (fZ ⟨l,false⟩).1=K1 at *
    generalize (fZ (fZ ⟨l,false⟩).2).1=K2 at *
    generalize (cM (fZ (fZ ⟨l,false⟩).2).2).1=K3 at *
    refine bN (fun F V' L' m=>V4=V'∧[sBox g8 l a4 true]=L'∧F=[(8,.pointer (some ⟨g8,0,none⟩)),(10,.int .i64 K)]) (m:=0) ⟨rfl,rfl,rfl⟩ bH rfl bP ?_
    rintro F V' L' m ⟨rfl,rfl,rfl⟩
    repeat' (first|(refine aE ?_;refine pu9 ?_)|refine iX ?_|(refine aJ rfl rfl rfl ?_ ?_<;>intro hq<;>try exact no9))
    all_goals
      (refine dA Tryz.results26 (aB rfl) (aB rfl) (List.nil_sublist _) ?_)
      exact .inl ⟨fun h9=>h6 h9.2.1,rfl,rfl⟩
  obtain⟨e1,e2,e3,e4,e5⟩:=hd4_long h6
  rw [e1,e2,e3,e4]
  rw [e5] at h4'
  clear h0 h1 h2 h3 h4 e1 e2 e3 e4 e5
  have hkl:nI l≤255:=by unfold nI;have:=(l[5]?.getD 0).toNat_lt;omega
  refine bN (fun F V' L' m=>∃ (st:Rd) (B8 Lg:List Box) (xs:List Int) (n9:Nat) (A9:Option Addr) (c9:Nat) (S:Int),VLe V4 V'∧iQ g8 l st B8∧(⟨g9,27,[.int .i64 (kL l 0),.int .i64 (kL l 2),.slice A9 n9 c9,.int .i64 (at8 l 4)]⟩ :: (Lg ++ (B8 ++ [⟨g3,29,cfC x⟩])))=L'∧cO A9 n9 c9 3 1 (xs.map (.int .i64)) Lg∧xs.length=n9∧0≤S∧(n9:Int)+S=nI l∧((st=⟨l.drop (6+2 * n9),false⟩∧6+2 * n9≤l.length∧xs=lL l n9)∨(st.bad=true∧l.length<6+2 * nI l))∧m=S.toNat∧F=[(1,.slice A n c),(2,.string ⟨l.toArray⟩),(3,.pointer (some ⟨g3,0,none⟩)),(8,.pointer (some ⟨g8,0,none⟩)),(9,.pointer (some ⟨g9,0,none⟩)),(10,.int .i64 S)]) (m:=nI l) ⟨_,B4,[],[],0,none,0,nI l,VLe.refl _,h4',rfl,cO.nil,rfl,by omega,by simp,.inl ⟨rfl,h6,rfl⟩,by omega,rfl⟩ bH rfl bP ?_
  rintro F V5 L' m ⟨st,B8,Lg,xs,n9,A9,c9,S,hV5,hS8,rfl,hr,hxn,hS0,hxS,hor,rfl,rfl⟩
  have hkc:=hr.cap
  by_cases hgo:0<S∧st.bad=false
  · obtain⟨hS1,hnb⟩:=hgo
    obtain⟨hst,hle,hxs⟩:st=⟨l.drop (6+2 * n9),false⟩∧6+2 * n9≤l.length∧xs=lL l n9:=by
      rcases hor with h9|⟨h9,_⟩
      · exact h9
      · rw [h9] at hnb;cases hnb
    have hnum:=fun V9=>hN2 V9 g8 st B8 hS8
    obtain⟨a8,rfl,ha8,ha8'⟩:=hS8
    rw [hnb] at hnum ⊢
    repeat' (first|(refine aE ?_;refine pu9 ?_)|refine dG ?_|(refine aJ rfl rfl rfl ?_ ?_<;>intro hq<;>try exact no9))
    all_goals try exact no9
    refine bX (id:=9) _ mixed (List.nil_sublist _) ?_;refine gt9 0 ?_;refine gt9 2 ?_;(refine dL (i:=1) (j:=3) (by kernel_rfl) rfl rfl rfl rfl vl9 vl9 bP ?_ ?_<;>first|((first|refine aO (bC one_25 rfl bA (by exact rfl)) ?_|refine aO (bC one_25 rfl bA (by assumption)) ?_|refine aO (cD one_25 rfl (by assumption)) ?_);refine aZ (i:=3) rfl ?_;(refine aL rfl ⟨Tryz.call95⟩ rfl aV rfl (hnum _) ?_;rintro v V6 B6 hV6 ⟨rfl,hS6⟩);refine aZ (i:=4) rfl ?_;(refine aN rfl und_25 siz_3 zec_3 rfl rfl rfl rfl rfl rfl rfl ?_;intro γ);refine aZ (i:=5) rfl ?_;(refine aQ rfl und_25 inf_3 rfl rfl rfl hr aV (cY bA rfl) bJ (by omega) rfl rfl ?_;intro A7 c7 L7 hr7);refine gt9 6 ?_;refine aZ (i:=7) rfl ?_;refine aR rfl siz_25 rfl rfl rfl rfl bJ dP rfl ?_;refine aY (by kernel_rfl) vl9 vl9 bP ?_)|((refine aL rfl ⟨Tryz.call95⟩ rfl aV rfl (hnum _) ?_;rintro v V6 B6 hV6 ⟨rfl,hS6⟩);(refine dL (i:=1) (j:=4) (by kernel_rfl) rfl rfl rfl rfl vl9 vl9 bP ?_ ?_<;>first|((first|refine aO (bC one_25 rfl bA (by exact rfl)) ?_|refine aO (bC one_25 rfl bA (by assumption)) ?_|refine aO (cD one_25 rfl (by assumption)) ?_);refine aZ (i:=4) rfl ?_;(refine aN rfl und_25 siz_3 zec_3 rfl rfl rfl rfl rfl rfl rfl ?_;intro γ);refine aZ (i:=5) rfl ?_;(refine aQ rfl und_25 inf_3 rfl rfl rfl hr aV (cY bA rfl) bJ (by omega) rfl rfl ?_;intro A7 c7 L7 hr7);refine gt9 6 ?_;refine aZ (i:=7) rfl ?_;refine aR rfl siz_25 rfl rfl rfl rfl bJ dP rfl ?_;refine aY (by kernel_rfl) vl9 vl9 bP ?_)|((refine aN rfl und_25 siz_3 zec_3 rfl rfl rfl rfl rfl rfl rfl ?_;intro γ);refine aZ (i:=1) rfl ?_;(first|refine aO (bC one_25 rfl bA (by exact rfl)) ?_|refine aO (bC one_25 rfl bA (by assumption)) ?_|refine aO (cD one_25 rfl (by assumption)) ?_);refine aZ (i:=5) rfl ?_;(refine aQ rfl und_25 inf_3 rfl rfl rfl hr aV (cY bA rfl) bJ (by omega) rfl rfl ?_;intro A7 c7 L7 hr7);refine gt9 6 ?_;refine aZ (i:=7) rfl ?_;refine aR rfl siz_25 rfl rfl rfl rfl bJ dP rfl ?_;refine aY (by kernel_rfl) vl9 vl9 bP ?_))))
    all_goals repeat' (first|(refine aE ?_;refine pu9 ?_)|refine cC ?_|fail)
    all_goals
      refine wD (L':=⟨g9,27,[.int .i64 (kL l 0),.int .i64 (kL l 2),.slice A7 (n9+1) c7,.int .i64 (at8 l 4)]⟩ :: (L7 ++ (B6 ++ [⟨g3,29,cfC x⟩]))) sp9 ?_
      refine aX _ (S - 1).toNat ⟨(fZ st).2,B6,L7,xs ++ [(fZ st).1],n9+1,A7,c7,S - 1,vl9,hS6,rfl,by rw [List.map_append];exact hr7,by rw [List.length_append,hxn];rfl,by omega,by omega,?_,rfl,rfl⟩ (by omega) bH (List.Sublist.refl _)
      subst hst
      by_cases h8:6+2 * n9+1<l.length
      · rw [two_at h8]
        exact .inl ⟨by rw [show 6+2 * n9+2=6+2 * (n9+1) by omega],by omega,by rw [loadXs_succ,←hxs]⟩
      · exact .inr ⟨two_no (by show (l.drop (6+2 * n9)).length<2;rw [List.length_drop];omega),by omega⟩
  · by_cases hb:st.bad=true
    · have hlt:l.length<6+2 * nI l:=by
        rcases hor with ⟨h9,_⟩|⟨_,h9⟩
        · rw [h9] at hb;cases hb
        · exact h9
      obtain⟨a8,rfl,ha8,ha8'⟩:=hS8
      rw [hb]
      repeat' (first|(refine aE ?_;refine pu9 ?_)|refine iX ?_|(refine aJ rfl rfl rfl ?_ ?_<;>intro hq<;>try exact no9))
      all_goals first
        | exact no9
        | ((refine dA Tryz.results26 (aB rfl) (aB rfl) (List.nil_sublist _) ?_)
           exact .inl ⟨fun h9=>by have:=h9.1;omega,rfl,rfl⟩)
    have hb9:st.bad=false:=by simpa using hb
    obtain⟨hst,hle,hxs⟩:st=⟨l.drop (6+2 * n9),false⟩∧6+2 * n9≤l.length∧xs=lL l n9:=by
      rcases hor with h9|⟨h9,_⟩
      · exact h9
      · exact absurd h9 hb
    have hS0':¬0<S:=fun h9=>hgo ⟨h9,hb9⟩
    have hnK:n9=nI l:=by omega
    refine gS hr aV ?_ (hfl0 _ _)
    intro V6 hV6 hc6
    have hXs:xs=(fR l).xs:=by rw [hxs,hnK];rfl
    have hI:eM V6 A9 n9 (fR l).xs:=by rw [←hXs];exact mR hxn (by omega) (by rw [Nat.zero_add,List.nil_append];exact hc6)
    have hT:pD l=l.drop (6+2 * n9):=by unfold pD;rw [hnK]
    have htl:(pD l).length≤100000:=by rw [hT,List.length_drop];omega
    obtain⟨a8,rfl,ha8,ha8'⟩:=hS8
    have ha9:a8=6+2 * n9:=by
      have h9:=congrArg List.length ha8
      rw [hst] at h9
      simp only [List.length_drop] at h9
      omega
    rw [hb9]
    have hex:(⟨l.toArray⟩:ByteArray).extract ((a8:Nat):Int).toNat (⟨l.toArray⟩:ByteArray).size=⟨(pD l).toArray⟩:=by rw [hT,ha9,Int.toNat_natCast];exact ex_drop l _
    have hP:=fun V9=>RParse_c V9 (pD l) true htl
    have hC:=fun V9 (h9:VLe V6 V9)=>CredFault_c V9 (kL l 0) (kL l 2) (at8 l 4) A9 n9 c9 (fR l).xs (hI.le h9)
    have hCe:eT (kL l 0) (kL l 2) (at8 l 4) (fR l).xs=eT (fR l).u (fR l).g (fR l).d (fR l).xs:=rfl
    have hcb:=(wQ (fR l).u (fR l).g (fR l).d (fR l).xs).1
    rw [hCe] at hC
    repeat' (first|(refine aE ?_;first|(refine aC ?_;refine aP rfl (aK ⟨Tryz.call59⟩ rfl (hC _ vl9)) ?_)|refine pu9 ?_)|refine gxce9 ?_|(refine aJ rfl rfl rfl ?_ ?_<;>intro hq<;>try exact no9)|refine fE [7,10,11] rfl ?_|(refine aA rfl ?_ ?_<;>intro hq<;>try exact no9))
    all_goals first
      | exact no9
      | (refine iI ?_;(refine dA Tryz.results26 (aB rfl) (aB rfl) (List.nil_sublist _) ?_)
         exact .inl ⟨fun h9=>by have:=h9.2.2.2.1;omega,rfl,rfl⟩)
      | skip
    have hcr:eT (fR l).u (fR l).g (fR l).d (fR l).xs=0:=by omega
    repeat' (first|(refine aE ?_;first|(refine aC ?_;(refine aS rfl ⟨Tryz.call96⟩ rfl rfl (hP _) ?_;rintro v V7 hV7 (⟨hob,y,rfl,hyN,hyn⟩|⟨hob,rfl⟩)))|(refine eG ?_;(first|refine aO (q_sslice_le und_9 rfl rfl (by omega) hex) ?_|refine aO (iN und_9 rfl rfl (by omega)) ?_|refine aO (fP und_9 rfl rfl (by omega)) ?_))|refine st9 ?_|(refine al9 ?_;intro γ)|refine pu9 ?_)|refine cC ?_|fail)
    · rw [ln_whole]
      have hyn9:y.n=sJ l:=by
        rw [hyn]
        have h8:=hob
        rw [okB_eq] at h8
        have h7:=(okB_yes uK h8).2.2
        unfold sJ
        rw [nodeG_eq uK twoQ_is h7]
      rw [okB_eq] at hob
      have hBl:=fun V9 (h9:VLe V7 V9)=>RBlocks_c V9 y (hyN.le h9)
      rw [hyn9] at hBl
      obtain⟨g11,rfl⟩:∃ g11,g11=γ:=⟨γ,rfl⟩
      have hVV7:VLe V V7:=vl9
      have hNew7:=fun V2 (hV2:VLe V7 V2)=>hNew V2 (hVV7.trans hV2)
      repeat' (first|(refine aE ?_;first|(refine aC ?_;(first|refine aP rfl (aK ⟨Tryz.call87⟩ rfl (hBl _ vl9)) ?_|(refine aL rfl ⟨Tryz.call17⟩ rfl aV rfl (hNew7 _ vl9) ?_;rintro v V8 B8 hV8 ⟨p,I,L1,rfl,rfl,hW⟩)))|refine pu9 ?_)|refine gx9 ?_|refine fE [14,15] rfl ?_|(refine aA rfl ?_ ?_<;>intro hq<;>try exact no9)|refine bQ (id:=13) mixed (by kernel_rfl) ?_)
      all_goals first
        | (refine iI ?_;(refine dA Tryz.results26 (aB rfl) (aB rfl) (List.nil_sublist _) ?_)
           exact .inl ⟨fun h9=>by have:=h9.2.2.2.2;omega,rfl,rfl⟩)
        | skip
      obtain⟨q,x0,xt,rest,hKq,hx9,rfl,hlen9,hme,hml,hm⟩:=hW.open_ hok
      repeat' (first|(refine aE ?_;first|refine st9 ?_|refine pu9 ?_)|refine cC ?_|fail)
      refine bX (id:=17) _ mixed (List.Sublist.cons_cons _ (List.Sublist.cons _ (List.Sublist.cons_cons _ (List.nil_sublist _)))) ?_;refine gt9 0 ?_;refine gt9 1 ?_;refine gt9 2 ?_;refine gt9 3 ?_;refine gt9 4 ?_;refine fL 5 rfl rfl (bF (k:=0) und_30 siz_70 rfl hKq rfl hm) ?_;refine aZ (i:=6) rfl ?_;refine aR rfl siz_70 rfl rfl rfl rfl bJ dP rfl ?_;refine aY (by kernel_rfl) vl9 vl9 bP ?_
      all_goals
        repeat' (first|(refine aE ?_;refine pu9 ?_)|refine cC ?_|fail)
        refine wD (L':=[⟨p,130,bxC { I with A:=A9,n:=n9,k:=c9,xs:=y :: xt } (uT bx l)⟩,⟨q,70,(y :: xt).flatMap lnC ++ rest⟩]) sp9 ?_
        (refine dA Tryz.results26 (aB rfl) (aB rfl) (List.Sublist.refl _) ?_)
        have hI8:=hI.le (show VLe V6 V8 from hV7.trans hV8)
        refine .inr ⟨⟨by omega,h6,hob,hcr,by omega⟩,p,{ I with A:=A9,n:=n9,k:=c9,xs:=y :: xt },_,rfl,rfl,hW.M,hW.us,hW.gs,hI8,trivial,?_,?_,?_,?_⟩
        · show cO I.K I.m I.e _ 8 _ _
          rw [hKq]
          exact cO.close (f:=lnC) oB (by rw [←hW.len,hx9];rfl) (show ((y :: xt).flatMap lnC ++ rest).length=I.e * 8 by rw [←hlen9];simp) hme hml
        · intro z hz
          rcases List.mem_cons.1 hz with rfl|hz
          · exact hyN.le hV8
          · exact hW.ls z (by rw [hx9];exact List.mem_cons_of_mem _ hz)
        · show (y :: xt).length=I.m
          rw [←hW.len,hx9];rfl
        · show y.n :: xt.map LN.n=sJ l :: bx.ls.tail
          rw [←hW.eq,hx9,hyn9];rfl
    · rw [okB_eq] at hob
      repeat' (first|(refine aE ?_;refine pu9 ?_)|refine cX ?_|refine bQ (id:=13) mixed (by kernel_rfl) ?_)
      all_goals
        (refine dA Tryz.results26 (aB rfl) (aB rfl) (List.nil_sublist _) ?_)
        exact .inl ⟨fun h9=>by have h8:=h9.2.2.1;rw [hob] at h8;exact absurd h8 (by decide),rfl,rfl⟩
end
section
theorem load_same {x:CF} {ls:List PN} {b:BX} (h:InB x ls b):uT (sF x.M.us x.M.gs x.c x.q ls) (lW b)=b:=by
  have hl:=h.ok.l1
  obtain⟨us,gs,c,q,l0⟩:=b
  cases l0 with
  | nil=>simp at hl
  | cons n0 t =>
    have e1:us=x.M.us:=h.us
    have e2:gs=x.M.gs:=h.gs
    have e3:q=x.q:=h.q
    have e5:t=ls:=h.tl
    have e6:=load_back h.ok
    have e7:=loadN_box h.ok
    unfold uT sF
    rw [e6,e7,←e1,←e2,←e3,←e5]
    rfl
theorem box_few9 {b:BX} (h:bI b):(lW b).length≤100000:=by
  have h1:=(kP h.up0).2
  have h2:=(eY h.c).2.2.2.1
  have h3:=oI b.c.xs
  rw [nM]
  simp only [List.length_cons,List.length_append]
  unfold fG
  rw [if_pos h.up0]
  omega
theorem Load_same {x:CF} {ls:List LN} {b:BX} (hcf:lY x (ls.map LN.n)=0) (hI:InB x (ls.map LN.n) b) (V:aD) (hx:CfV V x) (A:Option Addr) (n c:Nat) (h:dR V A n ls):FnB Tryz.prog 25 [cfV x,.slice A n c,.string ⟨(lW b).toArray⟩] V [] fun v V' Bs'=>∃ p,v=.tuple #[.pointer (some ⟨p,0,none⟩),bK 0]∧eD V' p b Bs':=by
  have hL:=Load_bx V x hx A n c ls h (lW b) (box_few9 hI.ok)
  refine hL.mono7 fun v V' Bs' h9=>?_
  rcases h9 with ⟨h1,_⟩|⟨_,h2,_⟩|⟨_,_,p,h3,h4⟩
  · exact absurd hcf h1
  · exact absurd (loadOk_of hI.ok (by rw [←hI.q];exact hI.room)) h2
  · exact⟨p,h3,by rw [←load_same hI];exact h4⟩
section
variable {P : Program} {B : Base} {N : Nat} {F : List (Nat × Value)} {V : aD} {L : List Box} {d : Option Tmp} {ty : TypeId} {pos : String} {af : Array Edge} {gd : Option (Nat × Bool)} {x : Operand}
theorem q_pnil_neq {t ty2:TypeId} {p:Option Addr} (hp:PtrIs P t) (hx:evF F x=some (.pointer p)):QP P B N V L ⟨d,.binOp .neq t x (.const (.pointer none)) ty2,ty,pos,af,gd⟩ F (.bool (!p.isNone)) :=
  pC (y:=.const (.pointer none)) hx rfl (fun w=>by simp [eqGuard]) (fun w=>run_neq_pointer_nil w t p hp.h)
end
attribute [local irreducible] AtQ GoC GoL GoW QO QP Fn RV bL aG VLe bR bK
attribute [local irreducible] FnB eD jG DoR lD rY RDoR
theorem BoxLoads_c (V:aD) (x:CF) (hx:CfV V x) (A:Option Addr) (n c:Nat) (ls:List LN) (h:dR V A n ls) (hnc:n≤c) (s:ByteArray) (hss:s.size≤maxLen) (B:Option Addr) (m e:Nat) (xs:List CL) (hc:eP V 7 clC B m xs):Fn Tryz.prog 5 [cfV x,.slice A n c,.string s,.slice B m e] V fun v _=>v=.bool true:=by
  have hin:=fun h9=>InB.new (x:=x) (ls:=ls.map LN.n) h9
  have hmx:=hc.max
  have hcl:=hc.1
  have hL:=fun V2 (hV2:VLe V V2)=>Lights_c V2 A n c ls (h.le hV2)
  have hLC:=fun V2 (hV2:VLe V V2)=>LightCalls_c V2 B m e xs (hc.le hV2)
  have hsl:s.size≤3000→(aH s).length≤100000:=fun h9=>by
    have:(aH s).length=s.size:=by show s.data.toList.length=s.size;rw [Array.length_toList];rfl
    omega
  have hLd:=fun h9 V2 (hV2:VLe V V2)=>Load_bx V2 x (hx.le hV2) A n c ls (h.le hV2) (aH s) h9
  have hBF:=fun V2 (hV2:VLe V V2)=>BoxFault_c V2 x (hx.le hV2) A n c ls (h.le hV2)
  have hRL:=fun hcf h9 V2 (hV2:VLe V V2)=>LoadBox_c V2 x (hx.le hV2) A n c ls (h.le hV2) hcf (aH s) h9
  have hNew:=fun V2 (hV2:VLe V V2)=>New_bx V2 x (hx.le hV2) A n c ls (h.le hV2)
  have hLS:=fun hcf b hI V2 (hV2:VLe V V2)=>Load_same (b:=b) hcf hI V2 (hx.le hV2) A n c (h.le hV2)
  have hok0:=fun h9=>newOk (x:=x) (ls:=ls.map LN.n) h9
  have hcb:=cfgF_bd x (ls.map LN.n)
  rw [show (⟨(aH s).toArray⟩:ByteArray)=s from gZ s] at hLd hRL
  generalize hcfe:lY x (ls.map LN.n)=cf at *
  generalize sF x.M.us x.M.gs x.c x.q (ls.map LN.n)=bx at *
  (refine aI Tryz.func5 rfl Tryz.ntmps5 rfl ?_;intro w0)
  repeat' (first|(refine aE ?_;first|(refine al9 ?_;intro γ)|refine pu9 ?_)|refine gx9 ?_|refine cW (id:=0) ?_)
  obtain⟨g4,rfl⟩:∃ g4,g4=γ:=⟨γ,rfl⟩
  repeat' (first|(refine aE ?_;first|(refine aC ?_;(first|(refine aS rfl ⟨Tryz.call8⟩ rfl rfl (opens_c _) ?_;rintro v V0 hV0 rfl)|(refine aS rfl ⟨Tryz.call9⟩ rfl rfl (LightConfig_c _ x) ?_;rintro v V1 hV1 ⟨b1,rfl⟩)|(refine aS rfl ⟨Tryz.call10⟩ rfl rfl (hL _ vl9) ?_;rintro v V1 hV1 ⟨b2,rfl,hb2⟩)|(refine aS rfl ⟨Tryz.call11⟩ rfl rfl (hLC _ vl9) ?_;rintro v V1 hV1 ⟨b3,rfl,hb3⟩)))|refine pu9 ?_)|refine jR ?_|(refine bS rfl rfl rfl ?_ ?_<;>intro hq)|refine fE [1,2,3] rfl ?_|(refine aA rfl ?_ ?_<;>intro hq<;>try exact no9))
  all_goals first
    | (refine iI ?_;(refine aM Tryz.results5 (aB rfl) ?_);rfl)
    | skip
  have k3:b3=true:=by cases b3 with
    | true=>rfl
    | false=>exact absurd (by assumption:(!false)=false) (by decide)
  have hlt3:=hb3 k3
  have hl9:=hsl (by omega)
  have hVV1:VLe V V1:=vl9
  clear hb2 hb3 hL hLC k3 hsl
  have hLd:=hLd hl9
  have hS17:=fun V2=>same_is V2 17 (by omega)
  by_cases hcf:cf=0
  rotate_left
  · have hS:=fun V2=>same_is V2 cf hcb
    repeat' (first|(refine aE ?_;first|(refine aC ?_;(first|(refine aL rfl ⟨Tryz.call25⟩ rfl aV rfl (hLd _ vl9) ?_;rintro v V3 B3 hV3 (⟨hn,rfl,rfl⟩|⟨hn,_⟩|⟨hn,_⟩);rotate_left;exact absurd hn hcf;exact absurd hn hcf)|refine aP rfl (aK ⟨Tryz.call14⟩ rfl (hBF _ vl9)) ?_|refine aP rfl (aK ⟨Tryz.call15⟩ rfl (hS _)) ?_))|(refine cN ?_;refine aO (kK qT rfl) ?_)|refine pu9 ?_)|refine gx9 ?_|refine fE [4,5,6,7] rfl ?_|(refine aA rfl ?_ ?_<;>intro hq<;>try exact no9))
    all_goals first
      | exact no9
      | ((refine aM Tryz.results5 (aB rfl) ?_);rfl)
  have hRL1:=hRL hcf hl9
  have hok1:=hok0 hcf
  have hI0:=hin hcf
  have hLS1:=hLS hcf
  clear hok0 hin hRL hLS
  subst hcf
  refine dZ (fun F V' L'=>∃ (v9:Value) (e9:Int) (Bs9:List Box),VLe V1 V'∧((¬pV x.q (aH s)∧v9=.pointer none∧e9=17∧Bs9=[])∨(pV x.q (aH s)∧∃ p,v9=.pointer (some ⟨p,0,none⟩)∧e9=0∧eD V' p (uT bx (aH s)) Bs9))∧Bs9 ++ [⟨g4,29,cfC x⟩]=L'∧F=[(1,.slice A n c),(2,.string s),(3,.slice B m e),(4,.pointer (some ⟨g4,0,none⟩)),(10,v9),(11,bK e9)]) ?_ ?_
  · repeat' (first|(refine aE ?_;first|(refine aC ?_;(refine aL rfl ⟨Tryz.call25⟩ rfl aV rfl (hLd _ vl9) ?_;rintro v V3 B3 hV3 (⟨hn,_⟩|⟨_,hn,rfl,rfl⟩|⟨_,hn,p,rfl,hB⟩);exact absurd rfl hn))|refine pu9 ?_)|refine gx9 ?_|refine cW (id:=4) ?_)
    · exact dN _ ⟨.pointer none,17,[],vl9,.inl ⟨hn,rfl,rfl,rfl⟩,rfl,rfl⟩ bH sp9
    · exact dN _ ⟨_,0,B3,vl9,.inr ⟨hn,p,rfl,rfl,hB⟩,rfl,rfl⟩ bH sp9
  rintro F V3 L' ⟨v9,e9,Bs9,hV3,hor,rfl,rfl⟩
  have hVV3:=hVV1.trans hV3
  have hBF3:=fun V2 (hV2:VLe V3 V2)=>hBF V2 (hVV3.trans hV2)
  have hRL3:=fun V2 (hV2:VLe V3 V2)=>hRL1 V2 (hVV3.trans hV2)
  repeat' (first|(refine aE ?_;first|(refine aC ?_;refine aP rfl (aK ⟨Tryz.call14⟩ rfl (hBF3 _ vl9)) ?_)|refine pu9 ?_)|refine jR ?_|refine fE [5,6] rfl ?_)
  all_goals try exact no9
  refine dZ (fun F V' L'=>∃ (w9:Value) (b9:Bool) (Cs9:List Box),VLe V3 V'∧((¬pV x.q (aH s)∧w9=.pointer none∧b9=false∧Cs9=[])∨(pV x.q (aH s)∧∃ p,w9=.pointer (some ⟨p,0,none⟩)∧b9=true∧lD V' p (uT bx (aH s)) Cs9))∧Bs9 ++ (Cs9 ++ [⟨g4,29,cfC x⟩])=L'∧F=[(1,.slice A n c),(3,.slice B m e),(4,.pointer (some ⟨g4,0,none⟩)),(10,v9),(11,bK e9),(13,w9),(14,.bool b9)]) ?_ ?_
  · repeat' (first|(refine aE ?_;first|(refine aC ?_;(refine aL rfl ⟨Tryz.call26⟩ rfl dO rfl (hRL3 _ vl9) ?_;rintro v V4 B4 hV4 (⟨hn,rfl,rfl⟩|⟨hn,p,I4,L4,rfl,rfl,hW4⟩)))|refine pu9 ?_)|refine gx9 ?_|refine cW (id:=8) ?_)
    · exact dN _ ⟨.pointer none,false,[],vl9,.inl ⟨hn,rfl,rfl,rfl⟩,rfl,rfl⟩ bH sp9
    · refine fF hW4.row aV ?_
      intro V5 hV5 hc5
      exact dN _ ⟨_,true,_,hV4.trans hV5,.inr ⟨hn,p,rfl,rfl,hW4.rbox (loadOk_box hok1 hn) hV5 hc5⟩,rfl,rfl⟩ bH sp9
  rintro F V4 L' ⟨w9,b9,Cs9,hV4,hor2,rfl,rfl⟩
  have hVV4:=hVV3.trans hV4
  refine wD (L':=(Bs9 ++ Cs9) ++ [⟨g4,29,cfC x⟩]) (by rw [List.append_assoc];exact sp9) ?_
  repeat' (first|refine gx9 ?_|fail)
  refine oJ (fun F V' L'=>VLe V4 V'∧[⟨g4,29,cfC x⟩]=L'∧F=[(1,.slice A n c),(3,.slice B m e),(4,.pointer (some ⟨g4,0,none⟩))]) ?_ ?_
  · rcases hor with ⟨hn,rfl,rfl,rfl⟩|⟨hn,p,rfl,rfl,hB⟩
    · rcases hor2 with ⟨_,rfl,rfl,rfl⟩|⟨hn2,_⟩
      · repeat' (first|(refine aE ?_;first|(refine aC ?_;refine aP rfl (aK ⟨Tryz.call15⟩ rfl (hS17 _)) ?_)|(refine cN ?_;refine aO (q_pnil_neq qT rfl) ?_)|refine pu9 ?_)|refine jR ?_|refine fE [9,10] rfl ?_)
        all_goals first
          | exact no9
          | exact dN _ ⟨vl9,rfl,rfl⟩ bH sp9
      · exact absurd hn2 hn
    · rcases hor2 with ⟨hn2,_⟩|⟨_,p2,rfl,rfl,hC⟩
      · exact absurd hn hn2
      · have okl:=loadOk_box hok1 hn
        have hAs:=fun V2 (hV2:VLe V4 V2)=>asBox_b V2 p p2 _ Bs9 Cs9 okl (hB.le (hV4.trans hV2)) (hC.le hV2)
        repeat' (first|(refine aE ?_;first|(refine aC ?_;refine aP rfl (wW ⟨Tryz.call21⟩ rfl aV (hAs _ vl9)) ?_)|(refine cN ?_;refine aO (kK qT rfl) ?_)|refine pu9 ?_)|refine jR ?_|refine fE [9,12] rfl ?_)
        all_goals first
          | exact no9
          | exact dN _ ⟨vl9,rfl,rfl⟩ bH sp9
  rintro F V5 L' ⟨hV5,rfl,rfl⟩
  have hVV5:=hVV4.trans hV5
  clear hor hor2 hRL1 hRL3 hBF hBF3 hLd
  have hNew5:=fun V2 (hV2:VLe V5 V2)=>hNew V2 (hVV5.trans hV2)
  repeat' (first|(refine aE ?_;first|(refine aC ?_;(refine aL rfl ⟨Tryz.call13⟩ rfl aV rfl (hNew5 _ vl9) ?_;rintro v V6 B6 hV6 (⟨hn,rfl,rfl⟩|⟨hn,p,rfl,hB⟩);exact absurd rfl hn))|(refine cN ?_;refine aO (kK qT rfl) ?_)|refine pu9 ?_)|refine jR ?_|refine fE [14,15] rfl ?_)
  all_goals first
    | exact no9
    | (exfalso;exact absurd rfl (by assumption))
    | skip
  have hI0:=hI0
  have hVV6:=hVV5.trans hV6
  clear hNew5 hNew hok1
  repeat' (first|(refine aE ?_;refine pu9 ?_)|refine bY ?_|fail)
  refine gc_order (L':=B6 ++ [⟨g4,29,cfC x⟩]) sp9 ?_
  refine bN (fun F V' L' m'=>∃ (k:Nat) (b:BX) (Bs:List Box),VLe V6 V'∧Bs ++ [⟨g4,29,cfC x⟩]=L'∧eD V' p b Bs∧InB x (ls.map LN.n) b∧k≤m∧m'=m - k∧F=[(1,.slice A n c),(3,.slice B m e),(4,.pointer (some ⟨g4,0,none⟩)),(15,.pointer (some ⟨p,0,none⟩)),(16,.int .i64 (k:Int))]) (m:=m) ⟨0,bx,B6,VLe.refl _,rfl,hB,hI0,Nat.zero_le _,by omega,rfl⟩ bH rfl (List.Sublist.refl _) ?_
  clear hB hI0
  rintro F V' L' m' ⟨k,b,Bs,hV',rfl,hB,hI,hkm,rfl,rfl⟩
  have hok:=hI.ok
  have hVV9:=hVV6.trans hV'
  by_cases hlt:k<m
  · obtain⟨bb,off,y,rfl,hy,hcy⟩:=(hc.le hVV9).at_ hlt
    have hcl9:=(hlt3.2 y (List.mem_of_getElem? hy)).ok
    have hD1:=fun V2 (hV2:VLe V' V2)=>Do_c V2 p b Bs hok (hB.le hV2) y hcl9
    have hI2:=hI.step y
    generalize doP b y=r at *
    obtain⟨rb,rt,re⟩:=r
    replace hI2:InB x (ls.map LN.n) rb:=hI2
    repeat' (first|(refine aE ?_;first|(refine aC ?_;(refine aL rfl ⟨Tryz.call18⟩ rfl aV rfl (hD1 _ vl9) ?_;rintro v V10 B10 hV10 hR;obtain⟨A10,n10,c10,rfl,hS10,hnc10,hB10⟩:=DoR.inv hR))|(refine k_load ?_;refine aO (uI agg_53 rfl (hcy.le vl9) (by exact rfl)) ?_)|refine pu9 ?_)|refine bY ?_|(refine aA rfl ?_ ?_<;>intro hq<;>try exact no9))
    all_goals first
      | exact no9
      | (refine aX _ (m - (k+1)) ⟨k+1,rb,B10,vl9,rfl,hB10.le vl9,hI2,by omega,rfl,rfl⟩ (by omega) bH bP)
  repeat' (first|(refine aE ?_;refine pu9 ?_)|refine dT ?_|(refine aA rfl ?_ ?_<;>intro hq<;>try exact no9))
  all_goals try exact no9
  have hBq:=fun V2 (hV2:VLe V' V2)=>Bytes_b hok (hB.le hV2)
  have hLS2:=fun V2 (hV2:VLe V' V2)=>hLS1 b hI V2 (hVV9.trans hV2)
  refine dZ (fun F V9 L'=>∃ (p2:Nat) (Cs:List Box),VLe V' V9∧eD V9 p2 b Cs∧Bs ++ Cs=L'∧F=[(11,bK 0),(15,.pointer (some ⟨p,0,none⟩)),(17,.pointer (some ⟨p2,0,none⟩))]) ?_ ?_
  · refine bX (id:=21) _ mixed (List.sublist_append_right _ _) ?_;refine gt9 0 ?_;refine gt9 1 ?_;refine gt9 2 ?_;refine aZ (i:=3) rfl ?_;(first|(refine aL rfl ⟨Tryz.call24⟩ rfl aV rfl (hBq _ vl9) ?_;rintro v W9 Z9 hW9 ⟨rfl,rfl⟩)|(refine aL rfl ⟨Tryz.call25⟩ rfl aV rfl (hLS2 _ vl9) ?_;rintro v V10 B10 hV10 ⟨p2,rfl,hB10⟩));refine aZ (i:=4) rfl ?_;(first|(refine aL rfl ⟨Tryz.call24⟩ rfl aV rfl (hBq _ vl9) ?_;rintro v W9 Z9 hW9 ⟨rfl,rfl⟩)|(refine aL rfl ⟨Tryz.call25⟩ rfl aV rfl (hLS2 _ vl9) ?_;rintro v V10 B10 hV10 ⟨p2,rfl,hB10⟩));refine gt9 5 ?_;refine gt9 6 ?_;refine gt9 7 ?_;refine gt9 8 ?_;refine gt9 9 ?_;refine aY (by kernel_rfl) vl9 vl9 bP ?_
    all_goals exact dN _ ⟨p2,B10,vl9,hB10.le vl9,rfl,rfl⟩ bH sp9
  rintro F V9 L' ⟨p2,Cs,hV9,hC,rfl,rfl⟩
  have hB9:=hB.le hV9
  have hU1:=fun V2 (hV2:VLe V9 V2)=>Upper_b hok (hB9.le hV2)
  have hU2:=fun V2 (hV2:VLe V9 V2)=>Upper_b hok (hC.le hV2)
  have hC1:=fun V2 (hV2:VLe V9 V2)=>Cred_b V2 p b Bs hok (hB9.le hV2)
  have hC2:=fun V2 (hV2:VLe V9 V2)=>Cred_b V2 p2 b Cs hok (hC.le hV2)
  have hF1:=fun V2 (hV2:VLe V9 V2)=>Flat_b hok (hB9.le hV2)
  have hF2:=fun V2 (hV2:VLe V9 V2)=>Flat_b hok (hC.le hV2)
  have hB1:=fun V2 (hV2:VLe V9 V2)=>Bytes_q7 hok (hB9.le hV2)
  have hB2:=fun V2 (hV2:VLe V9 V2)=>Bytes_q7 hok (hC.le hV2)
  have hSN:=fun V2 (x y:LN) (hx:aT V2 x) (hy:aT V2 y) (e:x.n=y.n)=>(by have h9:=SameNode_c V2 x hx y hy;rw [sameB_eq e] at h9;exact h9:Fn Tryz.prog 27 [lnV x,lnV y] V2 fun v _=>v=.bool true)
  have hSC:=fun V2 (A B:Option Addr) (n m c1 c2:Nat) (h1:eM V2 A n b.c.xs) (h2:eM V2 B m b.c.xs)=>(by have h9:=SameCred_c V2 b.c.u b.c.g b.c.d b.c.u b.c.g b.c.d A B n m c1 c2 b.c.xs b.c.xs h1 h2;rw [decide_eq_true ⟨rfl,rfl,rfl,rfl⟩] at h9;exact h9)
  repeat' (first|(refine aE ?_;first|(refine cN ?_;refine aO (kK qT rfl) ?_)|refine pu9 ?_)|refine jR ?_|refine cW (id:=22) ?_)
  all_goals first
    | exact no9
    | (exfalso;exact absurd rfl (by assumption))
    | skip
  repeat' (first|(refine aE ?_;first|(refine aC ?_;(first|(refine aL rfl ⟨Tryz.call28⟩ rfl aV rfl (hU1 _ vl9) ?_;rintro v W1 Z1 hW1 ⟨rfl,y1,rfl,hy1N,hy1n⟩)|(refine aL rfl ⟨Tryz.call28⟩ rfl aV rfl (hU2 _ vl9) ?_;rintro v W2 Z2 hW2 ⟨rfl,y2,rfl,hy2N,hy2n⟩)|refine aP rfl (aK ⟨Tryz.call27⟩ rfl ((hSN _ y2 y1 (hy2N.le vl9) (hy1N.le vl9) (hy2n.trans hy1n.symm)))) ?_|(refine aL rfl ⟨Tryz.call30⟩ rfl aV rfl (hC1 _ vl9) ?_;rintro v W3 Z3 hW3 ⟨rfl,A3,n3,c3,rfl,hI3⟩)|(refine aL rfl ⟨Tryz.call30⟩ rfl aV rfl (hC2 _ vl9) ?_;rintro v W4 Z4 hW4 ⟨rfl,A4,n4,c4,rfl,hI4⟩)|refine aP rfl (aK ⟨Tryz.call29⟩ rfl ((hSC _ A4 A3 n4 n3 c4 c3 (hI4.le vl9) (hI3.le vl9)))) ?_|(refine aL rfl ⟨Tryz.call31⟩ rfl aV rfl (hF1 _ vl9) ?_;rintro v W5 Z5 hW5 ⟨rfl,y5,rfl,hy5N,hy5n⟩)|(refine aL rfl ⟨Tryz.call31⟩ rfl aV rfl (hF2 _ vl9) ?_;rintro v W6 Z6 hW6 ⟨rfl,y6,rfl,hy6N,hy6n⟩)|refine aP rfl (aK ⟨Tryz.call27⟩ rfl ((hSN _ y6 y5 (hy6N.le vl9) (hy5N.le vl9) (hy6n.trans hy5n.symm)))) ?_|refine aP rfl (wW ⟨Tryz.call24⟩ rfl aV (hB1 _ vl9)) ?_|refine aP rfl (wW ⟨Tryz.call24⟩ rfl aV (hB2 _ vl9)) ?_))|refine pu9 ?_)|refine cC ?_|fail)
  all_goals first
    | exact no9
    | ((refine aM Tryz.results5 (aB rfl) ?_);exact congrArg Value.bool (decide_eq_true rfl))
end
section
open Go.ChangeShapes Go.WideShapes Go.ChangeAt Go.RowKit
open Go.Deep

section
variable {H : Type} {enc : TypeId × Value → H} {P : Program} {w : World} {base : Nat} {spare : Nat → Bool} {held : Bool}

theorem kS {x:Int} (h:(Lit.int .i64 x).wf=true):-9223372036854775808≤x∧x≤9223372036854775807:=by
  simp [Lit.wf,IntKind.min,IntKind.max,IntKind.signed,IntKind.bits] at h
  exact⟨by omega,by omega⟩

theorem ints_of_trod {t e:TypeId} {fuel:Nat} {v:Value} {x:DataW H×List MemPlace} (ht:P.underlying t=some (.slice e)) (he:P.underlying e=some (.int .i64)) (hc:P.cellsOf e=1)
    (h:DataW.trod enc P w base spare held fuel t [v]=some x):∃ A n c xs,v=.slice A n c∧gV w A n xs∧∀ z∈xs,-9223372036854775808≤z∧z≤9223372036854775807:=by
  rcases open_ints ht he hc h with ⟨hcs,_⟩|⟨a,len,cap,zs,hcs,_,hl,hm,hz,_,hcell,hwz⟩
  · obtain rfl:v=.slice none 0 0:=by simpa using hcs
    exact⟨none,0,0,[],rfl,gV.nil w,by simp⟩
  · obtain rfl:v=.slice (some a) len cap:=by simpa using hcs
    have hlz:len≤zs.length:=by rw [hz];split<;>omega
    refine⟨some a,len,cap,zs.take len,rfl,⟨by simp;omega,by omega,fun hn=>?_⟩,fun z hz'=>kS (hwz z (List.mem_of_mem_take hz'))⟩
    obtain⟨b,off,spot⟩:=a
    have hc0:=hcell 0 (by omega)
    have hs:spot=none:=by simpa [Addr.add] using World.cell?_spot hc0
    subst hs
    refine⟨b,off,rfl,fun j z hj=>?_⟩
    have hjl:j<len:=by
      rcases Nat.lt_or_ge j len with h|h
      · exact h
      · rw [List.getElem?_eq_none (by simp;omega)] at hj;cases hj
    rw [List.getElem?_take_of_lt hjl] at hj
    have hcj:=hcell j (by omega)
    rw [List.getD_eq_getElem?_getD,hj] at hcj
    have ha:(⟨b,off,none⟩:Addr).add j=⟨b,off+j,none⟩:=by unfold Addr.add;split<;>simp_all
    rw [ha] at hcj
    exact hcj

def gM {H:Type} (enc:TypeId×Value→H) (P:Program) (w:World) (base:Nat) (spare:Nat→Bool) (held:Bool) (fs:Array Field) (cs:List Value):Prop :=
  ∃ n,∀ (j:Nat) (f:Field),fs[j]?=some f→∃ y,DataW.trod enc P w base spare held n f.type ((cs.drop f.offset).take (P.cellsOf f.type))=some y

theorem lR {t:TypeId} {fs:Array Field} {fuel:Nat} {cs:List Value} {x:DataW H×List MemPlace} (hs:P.underlying t=some (.struct fs))
    (h:DataW.trod enc P w base spare held fuel t cs=some x):cs.length=P.cellsOf t∧gM enc P w base spare held fs cs:=by
  obtain⟨xs,n,_,_,hl,hxl,hg⟩:=DataW.trod_struct hs h
  refine⟨hl,n,fun j f hj=>?_⟩
  have hjl:j<xs.length:=by rw [hxl];exact(Array.getElem?_eq_some_iff.1 hj).1
  exact⟨xs[j],(hg j f hj).trans (List.getElem?_eq_getElem hjl)⟩

theorem gM.int {fs:Array Field} {cs:List Value} (h:gM enc P w base spare held fs cs) (j:Nat) {f:Field} (hj:fs[j]?=some f) {k:IntKind} (ht:P.underlying f.type=some (.int k)) (hc:P.cellsOf f.type=1) {v:Value} (hv:cs[f.offset]?=some v) :
    ∃ n,v=.int k n∧(Lit.int k n).wf=true:=by
  obtain⟨m,hm⟩:=h
  obtain⟨y,hy⟩:=hm j f hj
  obtain⟨n,he,_,hwf⟩:=DataW.trod_int ht hy
  rw [hc,jO (Lib.hid hv)] at he
  exact⟨n,by simpa using he,hwf⟩
theorem gM.bool {fs:Array Field} {cs:List Value} (h:gM enc P w base spare held fs cs) (j:Nat) {f:Field} (hj:fs[j]?=some f) (ht:P.underlying f.type=some .bool) (hc:P.cellsOf f.type=1) {v:Value} (hv:cs[f.offset]?=some v) :
    ∃ b,v=.bool b:=by
  obtain⟨m,hm⟩:=h
  obtain⟨y,hy⟩:=hm j f hj
  obtain⟨n,he,_⟩:=DataW.trod_bool ht hy
  rw [hc,jO (Lib.hid hv)] at he
  exact⟨n,by simpa using he⟩
theorem gM.string {fs:Array Field} {cs:List Value} (h:gM enc P w base spare held fs cs) (j:Nat) {f:Field} (hj:fs[j]?=some f) (ht:P.underlying f.type=some .string) (hc:P.cellsOf f.type=1) {v:Value} (hv:cs[f.offset]?=some v) :
    ∃ s,v=.string s∧s.size≤maxLen:=by
  obtain⟨m,hm⟩:=h
  obtain⟨y,hy⟩:=hm j f hj
  obtain⟨n,he,hx⟩:=DataW.trod_string ht hy
  rw [hc,jO (Lib.hid hv)] at he
  exact⟨n,by simpa using he,by simpa using hx.2⟩
theorem gM.ints {fs:Array Field} {cs:List Value} (h:gM enc P w base spare held fs cs) (j:Nat) {f:Field} (hj:fs[j]?=some f) {e:TypeId} (ht:P.underlying f.type=some (.slice e)) (he:P.underlying e=some (.int .i64)) (hc:P.cellsOf f.type=1) (hce:P.cellsOf e=1) {v:Value} (hv:cs[f.offset]?=some v) :
    ∃ A n c xs,v=.slice A n c∧gV w A n xs∧∀ z∈xs,-9223372036854775808≤z∧z≤9223372036854775807:=by
  obtain⟨m,hm⟩:=h
  obtain⟨y,hy⟩:=hm j f hj
  rw [hc,jO (Lib.hid hv)] at hy
  exact ints_of_trod ht he hce hy

theorem uS (hl:laidOutB P=true) {W W':World} (hb:Below W.heap.size W W'):∀ {ts:List TypeId} {vs:List Value} {ds:List (DataW H)} {ps:List MemPlace},(ts.all fun t=>P.readableRec t && decide (t<P.types.size))=true →
    DataW.TrodAll enc P W 0 (fun _=>true) true ts vs ds ps→DataW.TrodAll enc P W' 0 (fun b=>decide (b<W.heap.size)) true ts vs ds ps
  | [],[],[],_,_,h=>h
  | [],_ :: _,_,_,_,h=>h.elim
  | [],[],_ :: _,_,_,h=>h.elim
  | _ :: _,[],_,_,_,h=>h.elim
  | _ :: _,_ :: _,[],_,_,h=>h.elim
  | t :: ts,v :: vs,d :: ds,ps,hr,h=>by
    obtain⟨p,q,h1,h2,rfl⟩:=h
    simp only [List.all_cons,Bool.and_eq_true,decide_eq_true_eq] at hr
    have h1':=h1
    obtain⟨m,hm⟩:=h1'
    exact⟨p,q,Below.trod hl hr.1.1 hr.1.2 h1 hb (fun x hx=>DataW.trod_lt m _ _ _ hm x hx),uS hl hb (by simpa using hr.2) h2,rfl⟩
end
end
section

def oS (w:World):aD:=fun p=>w.cell? p
theorem fullV_in (w:World):VIn (oS w) w:=fun p x h=>h
theorem Fn.any {P:Program} {f:FuncId} {args:List Value} {w:World} {v:Value} (h:Fn P f args (oS w) fun u _=>u=v):Calls P f args.toArray w fun e w'=>e=.returned v∧Ext w w' :=
  (h w (fullV_in w)).mono fun e w' ⟨u,he,hx,_,_,_,_,hu⟩=>⟨by rw [he,hu],hx⟩
theorem gV.view {w:World} {A:Option Addr} {n:Nat} {xs:List Int} (h:gV w A n xs):eM (oS w) A n xs:=by
  refine⟨h.1,h.2.1,h.cells.1,fun hn=>?_⟩
  obtain⟨b,off,ha,hc⟩:=h.cells.2 hn
  exact⟨b,off,ha,hc⟩
end
section
open Go.ChangeShapes Go.WideShapes Go.ChangeAt Go.RowKit
open Go.Deep
section
variable {H : Type} {enc : TypeId × Value → H} {P : Program} {w : World} {base : Nat} {spare : Nat → Bool} {held : Bool}
theorem nB {α:Type} (f:α→List Value) (good:α→Prop) {t e:TypeId} {fuel:Nat} {v:Value} {x:DataW H×List MemPlace} (ht:P.underlying t=some (.slice e)) (hsz:0<P.cellsOf e)
    (hel:∀ (n:Nat) (cs:List Value) (y:DataW H×List MemPlace),n<fuel→cs.length=P.cellsOf e→DataW.trod enc P w base spare held n e cs=some y→∃ a:α,cs=f a∧good a)
    (h:DataW.trod enc P w base spare held fuel t [v]=some x):∃ A n c xs,v=.slice A n c∧n≤c∧eP (oS w) (P.cellsOf e) f A n xs∧∀ a∈xs,good a:=by
  rcases DataW.trod_slice ht h with ⟨hcs,_⟩|⟨a,len,cap,elems,rest,n,rfl,hcs,_,_,hl,hm,hlen,hat,_,_⟩
  · obtain rfl:v=.slice none 0 0:=by simpa using hcs
    exact⟨none,0,0,[],rfl,Nat.le_refl _,eP.nil,by simp⟩
  · obtain rfl:v=.slice (some a) len cap:=by simpa using hcs
    have key:∀ i,i<len→∃ z:α,(∀ j u,(f z)[j]?=some u→w.cell? ((a.add (i * P.cellsOf e)).add j)=some u)∧(f z).length=P.cellsOf e∧good z:=by
      intro i hi
      have:=hat i hi
      rw [List.getElem?_eq_getElem (by omega)] at this
      obtain⟨cs',h1,h2⟩:=Option.bind_eq_some_iff.1 this
      obtain⟨_,h3,h4⟩:=World.cells?_some h1
      obtain⟨z,rfl,hz⟩:=hel n cs' _ (Nat.lt_succ_self n) h3 h2
      refine⟨z,fun j u hj=>?_,h3,hz⟩
      have hjl:j<(f z).length:=by
        rcases Nat.lt_or_ge j (f z).length with h|h
        · exact h
        · rw [List.getElem?_eq_none h] at hj;cases hj
      rw [h4 j (by omega)];exact hj
    by_cases h0:len=0
    · subst h0
      exact⟨some a,0,cap,[],rfl,Nat.zero_le _,eP.nil,by simp⟩
    · obtain⟨z0,_,_,_⟩:=key 0 (by omega)
      haveI:Inhabited α:=⟨z0⟩
      obtain⟨Z,hZ⟩:=choose_lt (α:=α) (p:=fun i z=>(∀ j u,(f z)[j]?=some u→w.cell? ((a.add (i * P.cellsOf e)).add j)=some u)∧(f z).length=P.cellsOf e∧good z) (fun i hi=>key i hi)
      refine⟨some a,len,cap,(List.range len).map Z,rfl,hl,⟨by simp,Nat.le_trans hl hm,fun _=>?_⟩,?_⟩
      · obtain⟨b,off,spot⟩:=a
        have hspot:spot=none:=by
          obtain⟨h1,h2,_⟩:=hZ 0 (by omega)
          have:=h1 0 (f (Z 0))[0] (List.getElem?_eq_getElem (by omega))
          simpa [Addr.add] using World.cell?_spot this
        subst hspot
        refine⟨b,off,rfl,fun k z hk j u hj=>?_⟩
        have hkl:k<len:=by
          rcases Nat.lt_or_ge k len with h|h
          · exact h
          · rw [List.getElem?_eq_none (by simp;omega)] at hk;cases hk
        simp [hkl] at hk
        subst hk
        have:=(hZ k hkl).1 j u hj
        rw [iP,iP] at this
        exact this
      · intro z hz
        obtain⟨i,hi,rfl⟩:=List.mem_map.1 hz
        exact(hZ i (List.mem_range.1 hi)).2.2
theorem open_arg {t:TypeId} {v:Value} {d:DataW H} {p:List MemPlace} (h:DataW.Trod enc P w base spare held t v d p) (hv:v.cells=#[v]):∃ fuel x,DataW.trod enc P w base spare held fuel t [v]=some x:=by
  obtain⟨fuel,hf⟩:=h
  rw [hv] at hf
  exact⟨fuel,_,by simpa using hf⟩
end
end
section
open Go.ChangeShapes Go.WideShapes Go.ChangeAt Go.RowKit
open Go.Deep
section
variable {H : Type} {enc : TypeId × Value → H} {w : World} {base : Nat} {spare : Nat → Bool} {held : Bool}
def inI (x:Int):Prop:=-9223372036854775808≤x∧x≤9223372036854775807
def intsP (h:Hd) (_:PKs):Prop:=inI h.kind∧inI h.mode∧inI h.user∧inI h.group
theorem uH {P:Program} {t:TypeId} {fs:Array Field} {fuel:Nat} {cs:List Value} {x:DataW H×List MemPlace} (hs:P.underlying t=some (.struct fs))
    (h:DataW.trod enc P w base spare held fuel t cs=some x):∃ n,fuel=n+1∧cs.length=P.cellsOf t∧gM enc P w base spare held fs cs∧∀ (j:Nat) (f:Field),fs[j]?=some f→∃ y,DataW.trod enc P w base spare held n f.type ((cs.drop f.offset).take (P.cellsOf f.type))=some y:=by
  obtain⟨xs,n,hn,_,hl,hxl,hg⟩:=DataW.trod_struct hs h
  have key:∀ (j:Nat) (f:Field),fs[j]?=some f→∃ y,DataW.trod enc P w base spare held n f.type ((cs.drop f.offset).take (P.cellsOf f.type))=some y:=fun j f hj=>by
    have hjl:j<xs.length:=by rw [hxl];exact(Array.getElem?_eq_some_iff.1 hj).1
    exact⟨xs[j],(hg j f hj).trans (List.getElem?_eq_getElem hjl)⟩
  exact⟨n,hn,hl,⟨n,key⟩,key⟩
theorem tattr_of_trod {n:Nat} {cs:List Value} {y:DataW H×List MemPlace} (h:DataW.trod enc Tryz.prog w base spare held n 271 cs=some y):∃ a:PA,cs=paC a∧a.n.size≤maxLen∧a.v.size≤maxLen:=by
  obtain⟨hl,hF⟩:=lR Tryz.underlying271 h
  match cs,hl.trans (show Tryz.prog.cellsOf 271=2 by kernel_rfl) with
  | [c0,c1],_ =>
    obtain⟨a,rfl,wa⟩:=hF.string 0 rfl Tryz.underlying9 (by kernel_rfl) rfl
    obtain⟨b,rfl,wb⟩:=hF.string 1 rfl Tryz.underlying9 (by kernel_rfl) rfl
    exact⟨⟨a,b⟩,rfl,wa,wb⟩
theorem tattr_cells:Tryz.prog.cellsOf 271=2:=by kernel_rfl
theorem kid_cells:Tryz.prog.cellsOf 156=9:=by kernel_rfl
theorem vG:Tryz.prog.cellsOf 70=8:=by kernel_rfl
theorem list8 {α:Type} {l:List α} (h:l.length=8):∃ a b c d e f g i,l=[a,b,c,d,e,f,g,i]:=by
  match l,h with
  | [a,b,c,d,e,f,g,i],_=>exact⟨a,b,c,d,e,f,g,i,rfl⟩
theorem list9 {α:Type} {l:List α} (h:l.length=9):∃ a b c d e f g i j,l=[a,b,c,d,e,f,g,i,j]:=by
  match l,h with
  | [a,b,c,d,e,f,g,i,j],_=>exact⟨a,b,c,d,e,f,g,i,j,rfl⟩
theorem node_of_trod:∀ (fuel:Nat) {cs:List Value} {y:DataW H×List MemPlace},DataW.trod enc Tryz.prog w base spare held fuel 70 cs=some y→∃ x:LN,cs=lnC x∧aT (oS w) x∧cB intsP x.n:=by
  intro fuel
  induction fuel using Nat.strongRecOn with
  | _ fuel ih =>
    intro cs y h
    obtain⟨m,rfl,hl,hF,hat⟩:=uH Tryz.underlying70 h
    obtain⟨c0,c1,c2,c3,c4,c5,c6,c7,rfl⟩:=list8 (hl.trans vG)
    obtain⟨kind,rfl,w0⟩:=hF.int 0 rfl Tryz.underlying3 (by kernel_rfl) rfl
    obtain⟨mode,rfl,w1⟩:=hF.int 1 rfl Tryz.underlying3 (by kernel_rfl) rfl
    obtain⟨user,rfl,w2⟩:=hF.int 2 rfl Tryz.underlying3 (by kernel_rfl) rfl
    obtain⟨group,rfl,w3⟩:=hF.int 3 rfl Tryz.underlying3 (by kernel_rfl) rfl
    obtain⟨opq,rfl⟩:=hF.bool 4 rfl Tryz.underlying4 (by kernel_rfl) rfl
    obtain⟨y5,h5⟩:=hat 5 _ rfl
    obtain⟨data,rfl,w6⟩:=hF.string 6 rfl Tryz.underlying9 (by kernel_rfl) rfl
    obtain⟨y7,h7⟩:=hat 7 _ rfl
    replace h5:DataW.trod enc Tryz.prog w base spare held m 67 [c5]=some y5:=h5
    replace h7:DataW.trod enc Tryz.prog w base spare held m 68 [c7]=some y7:=h7
    obtain⟨A,na,ca,al,rfl,ga,hA,hAg⟩:=nB paC (fun a=>a.n.size≤maxLen∧a.v.size≤maxLen) Tryz.underlying67 (by rw [tattr_cells];omega) (fun m' cs y _ _ hy=>tattr_of_trod hy) h5
    obtain⟨K,nk,ck,es,rfl,gk,hK,hKg⟩:=nB lkC (fun e=>e.nm.size≤maxLen∧aT (oS w) e.x∧cB intsP e.x.n) Tryz.underlying68 (by rw [kid_cells];omega) (fun m' cs y hm' hcl hy=>by
      obtain⟨m2,rfl,hl2,hF2,hat2⟩:=uH Tryz.underlying156 hy
      obtain⟨d0,d1,d2,d3,d4,d5,d6,d7,d8,rfl⟩:=list9 (hl2.trans kid_cells)
      obtain⟨nm,rfl,wn⟩:=hF2.string 0 rfl Tryz.underlying9 (by kernel_rfl) rfl
      obtain⟨y1,h1⟩:=hat2 1 _ rfl
      replace h1:DataW.trod enc Tryz.prog w base spare held m2 70 [d1,d2,d3,d4,d5,d6,d7,d8]=some y1:=h1
      obtain⟨x,hx,hN,hI⟩:=ih m2 (by omega) h1
      refine⟨⟨nm,x⟩,?_,wn,hN,hI⟩
      simp only [List.cons.injEq] at hx
      obtain⟨rfl,rfl,rfl,rfl,rfl,rfl,rfl,rfl,_⟩:=hx
      rfl) h7
    rw [tattr_cells] at hA
    rw [kid_cells] at hK
    refine⟨⟨⟨kind,mode,user,group,opq,al,data⟩,A,na,ca,K,nk,ck,es.map kz⟩,rfl,aT.of ⟨hA,hAg⟩ ga w6 gk ⟨hK,fun e he=>⟨(hKg e he).1,(hKg e he).2.1⟩⟩ rfl,.mk ⟨kS w0,kS w1,kS w2,kS w3⟩ fun k hk=>?_⟩
    obtain⟨e,he,rfl⟩:=List.mem_map.1 hk
    exact(hKg e he).2.2
end
end
section
open Go.ChangeShapes Go.WideShapes Go.ChangeAt Go.RowKit
open Go.Deep
section
variable {H : Type} {enc : TypeId × Value → H} {w : World} {base : Nat} {spare : Nat → Bool} {held : Bool}
theorem list3 {α:Type} {l:List α} (h:l.length=3):∃ a b c,l=[a,b,c]:=by
  match l,h with
  | [a,b,c],_=>exact⟨a,b,c,rfl⟩
theorem list2 {α:Type} {l:List α} (h:l.length=2):∃ a b,l=[a,b]:=by
  match l,h with
  | [a,b],_=>exact⟨a,b,rfl⟩
theorem string_arg {P:Program} {r:Reach} {b0:Nat} {t:TypeId} {v:Value} {d:DataW H} {p:List MemPlace} (ht:P.underlying t=some .string) (hv:Value.okWide P w r b0 t v) (h:DataW.Trod enc P w base spare held t v d p):∃ s,v=.string s∧s.size≤maxLen:=by
  obtain⟨s,rfl⟩:=okWide_string ht hv
  obtain⟨fuel,x,hf⟩:=open_arg h rfl
  obtain⟨s',he,hx⟩:=DataW.trod_string ht hf
  have:s=s':=by simpa using he
  subst this
  exact⟨s,rfl,by simpa using hx.2⟩
theorem range_of_trod {n:Nat} {cs:List Value} {y:DataW H×List MemPlace} (h:DataW.trod enc Tryz.prog w base spare held n 197 cs=some y):∃ r:PR,cs=prC r∧inR64 r:=by
  obtain⟨hl,hF⟩:=lR Tryz.underlying197 h
  obtain⟨c0,c1,c2,rfl⟩:=list3 (hl.trans (by kernel_rfl))
  obtain⟨a,rfl,wa⟩:=hF.int 0 rfl Tryz.underlying3 (by kernel_rfl) rfl
  obtain⟨b,rfl,wb⟩:=hF.int 1 rfl Tryz.underlying3 (by kernel_rfl) rfl
  obtain⟨c,rfl,wc⟩:=hF.int 2 rfl Tryz.underlying3 (by kernel_rfl) rfl
  exact⟨⟨a,b,c⟩,rfl,kS wa,kS wb,kS wc⟩
theorem range_cells:Tryz.prog.cellsOf 197=3:=by kernel_rfl
theorem wJ {fuel:Nat} {v:Value} {x:DataW H×List MemPlace} (h:DataW.trod enc Tryz.prog w base spare held fuel 22 [v]=some x):∃ A n c xs,v=.slice A n c∧n≤c∧sD (oS w) A n xs:=by
  obtain⟨A,n,c,xs,h1,h2,h3,h4⟩:=nB prC inR64 Tryz.underlying22 (by rw [range_cells];omega) (fun m cs y _ _ hy=>range_of_trod hy) h
  rw [range_cells] at h3
  exact⟨A,n,c,xs,h1,h2,h3,h4⟩
end
end
section
open Go.ChangeShapes Go.WideShapes Go.ChangeAt Go.RowKit
open Go.Deep
section
variable {H : Type} {enc : TypeId × Value → H} {w : World} {base : Nat} {spare : Nat → Bool} {held : Bool}
theorem nodes_arg {r:Reach} {b0:Nat} {v:Value} {d:DataW H} {p:List MemPlace} (hv:Value.okWide Tryz.prog w r b0 30 v) (h:DataW.Trod enc Tryz.prog w base spare held 30 v d p):∃ A n c xs,v=.slice A n c∧n≤c∧dR (oS w) A n xs:=by
  obtain⟨A,n,c,rfl⟩:=okWide_slice Tryz.underlying30 hv
  obtain⟨fuel,y,hf⟩:=open_arg h rfl
  obtain⟨A',n',c',xs,he,hnc,hE,hg⟩:=nB lnC (fun x=>aT (oS w) x) Tryz.underlying30 (by rw [vG];omega) (fun m' cs y _ hcl hy=>by
    obtain⟨x,hx,hN,_⟩:=node_of_trod m' hy
    exact⟨x,hx,hN⟩) hf
  simp only [List.cons.injEq,Value.slice.injEq,and_true] at he
  obtain⟨rfl,rfl,rfl⟩:=he
  rw [vG] at hE
  exact⟨A,n,c,xs,rfl,hnc,hE,hg⟩
theorem maps2_of_trod {fuel:Nat} {cs:List Value} {y:DataW H×List MemPlace} (h:DataW.trod enc Tryz.prog w base spare held fuel 24 cs=some y):∃ M:LM,cs=[.slice M.A M.n M.c,.slice M.B M.m M.e]∧nC (oS w) M:=by
  obtain⟨m,rfl,hl,hF,hat⟩:=uH Tryz.underlying24 h
  obtain⟨c0,c1,rfl⟩:=list2 (hl.trans (by kernel_rfl))
  obtain⟨y0,h0⟩:=hat 0 _ rfl
  obtain⟨y1,h1⟩:=hat 1 _ rfl
  replace h0:DataW.trod enc Tryz.prog w base spare held m 22 [c0]=some y0:=h0
  replace h1:DataW.trod enc Tryz.prog w base spare held m 22 [c1]=some y1:=h1
  obtain⟨A,n,c,us,rfl,k1,m1⟩:=wJ h0
  obtain⟨B,m',e,gs,rfl,k2,m2⟩:=wJ h1
  exact⟨⟨A,n,c,us,B,m',e,gs⟩,rfl,m1,k1,m2,k2⟩
end
end
section
open Go.ChangeShapes Go.WideShapes Go.ChangeAt Go.RowKit
open Go.Deep
section
variable {H : Type} {enc : TypeId × Value → H} {w : World} {base : Nat} {spare : Nat → Bool} {held : Bool}
theorem list7 {α:Type} {l:List α} (h:l.length=7):∃ a b c d e f g,l=[a,b,c,d,e,f,g]:=by
  match l,h with
  | [a,b,c,d,e,f,g],_=>exact⟨a,b,c,d,e,f,g,rfl⟩
theorem list4b {α:Type} {l:List α} (h:l.length=4):∃ a b c d,l=[a,b,c,d]:=by
  match l,h with
  | [a,b,c,d],_=>exact⟨a,b,c,d,rfl⟩
theorem cred_of_trod {n:Nat} {cs:List Value} {y:DataW H×List MemPlace} (h:DataW.trod enc Tryz.prog w base spare held n 27 cs=some y):∃ (c:CR) (A:Option Addr) (n k:Nat),cs=[.int .i64 c.u,.int .i64 c.g,.slice A n k,.int .i64 c.d]∧eM (oS w) A n c.xs:=by
  obtain⟨hl,hF⟩:=lR Tryz.underlying27 h
  obtain⟨c0,c1,c2,c3,rfl⟩:=list4b (hl.trans (by kernel_rfl))
  obtain⟨a,rfl,_⟩:=hF.int 0 rfl Tryz.underlying3 (by kernel_rfl) rfl
  obtain⟨b,rfl,_⟩:=hF.int 1 rfl Tryz.underlying3 (by kernel_rfl) rfl
  obtain⟨A,n,c,xs,rfl,hI,_⟩:=hF.ints 2 rfl Tryz.underlying25 Tryz.underlying3 (by kernel_rfl) (by kernel_rfl) rfl
  obtain⟨d,rfl,_⟩:=hF.int 3 rfl Tryz.underlying3 (by kernel_rfl) rfl
  exact⟨⟨a,b,d,xs⟩,A,n,c,rfl,hI.view⟩
theorem config_of_trod {fuel:Nat} {cs:List Value} {y:DataW H×List MemPlace} (h:DataW.trod enc Tryz.prog w base spare held fuel 29 cs=some y):∃ x:CF,cs=cfC x∧CfV (oS w) x:=by
  obtain⟨m,rfl,hl,hF,hat⟩:=uH Tryz.underlying29 h
  obtain⟨c0,c1,c2,c3,c4,c5,c6,c7,rfl⟩:=list8 (hl.trans (by kernel_rfl))
  obtain⟨y0,h0⟩:=hat 0 _ rfl
  obtain⟨y1,h1⟩:=hat 1 _ rfl
  replace h0:DataW.trod enc Tryz.prog w base spare held m 24 [c0,c1]=some y0:=h0
  replace h1:DataW.trod enc Tryz.prog w base spare held m 27 [c2,c3,c4,c5]=some y1:=h1
  obtain⟨M,e0,hM⟩:=maps2_of_trod h0
  obtain⟨c,A,n,k,e1,hI⟩:=cred_of_trod h1
  obtain⟨q,rfl,_⟩:=hF.int 2 rfl Tryz.underlying3 (by kernel_rfl) rfl
  obtain⟨B,m',e,lo,rfl,hL,_⟩:=hF.ints 3 rfl Tryz.underlying25 Tryz.underlying3 (by kernel_rfl) (by kernel_rfl) rfl
  simp only [List.cons.injEq,and_true] at e0 e1
  obtain⟨rfl,rfl⟩:=e0
  obtain⟨rfl,rfl,rfl,rfl⟩:=e1
  exact⟨⟨M,c,A,n,k,q,B,m',e,lo⟩,rfl,hM,hI,hL.view⟩
theorem config_arg {r:Reach} {b0:Nat} {v:Value} {d:DataW H} {p:List MemPlace} (hv:Value.okWide Tryz.prog w r b0 29 v) (h:DataW.Trod enc Tryz.prog w base spare held 29 v d p):∃ x:CF,v=cfV x∧CfV (oS w) x:=by
  obtain⟨cs,rfl,hsz⟩:=okWide_struct Tryz.underlying29 hv
  obtain⟨fuel,hf⟩:=h
  obtain⟨x,hx,hX⟩:=config_of_trod hf
  refine⟨x,?_,hX⟩
  have:cs.toList=cfC x:=by simpa [Value.cells] using hx
  show Value.agg cs=Value.agg (cfC x).toArray
  rw [←this]
def clSz (c:CL):Prop:=c.path.size≤maxLen∧c.other.size≤maxLen∧c.name.size≤maxLen∧c.data.size≤maxLen
theorem call_of_trod {n:Nat} {cs:List Value} {y:DataW H×List MemPlace} (h:DataW.trod enc Tryz.prog w base spare held n 53 cs=some y):∃ c:CL,cs=clC c∧clSz c:=by
  obtain⟨hl,hF⟩:=lR Tryz.underlying53 h
  obtain⟨c0,c1,c2,c3,c4,c5,c6,rfl⟩:=list7 (hl.trans (by kernel_rfl))
  obtain⟨a0,rfl,_⟩:=hF.int 0 rfl Tryz.underlying3 (by kernel_rfl) rfl
  obtain⟨a1,rfl,w1⟩:=hF.string 1 rfl Tryz.underlying9 (by kernel_rfl) rfl
  obtain⟨a2,rfl,w2⟩:=hF.string 2 rfl Tryz.underlying9 (by kernel_rfl) rfl
  obtain⟨a3,rfl,w3⟩:=hF.string 3 rfl Tryz.underlying9 (by kernel_rfl) rfl
  obtain⟨a4,rfl,w4⟩:=hF.string 4 rfl Tryz.underlying9 (by kernel_rfl) rfl
  obtain⟨a5,rfl,_⟩:=hF.int 5 rfl Tryz.underlying3 (by kernel_rfl) rfl
  obtain⟨a6,rfl,_⟩:=hF.int 6 rfl Tryz.underlying3 (by kernel_rfl) rfl
  exact⟨⟨a0,a1,a2,a3,a4,a5,a6⟩,rfl,w1,w2,w3,w4⟩
theorem call_cells:Tryz.prog.cellsOf 53=7:=by kernel_rfl
theorem calls_arg {r:Reach} {b0:Nat} {v:Value} {d:DataW H} {p:List MemPlace} (hv:Value.okWide Tryz.prog w r b0 31 v) (h:DataW.Trod enc Tryz.prog w base spare held 31 v d p):∃ A n c xs,v=.slice A n c∧n≤c∧eP (oS w) 7 clC A n xs∧∀ a∈xs,clSz a:=by
  obtain⟨A,n,c,rfl⟩:=okWide_slice Tryz.underlying31 hv
  obtain⟨fuel,x,hf⟩:=open_arg h rfl
  obtain⟨A,n,c,xs,h1,h2,h3,h4⟩:=nB clC clSz Tryz.underlying31 (by rw [call_cells];omega) (fun m cs y _ _ hy=>call_of_trod hy) hf
  rw [call_cells] at h3
  exact⟨A,n,c,xs,h1,h2,h3,h4⟩
end
end
end Go.Proofs.YtejkmomfpidnbabGreat
