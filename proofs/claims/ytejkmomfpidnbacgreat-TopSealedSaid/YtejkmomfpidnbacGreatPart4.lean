/- Walks and plain laws, part 4: what functions compute, proved once each (AttrE3, AttrE4, TreeE12, TreeE13, TopTreeP, MergeP, Rng, Rng2, Rng3, MergeE, MergeE2, TreeE14, TreeL, MergeE3, MergeE4, MergeE5, PathP, BldE, PathE, PathE2). -/
import Derived.Test.YtejkmomfpidnbacGreatPart3
import Derived.Test.YtejkmomfpidnbacGreatPart1
import Derived.Test.YtejkmomfpidnbacGreatPart2
import Derived.RangeFuncNested
import Derived.RangeFuncCalls
import Derived.RangeFuncLeaves
import Derived.TacticsIn
import Derived.RangeFuncBound
import Derived.Lib.Bytealg
import Derived.Lib.MakeNoZero
set_option linter.unusedSimpArgs false
set_option linter.unusedVariables false
set_option maxRecDepth 100000
set_option maxHeartbeats 40000000
namespace Go.Proofs.YtejkmomfpidnbacGreat
open Go.RowKit
section
def belowA (nm:ByteArray) (xs:List PA) (i:Nat):Bool:=match xs[i]? with|some a=>decide (¬a.n.toList<nm.toList)|none=>true
theorem sE {nm:ByteArray} {xs:List PA} {i:Nat} {a:PA} (h:xs[i]?=some a):belowA nm xs i=decide (¬a.n.toList<nm.toList):=by rw [belowA,h]
theorem belowA_mono {nm:ByteArray} {xs:List PA} (hp:xs.Pairwise ltA) {i j:Nat} (hij:i≤j) (hj:j<xs.length) (h:belowA nm xs i=true):belowA nm xs j=true:=by
  have hi:i<xs.length:=by omega
  rw [sE (List.getElem?_eq_getElem hi)] at h
  rw [sE (List.getElem?_eq_getElem hj)]
  rcases Nat.lt_or_ge i j with hlt|hge
  · have:=List.pairwise_iff_getElem.1 hp i j hi hj hlt
    simp only [decide_eq_true_eq] at h ⊢
    intro h2
    exact h (pP this h2)
  · have:i=j:=by omega
    subst this;exact h
def tN (nm:ByteArray) (xs:List PA):Bool:=xs.any fun a=>decide (a.n=nm)
theorem jI {nm:ByteArray} {xs:List PA}:tN nm xs=true↔isA nm xs:=by simp [tN,isA]
theorem hasA_at {nm:ByteArray} {xs:List PA} (hp:xs.Pairwise ltA) {a:PA} (h:xs[atA nm xs]?=some a):tN nm xs=decide (a.n=nm):=by
  rw [Bool.eq_iff_iff,jI,yB hp,decide_eq_true_eq]
  constructor
  · rintro ⟨b,hb,e⟩;rw [h] at hb;injection hb with hb;subst hb;exact e
  · intro e;exact⟨a,h,e⟩
theorem hasA_none {nm:ByteArray} {xs:List PA} (hp:xs.Pairwise ltA) (h:¬atA nm xs<xs.length):tN nm xs=false:=by
  cases hb:tN nm xs
  · rfl
  · rw [jI,yB hp] at hb
    obtain⟨a,ha,_⟩:=hb
    rw [List.getElem?_eq_none (by omega)] at ha;cases ha
theorem getF_err {xs:List PA} {nm:ByteArray} (h:¬fJ xs=0):mN xs nm=fJ xs:=by unfold mN;rw [if_pos h]
theorem getF_name {xs:List PA} {nm:ByteArray} (h:fJ xs=0) (h2:eV nm=0):mN xs nm=4:=by unfold mN;rw [if_neg (by omega),if_pos h2]
theorem getF_has {xs:List PA} {nm:ByteArray} (h:fJ xs=0) (h2:¬eV nm=0):mN xs nm=if tN nm xs=true then 0 else 5:=by
  unfold mN
  rw [if_neg (by omega),if_neg h2]
  by_cases hi:isA nm xs
  · rw [if_pos hi,if_pos (jI.2 hi)]
  · rw [if_neg hi,if_neg (fun e=>hi (jI.1 e))]
theorem setF_err {xs:List PA} {nm vl:ByteArray} (h:¬fJ xs=0):uO xs nm vl=fJ xs:=by unfold uO;rw [if_pos h]
theorem setF_name {xs:List PA} {nm vl:ByteArray} (h:fJ xs=0) (h2:eV nm=0):uO xs nm vl=4:=by unfold uO;rw [if_neg (by omega),if_pos h2]
theorem setF_big {xs:List PA} {nm vl:ByteArray} (h:fJ xs=0) (h2:¬eV nm=0) (h3:20<vl.size):uO xs nm vl=1:=by unfold uO;rw [if_neg (by omega),if_neg h2,if_pos h3]
theorem setF_has {xs:List PA} {nm vl:ByteArray} (h:fJ xs=0) (h2:¬eV nm=0) (h3:¬20<vl.size):uO xs nm vl=if tN nm xs=false∧xs.length=4 then 2 else 0:=by
  unfold uO
  rw [if_neg (by omega),if_neg h2,if_neg h3]
  have e:(¬isA nm xs)↔tN nm xs=false:=by rw [←jI];simp
  by_cases hh:¬isA nm xs∧xs.length=4
  · rw [if_pos hh,if_pos ⟨e.1 hh.1,hh.2⟩]
  · rw [if_neg hh,if_neg (fun h=>hh ⟨e.2 h.1,h.2⟩)]
theorem setA_has {xs:List PA} {nm vl:ByteArray}:sO xs nm vl=xs.take (atA nm xs) ++ ⟨nm,vl⟩ :: xs.drop (if tN nm xs=true then atA nm xs+1 else atA nm xs):=by
  unfold sO
  by_cases hi:isA nm xs
  · rw [if_pos hi,if_pos (jI.2 hi)]
  · rw [if_neg hi,if_neg (fun e=>hi (jI.1 e))]
def AttrRes (f:Int) (zs:List PA) (v:Value) (V:aE):Prop :=
  (f=0∧∃ A c,v=.tuple #[.slice A zs.length c,bA 0]∧fD V A zs.length zs∧zs.length≤c)∨(¬f=0∧v=.tuple #[.slice none 0 0,bA f])
theorem mI {f g:Int} {zs:List PA} {V:aE} (h:f=g) (h0:¬g=0):AttrRes f zs (.tuple #[.slice none 0 0,bA g]) V:=by subst h;exact .inr ⟨h0,rfl⟩
theorem rN {V:aE} {A:Option Addr} {n:Nat} {xs:List PA} (h:fH V 2 A n (xs.flatMap paC)) (hl:xs.length=n) (hm:n≤1000000) (hb:∀ a∈xs,a.n.size≤maxLen∧a.v.size≤maxLen):fD V A n xs :=
  ⟨fB.of_cells h pa_len hl (by unfold maxLen;omega),hb⟩
theorem cells_zero {V:aE} {b:Nat} {v:Value} (h:aD V b 0 [v]):V ⟨b,0,none⟩=some v:=h 0 v rfl
theorem vle_at {V V':aE} (h:VLe V V') {p:Addr} {x:Value} (hp:V p=some x):V' p=some x:=h p x hp
attribute [local irreducible] AtQ GoC GoL GoW QO QP Fn RV bF aD VLe bU bA
theorem place1_c (V:aE) (p q:Nat) (A:Option Addr) (n c:Nat) (xs:List PA) (nm:ByteArray) (h:fD V A n xs) (h1:V ⟨p,0,none⟩=some (.slice A n c)) (h2:V ⟨q,0,none⟩=some (.string nm)) (i:Nat) (hi:i<n) :
    Fn Tryz.prog 185 [.int .i64 i,.pointer (some ⟨p,0,none⟩),.pointer (some ⟨q,0,none⟩)] V fun v _=>v=.bool (belowA nm xs i):=by
  obtain⟨bb,off,a,rfl,hx,hc,c0,c1,_,_⟩:=h.at_ hi
  (refine aN Tryz.func185 rfl Tryz.ntmps185 rfl ?_;intro w0)
  repeat' (first|(refine aG ?_;first|(refine bK ?_;refine aI (q_sgeq rfl rfl) ?_)|refine pu9 ?_)|refine bS ?_|refine cO (id:=1) mixed (by kernel_rfl) ?_)
  (refine aR Tryz.results185 (aB rfl) ?_)
  rw [sE hx]
theorem place_c (V:aE) (A:Option Addr) (n c:Nat) (xs:List PA) (nm:ByteArray) (h:fD V A n xs) (hp:xs.Pairwise ltA) (hn:n≤1000) :
    Fn Tryz.prog 156 [.slice A n c,.string nm] V fun v _=>v=.tuple #[.int .i64 (atA nm xs),.bool (tN nm xs)]:=by
  have hl:=h.1.1
  have hm:=h.1.max
  (refine aN Tryz.func156 rfl Tryz.ntmps156 rfl ?_;intro w0)
  repeat' (first|(refine aG ?_;first|(refine al9 ?_;intro γ)|refine pu9 ?_)|refine bS ?_|fail)
  refine gw_retire rfl (gB.here _ _ _ _) ?_
  intro V1 hV1 hs1
  refine gw_retire rfl (gB.here _ _ _ _) ?_
  intro V2 hV2 hs2
  have h1:=cells_zero hs2
  have h2:=vle_at hV2 (cells_zero hs1)
  have hS:=fun p q (h1:V2 ⟨p,0,none⟩=some (.slice A n c)) (h2:V2 ⟨q,0,none⟩=some (.string nm))=>Search_c V2 n (by omega) 185 [.pointer (some ⟨p,0,none⟩),.pointer (some ⟨q,0,none⟩)] (belowA nm xs) ⟨Tryz.call185⟩ (fun i j hij hj hg=>belowA_mono hp hij (by omega) hg)
    (fun V' i hV' hi=>place1_c V' p q A n c xs nm ((h.le (hV1.trans hV2)).le hV') (vle_at hV' h1) (vle_at hV' h2) i hi)
  repeat' (first|(refine aG ?_;first|(refine aC ?_;(refine aS rfl ⟨Tryz.call184⟩ rfl rfl (hS _ _ h1 h2) ?_;rintro v V3 hV3 ⟨k,rfl,hk,hk1,hk2⟩))|refine pu9 ?_)|refine gx9 ?_|fail)
  have hka:k=atA nm xs:=atA_of hp (by omega) (fun j a hj ha=>by
      have:=hk1 j hj
      rw [sE ha] at this
      simpa using this) (fun j a hj ha=>by
      have hjn:j<n:=by
        rcases Nat.lt_or_ge j n with h|h
        · exact h
        · rw [List.getElem?_eq_none (by omega)] at ha;cases ha
      have:=hk2 j hj hjn
      rw [sE ha] at this
      simpa using this)
  subst hka
  have h1':=vle_at hV3 h1
  have h2':=vle_at hV3 h2
  have h3:=h.le (hV1.trans (hV2.trans hV3))
  by_cases hlt:atA nm xs<n
  · obtain⟨bb,off,a,rfl,hx,hc,c0,c1,_,_⟩:=h3.at_ hlt
    have hha:=hasA_at hp hx
    repeat' (first|(refine aG ?_;refine pu9 ?_)|refine gx9 ?_|(refine aJ rfl rfl rfl ?_ ?_<;>intro hq<;>try exact no9)|refine cO (id:=2) mixed (by kernel_rfl) ?_)
    all_goals (refine bL Tryz.results156 (aB rfl) (aB rfl) ?_)
    all_goals first|(rw [hha];done)|rfl|exact no9
  · have hha:=hasA_none hp (show ¬atA nm xs<xs.length by omega)
    repeat' (first|(refine aG ?_;refine pu9 ?_)|refine gx9 ?_|(refine aJ rfl rfl rfl ?_ ?_<;>intro hq<;>try exact no9)|refine cO (id:=2) mixed (by kernel_rfl) ?_)
    all_goals (refine bL Tryz.results156 (aB rfl) (aB rfl) ?_)
    all_goals first|(rw [hha];done)|rfl|exact no9
end
section
noncomputable def GetR (xs:List PA) (nm:ByteArray):Value:=.tuple #[.string (if tN nm xs=true∧mN xs nm=0 then getA nm xs else ⟨#[]⟩),bA (mN xs nm)]
theorem getR_bad {xs:List PA} {nm:ByteArray} {f:Int} (h:mN xs nm=f) (h0:¬f=0):Value.tuple #[.string ⟨#[]⟩,bA f]=GetR xs nm:=by
  subst h;unfold GetR;rw [if_neg (fun e=>h0 e.2)]
theorem getR_ok {xs:List PA} {nm:ByteArray} (h:mN xs nm=0) (hh:tN nm xs=true):Value.tuple #[.string (getA nm xs),bA 0]=GetR xs nm:=by
  unfold GetR;rw [if_pos ⟨hh,h⟩,h]
theorem tn1 (a:Nat):((a:Int)+1).toNat=a+1:=by omega
theorem ev1:Value.iface 99 (.int .i64 1)=bA 1:=cP 1 rfl
theorem ev2:Value.iface 99 (.int .i64 2)=bA 2:=cP 2 rfl
theorem ev4:Value.iface 99 (.int .i64 4)=bA 4:=cP 4 rfl
theorem ev5:Value.iface 99 (.int .i64 5)=bA 5:=cP 5 rfl
attribute [local irreducible] AtQ GoC GoL GoW QO QP Fn RV bF aD VLe bU bA
theorem Get_c (V:aE) (A:Option Addr) (n c:Nat) (xs:List PA) (nm:ByteArray) (h:fD V A n xs) (hm2:nm.size≤9223372036854775807):Fn Tryz.prog 113 [.slice A n c,.string nm] V fun v _=>v=GetR xs nm:=by
  have hl:=h.1.1
  have hm:=h.1.max
  have hbd:=rY xs
  by_cases h0:fJ xs=0
  · obtain⟨r1,r2,r3⟩:=qZ h0
    by_cases hc:eV nm=0
    · (refine aN Tryz.func113 rfl Tryz.ntmps113 rfl ?_;intro w0)
      repeat' (first|(refine aG ?_;first|(refine aC ?_;(first|refine aO rfl (aK ⟨Tryz.call157⟩ rfl (lH _ _ _ _ xs h)) ?_|refine aO rfl (aK ⟨Tryz.call108⟩ rfl (kV _ nm hm2)) ?_))|refine pu9 ?_)|refine bS ?_|(refine aA rfl ?_ ?_<;>intro hq<;>try exact no9))
      all_goals (refine bL Tryz.results113 (aB rfl) (aB rfl) ?_)
      rw [ev4]
      exact getR_bad (f:=4) (getF_name h0 hc) (by decide)
    · have hg:=getF_has (nm:=nm) h0 hc
      cases hh:tN nm xs with
      | true =>
        obtain⟨a,ha,hn⟩:=(yB r2).1 (jI.1 hh)
        have hlt:atA nm xs<n:=by
          rcases Nat.lt_or_ge (atA nm xs) n with h|h
          · exact h
          · rw [List.getElem?_eq_none (by omega)] at ha;cases ha
        obtain⟨bb,off,a',rfl,hx,hcc,c0,c1,_,_⟩:=h.at_ hlt
        have hga:getA nm xs=a'.v:=by rw [getA,hx];rfl
        have hpl:=place_c V (some ⟨bb,off,none⟩) n c xs nm h r2 (by omega)
        rw [hh] at hpl
        rw [hh] at hg
        (refine aN Tryz.func113 rfl Tryz.ntmps113 rfl ?_;intro w0)
        repeat' (first|(refine aG ?_;first|(refine aC ?_;(first|refine aO rfl (aK ⟨Tryz.call157⟩ rfl (lH _ _ _ _ xs h)) ?_|refine aO rfl (aK ⟨Tryz.call108⟩ rfl (kV _ nm hm2)) ?_|refine aO rfl (aK ⟨Tryz.call156⟩ rfl (hpl)) ?_))|refine pu9 ?_)|refine bV ?_|(refine aA rfl ?_ ?_<;>intro hq<;>try exact no9))
        all_goals (refine bL Tryz.results113 (aB rfl) (aB rfl) ?_)
        have:=getR_ok (by rw [hg];rfl) hh
        rw [hga,bO] at this
        exact this
      | false =>
        have hpl:=place_c V A n c xs nm h r2 (by omega)
        rw [hh] at hpl
        rw [hh] at hg
        (refine aN Tryz.func113 rfl Tryz.ntmps113 rfl ?_;intro w0)
        repeat' (first|(refine aG ?_;first|(refine aC ?_;(first|refine aO rfl (aK ⟨Tryz.call157⟩ rfl (lH _ _ _ _ xs h)) ?_|refine aO rfl (aK ⟨Tryz.call108⟩ rfl (kV _ nm hm2)) ?_|refine aO rfl (aK ⟨Tryz.call156⟩ rfl (hpl)) ?_))|refine pu9 ?_)|refine bV ?_|(refine aA rfl ?_ ?_<;>intro hq<;>try exact no9))
        all_goals (refine bL Tryz.results113 (aB rfl) (aB rfl) ?_)
        rw [ev5]
        exact getR_bad (f:=5) (by rw [hg];rfl) (by decide)
  · (refine aN Tryz.func113 rfl Tryz.ntmps113 rfl ?_;intro w0)
    repeat' (first|(refine aG ?_;first|(refine aC ?_;refine aO rfl (aK ⟨Tryz.call157⟩ rfl (lH _ _ _ _ xs h)) ?_)|refine pu9 ?_)|refine bS ?_|(refine aA rfl ?_ ?_<;>intro hq<;>try exact no9))
    all_goals (refine bL Tryz.results113 (aB rfl) (aB rfl) ?_)
    exact getR_bad (getF_err h0) h0
theorem xV {V:aE} {A:Option Addr} {n c k:Nat} {xs:List PA} (h:fD V A n xs) (hk:k≤n) (hc:n≤c):fH V 2 (pX A c k 2) (n - k) ((xs.drop k).flatMap paC):=(h.1.drop hk hc).cells pa_len
theorem yF {V:aE} {A:Option Addr} {n k:Nat} {xs:List PA} (h:fD V A n xs) (hk:k≤n):fH V 2 A k ((xs.take k).flatMap paC):=(h.1.take hk).cells pa_len
theorem Set_c (V:aE) (A:Option Addr) (n c:Nat) (xs:List PA) (nm vl:ByteArray) (h:fD V A n xs) (hcap:n≤c) (hm2:nm.size≤maxLen) (hm3:vl.size≤maxLen):Fn Tryz.prog 111 [.slice A n c,.string nm,.string vl] V (AttrRes (uO xs nm vl) (sO xs nm vl)):=by
  have hl:=h.1.1
  have hm:=h.1.max
  have hbd:=rY xs
  have hmx:maxLen≤9223372036854775807:=by unfold maxLen;omega
  by_cases h0:fJ xs=0
  · obtain⟨r1,r2,r3⟩:=qZ h0
    by_cases hc:eV nm=0
    · (refine aN Tryz.func111 rfl Tryz.ntmps111 rfl ?_;intro w0)
      repeat' (first|(refine aG ?_;first|(refine aC ?_;(first|refine aO rfl (aK ⟨Tryz.call157⟩ rfl (lH _ _ _ _ xs h)) ?_|refine aO rfl (aK ⟨Tryz.call108⟩ rfl (kV _ nm (by omega))) ?_))|refine pu9 ?_)|refine bS ?_|(refine aA rfl ?_ ?_<;>intro hq<;>try exact no9))
      all_goals (refine bL Tryz.results111 (aB rfl) (aB rfl) ?_)
      rw [ev4]
      exact mI (g:=4) (setF_name h0 hc) (by decide)
    · by_cases hv:20<vl.size
      · (refine aN Tryz.func111 rfl Tryz.ntmps111 rfl ?_;intro w0)
        repeat' (first|(refine aG ?_;first|(refine aC ?_;(first|refine aO rfl (aK ⟨Tryz.call157⟩ rfl (lH _ _ _ _ xs h)) ?_|refine aO rfl (aK ⟨Tryz.call108⟩ rfl (kV _ nm (by omega))) ?_))|refine pu9 ?_)|refine bS ?_|(refine aA rfl ?_ ?_<;>intro hq<;>try exact no9))
        all_goals (refine bL Tryz.results111 (aB rfl) (aB rfl) ?_)
        rw [ev1]
        exact mI (g:=1) (setF_big h0 hc hv) (by decide)
      · have hs:=setF_has (nm:=nm) (vl:=vl) h0 hc hv
        have hz:=setA_has (xs:=xs) (nm:=nm) (vl:=vl)
        have hle:=atA_le nm xs
        have hpl:=place_c V A n c xs nm h r2 (by omega)
        have hgood:∀ a∈sO xs nm vl,a.n.size≤maxLen∧a.v.size≤maxLen:=fun a ha=>by
          rcases (setA_mem r2 nm vl a).1 ha with rfl|⟨ha,_⟩
          · exact⟨hm2,hm3⟩
          · exact h.2 a ha
        have hlen:=setA_len nm vl r2
        cases hh:tN nm xs with
        | true =>
          have hlz:=hlen.1 (jI.1 hh)
          obtain⟨a,ha,_⟩:=(yB r2).1 (jI.1 hh)
          have hlt:atA nm xs<n:=by
            rcases Nat.lt_or_ge (atA nm xs) n with h|h
            · exact h
            · rw [List.getElem?_eq_none (by omega)] at ha;cases ha
          rw [hh] at hpl hs hz
          rw [if_pos rfl,←tn1] at hz
          have hdr:=xV (k:=((atA nm xs:Int)+1).toNat) h (by omega) hcap
          (refine aN Tryz.func111 rfl Tryz.ntmps111 rfl ?_;intro w0)
          repeat' (first|(refine aG ?_;first|(refine aC ?_;(first|refine aO rfl (aK ⟨Tryz.call157⟩ rfl (lH _ _ _ _ xs h)) ?_|refine aO rfl (aK ⟨Tryz.call108⟩ rfl (kV _ nm (by omega))) ?_|refine aO rfl (aK ⟨Tryz.call156⟩ rfl (hpl)) ?_|(refine bQ rfl und_47 inf_222 rfl rfl rfl cX.nil eL (nE (yF (k:=atA nm xs) h (by omega))) cI (by omega) rfl rfl ?_;intro A1 c1 L1 hr1)|(refine bQ rfl und_47 inf_222 rfl rfl rfl hr1 bD (fY bN rfl) cI (by omega) rfl rfl ?_;intro A2 c2 L2 hr2)|(refine bQ rfl und_47 inf_222 rfl rfl rfl hr2 bD (nE hdr) cI (by omega) rfl rfl ?_;intro A3 c3 L3 hr3;have hcap3:=hr3.cap)))|(refine fW ?_;(first|refine aI (dY und_47 siz_222 rfl rfl (by omega)) ?_|refine aI (iV und_47 siz_222 rfl rfl (by omega)) ?_))|(refine dC ?_;(refine aZ rfl und_47 siz_222 zec_222 rfl rfl rfl rfl rfl rfl rfl ?_;intro γ))|refine pu9 ?_)|refine bV ?_|(refine aA rfl ?_ ?_<;>intro hq<;>try exact no9))
          all_goals first
            | (refine iJ hr3 bD ?_
               intro V2 hV2 hc3
               (refine bL Tryz.results111 (aB rfl) (aB rfl) ?_)
               have hf0:uO xs nm vl=0:=by rw [hs,if_neg (by simp)]
               have hcells:([] ++ (xs.take (atA nm xs)).flatMap paC ++ [.string nm,.string vl] ++ (xs.drop (((atA nm xs:Int)+1).toNat)).flatMap paC:List Value)=(sO xs nm vl).flatMap paC:=by rw [hz,List.flatMap_append,List.flatMap_cons];simp
               have hN:0+atA nm xs+1+(n - (((atA nm xs:Int)+1).toNat))=(sO xs nm vl).length:=by rw [hlz];omega
               have hM:fD V2 A3 _ (sO xs nm vl):=rN (hcells▸hc3) hN.symm (by omega) hgood
               exact .inl ⟨hf0,A3,c3,by rw [←hN,bO],hN▸hM,hN▸hcap3⟩)
            | ((refine bL Tryz.results111 (aB rfl) (aB rfl) ?_)
               rw [ev2]
               exact mI (g:=2) (by rw [hs,if_pos ⟨rfl,by omega⟩]) (by decide))
        | false =>
          have hlz:=hlen.2 (fun e=>by rw [←jI,hh] at e;cases e)
          rw [hh] at hpl hs hz
          rw [if_neg (by simp)] at hz
          have hdr:=xV (k:=atA nm xs) h (by omega) hcap
          (refine aN Tryz.func111 rfl Tryz.ntmps111 rfl ?_;intro w0)
          repeat' (first|(refine aG ?_;first|(refine aC ?_;(first|refine aO rfl (aK ⟨Tryz.call157⟩ rfl (lH _ _ _ _ xs h)) ?_|refine aO rfl (aK ⟨Tryz.call108⟩ rfl (kV _ nm (by omega))) ?_|refine aO rfl (aK ⟨Tryz.call156⟩ rfl (hpl)) ?_|(refine bQ rfl und_47 inf_222 rfl rfl rfl cX.nil eL (nE (yF (k:=atA nm xs) h (by omega))) cI (by omega) rfl rfl ?_;intro A1 c1 L1 hr1)|(refine bQ rfl und_47 inf_222 rfl rfl rfl hr1 bD (fY bN rfl) cI (by omega) rfl rfl ?_;intro A2 c2 L2 hr2)|(refine bQ rfl und_47 inf_222 rfl rfl rfl hr2 bD (nE hdr) cI (by omega) rfl rfl ?_;intro A3 c3 L3 hr3;have hcap3:=hr3.cap)))|(refine fW ?_;(first|refine aI (dY und_47 siz_222 rfl rfl (by omega)) ?_|refine aI (sB und_47 siz_222 rfl rfl (by omega)) ?_))|(refine dC ?_;(refine aZ rfl und_47 siz_222 zec_222 rfl rfl rfl rfl rfl rfl rfl ?_;intro γ))|refine pu9 ?_)|refine bV ?_|(refine aA rfl ?_ ?_<;>intro hq<;>try exact no9))
          all_goals first
            | (refine iJ hr3 bD ?_
               intro V2 hV2 hc3
               (refine bL Tryz.results111 (aB rfl) (aB rfl) ?_)
               have hf0:uO xs nm vl=0:=by rw [hs,if_neg (by omega)]
               have hcells:([] ++ (xs.take (atA nm xs)).flatMap paC ++ [.string nm,.string vl] ++ (xs.drop (atA nm xs)).flatMap paC:List Value)=(sO xs nm vl).flatMap paC:=by rw [hz,List.flatMap_append,List.flatMap_cons];simp
               have hN:0+atA nm xs+1+(n - (atA nm xs))=(sO xs nm vl).length:=by rw [hlz];omega
               have hM:fD V2 A3 _ (sO xs nm vl):=rN (hcells▸hc3) hN.symm (by omega) hgood
               exact .inl ⟨hf0,A3,c3,by rw [←hN,bO],hN▸hM,hN▸hcap3⟩)
            | ((refine bL Tryz.results111 (aB rfl) (aB rfl) ?_)
               rw [ev2]
               exact mI (g:=2) (by rw [hs,if_pos ⟨rfl,by omega⟩]) (by decide))
  · (refine aN Tryz.func111 rfl Tryz.ntmps111 rfl ?_;intro w0)
    repeat' (first|(refine aG ?_;first|(refine aC ?_;refine aO rfl (aK ⟨Tryz.call157⟩ rfl (lH _ _ _ _ xs h)) ?_)|refine pu9 ?_)|refine bS ?_|(refine aA rfl ?_ ?_<;>intro hq<;>try exact no9))
    all_goals (refine bL Tryz.results111 (aB rfl) (aB rfl) ?_)
    exact mI (setF_err h0) h0
end
section
theorem size_zero {a:ByteArray}:a=⟨#[]⟩↔a.size=0:=by
  constructor
  · intro h;subst h;rfl
  · intro h;apply str_ext;rw [Lib.toList_data,Lib.toList_data]
    apply List.eq_nil_of_length_eq_zero
    rw [Array.length_toList];exact h
theorem q_sne0 {B:Base} {N:Nat} {F:List (Nat×Value)} {V:aE} {L:List Box} {d:Option Tmp} {ty t ty2:TypeId} {pos:String} {af:Array Edge} {gd:Option (Nat×Bool)} {x:Operand} {a:ByteArray} (hx:evF F x=some (.string a)):QP Tryz.prog B N V L ⟨d,.binOp .neq t x (.const (.string ⟨#[]⟩)) ty2,ty,pos,af,gd⟩ F (.bool (decide (¬a.size=0))):=by
  have:=q_sneq (P:=Tryz.prog) (B:=B) (N:=N) (V:=V) (L:=L) (d:=d) (ty:=ty) (t:=t) (ty2:=ty2) (pos:=pos) (af:=af) (gd:=gd) (F:=F) (x:=x) (y:=.const (.string ⟨#[]⟩)) (b:=⟨#[]⟩) hx rfl
  have e:decide (¬a=⟨#[]⟩)=decide (¬a.size=0):=decide_eq_decide.2 (not_congr size_zero)
  rw [e] at this;exact this
attribute [local irreducible] AtQ GoC GoL GoW QO QP Fn RV bF aD VLe bU bA
theorem oneF_1 {h:Hd} {many upper root:Bool} (a:¬(h.kind=1∨h.kind=2∨h.kind=3)):lA h many upper root=3:=by unfold lA;rw [if_pos a]
theorem oneF_2 {h:Hd} {many upper root:Bool} (a:h.kind=1∨h.kind=2∨h.kind=3) (b:¬((0≤h.mode∧h.mode≤4095)∧(0≤h.user∧h.user≤65535)∧(0≤h.group∧h.group≤65535))):lA h many upper root=1:=by unfold lA;rw [if_neg (not_not_intro a),if_pos b]
theorem oneF_3 {h:Hd} {many upper root:Bool} (a:h.kind=1∨h.kind=2∨h.kind=3) (b:(0≤h.mode∧h.mode≤4095)∧(0≤h.user∧h.user≤65535)∧(0≤h.group∧h.group≤65535)) (c:¬fJ h.attrs=0):lA h many upper root=fJ h.attrs:=by unfold lA;rw [if_neg (not_not_intro a),if_neg (not_not_intro b),if_pos c]
theorem oneF_4 {h:Hd} {many upper root:Bool} (a:h.kind=1∨h.kind=2∨h.kind=3) (b:(0≤h.mode∧h.mode≤4095)∧(0≤h.user∧h.user≤65535)∧(0≤h.group∧h.group≤65535)) (c:fJ h.attrs=0) (d:200<h.data.size):lA h many upper root=1:=by unfold lA;rw [if_neg (not_not_intro a),if_neg (not_not_intro b),if_neg (not_not_intro c),if_pos d]
def shapeN (h:Hd) (many upper root:Bool):Prop:=(h.kind=3∧(upper=false∨0<h.mode+h.user+h.group+h.attrs.length))∨(¬h.kind=1∧0<h.data.size)∨(¬h.kind=2∧(many=true∨h.opq=true))∨(h.opq=true∧(upper=false∨root=true))
theorem oneF_5 {h:Hd} {many upper root:Bool} (a:h.kind=1∨h.kind=2∨h.kind=3) (b:(0≤h.mode∧h.mode≤4095)∧(0≤h.user∧h.user≤65535)∧(0≤h.group∧h.group≤65535)) (c:fJ h.attrs=0) (d:h.data.size≤200) (e:shapeN h many upper root):lA h many upper root=3:=by unfold lA;rw [if_neg (not_not_intro a),if_neg (not_not_intro b),if_neg (not_not_intro c),if_neg (by omega)];exact if_pos e
theorem oneF_6 {h:Hd} {many upper root:Bool} (a:h.kind=1∨h.kind=2∨h.kind=3) (b:(0≤h.mode∧h.mode≤4095)∧(0≤h.user∧h.user≤65535)∧(0≤h.group∧h.group≤65535)) (c:fJ h.attrs=0) (d:h.data.size≤200) (e:¬shapeN h many upper root):lA h many upper root=0:=by unfold lA;rw [if_neg (not_not_intro a),if_neg (not_not_intro b),if_neg (not_not_intro c),if_neg (by omega)];exact if_neg e
theorem one_c (V:aE) (x:LN) (hx:aT V x) (upper root:Bool):Fn Tryz.prog 119 [lnV x,.bool upper,.bool root] V fun v _=>v=bA (lA x.h (decide (0<x.nk)) upper root):=by
  obtain⟨ha,hca,hd,hck,es,hk,hks⟩:=hx.inv
  have hatt:=lH V x.A x.na x.ca x.h.attrs ha
  have hab:=rY x.h.attrs
  have hal:x.h.attrs.length=x.na:=ha.1.1
  have hmk:=hk.max
  have hma:=ha.1.max
  have hmd:x.h.data.size≤9223372036854775807:=by unfold maxLen at hd;omega
  have h4:¬fJ x.h.attrs=0∨x.na≤4:=by
    rcases Nat.lt_or_ge 4 x.na with h|h
    · left;unfold fJ;rw [if_pos (by omega)];decide
    · right;exact h
  clear hks hk ha hx
  (refine aN Tryz.func119 rfl Tryz.ntmps119 rfl ?_;intro w0)
  repeat' (first|(refine aG ?_;first|(refine bK ?_;refine aI (q_sne0 rfl) ?_)|(refine aC ?_;refine aO rfl (aK ⟨Tryz.call157⟩ rfl (hatt)) ?_)|(refine al9 ?_;intro γ)|refine pu9 ?_)|refine dL ?_|(refine aJ rfl rfl rfl ?_ ?_<;>intro hq<;>try exact no9)|(refine cN rfl rfl rfl ?_ ?_<;>intro hq)|(refine aA rfl ?_ ?_<;>intro hq<;>try exact no9)|(refine bY rfl ?_ ?_<;>intro hq))
  all_goals (refine aR Tryz.results119 (aB rfl) ?_)
  all_goals first
    | (refine cP 3 (oneF_1 ?_);omega)
    | (refine cP 1 (oneF_2 ?_ ?_)<;>omega)
    | (refine congrArg bA (oneF_3 ?_ ?_ ?_).symm<;>omega)
    | (refine cP 1 (oneF_4 ?_ ?_ ?_ ?_)<;>omega)
    | (refine cP 3 (oneF_5 (h:=x.h) (by omega) (by omega) (by omega) (by omega) ?_);(try simp only [Bool.not_eq_true',Bool.not_eq_false'] at *);first
        | exact .inl ⟨by omega,.inl (by assumption)⟩
        | exact .inl ⟨by omega,.inr (by omega)⟩
        | exact .inr (.inl ⟨by omega,by omega⟩)
        | exact .inr (.inr (.inl ⟨by omega,.inl (decide_eq_true (by omega))⟩))
        | exact .inr (.inr (.inl ⟨by omega,.inr (by assumption)⟩))
        | exact .inr (.inr (.inr ⟨by assumption,.inl (by assumption)⟩))
        | exact .inr (.inr (.inr ⟨by assumption,.inr (by assumption)⟩)))
    | (refine errV_nil (oneF_6 (h:=x.h) (by omega) (by omega) (by omega) (by omega) ?_);(try simp only [Bool.not_eq_true',Bool.not_eq_false'] at *);unfold shapeN;rintro (⟨h1,h2|h2⟩|⟨h1,h2⟩|⟨h1,h2|h2⟩|⟨h1,h2|h2⟩)<;>first|omega|(have h2:=of_decide_eq_true h2;omega)|simp_all)
end
section
theorem fA.prev {V:aE} {b off n k:Nat} {es:List LK} (h:fA V (some ⟨b,off,none⟩) n es) (hk:k<n) (h0:¬k=0):∃ y,es[k - 1]?=some y∧V ⟨b,off+((k:Int) - 1).toNat * 9+0,none⟩=some (.string y.nm):=by
  obtain⟨b',off',z,he,hz,_,_,hc,_⟩:=h.at_ (k:=k - 1) (by omega)
  cases he
  exact⟨z,hz,by rw [show ((k:Int) - 1).toNat=k - 1 by omega];exact hc⟩
theorem oneF_bd (h:Hd) (many upper root:Bool):0≤lA h many upper root∧lA h many upper root≤7:=by
  have:=rY h.attrs
  unfold lA;(repeat' split)<;>omega
mutual
theorem nT (upper:Bool):∀ (deep so:Nat) (n:PN),so≤60→(cE upper deep so n).1≤60∧0≤(cE upper deep so n).2∧(cE upper deep so n).2≤7
  | deep,so,.mk h ks,hs=>by
    have h1:=oneF_bd h (decide (0<ks.length)) upper (decide (deep=0))
    rw [cE]
    split
    · exact⟨hs,by simp,by simp⟩
    · split
      · exact⟨hs,h1⟩
      · exact countK_bd upper deep (so+1) none ks (by omega)
theorem countK_bd (upper:Bool):∀ (deep so:Nat) (prev:Option ByteArray) (ks:PKs),so≤60→(dQ upper deep so prev ks).1≤60∧0≤(dQ upper deep so prev ks).2∧(dQ upper deep so prev ks).2≤7
  | deep,so,prev,[],hs=>by rw [dQ];exact⟨hs,by simp,by simp⟩
  | deep,so,prev,(nm,n) :: ks,hs=>by
    have h1:=nT upper (deep+1) so n hs
    rw [dQ]
    split
    · exact⟨hs,by simp,by simp⟩
    · split
      · exact⟨hs,by simp,by simp⟩
      · split
        · exact h1
        · exact countK_bd upper deep _ _ ks h1.1
end
theorem countF_many {upper:Bool} {deep so:Nat} {n:PN} (h:so=60∨6<deep):cE upper deep so n=(so,2):=by cases n;rw [cE,if_pos h]
theorem countF_one {upper:Bool} {deep so:Nat} {n:PN} (h:¬(so=60∨6<deep)) (h2:¬lA n.h (decide (0<n.ks.length)) upper (decide (deep=0))=0):cE upper deep so n=(so,lA n.h (decide (0<n.ks.length)) upper (decide (deep=0))):=by
  obtain⟨hd,ks⟩:=n;simp only [PN.h_mk,PN.ks_mk] at h2 ⊢;rw [cE,if_neg h];exact if_pos h2
theorem rF {upper:Bool} {deep so:Nat} {n:PN} (h:¬(so=60∨6<deep)) (h2:lA n.h (decide (0<n.ks.length)) upper (decide (deep=0))=0):cE upper deep so n=dQ upper deep (so+1) none n.ks:=by
  obtain⟨hd,ks⟩:=n;simp only [PN.h_mk,PN.ks_mk] at h2 ⊢;rw [cE,if_neg h];exact if_neg (not_not_intro h2)
def prevK (ks:PKs) (k:Nat):Option ByteArray:=if k=0 then none else (ks[k - 1]?).map Prod.fst
theorem prevK_pos {ks:PKs} {k:Nat} (h:¬k=0):prevK ks k=(ks[k - 1]?).map Prod.fst:=if_neg h
theorem prevK_succ {ks:PKs} {k:Nat}:prevK ks (k+1)=(ks[k]?).map Prod.fst:=by rw [prevK,if_neg (by omega)];rfl
theorem vV {upper:Bool} {deep so:Nat} {p:Option ByteArray} {k:ByteArray×PN} {ks:PKs} (h:fS k.1.toList=false):dQ upper deep so p (k :: ks)=(so,4):=by
  obtain⟨a,b⟩:=k;rw [dQ,if_pos (show ¬fS a.toList=true by have:fS a.toList=false:=h;rw [this];decide)]
theorem countK_down {upper:Bool} {deep so:Nat} {y:ByteArray} {k:ByteArray×PN} {ks:PKs} (h:fS k.1.toList=true) (h2:¬y.toList<k.1.toList):dQ upper deep so (some y) (k :: ks)=(so,3):=by
  obtain⟨a,b⟩:=k;rw [dQ,if_neg (not_not_intro h),if_pos ⟨y,rfl,h2⟩]
theorem xP {upper:Bool} {deep so:Nat} {p:Option ByteArray} {k:ByteArray×PN} {ks:PKs} (h:fS k.1.toList=true) (h2:∀ y,p=some y→y.toList<k.1.toList) (h3:¬(cE upper (deep+1) so k.2).2=0):dQ upper deep so p (k :: ks)=cE upper (deep+1) so k.2:=by
  obtain⟨a,b⟩:=k;rw [dQ,if_neg (not_not_intro h),if_neg (fun ⟨y,hy,hn⟩=>hn (h2 y hy)),if_pos h3]
theorem pS {upper:Bool} {deep so:Nat} {p:Option ByteArray} {k:ByteArray×PN} {ks:PKs} (h:fS k.1.toList=true) (h2:∀ y,p=some y→y.toList<k.1.toList) (h3:(cE upper (deep+1) so k.2).2=0):dQ upper deep so p (k :: ks)=dQ upper deep (cE upper (deep+1) so k.2).1 (some k.1) ks:=by
  obtain⟨a,b⟩:=k;rw [dQ,if_neg (not_not_intro h),if_neg (fun ⟨y,hy,hn⟩=>hn (h2 y hy)),if_neg (not_not_intro h3)]
theorem countK_nil {upper:Bool} {deep so:Nat} {p:Option ByteArray}:dQ upper deep so p []=(so,0):=by rw [dQ]
theorem cnt_is {p:Nat×Int} {a:Nat} (b:Int) (h:p=(a,b)) (hb:¬b=0):Value.tuple #[.int .i64 (a:Int),.iface 99 (.int .i64 b)]=.tuple #[.int .i64 (p.1:Int),bA p.2]:=by
  subst h;rw [bW hb]
theorem cnt_e {p:Nat×Int} {a:Nat} {b:Int} (h:p=(a,b)):Value.tuple #[.int .i64 (a:Int),bA b]=.tuple #[.int .i64 (p.1:Int),bA p.2]:=by
  subst h;rfl
theorem cnt_0 {p:Nat×Int} {a:Nat} (h:p=(a,0)):Value.tuple #[.int .i64 (a:Int),.nilIface]=.tuple #[.int .i64 (p.1:Int),bA p.2]:=by
  subst h;rw [bO]
theorem not_t {b:Bool} (h:(!b)=true):b=false:=by cases b<;>simp_all
theorem not_f {b:Bool} (h:(!b)=false):b=true:=by cases b<;>simp_all
attribute [local irreducible] AtQ GoC GoL GoW QO QP Fn RV bF aD VLe bU bA
theorem count_c (V:aE) (x:LN) (hx:aT V x) (upper:Bool):∀ (deep so:Nat),deep≤7→so≤60→Fn Tryz.prog 52 [lnV x,.bool upper,.int .i64 (deep:Int),.int .i64 (so:Int)] V fun v _=>v=.tuple #[.int .i64 ((cE upper deep so x.n).1:Int),bA (cE upper deep so x.n).2]:=by
  refine aT.ind (C:=fun x=>∀ (deep so:Nat),deep≤7→so≤60→Fn Tryz.prog 52 [lnV x,.bool upper,.int .i64 (deep:Int),.int .i64 (so:Int)] V fun v _=>v=.tuple #[.int .i64 ((cE upper deep so x.n).1:Int),bA (cE upper deep so x.n).2]) ?_ hx
  intro x es ha hca hd hck hk hks ih deep so hdeep hso
  have hl:=hk.len
  have hm:=hk.max
  have hz:x.ks.length=x.nk:=by rw [hks,List.length_map,hl]
  have hone:=one_c V x (aT.of ha hca hd hck hk hks) upper (decide (deep=0))
  have hob:=oneF_bd x.h (decide (0<x.nk)) upper (decide (deep=0))
  have hd0:decide ((deep:Int)=0)=decide (deep=0):=decide_eq_decide.2 (by omega)
  rw [←hd0] at hone
  (refine aN Tryz.func52 rfl Tryz.ntmps52 rfl ?_;intro w0)
  repeat' (first|(refine aG ?_;first|(refine aC ?_;refine aO rfl (aK ⟨Tryz.call119⟩ rfl (hone)) ?_)|(refine al9 ?_;intro γ)|refine pu9 ?_)|refine dL ?_|(refine aJ rfl rfl rfl ?_ ?_<;>intro hq<;>try exact no9)|(refine aA rfl ?_ ?_<;>intro hq<;>try exact no9))
  all_goals (try rw [hd0] at hq)
  all_goals (try rw [hd0])
  all_goals first
    | ((refine bL Tryz.results52 (aB rfl) (aB rfl) ?_);exact cnt_is 2 (countF_many (by omega)) (by decide))
    | ((refine bL Tryz.results52 (aB rfl) (aB rfl) ?_);exact cnt_e (by rw [←hz] at *;exact countF_one (n:=x.n) (by omega) hq))
    | skip
  have hone0:lA x.h (decide (0<x.nk)) upper (decide (deep=0))=0:=by first|exact Decidable.not_not.1 hq|omega
  have hkids:cE upper deep so x.n=dQ upper deep (so+1) none x.ks:=rF (n:=x.n) (by omega) (by rw [←hz] at hone0;exact hone0)
  refine bZ (fun F V' L' m=>∃ (k s:Nat) (S:Int),V=V'∧[⟨γ,50,lnC x⟩]=L'∧k≤x.nk∧m=x.nk - k∧s≤60∧S=s∧cE upper deep so x.n=dQ upper deep s (prevK x.ks k) (x.ks.drop k)∧F=[(1,.bool upper),(2,.int .i64 (deep:Int)),(3,.int .i64 S),(4,.pointer (some ⟨γ,0,none⟩)),(33,.slice x.K x.nk x.ck),(34,.int .i64 x.nk),(35,.int .i64 k)]) (m:=x.nk) ⟨0,so+1,_,rfl,rfl,Nat.zero_le _,by omega,by omega,rfl,hkids,rfl⟩ bG rfl sl9 ?_
  rintro F V' L' m ⟨k,s,S,rfl,rfl,hkn,rfl,hs60,rfl,hcnt,rfl⟩
  by_cases hlt:k<x.nk
  · obtain⟨b1,o1,e,hK1,he,hem,hc,c0,c1,hms,hne⟩:=hk.at_ hlt
    have hke:=kz_at hks he
    rw [drop_get hke] at hcnt
    have hcall:=ih e hem (deep+1) s (by omega) hs60
    have hcb:=nT upper (deep+1) s e.x.n hs60
    have hN:=Name_c V e.nm hms
    rw [Int.natCast_add,Int.natCast_one] at hcall
    by_cases h0:k=0
    · subst h0
      replace hcnt:cE upper deep so x.n=dQ upper deep s none ((e.nm,e.x.n) :: x.ks.drop (0+1)):=hcnt
      repeat' (first|(refine aG ?_;first|(refine aC ?_;(first|refine aO rfl (aK ⟨Tryz.call120⟩ rfl (hN)) ?_|refine aO rfl (aK ⟨Tryz.call52⟩ rfl (hcall)) ?_))|refine st9 ?_|(refine al9 ?_;intro γ)|refine pu9 ?_)|refine dL ?_|(refine aA rfl ?_ ?_<;>intro hq<;>try exact no9)|(refine bY rfl ?_ ?_<;>intro hq)|refine cO (id:=12) mixed (by kernel_rfl) ?_)
      all_goals first
        | ((refine bL Tryz.results52 (aB rfl) (aB rfl) ?_);exact cnt_is 4 (hcnt.trans (vV (not_t hq))) (by decide))
        | ((refine bL Tryz.results52 (aB rfl) (aB rfl) ?_);rw [hcnt,xP (not_f (by assumption)) (fun y hy=>by cases hy) hq];rfl)
        | (refine aY _ (x.nk - (0+1)) ⟨0+1,(cE upper (deep+1) s e.x.n).1,_,rfl,rfl,by omega,rfl,hcb.1,rfl,?_,rfl⟩ (by omega) bG sl9
           rw [hcnt,pS (not_f (by assumption)) (fun y hy=>by cases hy) (Decidable.not_not.1 hq),prevK_succ,hke];rfl)
    · obtain⟨y,hy,hcy⟩:=(hK1▸hk).prev hlt h0
      rw [prevK_pos h0,kz_at hks hy] at hcnt
      replace hcnt:cE upper deep so x.n=dQ upper deep s (some y.nm) ((e.nm,e.x.n) :: x.ks.drop (k+1)):=hcnt
      repeat' (first|(refine aG ?_;first|(refine bK ?_;refine aI (q_sgeq rfl rfl) ?_)|(refine aC ?_;(first|refine aO rfl (aK ⟨Tryz.call120⟩ rfl (hN)) ?_|refine aO rfl (aK ⟨Tryz.call52⟩ rfl (hcall)) ?_))|refine st9 ?_|(refine al9 ?_;intro γ)|refine pu9 ?_)|refine cM ?_|(refine aJ rfl rfl rfl ?_ ?_<;>intro hq<;>try exact no9)|(refine aA rfl ?_ ?_<;>intro hq<;>try exact no9)|(refine bY rfl ?_ ?_<;>intro hq)|refine cO (id:=12) mixed (by kernel_rfl) ?_)
      all_goals first
        | ((refine bL Tryz.results52 (aB rfl) (aB rfl) ?_);exact cnt_is 4 (hcnt.trans (vV (not_t hq))) (by decide))
        | ((refine bL Tryz.results52 (aB rfl) (aB rfl) ?_);exact cnt_is 3 (hcnt.trans (countK_down (not_f (by assumption)) hq)) (by decide))
        | ((refine bL Tryz.results52 (aB rfl) (aB rfl) ?_);rw [hcnt,xP (not_f (by assumption)) (fun z hz=>by cases hz;exact Classical.byContradiction (by assumption)) hq];rfl)
        | (refine aY _ (x.nk - (k+1)) ⟨k+1,(cE upper (deep+1) s e.x.n).1,_,rfl,rfl,by omega,rfl,hcb.1,rfl,?_,rfl⟩ (by omega) bG sl9
           rw [hcnt,pS (not_f (by assumption)) (fun z hz=>by cases hz;exact Classical.byContradiction (by assumption)) (Decidable.not_not.1 hq),prevK_succ,hke];rfl)
  · repeat' (first|(refine aG ?_;refine pu9 ?_)|refine eT ?_|(refine aA rfl ?_ ?_<;>intro hq<;>try exact no9))
    (refine bL Tryz.results52 (aB rfl) (aB rfl) ?_)
    rw [hcnt,List.drop_eq_nil_of_le (by omega)]
    exact cnt_0 countK_nil
theorem TCheck_c (V:aE) (x:LN) (hx:aT V x) (upper:Bool):Fn Tryz.prog 16 [lnV x,.bool upper] V fun v _=>v=bA (dD upper x.n):=by
  have hb:=nT upper 0 0 x.n (by omega)
  have hc:=count_c V x hx upper 0 0 (by omega) (by omega)
  (refine aN Tryz.func16 rfl Tryz.ntmps16 rfl ?_;intro w0)
  repeat' (first|(refine aG ?_;first|(refine aC ?_;refine aO rfl (aK ⟨Tryz.call52⟩ rfl (hc)) ?_)|(refine al9 ?_;intro γ)|refine pu9 ?_)|refine bS ?_|(refine aA rfl ?_ ?_<;>intro hq<;>try exact no9))
  all_goals (refine aR Tryz.results16 (aB rfl) ?_)
  · exact cP 7 (by unfold dD;exact if_pos hq)
  · unfold dD;rw [if_neg (show ¬¬x.n.h.kind=2 from hq)];rfl
end
section
def gT:PKs→ByteArray→Option PN
  | [],_=>none
  | k :: ks,s=>if k.1=s then some k.2 else gT ks s
theorem lookK_app:∀ (a b:PKs) (s:ByteArray),gT (a ++ b) s=(gT a s).or (gT b s)
  | [],b,s=>by simp [gT]
  | k :: a,b,s=>by
    rw [List.cons_append,gT,gT]
    split
    · rfl
    · exact lookK_app a b s
theorem lookK_none:∀ {ks:PKs} {s:ByteArray},gT ks s=none↔∀ k∈ks,¬k.1=s
  | [],s=>by simp [gT]
  | k :: ks,s=>by
    rw [gT]
    by_cases h:k.1=s
    · rw [if_pos h];simp [h]
    · rw [if_neg h,lookK_none];simp [h]
theorem isAt_iff {ks:PKs} {s:ByteArray}:kT ks s=true↔∃ k∈ks,k.1=s:=by
  unfold kT;rw [List.any_eq_true];simp
theorem isAt_no {ks:PKs} {s:ByteArray}:kT ks s=false↔gT ks s=none:=by
  rw [lookK_none]
  constructor
  · intro h k hk he
    have:=isAt_iff.2 ⟨k,hk,he⟩;rw [h] at this;cases this
  · intro h
    cases hb:kT ks s
    · rfl
    · obtain⟨k,hk,he⟩:=isAt_iff.1 hb;exact absurd he (h k hk)
theorem kid_split {ks:PKs} {s:ByteArray} (h:kT ks s=true):∃ a x b,ks=a ++ (s,x) :: b∧gT a s=none∧cQ ks s=a.length:=by
  have hl:=tD h
  have e:cQ ks s=atN ks s:=by unfold cQ;rw [if_pos h]
  have h1:(ks[cQ ks s]'hl).1=s:=by
    have:=List.findIdx_getElem (p:=fun k:ByteArray×PN=>decide (k.1=s)) (xs:=ks) (w:=by rw [←show atN ks s=ks.findIdx (fun k=>decide (k.1=s)) from rfl,←e];exact hl)
    have h2:=of_decide_eq_true this
    simp only [e];exact h2
  refine⟨ks.take (cQ ks s),(ks[cQ ks s]'hl).2,ks.drop (cQ ks s+1),?_,?_,?_⟩
  · have e2:((s,(ks[cQ ks s]'hl).2):ByteArray×PN)=ks[cQ ks s]'hl:=Prod.ext h1.symm rfl
    rw [e2,←List.drop_eq_getElem_cons hl,List.take_append_drop]
  · rw [lookK_none]
    intro k hk he
    obtain⟨i,hi,rfl⟩:=List.getElem_of_mem hk
    rw [List.length_take] at hi
    rw [List.getElem_take] at he
    have:=List.not_of_lt_findIdx (p:=fun k:ByteArray×PN=>decide (k.1=s)) (xs:=ks) (i:=i) (by rw [←show atN ks s=ks.findIdx (fun k=>decide (k.1=s)) from rfl,←e];omega)
    simp [he] at this
  · rw [List.length_take];omega
theorem yC {a b:PKs} {s:ByteArray} {x:PN} (ha:gT a s=none):gT (a ++ (s,x) :: b) s=some x:=by
  rw [lookK_app,ha];simp [gT]
theorem edit_split {cut:Bool} {a b:PKs} {s:ByteArray} {x y:PN} (hp:cQ (a ++ (s,x) :: b) s=a.length):nF cut y (a ++ (s,x) :: b) s=a ++ (if cut=true then [] else [(s,y)]) ++ b:=by
  have hi:kT (a ++ (s,x) :: b) s=true:=isAt_iff.2 ⟨(s,x),by simp,rfl⟩
  unfold nF
  rw [if_pos hi,hp]
  congr 1
  · rw [List.take_left]
  · rw [show a.length+1=(a ++ [(s,x)]).length by simp,show a ++ (s,x) :: b=(a ++ [(s,x)]) ++ b by simp,List.drop_left]
theorem findP_cons {n:PN} {s:ByteArray} {l:List ByteArray}:eP n (s :: l)=if n.h.kind=2 then (gT n.ks s).bind (fun m=>eP m l) else none:=by
  rw [eP]
  by_cases hk:n.h.kind=2
  · rw [if_pos hk]
    cases h:kT n.ks s
    · rw [if_neg (by rintro ⟨_,h2⟩;cases h2),isAt_no.1 h];rfl
    · rw [if_pos ⟨hk,rfl⟩]
      obtain⟨a,x,b,h1,h2,h3⟩:=kid_split h
      rw [h3,h1,yC h2]
      simp
  · rw [if_neg hk,if_neg (fun h=>hk h.1)]
theorem pF_cons {cut:Bool} {x n:PN} {s t:ByteArray} {l:List ByteArray}:pF cut x n (s :: t :: l)=0↔n.h.kind=2∧∃ m,gT n.ks s=some m∧pF cut x m (t :: l)=0:=by
  rw [pF]
  by_cases hk:n.h.kind=2
  · rw [if_neg (not_not_intro hk)]
    cases h:kT n.ks s
    · rw [if_neg (by decide),isAt_no.1 h];simp
    · rw [if_pos rfl]
      obtain⟨a,y,b,h1,h2,h3⟩:=kid_split h
      rw [h3,h1,yC h2]
      simp [hk]
  · rw [if_pos hk];simp [hk]
theorem pN_cons {cut:Bool} {x n m:PN} {s t:ByteArray} {l:List ByteArray} (hm:gT n.ks s=some m):pN cut x n (s :: t :: l)=.mk n.h (nF false (pN cut x m (t :: l)) n.ks s):=by
  rw [pN]
  cases h:kT n.ks s
  · rw [isAt_no.1 h] at hm;cases hm
  · obtain⟨a,y,b,h1,h2,h3⟩:=kid_split h
    rw [h1,yC h2] at hm
    cases hm
    rw [h3,h1]
    have h4:=h3;rw [h1] at h4
    rw [edit_split h4]
    simp
theorem vP {u:Bool} {d so:Nat} {p:Option ByteArray} {k:ByteArray×PN} {ks:PKs}:(dQ u d so p (k :: ks)).2=0↔fS k.1.toList=true∧(∀ y,p=some y→y.toList<k.1.toList)∧(cE u (d+1) so k.2).2=0∧(dQ u d (cE u (d+1) so k.2).1 (some k.1) ks).2=0:=by
  by_cases h1:fS k.1.toList=true
  · by_cases h2:∀ y,p=some y→y.toList<k.1.toList
    · by_cases h3:(cE u (d+1) so k.2).2=0
      · rw [pS h1 h2 h3];simp [h1,h3];exact fun _=>h2
      · rw [xP h1 h2 h3];simp [h3]
    · have:∃ y,p=some y∧¬y.toList<k.1.toList:=by
        refine Classical.byContradiction fun hn=>h2 fun y hy=>Classical.byContradiction fun hl=>hn ⟨y,hy,hl⟩
      obtain⟨y,rfl,hy⟩:=this
      rw [countK_down h1 hy]
      constructor
      · intro h;simp at h
      · intro h;exact absurd (h.2.1 y rfl) hy
  · have h1':fS k.1.toList=false:=by simpa using h1
    rw [vV h1']
    constructor
    · intro h;simp at h
    · intro h;exact absurd h.1 h1
theorem wN {u:Bool} {d so:Nat} {n:PN}:(cE u d so n).2=0↔(¬so=60∧d≤6)∧lA n.h (decide (0<n.ks.length)) u (decide (d=0))=0∧(dQ u d (so+1) none n.ks).2=0:=by
  by_cases h1:so=60∨6<d
  · rw [countF_many h1];simp;omega
  · by_cases h2:lA n.h (decide (0<n.ks.length)) u (decide (d=0))=0
    · rw [rF h1 h2];simp only [h2,true_and];omega
    · rw [countF_one h1 h2]
      constructor
      · intro h;exact absurd h h2
      · intro h;exact absurd h.2.1 h2
theorem xY {u:Bool} {d:Nat}:∀ {ks:PKs} {so:Nat} {p:Option ByteArray},so≤60→(dQ u d so p ks).2=0→ks.Pairwise (fun a b=>a.1.toList<b.1.toList)∧(∀ k∈ks,(∀ y,p=some y→y.toList<k.1.toList)∧fS k.1.toList=true∧∃ so',so'≤60∧(cE u (d+1) so' k.2).2=0)
  | [],so,p,_,_=>by simp
  | k :: ks,so,p,hs,h=>by
    obtain⟨h1,h2,h3,h4⟩:=vP.1 h
    have hb:=nT u (d+1) so k.2 hs
    obtain⟨g1,g2⟩:=xY hb.1 h4
    refine⟨List.pairwise_cons.2 ⟨fun b hb=>(g2 b hb).1 _ rfl,g1⟩,fun b hb=>?_⟩
    rcases List.mem_cons.1 hb with rfl|hb
    · exact⟨h2,h1,so,hs,h3⟩
    · exact⟨fun y hy=>pP (h2 y hy) ((g2 b hb).1 _ rfl),(g2 b hb).2⟩
theorem lJ:∀ {ks:PKs} {s:ByteArray} {m:PN},gT ks s=some m→(s,m)∈ks
  | [],s,m,h=>by cases h
  | k :: ks,s,m,h=>by
    rw [gT] at h
    split at h
    · rename_i he;cases h;subst he;exact List.mem_cons_self
    · exact List.mem_cons_of_mem _ (lJ h)
mutual
theorem countF_ge (u:Bool):∀ (d so:Nat) (n:PN),so≤(cE u d so n).1
  | d,so,.mk h ks=>by
    have:=countK_ge u d (so+1) none ks
    rw [cE]
    split
    · exact Nat.le_refl _
    · split
      · exact Nat.le_refl _
      · omega
theorem countK_ge (u:Bool):∀ (d so:Nat) (prev:Option ByteArray) (ks:PKs),so≤(dQ u d so prev ks).1
  | d,so,prev,[]=>by rw [dQ];exact Nat.le_refl _
  | d,so,prev,(nm,n) :: ks=>by
    have h1:=countF_ge u (d+1) so n
    have h2:=countK_ge u d (cE u (d+1) so n).1 (some nm) ks
    rw [dQ]
    split
    · exact Nat.le_refl _
    · split
      · exact Nat.le_refl _
      · split
        · exact h1
        · omega
end
inductive qG (u:Bool) (d:Nat):PKs→PKs→Prop
  | nil:qG u d [] []
  | drop {k a b}:qG u d a b→qG u d a (k :: b)
  | cons {s x y a b}:(∀ so so',so'≤so→so≤60→(cE u (d+1) so x).2=0→(cE u (d+1) so' y).2=0∧(cE u (d+1) so' y).1≤(cE u (d+1) so x).1)→qG u d a b→qG u d ((s,y) :: a) ((s,x) :: b)
theorem qG.count {u:Bool} {d:Nat} {a b:PKs} (h:qG u d a b):∀ {so so':Nat} {p p':Option ByteArray},so'≤so→so≤60→(∀ y,p'=some y→∃ z,p=some z∧(y=z∨y.toList<z.toList))→(dQ u d so p b).2=0→(dQ u d so' p' a).2=0∧(dQ u d so' p' a).1≤(dQ u d so p b).1:=by
  induction h with
  | nil=>intro so so' p p' hs _ _ _;rw [countK_nil,countK_nil];exact⟨rfl,hs⟩
  | @drop k a b h ih =>
    intro so so' p p' hs hs6 hp hc
    obtain⟨h1,h2,h3,h4⟩:=vP.1 hc
    have hb:=nT u (d+1) so k.2 hs6
    have hge:so≤(cE u (d+1) so k.2).1:=countF_ge u (d+1) so k.2
    rw [pS h1 h2 h3]
    refine ih (by omega) hb.1 (fun y hy=>⟨k.1,rfl,.inr ?_⟩) h4
    obtain⟨z,hz,hyz⟩:=hp y hy
    rcases hyz with rfl|hyz
    · exact h2 _ hz
    · exact pP hyz (h2 z hz)
  | @cons s x y a b hxy h ih =>
    intro so so' p p' hs hs6 hp hc
    obtain⟨h1,h2,h3,h4⟩:=vP.1 hc
    have hb:=nT u (d+1) so x hs6
    obtain⟨g1,g2⟩:=hxy so so' hs hs6 h3
    have h2':∀ z,p'=some z→z.toList<s.toList:=by
      intro z hz
      obtain⟨z2,hz2,he⟩:=hp z hz
      rcases he with rfl|he
      · exact h2 _ hz2
      · exact pP he (h2 z2 hz2)
    rw [pS (k:=(s,x)) h1 h2 h3,pS (k:=(s,y)) h1 h2' g1]
    exact ih g2 hb.1 (fun z hz=>⟨z,hz,.inl rfl⟩) h4
theorem node_less {u:Bool} {d so so':Nat} {n n':PN} (hh:n'.h=n.h) (ho:lA n.h (decide (0<n'.ks.length)) u (decide (d=0))=lA n.h (decide (0<n.ks.length)) u (decide (d=0))) (hk:qG u d n'.ks n.ks) (hs:so'≤so) (h6:so≤60) (hc:(cE u d so n).2=0):(cE u d so' n').2=0∧(cE u d so' n').1≤(cE u d so n).1:=by
  obtain⟨⟨a1,a2⟩,a3,a4⟩:=wN.1 hc
  have:=hk.count (so:=so+1) (so':=so'+1) (p:=none) (p':=none) (by omega) (by omega) (by simp) a4
  rw [rF (n:=n) (by omega) a3,rF (n:=n') (by omega) (by rw [hh,ho];exact a3)]
  exact this
theorem qG.of_all {u:Bool} {d:Nat}:∀ {ks:PKs},(∀ k∈ks,∀ so so',so'≤so→so≤60→(cE u (d+1) so k.2).2=0→(cE u (d+1) so' k.2).2=0∧(cE u (d+1) so' k.2).1≤(cE u (d+1) so k.2).1)→qG u d ks ks
  | [],_=>.nil
  | k :: ks,h=>.cons (h k List.mem_cons_self) (qG.of_all fun k hk=>h k (List.mem_cons_of_mem _ hk))
theorem countF_mono {u:Bool} (n:PN):∀ (d so so':Nat),so'≤so→so≤60→(cE u d so n).2=0→(cE u d so' n).2=0∧(cE u d so' n).1≤(cE u d so n).1:=by
  refine PN.ind (p:=fun n=>∀ (d so so':Nat),so'≤so→so≤60→(cE u d so n).2=0→(cE u d so' n).2=0∧(cE u d so' n).1≤(cE u d so n).1) ?_ n
  intro h ks ih d so so' hs h6 hc
  exact node_less rfl rfl (qG.of_all fun k hk=>ih k hk (d+1)) hs h6 hc
theorem qG.same {u:Bool} {d:Nat} (ks:PKs):qG u d ks ks:=qG.of_all fun k _ so so'=>countF_mono k.2 (d+1) so so'
theorem vW {u:Bool} {n:PN}:dD u n=0↔n.h.kind=2∧(cE u 0 0 n).2=0:=by
  unfold dD;split<;>simp_all
end
section
abbrev PF:=PN×Int
def eB:List PF→List PF
  | []=>[]
  | f :: l=>if f.1.h.kind=2 then (if f.1.h.opq=true then [f] else f :: eB l) else []
def dV:List PF→List PF
  | []=>[]
  | f :: l=>if f.1.h.kind=1 then [f] else eB (f :: l)
def oU (s:ByteArray) (f:PF):Option PF:=if f.1.h.kind=2 then (gT f.1.ks s).map (fun x=>(x,f.2)) else none
def eJ (l:List PF) (s:ByteArray):List PF:=dV (l.filterMap (oU s))
def mX:Int→List PN→List PF
  | _,[]=>[]
  | i,n :: l=>(n,i) :: mX (i+1) l
def mZ (l:List PN):List PF:=dV (mX 0 l)
def dT (l:List PN) (ss:List ByteArray):List PF:=ss.foldl eJ (mZ l)
theorem dirsP_len:∀ l:List PF,(eB l).length≤l.length
  | []=>Nat.le_refl _
  | f :: l=>by
    have:=dirsP_len l
    rw [eB];split
    · split<;>simp<;>omega
    · simp
theorem xS (l:List PF):(dV l).length≤l.length:=by
  cases l with
  | nil=>exact Nat.le_refl _
  | cons f l =>
    rw [dV];split
    · simp
    · exact dirsP_len _
theorem stepP_len (l:List PF) (s:ByteArray):(eJ l s).length≤l.length:=Nat.le_trans (xS _) (List.length_filterMap_le _ _)
theorem layP_len:∀ (l:List PN) (i:Int),(mX i l).length=l.length
  | [],_=>rfl
  | n :: l,i=>by rw [mX,List.length_cons,layP_len l,List.length_cons]
theorem sN (l:List PN):∀ (ss:List ByteArray),(dT l ss).length≤l.length:=by
  have key:∀ (ss:List ByteArray) (at0:List PF),(ss.foldl eJ at0).length≤at0.length:=fun ss=>by
    induction ss with
    | nil=>intro a;exact Nat.le_refl _
    | cons s ss ih=>intro a;exact Nat.le_trans (ih _) (stepP_len a s)
  intro ss
  refine Nat.le_trans (key ss _) ?_
  have:=xS (mX 0 l)
  rw [layP_len] at this;exact this
theorem dirs_at {l:List PF} {i:Nat} {f:PF} (h:l[i]?=some f) (hk:f.1.h.kind=2) (ho:f.1.h.opq=false):eB (l.drop i)=f :: eB (l.drop (i+1)):=by
  obtain⟨hi,rfl⟩:=List.getElem?_eq_some_iff.1 h
  rw [List.drop_eq_getElem_cons hi,eB,if_pos hk,if_neg (by rw [ho];decide)]
end
section
theorem upon_in {P:Program} {o:Oper} {a:Act} {w:World} {K K':Act→World→Prop} {Q:Exit→Act→World→Prop} {r n:Nat} (hd:∀ ev,o.semAt (some r) ev=execOp ev o) (hK:∀ a w,K a w→K' a w) (h:o.wp P a w K Q):o.wpIn (Fence.wide.inRound r) n P a w K' Q:=by
  unfold Oper.wp at h
  refine⟨fun _ _=>trivial,?_⟩
  show Oper.uponIn (Fence.wide.inRound r) n P o a K' Q ((o.semAt (some r) a.eval).run P w)
  rw [hd]
  generalize (execOp a.eval o).run P w=x at h ⊢
  cases x with
  | ok nx w' =>
    cases nx with
    | enter f args =>
      refine⟨fun hh=>(by cases hh),CallsIn.inRound r (callsIn_wide.2 (Calls.mono h fun e w'' h1=>?_))⟩
      cases e with
      | returned v=>exact hK _ _ h1
      | panicked c=>exact h1
      | outgrown=>exact h1
    | row rw args=>exact⟨fun hh=>(by cases hh),fun c cs _=>let ⟨v,w'',h1,h2⟩:=h c cs;⟨v,w'',hK _ _ h1,stepsIn_wide.2 h2⟩⟩
    | value v=>exact hK _ _ h
    | skip=>exact hK _ _ h
    | defer d=>exact hK _ _ h
    | _=>exact h.elim
  | halt hh w' =>
    cases hh with
    | panic v=>exact h
    | _=>exact h.elim
theorem list_in {P:Program} {ops:Array Oper} {Q:Exit→Act→World→Prop} {r n:Nat} (hQ:¬LetsOut Q):∀ (l:List Oper) (a:Act) (w:World),(∀ o∈l,∀ ev,o.semAt (some r) ev=execOp ev o)→wpList P ops Q l a w→wpListIn (Fence.wide.inRound r) n P ops Q l a w
  | [],a,w,_,h=>h
  | o :: l,a,w,hd,h=>by
    unfold wpList at h
    unfold wpListIn
    split at h
    · rename_i hw
      rw [if_pos hw]
      rcases h with h|⟨_,h⟩
      · exact upon_in (hd o (by simp)) (fun a w h=>list_in hQ l a w (fun o ho=>hd o (by simp [ho])) h) h
      · exact absurd h hQ
    · rename_i hw
      rw [if_neg hw]
      exact⟨fun _ _=>trivial,list_in hQ l _ w (fun o ho=>hd o (by simp [ho])) h⟩
theorem region_in {P:Program} {B:Base} {N:Nat} {Q:Exit→Act→World→Prop} {F:List (Nat×Value)} {V:aE} {L:List Box} {id r n:Nat} {l:List Oper} (hQ:¬LetsOut Q) (hd:∀ o∈l,∀ ev,o.semAt (some r) ev=execOp ev o) (h:GoL P B N .plain l.toArray Q [] l F V L) {a:Act} {w:World} (ha:Kn N F a) (hs:St B V L w):(Code.region id l.toArray false).wpIn (Fence.wide.inRound r) n P Q a w :=
  wpIn_region_lit (list_in hQ l a w hd (qA.1 h a w ha hs))
theorem St.ownFrom {B:Base} {V:aE} {L:List Box} {W W':World} {row:Option Nat} {b0:Nat} (hs:St B V L W) (hg:W.grownBy W' row) (hr:∀ r,row=some r→b0≤r∧∃ o:Obj,W.heap[r]?=some o∧o.isCells=false) (hB:B.w.heap.size≤b0) (hc:∀ b∈L,∃ E,b.t=.cells E):St B V L W':=by
  refine⟨hs.ext.grown hg fun k hk=>.inl (Nat.le_trans hB (hr k hk).1),fun p x hp=>⟨cell_kept (hs.view p x hp).1 hg fun r hr'=>(hr r hr').2,(hs.view p x hp).2⟩,hs.old,hs.v0,fun b hb=>⟨?_,(hs.own b hb).2⟩,hs.nodup⟩
  obtain⟨E,he⟩:=hc b hb
  have h1:=(hs.own b hb).1
  refine(grownBy_keeps_cells hg (fun r hr'=>(hr r hr').2) h1 ?_).trans h1
  rw [he];rfl
theorem St.rebase {B:Base} {V:aE} {L:List Box} {W:World} (hs:St B V L W):St ⟨V,W,L.map Box.g⟩ V L W :=
  ⟨Exc.refl _ W,hs.view,fun p x hp _=>hp,VLe.refl V,fun b hb=>⟨(hs.own b hb).1,.inr (List.mem_map.2 ⟨b,hb,rfl⟩)⟩,hs.nodup⟩
theorem St.back {B:Base} {V V':aE} {L L':List Box} {W W':World} (hs:St B V L W) (h:St ⟨V,W,L.map Box.g⟩ V' L' W'):St B V' L' W':=by
  have hfl:∀ g∈L.map Box.g,B.w.heap.size≤g∨g∈B.fl:=fun g hg=>by
    obtain⟨b,hb,rfl⟩:=List.mem_map.1 hg;exact(hs.own b hb).2
  refine⟨hs.ext.trans h.ext hfl,h.view,fun p x hp hlt=>?_,fun p x hp=>h.v0 p x (hs.v0 p x hp),fun b hb=>⟨(h.own b hb).1,?_⟩,h.nodup⟩
  · exact hs.old p x (h.old p x hp (Nat.lt_of_lt_of_le hlt hs.ext.sz)) hlt
  · rcases (h.own b hb).2 with h1|h1
    · exact .inl (Nat.le_trans hs.ext.sz h1)
    · exact hfl _ h1
theorem St.keeps {B:Base} {V V':aE} {L L':List Box} {W W':World} (hs:St B V L W) (hc:∀ b∈L,∃ E,b.t=.cells E) (h:St ⟨V,W,L.map Box.g⟩ V' L' W'):KeepsOthers W W':=by
  refine⟨h.ext.sz,fun k o hk ho=>?_⟩
  refine(h.ext.block k (Array.getElem?_eq_some_iff.1 hk).1 fun hm=>?_).trans hk
  obtain⟨b,hb,rfl⟩:=List.mem_map.1 hm
  obtain⟨E,he⟩:=hc b hb
  have h1:=(hs.own b hb).1
  rw [h1,he] at hk;cases hk;cases ho
structure qW (V:aE) (W W':World):Prop where
  os:W'.os=W.os
  tape:W'.tape=W.tape
  output:W'.output=W.output
  size:W.heap.size≤W'.heap.size
  cell:∀ p x,V p=some x→W.cell? p=some x→W'.cell? p=some x
theorem qW.trans {V:aE} {A B C:World} (h:qW V A B) (k:qW V B C):qW V A C:=⟨k.os.trans h.os,k.tape.trans h.tape,k.output.trans h.output,Nat.le_trans h.size k.size,fun p x hp hx=>k.cell p x hp (h.cell p x hp hx)⟩
theorem qW.put {V:aE} {W:World} {l:Nat} {o:Obj} (o':Obj) (hl:W.heap[l]?=some o) (ho:o.isCells=false):qW V W (W.putObj l o') :=
  ⟨rfl,rfl,rfl,by simp,fun p x _ hx=>cell_kept hx (grownBy_putObj' W l o') fun r e=>by cases e;exact⟨o,hl,ho⟩⟩
theorem qW.of {B:Base} {V V0 V':aE} {L L':List Box} {W W':World} (hs:St B V L W) (h:St ⟨V,W,L.map Box.g⟩ V' L' W') (h0:VLe V0 V):qW V0 W W' :=
  ⟨h.ext.os,h.ext.tape,h.ext.output,h.ext.sz,fun p x hp _=>(h.view p x (h.v0 p x (h0 p x hp))).1⟩
theorem cX.det {B B':Base} {V V':aE} {X X':List Box} {A:Option Addr} {n c E sz:Nat} {xs xs':List Value} {L L':List Box} {W:World} (h:cX A n c E sz xs L) (h':cX A n c E sz xs' L') (hs:St B V X W) (hs':St B' V' X' W) (hx:∀ b∈L,b∈X) (hx':∀ b∈L',b∈X'):xs=xs':=by
  rcases h.2 with ⟨h1,h2,h3,h4⟩|⟨g,cs,h1,h2,h3,h4,h5,h6⟩
  · have e1:=h.1
    have e2:=h'.1
    rw [h3,Nat.zero_mul] at e1 e2
    rw [List.eq_nil_of_length_eq_zero e1,List.eq_nil_of_length_eq_zero e2]
  · rcases h'.2 with ⟨_,k2,_⟩|⟨g',cs',k1,k2,k3,k4,k5,k6⟩
    · rw [h1] at k2;cases k2
    · rw [h1] at k1
      simp only [Option.some.injEq,Addr.mk.injEq,true_and,and_true] at k1
      subst k1
      have o1:=(hs.own _ (hx ⟨g,E,cs⟩ (by rw [h2];simp))).1
      have o2:=(hs'.own _ (hx' ⟨g,E,cs'⟩ (by rw [k2];simp))).1
      simp only [BT.obj_cells] at o1 o2
      rw [o1] at o2
      simp only [Option.some.injEq,Obj.cells.injEq,List.toArray_inj] at o2
      have e:cs=cs':=by simpa using o2
      rw [←h6,←k6,e]
theorem cX.cells {A:Option Addr} {n c E sz:Nat} {xs:List Value} {L:List Box} (h:cX A n c E sz xs L):∀ b∈L,∃ E,b.t=.cells E:=by
  rcases h.2 with ⟨h1,_⟩|⟨g,cs,_,h2,_⟩
  · rw [h1];simp
  · rw [h2];intro b hb;rw [List.mem_singleton.1 hb];exact⟨_,rfl⟩
section
variable {P : Program} {B : Base} {N : Nat} {Q : Exit → Act → World → Prop} {k : List kC} {F : List (Nat × Value)} {V : aE}
theorem gc_collect {α:Type} (cf:α→List Value) (enc:α→Value) (xs:List α) {γ T E sz p:Nat} {g:Operand} {gf:Nat} {lb:List Value} {id3 id4 i1:Nat} {l3 l4:List Oper} {F6:Nat→List (Nat×Value)}
    (hg:evF F g=some (.func (.func gf) #[] lb.toArray)) (eg:∀ args w,(callFunc gf args).run P w=.ok (.enter gf args) w) (hp:okD N (some p)=true)
    (hseq:∀ w,VIn V w→SeqStopsK Fence.wide 2 P gf lb.toArray (fun x=>#[enc x]) (qW V) (fun ys=>ys=xs) (fun _=>True) xs.length w)
    (hd3:∀ r,∀ o∈l3,∀ ev,o.semAt (some r) ev=execOp ev o) (hd4:∀ r,∀ o∈l4,∀ ev,o.semAt (some r) ev=execOp ev o)
    (hA:∀ (x:α) (V':aE) (L':List Box) (B':Base) (Q':Exit→Act→World→Prop),(∀ γ6,AtQ P B' N Q' [] .normal (F6 γ6) V' (⟨γ6,E,cf x⟩ :: L'))→GoL P B' N .plain l3.toArray Q' [] l3 ((p,enc x) :: F) V' L')
    (hBd:∀ (x:α) (V':aE) (B':Base) (Q':Exit→Act→World→Prop) (γ6:Nat) (A:Option Addr) (n c:Nat) (us:List Value) (LA:List Box),cX A n c E sz us LA→n<xs.length→(∀ A2 c2 LA2 F',cX A2 (n+1) c2 E sz (us ++ cf x) LA2→AtQ P B' N Q' [] .normal F' V' (⟨γ6,E,cf x⟩ :: ⟨γ,T,[.slice A2 (n+1) c2]⟩ :: LA2))→GoL P B' N .plain l4.toArray Q' [] l4 (F6 γ6) V' (⟨γ6,E,cf x⟩ :: ⟨γ,T,[.slice A n c]⟩ :: LA))
    (hdone:∀ (D:Nat) (V':aE) (A:Option Addr) (n c:Nat) (LA:List Box) (a:Act) (W:World),B.w.heap.size≤D→VLe V V'→cX A n c E sz (xs.flatMap cf) LA→xs.length=n→Kn N F a→St B V' (⟨γ,T,[.slice A n c]⟩ :: LA) W→W.heap[D]?=some (.deferred (some []))→evalQ P Q k .normal { a with defers:={ target:=.collected D,args:=#[] } :: a.defers } W) :
    GoC P B N (.rangeFunc g #[p] (.region id3 l3.toArray false) (.block i1 (.region id4 l4.toArray false))) Q k F V [⟨γ,T,[.slice none 0 0]⟩]:=fun a w ha hs=>by
  have hbox:∀ {A:Option Addr} {n c:Nat} {us:List Value} {LA:List Box},cX A n c E sz us LA→∀ b∈(⟨γ,T,[.slice A n c]⟩ :: LA:List Box),∃ E,b.t=.cells E:=fun h b hb=>by
    rcases List.mem_cons.1 hb with rfl|hb
    · exact⟨_,rfl⟩
    · exact h.cells b hb
  let I:List α→World→Prop:=fun pre W=>∃ V' A n c LA,VLe V V'∧cX A n c E sz (pre.flatMap cf) LA∧pre.length=n∧St B V' (⟨γ,T,[.slice A n c]⟩ :: LA) W
  let Ax:α→Act→World→Prop:=fun x a' W=>∃ V' A n c LA γ6 us,VLe V V'∧cX A n c E sz us LA∧Kn N (F6 γ6) a'∧St B V' (⟨γ6,E,cf x⟩ :: ⟨γ,T,[.slice A n c]⟩ :: LA) W
  refine wpIn_wide.1 (wpIn_rangeFunc_ownH (n:=3) (w0:=w) rfl (by omega) (ha.ev hg) trivial eg (hseq w fun p x hp=>(hs.view p x hp).1) (fun h k=>h.trans k) (fun W l o o' _ hl ho _=>qW.put o' hl ho) (Below.refl _ w) (fun _=>rfl) I (fun _ _ _=>False) ?_ (fun _ _ _ _ _ h _ _=>h) ⟨V,none,0,0,[],VLe.refl V,cX.nil,rfl,hs⟩ Ax ?_ ?_ ?_ ?_ ?_)
  · rintro pre W W' row ⟨V',A,n,c,LA,h1,h2,h3,h4⟩ hgr hr
    exact⟨V',A,n,c,LA,h1,h2,h3,h4.ownFrom hgr hr hs.ext.sz (hbox h2)⟩
  · rintro x a' _ W W' row ⟨V',A,n,c,LA,γ6,us,h1,h2,h3,h4⟩ hgr hr
    refine⟨V',A,n,c,LA,γ6,us,h1,h2,h3,h4.ownFrom hgr hr hs.ext.sz fun b hb=>?_⟩
    rcases List.mem_cons.1 hb with rfl|hb
    · exact⟨_,rfl⟩
    · exact hbox h2 b hb
  · rintro l pre x W K ⟨V',A,n,c,LA,h1,h2,h3,h4⟩ hK
    have hput:({ tmps:=(#[p].zip #[enc x]).foldl (fun t (p,v)=>t.setIfInBounds p v) a.tmps,defers:=[] }:Act)=a.put (some p) (enc x):=by
      have:=ha.1
      cases a;simp_all [Act.put]
    rw [hput]
    have hkn:Kn N ((p,enc x) :: F) (a.put (some p) (enc x)):=ha.put hp (enc x)
    refine region_in (Q:=Exit.then K fun _ _ _=>False) (fun ⟨_,_,h⟩=>h) (hd3 l) (hA x V' _ ⟨V',W,_⟩ _ fun γ6 a' W' hk' hs'=>?_) hkn h4.rebase
    have hb:=h4.back hs'
    exact hK a' W' ((h4.keeps (hbox h2) hs').from _) (qW.of h4 hs' h1) ⟨V',A,n,c,LA,h1,h2,h3,hb.drop (List.Sublist.cons _ (List.Sublist.refl _))⟩ ⟨V',A,n,c,LA,γ6,_,h1,h2,hk',hb⟩
  · rintro l pre x a' W _ _ ⟨V1,A1,n1,c1,LA1,g1,g2,g3,g4⟩ ⟨V',A,n,c,LA,γ6,us,h1,h2,h3,h4⟩ hlen
    have o1:=(g4.own _ List.mem_cons_self).1
    have o2:=(h4.own _ (List.mem_cons_of_mem _ List.mem_cons_self)).1
    simp only [BT.obj_cells] at o1 o2
    rw [o1] at o2
    simp only [Option.some.injEq,Obj.cells.injEq,List.toArray_inj,List.cons.injEq,Value.slice.injEq,and_true] at o2
    obtain⟨rfl,rfl,rfl⟩:=o2
    have hus:=g2.det h2 g4 h4 (fun b hb=>List.mem_cons_of_mem _ hb) (fun b hb=>List.mem_cons_of_mem _ (List.mem_cons_of_mem _ hb))
    have hcells:∀ b∈(⟨γ6,E,cf x⟩ :: ⟨γ,T,[.slice A1 n1 c1]⟩ :: LA:List Box),∃ E,b.t=.cells E:=fun b hb=>by
      rcases List.mem_cons.1 hb with rfl|hb
      · exact⟨_,rfl⟩
      · exact hbox h2 b hb
    refine wpIn_block (region_in (Q:=Exit.inBlock i1 _) (fun ⟨_,_,h⟩=>h) (hd4 l) (hBd x V' ⟨V',W,_⟩ _ γ6 A1 n1 c1 us LA h2 (by omega) fun A2 c2 LA2 F' hr2 a2 W2 hk2 hs2=>?_) h3 h4.rebase)
    have hb:=h4.back hs2
    exact⟨(h4.keeps hcells hs2).from _,qW.of h4 hs2 h1,V',A2,n1+1,c2,LA2,h1,by rw [List.flatMap_append,hus];simpa using hr2,by simp [g3],hb.drop (List.Sublist.cons _ (List.Sublist.refl _))⟩
  · rintro D ys W hD rfl ⟨V',A,n,c,LA,h1,h2,h3,h4⟩ hD2
    exact hdone D V' A n c LA a W (Nat.le_trans hs.ext.sz hD) h1 h2 h3 ha h4 hD2
  · rintro D c pre W _ _ h
    exact h.elim
end
end
section
def GoI (P:Program) (B:Base) (N:Nat) (ops:Array Oper) (Q:Exit→Act→World→Prop) (rest:List Oper) (F:List (Nat×Value)) (V:aE) (L:List Box):Prop:=∀ a w,Kn N F a→St B V L w→wpListIn Fence.wide 2 P ops Q rest a w
section
variable {P : Program} {B : Base} {N : Nat} {Q : Exit → Act → World → Prop} {ops : Array Oper} {rest : List Oper} {F : List (Nat × Value)} {V : aE} {L : List Box} {k : List kC}
variable {op : Op} {ty : TypeId} {pos : String} {af : Array Edge}
theorem gc_regionI {id:Nat} {l:List Oper} (h:GoI P B N l.toArray (evalQ P Q k) l F V L):GoC P B N (.region id l.toArray false) Q k F V L:=fun a w ha hs=>wpIn_wide.1 (wpIn_region_lit (h a w ha hs))
theorem gi_nil (h:AtQ P B N Q k .normal F V L):GoI P B N ops (evalQ P Q k) [] F V L:=fun a w ha hs=>h a w ha hs
theorem tP {t:Nat} {v:Value} (hd:okD N (some t)=true) (hq:QP P B N V L ⟨some t,op,ty,pos,af,none⟩ F v) (h:GoI P B N ops Q rest ((t,v) :: F) V L):GoI P B N ops Q (⟨some t,op,ty,pos,af,none⟩ :: rest) F V L:=fun a w ha hs=>by
  unfold wpListIn
  rw [if_pos (by simp [Region.wanted])]
  refine⟨fun _ _=>trivial,?_⟩
  show Oper.uponIn _ _ _ _ _ _ _ ((execOp a.eval _).run P w)
  rw [hq a w ha hs]
  exact h _ w (ha.put hd v) hs
theorem exec_yield {F:List (Nat×Value)} {a:Act} (ha:Kn N F a) {d:Option Tmp} {gd:Option (Nat×Bool)} {fo:Operand} {args:List Operand} {ats:Array TypeId} {vs:List Value} {l:Nat} (hf:evF F fo=some (.func (.yield l) #[] #[])) (hv:evL F args=some vs) (w:World) :
    (execOp a.eval ⟨d,.call ⟨.value fo,args.toArray,ats⟩,ty,pos,af,gd⟩).run P w=(Instr.yield l vs.toArray).run P w:=by
  have h1:=ha.ev hf
  have h2:=ha.evL hv
  simp [execOp,resolve,h1,h2,Deferred.ofValue,invoke]
theorem gi_yield {t l:Nat} {fo:Operand} {args:List Operand} {ats:Array TypeId} {vs:List Value} {Rb:Bool→World→Prop} (Vb:Bool→aE) (hd:okD N (some t)=true) (hf:evF F fo=some (.func (.yield l) #[] #[])) (hv:evL F args=some vs)
    (hY:∀ w,St B V L w→YieldAt Fence.wide 1 P l vs.toArray w fun e w'=>∃ b,e=.returned (.bool b)∧Rb b w') (hV:∀ b w',Rb b w'→VIn (Vb b) w')
    (h:∀ b w',Rb b w'→GoI P ⟨Vb b,w',[]⟩ N ops Q rest ((t,.bool b) :: F) (Vb b) []):GoI P B N ops Q (⟨some t,.call ⟨.value fo,args.toArray,ats⟩,ty,pos,af,none⟩ :: rest) F V L:=fun a w ha hs=>by
  unfold wpListIn
  rw [if_pos (by simp [Region.wanted])]
  refine⟨fun _ _=>trivial,?_⟩
  have hsem:∀ o:Oper,Oper.semAt Fence.wide.round a.eval o=execOp a.eval o:=fun _=>rfl
  rw [hsem]
  obtain⟨fn,tmps,assign,body,hy,hR⟩:=hY w hs
  rw [exec_yield ha hf hv w,hy]
  refine⟨fun hh=>(by cases hh),hR.mono ?_⟩
  rintro e w' ⟨b,rfl,hb⟩
  exact h b w' hb _ w' (ha.put hd _) ⟨Exc.refl _ w',fun p x hp=>⟨hV b w' hb p x hp,by simp⟩,fun p x hp _=>hp,VLe.refl (Vb b),by simp,by simp⟩
theorem gc_loopB {c:Code} (J:Base→List (Nat×Value)→aE→List Box→Nat→Prop) {F':List (Nat×Value)} {L':List Box} {m:Nat} (h0:J B F' V L' m) (hF:∀ p∈F',jM F p.1=some p.2) (hL:L'.Sublist L)
    (round:∀ B F V L m,J B F V L m→GoC P B N c Q (.thn (fun a w=>∃ B' F' V' L' m',m'<m∧J B' F' V' L' m'∧Kn N F' a∧St B' V' L' w) :: k) F V L):GoC P B N (.loop c) Q k F V L:=by
  intro a w ha hs
  have key:∀ n B F V L a w,J B F V L n→Kn N F a→St B V L w→(Code.loop c).wp P (evalQ P Q k) a w:=by
    intro n B F V L a w hJ ha hs
    let I:Act→World→Nat→Prop:=fun a w n=>∃ B F V L,J B F V L n∧Kn N F a∧St B V L w
    classical
    have hex:∀ a w,(∃ n,I a w n)→∃ n,I a w n∧∀ k,k<n→¬I a w k:=fun a w ⟨n,hn⟩=>by
      induction n using Nat.strongRecOn with
      | _ n ih =>
        by_cases h:∃ k,k<n∧I a w k
        · obtain⟨k,hk,hI⟩:=h;exact ih k hk hI
        · exact⟨n,hn,fun k hk hI=>h ⟨k,hk,hI⟩⟩
    let μ:Act→World→Nat:=fun a w=>if h:∃ n,I a w n then Classical.choose (hex a w h) else 0
    refine wp_loop (fun a w=>∃ n,I a w n) μ ⟨n,B,F,V,L,hJ,ha,hs⟩ fun a w h=>?_
    have hμ:=Classical.choose_spec (hex a w h)
    have hμe:μ a w=Classical.choose (hex a w h):=dif_pos h
    obtain⟨⟨B,F,V,L,hJ,ha,hs⟩,_⟩:=hμ
    refine Code.wp_mono (fun e a' w' q=>?_) (round B F V L _ hJ a w ha hs)
    cases e with
    | normal =>
      obtain⟨B',F',V',L',m',hlt,hJ',ha',hs'⟩:=q
      have h':∃ n,I a' w' n:=⟨m',B',F',V',L',hJ',ha',hs'⟩
      refine⟨h',?_⟩
      have hμe':μ a' w'=Classical.choose (hex a' w' h'):=dif_pos h'
      have hmin:=(Classical.choose_spec (hex a' w' h')).2 m'
      rw [hμe,hμe']
      rcases Nat.lt_or_ge m' (Classical.choose (hex a' w' h')) with hl|hl
      · exact absurd ⟨B',F',V',L',hJ',ha',hs'⟩ (hmin hl)
      · omega
    | exit i=>exact q
    | goto l=>exact q
    | ret=>exact q
    | panic ch=>exact q
    | outgrown=>exact q
  exact key m B F' V L' a w h0 (ha.less hF) (hs.drop hL)
theorem at_roundB {J:Base→List (Nat×Value)→aE→List Box→Nat→Prop} {m:Nat} (F':List (Nat×Value)) {L':List Box} (m':Nat) (hJ:J B F' V L' m') (hm:m'<m) (hF:∀ p∈F',jM F p.1=some p.2) (hL:L'.Sublist L) :
    AtQ P B N Q (.thn (fun a w=>∃ B' F' V' L' m',m'<m∧J B' F' V' L' m'∧Kn N F' a∧St B' V' L' w) :: k) .normal F V L:=fun a w ha hs=>⟨B,F',V,L',m',hm,hJ,ha.less hF,hs.drop hL⟩
end
def ItEnd {α:Type} (J Jx:List α→World→Prop) (S Sp:List α→Prop) (e:Ending) (W':World):Prop:=(∃ v,e=.returned v)∧((∃ xs,S xs∧J xs W')∨(∃ pre,Sp pre∧Jx pre W'))
theorem at_endI {P:Program} {B:Base} {N:Nat} {F:List (Nat×Value)} {V:aE} {L:List Box} {fn:Func} {α:Type} {J Jx:List α→World→Prop} {S Sp:List α→Prop} {e:Exit} (he:e=.normal∨e=.ret) (hr:fn.results=#[]) (h:∀ w,St B V L w→(∃ xs,S xs∧J xs w)∨(∃ pre,Sp pre∧Jx pre w)):AtQ P B N (bodyPost P fn (ItEnd J Jx S Sp)) [] e F V L:=fun a w ha hs=>by
  have key:a.defers=[]∧∃ v,(results fn a.tmps).run P w=.ok v w∧ItEnd J Jx S Sp (.returned v) w:=⟨ha.1,.tuple #[],by simp [results,hr],⟨_,rfl⟩,h w hs⟩
  rcases he with rfl|rfl<;>exact key
theorem seq_of {α:Type} {P:Program} {gf NN Nm:Nat} {fn:Func} {c:Code} {lb:List Value} {encs:α→Array Value} {V:aE} {S Sp:List α→Prop} (hf:P.funcs[gf]?=some fn) (hb:fn.body=some c) (hN:fn.ntmps=NN) (hsz:Nat.ble (1+lb.length) NN=true)
    (h:∀ (l:Nat) (J Jx:List α→World→Prop) (W:World),(∀ s W1 W',J s W1→Exc [] W1 W'→J s W')→(∀ s W1 W',Jx s W1→Exc [] W1 W'→Jx s W') →
      (∀ pre x W1,J pre W1→VIn V W1→pre.length<Nm→YieldAt Fence.wide 1 P l (encs x) W1 fun e W'=>∃ b,e=.returned (.bool b)∧((b=true∧J (pre ++ [x]) W'∧VIn V W')∨(b=false∧Jx (pre ++ [x]) W')))→J [] W →
      GoC P ⟨V,W,[]⟩ NN c (bodyPost P fn (ItEnd J Jx S Sp)) [] (argsF (.func (.yield l) #[] #[] :: lb) 0) V []) :
    ∀ w,VIn V w→SeqStopsK Fence.wide 2 P gf lb.toArray encs (qW V) S Sp Nm w:=fun w hV l J Jx W hW hJ hJx hY h0=>by
  have hVW:VIn V W:=fun p x hp=>by
    have h1:=hV p x hp
    obtain⟨o,ho,_⟩:=cells_of_cell h1
    have h2:p.block<w.heap.size:=(Array.getElem?_eq_some_iff.1 ho).1
    exact(World.cell?_of_block (hW.block _ h2)).trans h1
  have hgr:∀ {X Y:World},Exc [] X Y→X.grownBy Y none:=fun h=>⟨h.os,h.tape,h.output,h.sz,fun k hk _=>h.block k hk (by simp)⟩
  have hg:=h l J Jx W (fun s X Y hs hx=>hJ s X Y none hs (hgr hx) (fun r e=>by cases e)) (fun s X Y hs hx=>hJx s X Y none hs (hgr hx) (fun r e=>by cases e))
    (fun pre x W1 hj hv hl=>YieldAt.mono (hY pre x W1 hj hl) fun e W' hr=>by
      rcases hr with ⟨rfl,h1,h2⟩|⟨rfl,h1⟩
      · exact⟨true,rfl,.inl ⟨rfl,h1,fun p y hp=>h2.cell p y hp (hv p y hp)⟩⟩
      · exact⟨false,rfl,.inr ⟨rfl,h1⟩⟩) h0
  refine callsIn_wide.2 (calls_of_wp hf hb ?_)
  have hargs:(#[.func (.yield l) #[] #[]] ++ lb.toArray:Array Value)=(.func (.yield l) #[] #[] :: lb:List Value).toArray:=by simp
  rw [hargs]
  refine hg _ W ⟨rfl,?_,fun t v hv=>?_⟩ ⟨Exc.refl _ W,fun p x hp=>⟨hVW p x hp,by simp⟩,fun p x hp _=>hp,VLe.refl V,by simp,by simp⟩
  · have:=Nat.le_of_ble_eq_true hsz
    simp [hN];omega
  · obtain⟨_,h2⟩:=pK _ 0 t v hv
    generalize (.func (.yield l) #[] #[] :: lb:List Value)=args at *
    have hlt:t<args.length:=by
      rcases Nat.lt_or_ge t args.length with hl|hl
      · exact hl
      · rw [List.getElem?_eq_none (by omega)] at h2;cases h2
    rw [List.getElem?_eq_getElem (by omega)] at h2
    simp only [Nat.sub_zero] at h2
    injection h2 with h2
    simp [Array.getElem?_append,hlt,h2]
end
section
theorem fn_enterM {P:Program} {N:Nat} {V:aE} {f:FuncId} {fn:Func} {c:Code} {args:List Value} {R:Value→aE→Prop} (hf:P.funcs[f]?=some fn) (hb:fn.body=some c) (hN:fn.ntmps=N) (hsz:Nat.ble args.length N=true)
    (h:∀ w,GoC P ⟨V,w,[]⟩ N c (bodyPostM Fence.wide 3 P fn (FnEnd V w R)) [] (argsF args 0) V []):Fn P f args V R:=fun w hV=>by
  refine callsIn_wide.1 (callsIn_of_wp_marks (n:=3) hf hb trivial (wpIn_wide.2 (h w _ w ⟨rfl,?_,fun t v hv=>?_⟩ ⟨Exc.refl _ w,fun p x hp=>⟨hV p x hp,by simp⟩,fun p x hp _=>hp,VLe.refl V,by simp,by simp⟩)))
  · have:=Nat.le_of_ble_eq_true hsz
    simp [hN];omega
  · obtain⟨_,h2⟩:=pK args 0 t v hv
    have hlt:t<args.length:=by
      rcases Nat.lt_or_ge t args.length with hl|hl
      · exact hl
      · rw [List.getElem?_eq_none (by omega)] at h2;cases h2
    rw [List.getElem?_eq_getElem (by omega)] at h2
    simp only [Nat.sub_zero] at h2
    injection h2 with h2
    simp [Array.getElem?_append,hlt,h2]
theorem tail_call {P:Program} {V0 V':aE} {w0 W:World} {N D id f t1 t2 t3:Nat} {F:List (Nat×Value)} {L:List Box} {a:Act} {fn:Func} {Rf R':Value→aE→Prop} {op1:Op} {v1:Value} {ty1 ty2 ty3:TypeId} {p1 p2 p3:String} {af1 af2 af3:Array Edge} {ats:Array TypeId}
    (hres:fn.results=#[.tmp t3]) (ha:Kn N F a) (hs:St ⟨V0,w0,[]⟩ V' L W) (hD:W.heap[D]?=some (.deferred (some []))) (hDw:w0.heap.size≤D) (hcl:∀ b∈L,∃ E,b.t=.cells E) (he:lB P f)
    (hd1:okD N (some t1)=true) (hd2:okD N (some t2)=true) (hd3:okD N (some t3)=true)
    (h1:QP P ⟨V0,w0,[]⟩ N V' L ⟨some t1,op1,ty1,p1,af1,none⟩ F v1) (hc:Fn P f [v1] V' R') (hR:∀ v V'',VLe V' V''→R' v V''→Rf v V'') :
    ((Code.region id #[⟨some t1,op1,ty1,p1,af1,none⟩,⟨some t2,.call ⟨.value (.func f),#[.tmp t1],ats⟩,ty2,p2,af2,none⟩,⟨some t3,.assign (.tmp t2),ty3,p3,af3,none⟩] false).seq .ret).wp P (bodyPostM Fence.wide 3 P fn (FnEnd V0 w0 Rf)) { a with defers:={ target:=.collected D,args:=#[] } :: a.defers } W:=by
  have hev:∀ b:Act,∀ ds,({ b with defers:=ds }:Act).eval=b.eval:=fun b ds=>by funext x;cases x<;>rfl
  have hput:∀ (b:Act) ds d v,({ b with defers:=ds }:Act).put d v={ b.put d v with defers:=ds }:=fun b ds d v=>by cases d<;>rfl
  refine wp_seq (wp_region_lit (l:=[_,_,_]) ?_)
  unfold wpList
  rw [if_pos (by simp [Region.wanted])]
  left
  unfold Oper.wp
  rw [hev,h1 a W ha hs]
  show wpList P _ _ _ (({ a with defers:=_ }:Act).put (some t1) v1) W
  rw [hput]
  have ha1:=ha.put hd1 v1
  unfold wpList
  rw [if_pos (by simp [Region.wanted])]
  left
  unfold Oper.wp
  rw [hev]
  have hx:=tE (d:=some t2) (ty:=ty2) (pos:=p2) (af:=af2) (gd:=none) (ats:=ats) (w:=W) he ha1 (args:=[.tmp t1]) (vs:=[v1]) (by simp [evL,evF,qQ,kD])
  have hx':(execOp (a.put (some t1) v1).eval ⟨some t2,.call ⟨.value (.func f),#[.tmp t1],ats⟩,ty2,p2,af2,none⟩).run P W=.ok (.enter f [v1].toArray) W:=hx
  rw [hx',Oper.upon_enter]
  refine(hc W fun p x hp=>(hs.view p x hp).1).mono ?_
  rintro e W2 ⟨v2,rfl,hext,V2,g1,g2,g3,g4⟩
  have hs2:=hs.call hext g1 g2 g3
  show wpList P _ _ _ (({ a.put (some t1) v1 with defers:=_ }:Act).put (some t2) v2) W2
  rw [hput]
  have ha2:=ha1.put hd2 v2
  unfold wpList
  rw [if_pos (by simp [Region.wanted])]
  left
  unfold Oper.wp
  rw [hev]
  have e3:(execOp ((a.put (some t1) v1).put (some t2) v2).eval ⟨some t3,.assign (.tmp t2),ty3,p3,af3,none⟩).run P W2=.ok (.value v2) W2:=by
    have:=ha2.ev (x:=.tmp t2) (v:=v2) (by simp [evF,qQ,kD])
    simp [execOp,this]
  rw [e3]
  rw [Oper.upon_value]
  show Code.wp P .ret _ (({ (a.put (some t1) v1).put (some t2) v2 with defers:=_ }:Act).put (some t3) v2) W2
  rw [hput]
  have ha3:=ha2.put hd3 v2
  refine wp_ret ?_
  have hD2:W2.heap[D]?=some (.deferred (some [])):=(hext.block D (Array.getElem?_eq_some_iff.1 hD).1).trans hD
  have hs3:St ⟨V0,w0,[]⟩ V2 L (W2.putObj D (.deferred none)):=hs2.ownFrom (b0:=w0.heap.size) (grownBy_putObj' W2 D _) (fun r e=>by cases e;exact⟨hDw,_,hD2,rfl⟩) (Nat.le_refl _) hcl
  have hdef:(((a.put (some t1) v1).put (some t2) v2).put (some t3) v2).defers=[]:=ha3.1
  show LeavesInM Fence.wide 3 P fn _ _ ({ target:=.collected D,args:=#[] } :: a.defers) .returning W2
  rw [ha.1]
  refine⟨by simp,.inl ⟨D,_,rfl,run_takeDeferred hD2,v2,?_,fnEnd_of hs3 (hR v2 V2 g1 g4)⟩⟩
  have hv:=ha3.2.2 t3 v2 (by simp [qQ,kD])
  have hv':(((a.put (some t1) v1).put (some t2) v2).put (some t3) v2).tmps[t3]?.getD undef=v2:=by rw [←Array.getD_eq_getD_getElem?];exact hv
  simp [results,hres,hv']
end
section
structure LF where
  x:LN
  lay:Int
abbrev flC (f:LF):List Value:=[.int .i64 f.x.h.kind,.int .i64 f.x.h.mode,.int .i64 f.x.h.user,.int .i64 f.x.h.group,.bool f.x.h.opq,.slice f.x.A f.x.na f.x.ca,.string f.x.h.data,.slice f.x.K f.x.nk f.x.ck,.int .i64 f.lay]
abbrev flV (f:LF):Value:=.agg #[.int .i64 f.x.h.kind,.int .i64 f.x.h.mode,.int .i64 f.x.h.user,.int .i64 f.x.h.group,.bool f.x.h.opq,.slice f.x.A f.x.na f.x.ca,.string f.x.h.data,.slice f.x.K f.x.nk f.x.ck,.int .i64 f.lay]
def fz (f:LF):PF:=(f.x.n,f.lay)
theorem ones_fl (l:List LF):∀ u∈l.flatMap flC,jF u=true:=fun u hu=>by
  obtain⟨r,_,hr⟩:=List.mem_flatMap.1 hu
  simp only [List.mem_cons,List.not_mem_nil,or_false] at hr
  rcases hr with rfl|rfl|rfl|rfl|rfl|rfl|rfl|rfl|rfl<;>rfl
theorem ones_f1 (f:LF):∀ u∈flC f,jF u=true:=fun u hu=>ones_fl [f] u (by simpa using hu)
theorem fl_len (f:LF):(flC f).length=9:=rfl
def dU (V:aE) (A:Option Addr) (n:Nat) (fs:List LF):Prop:=fB V 9 flC A n fs∧∀ f∈fs,aT V f.x
theorem dU.le {V V':aE} (hv:VLe V V') {A:Option Addr} {n:Nat} {fs:List LF} (h:dU V A n fs):dU V' A n fs:=⟨h.1.le hv,fun f hf=>(h.2 f hf).le hv⟩
theorem dU.nil {V:aE} {A:Option Addr}:dU V A 0 []:=⟨fB.nil,by simp⟩
theorem dU.of {V:aE} {A:Option Addr} {n:Nat} {fs:List LF} (hc:fH V 9 A n (fs.flatMap flC)) (hl:fs.length=n) (hm:n≤maxLen) (hg:∀ f∈fs,aT V f.x):dU V A n fs:=⟨fB.of_cells hc fl_len hl hm,hg⟩
theorem dU.at_ {V:aE} {A:Option Addr} {n:Nat} {fs:List LF} (h:dU V A n fs) {k:Nat} (hk:k<n):∃ b off f,A=some ⟨b,off,none⟩∧fs[k]?=some f∧aD V b (off+k * 9) (flC f)∧aT V f.x:=by
  obtain⟨b,off,r,ha,hx,hc⟩:=h.1.at_ hk
  exact⟨b,off,r,ha,hx,hc,h.2 r (List.mem_of_getElem? hx)⟩
def FloorsR (ps:List PF) (v:Value) (V':aE):Prop:=∃ (A:Option Addr) (n c:Nat) (fs:List LF),v=.slice A n c∧dU V' A n fs∧n≤c∧fs.map fz=ps
theorem fz_at {fs:List LF} {k:Nat} {f:LF} (h:fs[k]?=some f):(fs.map fz)[k]?=some (fz f):=by rw [List.getElem?_map,h];rfl
theorem dirs_end {l:List PF} {i:Nat} {f:PF} (h:l[i]?=some f) (hk:¬f.1.h.kind=2):eB (l.drop i)=[]:=by
  obtain⟨hi,rfl⟩:=List.getElem?_eq_some_iff.1 h
  rw [List.drop_eq_getElem_cons hi,eB,if_neg hk]
theorem dirs_opq {l:List PF} {i:Nat} {f:PF} (h:l[i]?=some f) (hk:f.1.h.kind=2) (ho:f.1.h.opq=true):eB (l.drop i)=[f]:=by
  obtain⟨hi,rfl⟩:=List.getElem?_eq_some_iff.1 h
  rw [List.drop_eq_getElem_cons hi,eB,if_pos hk,if_pos ho]
theorem dirs_done {l:List PF} {i:Nat} (h:l.length≤i):eB (l.drop i)=[]:=by rw [List.drop_eq_nil_of_le h];rfl
theorem shown_file {l:List PF} {f:PF} (h:l[0]?=some f) (hk:f.1.h.kind=1):dV l=[f]:=by
  cases l with
  | nil=>cases h
  | cons g l=>simp at h;subst h;rw [dV,if_pos hk]
theorem shown_dirs {l:List PF} {f:PF} (h:l[0]?=some f) (hk:¬f.1.h.kind=1):dV l=eB l:=by
  cases l with
  | nil=>cases h
  | cons g l=>simp at h;subst h;rw [dV,if_neg hk]
theorem take_map_snoc {fs:List LF} {k:Nat} {f:LF} (h:fs[k]?=some f):(fs.take (k+1)).map fz=(fs.take k).map fz ++ [fz f]:=by rw [List.take_add_one,h,List.map_append];rfl
theorem cell0 {V:aE} {g:Nat} {v:Value} (h:aD V g 0 [v]):V ⟨g,0,none⟩=some v:=h 0 v rfl
theorem vin_st {B:Base} {V:aE} {L:List Box} {w:World} (h:St B V L w):VIn V w:=fun p x hp=>(h.view p x hp).1
theorem dU.one {V:aE} {g:Nat} {f:LF} {cs:List Value} (h:aD V g 0 cs) (hcs:cs=flC f) (hN:aT V f.x):dU V (some ⟨g,0,none⟩) 1 [f]:=by
  subst hcs
  exact dU.of ⟨rfl,fun _=>⟨g,0,rfl,by simpa using h⟩⟩ rfl (by unfold maxLen;omega) (by simpa using hN)
theorem dU.part {V V':aE} {A A':Option Addr} {n k:Nat} {fs:List LF} (h:dU V A n fs) (hV:VLe V V') (hk:k≤n) (hn:n≤1000) (hc:fH V' 9 A' k ((fs.take k).flatMap flC)):dU V' A' k (fs.take k) :=
  dU.of hc (by have:=h.1.1;rw [List.length_take];omega) (by unfold maxLen;omega) fun f hf=>(h.2 f (List.mem_of_mem_take hf)).le hV
theorem find_first {α:Type} {p:α→Bool}:∀ {l:List α} {k:Nat} {x:α},l[k]?=some x→p x=true→(∀ j,j<k→∀ y,l[j]?=some y→¬p y=true)→l.find? p=some x
  | [],k,x,h,_,_=>by simp at h
  | a :: l,0,x,h,hp,_=>by simp at h;subst h;rw [List.find?_cons,hp]
  | a :: l,k+1,x,h,hp,hn=>by
    have h0:p a=false:=by simpa using hn 0 (by omega) a rfl
    rw [List.find?_cons,h0]
    exact find_first (by simpa using h) hp fun j hj y hy=>hn (j+1) (by omega) y (by simpa using hy)
theorem find_nothing {α:Type} {p:α→Bool} {l:List α} (h:∀ (j:Nat) (y:α),l[j]?=some y→¬p y=true):l.find? p=none:=by
  rw [List.find?_eq_none]
  intro x hx
  obtain⟨j,hj,rfl⟩:=List.getElem_of_mem hx
  exact h j _ (List.getElem?_eq_getElem hj)
theorem fm_take_len {α β:Type} {f:α→Option β} {l:List α} {i:Nat} {x:α} {y:β} (h:l[i]?=some x) (hf:f x=some y):((l.take i).filterMap f).length<(l.filterMap f).length:=by
  have e:l.filterMap f=(l.take i).filterMap f ++ (l.drop i).filterMap f:=by rw [←List.filterMap_append,List.take_append_drop]
  obtain⟨hi,rfl⟩:=List.getElem?_eq_some_iff.1 h
  rw [e,List.length_append,List.drop_eq_getElem_cons hi,List.filterMap_cons,hf]
  simp
attribute [local irreducible] AtQ GoC GoL GoW QO QP Fn RV bF aD VLe bU bA
theorem Shown_c (V:aE) (A:Option Addr) (n c:Nat) (fs:List LF) (h:dU V A n fs) (hn:n≤1000):Fn Tryz.prog 160 [.slice A n c] V (FloorsR (dV (fs.map fz))):=by
  have hl:=h.1.1
  (refine aN Tryz.func160 rfl Tryz.ntmps160 rfl ?_;intro w0)
  repeat' (first|(refine aG ?_;refine pu9 ?_)|refine cM ?_|fail)
  have hlz:(fs.map fz).length=n:=by rw [List.length_map,hl]
  refine bZ (fun F V' L' m=>∃ (k:Nat) (A':Option Addr) (c':Nat) (LA:List Box),V=V'∧LA=L'∧k≤n∧cX A' k c' 186 9 ((fs.take k).flatMap flC) LA∧eB (fs.map fz)=(fs.take k).map fz ++ eB ((fs.map fz).drop k)∧(0<k→dV (fs.map fz)=eB (fs.map fz))∧m=n - k∧F=[(3,.slice A' k c'),(6,.slice A n c),(7,.int .i64 n),(8,.int .i64 (k:Int))]) (m:=n) ⟨0,none,0,[],rfl,rfl,Nat.zero_le _,cX.nil,by simp,by simp,by omega,rfl⟩ bG rfl sl9 ?_
  rintro F V' L' m ⟨k,A',c',LA,rfl,rfl,hkn,hr,hd,hsh,rfl,rfl⟩
  have hcap:=hr.cap
  by_cases hlt:k<n
  · obtain⟨b,off,f,rfl,hf,hc,hN⟩:=h.at_ hlt
    have hfz:=fz_at hf
    have ho1:=ones_f1 f
    have htm:=take_map_snoc hf
    have hfl:(fs.take (k+1)).flatMap flC=(fs.take k).flatMap flC ++ flC f:=by rw [List.take_add_one,hf,List.flatMap_append];simp
    have hsd:¬(f.x.h.kind=1∧k=0)→dV (fs.map fz)=eB (fs.map fz):=fun hh=>by
      rcases Nat.eq_zero_or_pos k with h0|h0
      · subst h0;exact shown_dirs hfz (fun e=>hh ⟨e,rfl⟩)
      · exact hsh h0
    repeat' (first|(refine aG ?_;first|(refine aC ?_;(refine bQ rfl und_183 inf_186 rfl rfl rfl hr bD (fY bN rfl) cI (by omega) rfl rfl ?_;intro A2 c2 L2 hr2;have hcap2:=hr2.cap))|(refine dC ?_;(refine aZ rfl und_183 siz_186 zec_186 rfl rfl rfl rfl rfl rfl rfl ?_;intro γ))|refine st9 ?_|(refine al9 ?_;intro γ)|refine pu9 ?_)|refine fG ?_|(refine aJ rfl rfl rfl ?_ ?_<;>intro hq<;>try exact no9)|(refine aA rfl ?_ ?_<;>intro hq<;>try exact no9)|(refine bY rfl ?_ ?_<;>intro hq))
    · obtain rfl:k=0:=by omega
      refine wE (gB.here _ _ _ _) ?_
      intro V2 hV2 hg2
      (refine aR Tryz.results160 (aB rfl) ?_)
      exact⟨_,1,1,[f],rfl,dU.one hg2 rfl (hN.le hV2),Nat.le_refl _,by rw [shown_file hfz (by assumption)];rfl⟩
    · refine iJ hr bD ?_
      intro V2 hV2 hc2
      (refine aR Tryz.results160 (aB rfl) ?_)
      exact⟨_,_,_,fs.take k,rfl,h.part hV2 hkn hn hc2,hcap,by rw [hsd (by omega),hd,dirs_end hfz hq,List.append_nil]⟩
    · refine iJ hr bD ?_
      intro V2 hV2 hc2
      (refine aR Tryz.results160 (aB rfl) ?_)
      exact⟨_,_,_,fs.take k,rfl,h.part hV2 hkn hn hc2,hcap,by rw [hsd (by omega),hd,dirs_end hfz hq,List.append_nil]⟩
    · refine iJ hr2 bD ?_
      intro V2 hV2 hc2
      (refine aR Tryz.results160 (aB rfl) ?_)
      exact⟨_,_,_,fs.take (k+1),rfl,h.part hV2 hlt hn (by rw [hfl];exact hc2),hcap2,by rw [hsd (by omega),hd,dirs_opq hfz (by show f.x.h.kind=2;omega) hq,htm]⟩
    · refine aY _ (n - (k+1)) ⟨k+1,A2,c2,L2,rfl,rfl,by omega,by rw [hfl];exact hr2,by rw [htm,hd,dirs_at hfz (by show f.x.h.kind=2;omega) hq];simp,fun _=>hsd (by omega),rfl,rfl⟩ (by omega) bG sl9
  · obtain rfl:k=n:=by omega
    repeat' (first|(refine aG ?_;refine pu9 ?_)|refine eT ?_|(refine aA rfl ?_ ?_<;>intro hq<;>try exact no9))
    all_goals
      refine iJ hr bD ?_
      intro V2 hV2 hc2
      (refine aR Tryz.results160 (aB rfl) ?_)
      refine⟨_,_,_,fs.take k,rfl,h.part hV2 hkn hn hc2,hcap,?_⟩
      rw [dirs_done (by omega),List.append_nil] at hd
      rcases Nat.eq_zero_or_pos k with h0|h0
      · obtain rfl:fs=[]:=List.eq_nil_of_length_eq_zero (by omega)
        simp [dV]
      · rw [hsh h0,hd]
theorem Kids_mc (V:aE) (A:Option Addr) (n c:Nat) (nm:ByteArray):Fn Tryz.prog 159 [.slice A n c,.string nm] V fun v V'=>∃ g1 g2,v=.func (.func 186) #[] [.pointer (some ⟨g1,0,none⟩),.pointer (some ⟨g2,0,none⟩)].toArray∧V' ⟨g1,0,none⟩=some (.slice A n c)∧V' ⟨g2,0,none⟩=some (.string nm):=by
  (refine aN Tryz.func159 rfl Tryz.ntmps159 rfl ?_;intro w0)
  repeat' (first|(refine aG ?_;first|(refine al9 ?_;intro γ)|refine pu9 ?_)|refine fG ?_|(refine aJ rfl rfl rfl ?_ ?_<;>intro hq<;>try exact no9)|(refine cN rfl rfl rfl ?_ ?_<;>intro hq)|(refine aA rfl ?_ ?_<;>intro hq<;>try exact no9)|(refine bY rfl ?_ ?_<;>intro hq))
  refine wE (gB.here _ _ _ _) ?_
  intro V2 hV2 hg2
  refine wE (gB.here _ _ _ _) ?_
  intro V3 hV3 hg3
  (refine aR Tryz.results159 (aB rfl) ?_)
  exact⟨_,_,rfl,cell0 hg3,cell0 (hg2.le hV3)⟩
def nN (nm:ByteArray) (g:LF×List LK):Option LF:=if g.1.x.h.kind=2 then (g.2.find? fun e=>decide (e.nm=nm)).map (fun e=>⟨e.x,g.1.lay⟩) else none
theorem kids_seq (V:aE) (g1 g2:Nat) (A:Option Addr) (n c:Nat) (nm:ByteArray) (gs:List (LF×List LK)) (h1:V ⟨g1,0,none⟩=some (.slice A n c)) (h2:V ⟨g2,0,none⟩=some (.string nm)) (h:dU V A n (gs.map Prod.fst)) (hk:∀ g∈gs,fA V g.1.x.K g.1.x.nk g.2) :
    ∀ w,VIn V w→SeqStopsK Fence.wide 2 Tryz.prog 186 [.pointer (some ⟨g1,0,none⟩),.pointer (some ⟨g2,0,none⟩)].toArray (fun f:LF=>#[flV f]) (qW V) (fun ys=>ys=gs.filterMap (nN nm)) (fun _=>True) (gs.filterMap (nN nm)).length w:=by
  have hl:=h.1.1
  rw [List.length_map] at hl
  have hm:=h.1.max
  refine seq_of Tryz.func186 rfl Tryz.ntmps186 rfl ?_
  intro l J Jx W hJ hJx hY h0
  repeat' (first|(refine aG ?_;refine pu9 ?_)|refine gxb9 ?_|refine dW (id:=0) ?_)
  refine gc_loopB (fun B F V' L' m=>∃ (i:Nat) (W1:World),B=⟨V,W1,[]⟩∧V=V'∧[]=L'∧J ((gs.take i).filterMap (nN nm)) W1∧i≤n∧m=n - i∧F=[(0,.func (.yield l) #[] #[]),(2,.pointer (some ⟨g2,0,none⟩)),(8,.slice A n c),(9,.int .i64 n),(10,.int .i64 (i:Int))]) (m:=n) ⟨0,W,rfl,rfl,rfl,by simpa using h0,Nat.zero_le _,by omega,rfl⟩ bG sl9 ?_
  rintro B F V' L' m ⟨i,W1,rfl,rfl,rfl,hJ1,hin,rfl,rfl⟩
  by_cases hlt:i<n
  · obtain⟨b,off,f,rfl,hf,hc,hN⟩:=h.at_ hlt
    obtain⟨g,hg,rfl⟩:∃ g,gs[i]?=some g∧g.1=f:=by
      rw [List.getElem?_map] at hf
      cases hgi:gs[i]? with
      | none=>rw [hgi] at hf;cases hf
      | some g=>rw [hgi] at hf;exact⟨g,rfl,by simpa using hf⟩
    obtain⟨f,es⟩:=g
    have hK:=hk _ (List.mem_of_getElem? hg)
    have hKm:=hK.max
    have hKl:=hK.len
    simp only [] at hc hN hK hKm hKl
    have htk:(gs.take (i+1)).filterMap (nN nm)=(gs.take i).filterMap (nN nm) ++ (nN nm (f,es)).toList:=by rw [List.take_add_one,hg,List.filterMap_append];simp [List.filterMap_cons];cases nN nm (f,es)<;>rfl
    repeat' (first|(refine aG ?_;first|refine st9 ?_|(refine al9 ?_;intro γ)|refine pu9 ?_)|refine gxb9 ?_|refine iR [1,2,3] rfl ?_|(refine aA rfl ?_ ?_<;>intro hq<;>try exact no9))
    refine bZ (fun F V'' L'' m=>∃ k:Nat,V=V''∧[⟨γ,186,flC f⟩]=L''∧k≤f.x.nk∧(∀ j,j<k→∀ e,es[j]?=some e→¬(f.x.h.kind=2∧e.nm=nm))∧m=f.x.nk - k∧F=[(0,.func (.yield l) #[] #[]),(2,.pointer (some ⟨g2,0,none⟩)),(5,.pointer (some ⟨γ,0,none⟩)),(8,.slice (some ⟨b,off,none⟩) n c),(9,.int .i64 n),(10,.int .i64 (i:Int)),(16,.slice f.x.K f.x.nk f.x.ck),(17,.int .i64 f.x.nk),(18,.int .i64 (k:Int))]) (m:=f.x.nk) ⟨0,rfl,rfl,Nat.zero_le _,(by omega),by omega,rfl⟩ bG rfl sl9 ?_
    rintro F V'' L'' m ⟨k,rfl,rfl,hkn,hno,rfl,rfl⟩
    by_cases hlt2:k<f.x.nk
    · obtain⟨b1,o1,e,hKb,he,hem,hce,c0,c1,hms,hne⟩:=hK.at_ hlt2
      repeat' (first|(refine aG ?_;first|(refine bH ?_;refine aI (dG und_48 siz_104 rfl hKb rfl hlt2) ?_)|refine st9 ?_|(refine al9 ?_;intro γ)|refine pu9 ?_)|refine gxcbe9 ?_|(refine aJ rfl rfl rfl ?_ ?_<;>intro hq<;>try exact no9)|refine iR [4,5,6,8] rfl ?_|(refine aA rfl ?_ ?_<;>intro hq<;>try exact no9))
      · have hno':∀ j,j<k+1→∀ e',es[j]?=some e'→¬(f.x.h.kind=2∧e'.nm=nm):=fun j hj e' he' hh=>hq hh.1
        refine aY _ (f.x.nk - (k+1)) ⟨k+1,rfl,rfl,by omega,hno',rfl,rfl⟩ (by omega) bG sl9
      · have hno':∀ j,j<k+1→∀ e',es[j]?=some e'→¬(f.x.h.kind=2∧e'.nm=nm):=fun j hj e' he' hh=>by
          rcases Nat.lt_or_ge j k with h3|h3
          · exact hno j h3 e' he' hh
          · have hjk:j=k:=by omega
            rw [hjk,he] at he';cases he';exact hq hh.2
        refine aY _ (f.x.nk - (k+1)) ⟨k+1,rfl,rfl,by omega,hno',rfl,rfl⟩ (by omega) bG sl9
      · rename_i hk2
        have hkd:nN nm (f,es)=some ⟨e.x,f.lay⟩:=by
          unfold nN
          rw [if_pos (show f.x.h.kind=2 by omega),find_first he (decide_eq_true (Decidable.not_not.1 hq)) fun j hj y hy=>fun hd=>hno j hj y hy ⟨by omega,of_decide_eq_true hd⟩];rfl
        have hlen:=fm_take_len hg hkd
        rw [hkd] at htk
        have htk':(gs.take (i+1)).filterMap (nN nm)=(gs.take i).filterMap (nN nm) ++ [⟨e.x,f.lay⟩]:=htk
        refine gc_regionI ?_;refine tP rfl (lY rfl) ?_;refine tP rfl (eF fld_104_1 rfl) ?_;(first|refine tP rfl (nJ agg_50 rfl bN (by exact rfl)) ?_|refine tP rfl (iA agg_50 rfl (by assumption) (by exact rfl)) ?_|refine tP rfl (gK agg_50 rfl bN (by exact rfl) (by exact rfl)) ?_|refine tP rfl (gK agg_50 rfl bN (by assumption) (by exact rfl)) ?_);refine tP rfl (eF fld_186_1 rfl) ?_;(first|refine tP rfl (aX one_3 rfl bN (by exact rfl)) ?_|refine tP rfl (aX one_3 rfl bN (by assumption)) ?_|refine tP rfl (cK one_3 rfl (by assumption)) ?_);refine tP rfl (wD bld_186 rfl rfl) ?_
        refine gi_yield (vs:=[_]) (fun b=>if b=true then V else fun _=>none) (Rb:=fun b W'=>(b=true∧J ((gs.take i).filterMap (nN nm) ++ [⟨e.x,f.lay⟩]) W'∧VIn V W')∨(b=false∧Jx ((gs.take i).filterMap (nN nm) ++ [⟨e.x,f.lay⟩]) W')) rfl rfl rfl ?_ ?_ ?_
        · intro w hs
          refine Eq.mp ?_ (hY _ ⟨e.x,f.lay⟩ w (hJ _ W1 w hJ1 hs.ext) (vin_st hs) hlen)
          congr 1
        · rintro b' W' (⟨rfl,_,h3⟩|⟨rfl,_⟩)
          · exact h3
          · exact fun p x hp=>by simp at hp
        · rintro b' W' (⟨rfl,h3,h4⟩|⟨rfl,h3⟩)
          · (first|refine tP rfl (wI rfl) ?_|refine tP rfl (q_not_f rfl) ?_|refine tP rfl (q_not_p rfl) ?_|refine tP rfl (q_not_b rfl) ?_)
            refine gi_nil ?_
            repeat' (first|(refine aG ?_;refine pu9 ?_)|refine gxce9 ?_|refine dW (id:=9) ?_)
            refine at_roundB _ (n - (i+1)) ⟨i+1,W',rfl,rfl,rfl,by rw [htk'];exact h3,by omega,rfl,rfl⟩ (by omega) bG sl9
          · (first|refine tP rfl (wI rfl) ?_|refine tP rfl (q_not_f rfl) ?_|refine tP rfl (q_not_p rfl) ?_|refine tP rfl (q_not_b rfl) ?_)
            refine gi_nil ?_
            repeat' (first|refine nO ?_|fail)
            refine at_endI (.inr rfl) Tryz.results186 fun w hs=>.inr ⟨_,trivial,hJx _ W' w h3 hs.ext⟩
    · obtain rfl:k=f.x.nk:=by omega
      have hkd:nN nm (f,es)=none:=by
        unfold nN
        by_cases h2k:f.x.h.kind=2
        · rw [if_pos h2k,find_nothing fun j y hy hd=>?_];rfl
          have hj2:j<es.length:=(List.getElem?_eq_some_iff.1 hy).1
          have hj:j<f.x.nk:=by omega
          exact hno j hj y hy ⟨h2k,of_decide_eq_true hd⟩
        · rw [if_neg h2k]
      rw [hkd] at htk
      have htk':(gs.take (i+1)).filterMap (nN nm)=(gs.take i).filterMap (nN nm):=htk.trans (List.append_nil _)
      repeat' (first|(refine aG ?_;refine pu9 ?_)|refine gxe9 ?_|refine iR [4,9] rfl ?_|(refine aA rfl ?_ ?_<;>intro hq<;>try exact no9))
      refine at_roundB _ (n - (i+1)) ⟨i+1,W1,rfl,rfl,rfl,by rw [htk'];exact hJ1,by omega,rfl,rfl⟩ (by omega) bG sl9
  · obtain rfl:i=n:=by omega
    repeat' (first|(refine aG ?_;refine pu9 ?_)|refine gxe9 ?_|refine dW (id:=1) ?_|(refine aA rfl ?_ ?_<;>intro hq<;>try exact no9))
    refine at_endI (.inl rfl) Tryz.results186 fun w hs=>.inl ⟨_,rfl,hJ _ W1 w ?_ hs.ext⟩
    rw [List.take_of_length_le (by omega)] at hJ1
    exact hJ1
end
section
theorem at_weak {P:Program} {B:Base} {N:Nat} {Q:Exit→Act→World→Prop} {k:List kC} {e:Exit} {F F':List (Nat×Value)} {V:aE} {L L':List Box} (h:AtQ P B N Q k e F' V L') (hF:∀ p∈F',jM F p.1=some p.2) (hL:L'.Sublist L):AtQ P B N Q k e F V L:=fun a w ha hs=>h a w (ha.less hF) (hs.drop hL)
theorem floors_kids {V:aE}:∀ {fs:List LF},(∀ f∈fs,aT V f.x)→∃ gs:List (LF×List LK),gs.map Prod.fst=fs∧∀ g∈gs,fA V g.1.x.K g.1.x.nk g.2∧g.1.x.ks=g.2.map kz
  | [],_=>⟨[],rfl,by simp⟩
  | f :: fs,h=>by
    obtain⟨gs,h1,h2⟩:=floors_kids (fs:=fs) fun g hg=>h g (by simp [hg])
    obtain⟨_,_,_,_,es,h3,h4⟩:=(h f (by simp)).inv
    refine⟨(f,es) :: gs,by rw [List.map_cons,h1],fun g hg=>?_⟩
    rcases List.mem_cons.1 hg with rfl|hg
    · exact⟨h3,h4⟩
    · exact h2 g hg
theorem look_kz:∀ (es:List LK) (nm:ByteArray),gT (es.map kz) nm=(es.find? fun e=>decide (e.nm=nm)).map (fun e=>e.x.n)
  | [],nm=>rfl
  | e :: es,nm=>by
    rw [List.map_cons,gT,List.find?_cons]
    by_cases h:e.nm=nm
    · rw [if_pos (show (kz e).1=nm from h),decide_eq_true h];rfl
    · rw [if_neg (show ¬(kz e).1=nm from h),decide_eq_false h,look_kz es nm]
theorem kidF_fz {nm:ByteArray} {g:LF×List LK} (h:g.1.x.ks=g.2.map kz):(nN nm g).map fz=oU nm (fz g.1):=by
  unfold nN oU
  show Option.map fz _=if g.1.x.h.kind=2 then (gT g.1.x.ks nm).map (fun x=>(x,g.1.lay)) else none
  by_cases hk:g.1.x.h.kind=2
  · rw [if_pos hk,if_pos hk,h,look_kz,Option.map_map,Option.map_map];rfl
  · rw [if_neg hk,if_neg hk];rfl
theorem kids_fz {nm:ByteArray}:∀ {gs:List (LF×List LK)},(∀ g∈gs,g.1.x.ks=g.2.map kz)→(gs.filterMap (nN nm)).map fz=((gs.map Prod.fst).map fz).filterMap (oU nm)
  | [],_=>rfl
  | g :: gs,h=>by
    have h1:=kidF_fz (nm:=nm) (h g (by simp))
    have h2:=kids_fz (nm:=nm) (gs:=gs) fun k hk=>h k (by simp [hk])
    rw [List.filterMap_cons,List.map_cons,List.map_cons,List.filterMap_cons]
    cases h3:nN nm g with
    | none=>rw [h3] at h1;rw [←h1];exact h2
    | some f=>rw [h3] at h1;rw [←h1,List.map_cons,h2];rfl
theorem kidF_node {V:aE} {nm:ByteArray} {g:LF×List LK} {f:LF} (h:nN nm g=some f) (hk:fA V g.1.x.K g.1.x.nk g.2):aT V f.x:=by
  unfold nN at h
  split at h
  · cases h2:g.2.find? (fun e=>decide (e.nm=nm)) with
    | none=>rw [h2] at h;cases h
    | some e=>rw [h2] at h;cases h;exact(hk.2 e (List.mem_of_find?_eq_some h2)).2
  · cases h
attribute [local irreducible] AtQ GoC GoL GoW QO QP Fn RV bF aD VLe bU bA
theorem Step_c (V:aE) (A:Option Addr) (n c:Nat) (fs:List LF) (h:dU V A n fs) (hn:n≤1000) (nm:ByteArray):Fn Tryz.prog 116 [.slice A n c,.string nm] V (FloorsR (eJ (fs.map fz) nm)):=by
  have hl:=h.1.1
  obtain⟨gs,hgs,hkg⟩:=floors_kids h.2
  have hfz:=kids_fz (nm:=nm) fun g hg=>(hkg g hg).2
  rw [hgs] at hfz
  have hxl:(gs.filterMap (nN nm)).length≤1000:=by
    have:=List.length_filterMap_le (nN nm) gs
    have e:gs.length=fs.length:=by rw [←hgs,List.length_map]
    omega
  have hxN:∀ f∈gs.filterMap (nN nm),aT V f.x:=fun f hf=>by
    obtain⟨g,hg,hgf⟩:=List.mem_filterMap.1 hf
    exact kidF_node hgf (hkg g hg).1
  subst hgs
  refine fn_enterM Tryz.func116 rfl Tryz.ntmps116 rfl ?_
  intro w0
  repeat' (first|(refine aG ?_;first|(refine aC ?_;(refine aS rfl ⟨Tryz.call159⟩ rfl rfl (Kids_mc _ A n c nm) ?_;rintro v V2 hV2 ⟨g1,g2,rfl,hg1,hg2⟩))|(refine al9 ?_;intro γ)|refine pu9 ?_)|refine cM ?_|fail)
  have hseq:=kids_seq V2 g1 g2 A n c nm gs hg1 hg2 (h.le hV2) fun g hg=>(hkg g hg).1.le hV2
  generalize gs.filterMap (nN nm)=xs at *
  refine gc_collect flC flV xs (E:=186) (sz:=9) (lb:=[_,_]) (F6:=fun γ6=>[(6,.pointer (some ⟨γ6,0,none⟩)),(5,.pointer (some ⟨γ,0,none⟩))]) rfl (Tryz.call186) rfl hseq ?_ ?_ ?_ ?_ ?_
  · intro r o ho ev
    simp only [List.mem_cons,List.not_mem_nil,or_false] at ho
    rcases ho with rfl|rfl<;>rfl
  · intro r o ho ev
    simp only [List.mem_cons,List.not_mem_nil,or_false] at ho
    rcases ho with rfl|rfl|rfl|rfl|rfl<;>rfl
  · intro x V' L' B' Q' hK
    repeat' (first|(refine aG ?_;first|refine st9 ?_|(refine al9 ?_;intro γ))|refine gx9 ?_|fail)
    exact at_weak (hK _) bG (List.Sublist.refl _)
  · intro x V' B' Q' γ6 A1 n1 c1 us LA hr hn1 hK
    have ho1:=ones_f1 x
    repeat' (first|(refine aG ?_;first|(refine aC ?_;(refine bQ rfl und_183 inf_186 rfl rfl rfl hr bD (fY bN rfl) cI (by omega) rfl rfl ?_;intro A2 c2 L2 hr2))|(refine dC ?_;(refine aZ rfl und_183 siz_186 zec_186 rfl rfl rfl rfl rfl rfl rfl ?_;intro γ))|refine st9 ?_|refine pu9 ?_)|refine gx9 ?_|fail)
    exact at_weak (hK A2 c2 _ [] hr2) sub_nil (List.Sublist.cons _ (List.Sublist.refl _))
  · intro D V' A1 n1 c1 LA a W hD hV' hr hxn ha hs hD2
    have hcap:=hr.cap
    obtain⟨V3,hV3,hc3,hs3⟩:=hs.shut hr bD (by simp)
    have hF:dU V3 A1 n1 xs:=dU.of hc3 hxn (by unfold maxLen;omega) fun f hf=>(hxN f hf).le (hV2.trans (hV'.trans hV3))
    refine tail_call (f:=160) Tryz.results116 ha hs3 hD2 hD (by simp) ⟨Tryz.call160⟩ rfl rfl rfl (aX one_183 rfl bN (by exact rfl)) (Shown_c V3 A1 n1 c1 xs hF (by omega)) fun v V'' _ hh=>?_
    unfold eJ
    rw [←hfz];exact hh
end
section
attribute [local irreducible] AtQ GoC GoL GoW QO QP Fn RV bF aD VLe bU bA
end
section
def dirH:Hd:=⟨2,0,0,0,false,[],⟨#[]⟩⟩
def dirL:LN:=⟨dirH,none,0,0,none,0,0,[]⟩
theorem aT.dir {V:aE}:aT V dirL:=aT.of (es:=[]) fD.nil (Nat.le_refl _) (Nat.zero_le _) (Nat.le_refl _) ⟨fB.nil,by simp⟩ rfl
theorem xO (V:aE) (x:LN) (hx:aT V x) (hsm:cH eR x.n):Fn Tryz.prog 39 [lnV x] V fun v V2=>∃ y:LN,v=lnV y∧y.n=x.n∧aT V2 y:=fun w hV=>by
  have hs:St ⟨V,w,iG []⟩ V [] w:=⟨Exc.refl _ w,fun p x hp=>⟨hV p x hp,by simp⟩,fun p x hp _=>hp,VLe.refl V,by simp,by simp⟩
  refine(Own_c V x hx V (VLe.refl _) hsm w hs).mono fun e w' ⟨v,V',Bs',he,hst,y,es,hv,hyn,hO⟩=>?_
  obtain⟨V'',h1,h2,h3⟩:=hst.shut hO.row lG (by simp)
  exact⟨v,he,h3.ext.ext,V'',h3.v0,fun p x hp=>(h3.view p x hp).1,h3.old,y,hv,hyn,hO.node h1 h2 (hO.bound hyn hsm)⟩
attribute [local irreducible] AtQ GoC GoL GoW QO QP Fn RV bF aD VLe bU bA
end
section
def fN (V:aE) (A:Option Addr) (n:Nat) (xs:List LN):Prop:=fB V 8 lnC A n xs∧∀ x∈xs,aT V x
theorem fN.le {V V':aE} (hv:VLe V V') {A:Option Addr} {n:Nat} {xs:List LN} (h:fN V A n xs):fN V' A n xs:=⟨h.1.le hv,fun x hx=>(h.2 x hx).le hv⟩
theorem fN.at_ {V:aE} {A:Option Addr} {n:Nat} {xs:List LN} (h:fN V A n xs) {k:Nat} (hk:k<n):∃ b off x,A=some ⟨b,off,none⟩∧xs[k]?=some x∧aD V b (off+k * 8) (lnC x)∧aT V x:=by
  obtain⟨b,off,r,ha,hx,hc⟩:=h.1.at_ hk
  exact⟨b,off,r,ha,hx,hc,h.2 r (List.mem_of_getElem? hx)⟩
def vU:Int→List LN→List LF
  | _,[]=>[]
  | i,x :: l=>⟨x,i⟩ :: vU (i+1) l
theorem layF_snoc:∀ (l:List LN) (i:Int) (x:LN),vU i (l ++ [x])=vU i l ++ [⟨x,i+(l.length:Int)⟩]
  | [],i,x=>by simp [vU]
  | y :: l,i,x=>by
    rw [List.cons_append,vU,layF_snoc l,vU,List.cons_append,List.length_cons]
    congr 4;omega
theorem layF_len:∀ (l:List LN) (i:Int),(vU i l).length=l.length
  | [],_=>rfl
  | x :: l,i=>by rw [vU,List.length_cons,layF_len l,List.length_cons]
theorem layF_fz:∀ (l:List LN) (i:Int),(vU i l).map fz=mX i (l.map LN.n)
  | [],_=>rfl
  | x :: l,i=>by rw [vU,List.map_cons,List.map_cons,mX,layF_fz l];rfl
theorem layF_mem:∀ {l:List LN} {i:Int} {f:LF},f∈vU i l→f.x∈l
  | [],_,_,h=>by cases h
  | x :: l,i,f,h=>by
    rw [vU] at h
    rcases List.mem_cons.1 h with rfl|h
    · simp
    · exact List.mem_cons_of_mem _ (layF_mem h)
theorem dirsP_sub:∀ {l:List PF} {f:PF},f∈eB l→f∈l
  | [],_,h=>h
  | g :: l,f,h=>by
    rw [eB] at h
    split at h
    · split at h
      · rw [List.mem_singleton.1 h];simp
      · rcases List.mem_cons.1 h with rfl|h
        · simp
        · exact List.mem_cons_of_mem _ (dirsP_sub h)
    · cases h
theorem lM {l:List PF} {f:PF} (h:f∈dV l):f∈l:=by
  cases l with
  | nil=>exact h
  | cons g l =>
    rw [dV] at h
    split at h
    · rw [List.mem_singleton.1 h];simp
    · exact dirsP_sub h
theorem stepP_all {p:Hd→PKs→Prop} {l:List PF} {s:ByteArray} (h:∀ f∈l,cH p f.1):∀ f∈eJ l s,cH p f.1:=fun f hf=>by
  obtain⟨g,hg,hgf⟩:=List.mem_filterMap.1 (lM hf)
  unfold oU at hgf
  split at hgf
  · cases h2:gT g.1.ks s with
    | none=>rw [h2] at hgf;cases hgf
    | some x=>rw [h2] at hgf;cases hgf;exact(h g hg).kid (lJ h2)
  · cases hgf
theorem vG:∀ {l:List PN} {i:Int} {f:PF},f∈mX i l→f.1∈l
  | [],_,_,h=>by cases h
  | x :: l,i,f,h=>by
    rw [mX] at h
    rcases List.mem_cons.1 h with rfl|h
    · simp
    · exact List.mem_cons_of_mem _ (vG h)
theorem kE {p:Hd→PKs→Prop} {l:List PN} (h:∀ x∈l,cH p x) (ss:List ByteArray):∀ f∈dT l ss,cH p f.1:=by
  have key:∀ (ss:List ByteArray) (a:List PF),(∀ f∈a,cH p f.1)→∀ f∈ss.foldl eJ a,cH p f.1:=fun ss=>by
    induction ss with
    | nil=>intro a ha;exact ha
    | cons s ss ih=>intro a ha;exact ih _ (stepP_all ha)
  exact key ss _ fun f hf=>h _ (vG (lM hf))
theorem walk_snoc {l:List PN} {ss:List ByteArray} {k:Nat} {s:ByteArray} (h:ss[k]?=some s):dT l (ss.take (k+1))=eJ (dT l (ss.take k)) s:=by
  unfold dT;rw [List.take_add_one,h,List.foldl_append];rfl
theorem fl_parts {V:aE} {b o:Nat} {f:LF} (h:aD V b o (flC f)):aD V b (o+0) (lnC f.x)∧V ⟨b,o+8,none⟩=some (.int .i64 f.lay):=by
  refine⟨fun j v hj=>h j v ?_,h 8 _ rfl⟩
  have hj2:(lnC f.x)[j]?=some v:=hj
  have hlt:j<8:=(List.getElem?_eq_some_iff.1 hj2).1
  have e:flC f=lnC f.x ++ [.int .i64 f.lay]:=rfl
  rw [e,List.getElem?_append_left (by exact hlt)];exact hj2
def LookR (r:List PF) (v:Value) (V':aE):Prop:=(r=[]∧v=.tuple #[lnV lnZ,.int .i64 0,.bool false])∨(∃ f l y,r=f :: l∧v=.tuple #[lnV y,.int .i64 f.2,.bool true]∧aT V' y∧y.n=f.1)
attribute [local irreducible] AtQ GoC GoL GoW QO QP Fn RV bF aD VLe bU bA
theorem Roots_c (V:aE) (A:Option Addr) (n c:Nat) (xs:List LN) (h:fN V A n xs) (hn:n≤1000):Fn Tryz.prog 158 [.slice A n c] V (FloorsR (mZ (xs.map LN.n))):=by
  have hl:=h.1.1
  (refine aN Tryz.func158 rfl Tryz.ntmps158 rfl ?_;intro w0)
  repeat' (first|(refine aG ?_;refine pu9 ?_)|refine cM ?_|fail)
  refine bZ (fun F V' L' m=>∃ (k:Nat) (A':Option Addr) (c':Nat) (LA:List Box),V=V'∧LA=L'∧k≤n∧cX A' k c' 186 9 ((vU 0 (xs.take k)).flatMap flC) LA∧m=n - k∧F=[(3,.slice A' k c'),(6,.slice A n c),(7,.int .i64 n),(8,.int .i64 (k:Int))]) (m:=n) ⟨0,none,0,[],rfl,rfl,Nat.zero_le _,cX.nil,by omega,rfl⟩ bG rfl sl9 ?_
  rintro F V' L' m ⟨k,A',c',LA,rfl,rfl,hkn,hr,rfl,rfl⟩
  by_cases hlt:k<n
  · obtain⟨b,off,x,rfl,hx,hc,hN⟩:=h.at_ hlt
    have ho1:=ones_f1 ⟨x,(k:Int)⟩
    have htk:(vU 0 (xs.take (k+1))).flatMap flC=(vU 0 (xs.take k)).flatMap flC ++ flC ⟨x,(k:Int)⟩:=by
      rw [List.take_add_one,hx]
      show (vU 0 (xs.take k ++ [x])).flatMap flC=_
      rw [layF_snoc,List.flatMap_append,List.length_take,Nat.min_eq_left (by omega),Int.zero_add];simp
    repeat' (first|(refine aG ?_;first|(refine aC ?_;(refine bQ rfl und_183 inf_186 rfl rfl rfl hr bD (fY bN rfl) cI (by omega) rfl rfl ?_;intro A2 c2 L2 hr2))|(refine dC ?_;(refine aZ rfl und_183 siz_186 zec_186 rfl rfl rfl rfl rfl rfl rfl ?_;intro γ))|refine st9 ?_|(refine al9 ?_;intro γ)|refine pu9 ?_)|refine cM ?_|(refine aA rfl ?_ ?_<;>intro hq<;>try exact no9))
    refine aY _ (n - (k+1)) ⟨k+1,A2,c2,L2,rfl,rfl,by omega,by rw [htk];exact hr2,rfl,rfl⟩ (by omega) bG sl9
  · obtain rfl:k=n:=by omega
    rw [List.take_of_length_le (by omega)] at hr
    refine rG hr bD ?_
    intro V2 hV2 hc2
    have hF:dU V2 A' k (vU 0 xs):=dU.of hc2 (by rw [layF_len,hl]) (by unfold maxLen;omega) fun f hf=>(h.2 _ (layF_mem hf)).le hV2
    have hS:=Shown_c V2 A' k c' _ hF hn
    rw [layF_fz] at hS
    repeat' (first|(refine aG ?_;first|(refine aC ?_;(refine aS rfl ⟨Tryz.call160⟩ rfl rfl (hS) ?_;rintro v V3 hV3 ⟨A3,n3,c3,gs,rfl,hG,hc3,hgz⟩))|refine pu9 ?_)|refine eT ?_|(refine aA rfl ?_ ?_<;>intro hq<;>try exact no9))
    all_goals
      (refine aR Tryz.results158 (aB rfl) ?_)
      exact⟨_,_,_,gs,rfl,hG,hc3,hgz⟩
theorem Walk_c (V:aE) (A:Option Addr) (n c:Nat) (xs:List LN) (h:fN V A n xs) (hn:n≤1000) (B:Option Addr) (m e:Nat) (ss:List ByteArray) (hs:cV V B m ss):Fn Tryz.prog 115 [.slice A n c,.slice B m e] V (FloorsR (dT (xs.map LN.n) ss)):=by
  have hl:=h.1.1
  have sl:=hs.1.1
  have sm:=hs.1.max
  (refine aN Tryz.func115 rfl Tryz.ntmps115 rfl ?_;intro w0)
  repeat' (first|(refine aG ?_;first|(refine aC ?_;(refine aS rfl ⟨Tryz.call158⟩ rfl rfl (Roots_c _ A n c xs (h.le vl9) hn) ?_;rintro v V1 hV1 ⟨A1,n1,c1,fs,rfl,hF1,hc1,hz1⟩))|refine pu9 ?_)|refine cM ?_|fail)
  refine bZ (fun F V' L' m'=>∃ (k:Nat) (A':Option Addr) (n' c':Nat) (gs:List LF),VLe V V'∧[]=L'∧k≤m∧dU V' A' n' gs∧n'≤c'∧gs.map fz=dT (xs.map LN.n) (ss.take k)∧m'=m - k∧F=[(5,.slice A' n' c'),(10,.slice B m e),(11,.int .i64 m),(12,.int .i64 (k:Int))]) (m:=m) ⟨0,A1,n1,c1,fs,vl9,rfl,Nat.zero_le _,hF1,hc1,hz1,by omega,rfl⟩ bG rfl sl9 ?_
  rintro F V' L' m' ⟨k,A',n',c',gs,hV',rfl,hkm,hG,hnc,hgz,rfl,rfl⟩
  have hgl:n'≤1000:=by
    have h1:=sN (xs.map LN.n) (ss.take k)
    rw [←hgz,List.length_map,List.length_map,hG.1.1,hl] at h1;omega
  by_cases hlt:k<m
  · obtain⟨b,off,s,hB,hx,hc,_⟩:=(hs.le hV').at_ hlt
    have hS:=Step_c V' A' n' c' gs hG hgl s
    rw [hgz,←walk_snoc hx] at hS
    repeat' (first|(refine aG ?_;first|(refine aC ?_;(refine aS rfl ⟨Tryz.call116⟩ rfl rfl (hS) ?_;rintro v V2 hV2 ⟨A2,n2,c2,fs2,rfl,hF2,hc2,hz2⟩))|(refine bH ?_;refine aI (dG und_40 siz_9 rfl hB rfl hlt) ?_)|refine pu9 ?_)|refine cM ?_|(refine aA rfl ?_ ?_<;>intro hq<;>try exact no9))
    refine aY _ (m - (k+1)) ⟨k+1,A2,n2,c2,fs2,vl9,rfl,by omega,hF2,hc2,hz2,rfl,rfl⟩ (by omega) bG sl9
  · obtain rfl:k=m:=by omega
    rw [List.take_of_length_le (by omega)] at hgz
    repeat' (first|(refine aG ?_;refine pu9 ?_)|refine eT ?_|(refine aA rfl ?_ ?_<;>intro hq<;>try exact no9))
    all_goals
      (refine aR Tryz.results115 (aB rfl) ?_)
      exact⟨_,_,_,gs,rfl,hG,hnc,hgz⟩
theorem LookM_c (V:aE) (A:Option Addr) (n c:Nat) (xs:List LN) (h:fN V A n xs) (hn:n≤1000) (hsm:∀ x∈xs,cH eR x.n) (B:Option Addr) (m e:Nat) (ss:List ByteArray) (hs:cV V B m ss):Fn Tryz.prog 151 [.slice A n c,.slice B m e] V (LookR (dT (xs.map LN.n) ss)):=by
  have hall:=kE (p:=eR) (l:=xs.map LN.n) (fun x hx=>by obtain⟨y,hy,rfl⟩:=List.mem_map.1 hx;exact hsm y hy) ss
  have hW:=Walk_c V A n c xs h hn B m e ss hs
  generalize dT (xs.map LN.n) ss=r at *
  (refine aN Tryz.func151 rfl Tryz.ntmps151 rfl ?_;intro w0)
  repeat' (first|(refine aG ?_;first|(refine aC ?_;(refine aS rfl ⟨Tryz.call115⟩ rfl rfl (hW) ?_;rintro v V1 hV1 ⟨A1,n1,c1,fs,rfl,hF1,hc1,rfl⟩))|refine st9 ?_|(refine al9 ?_;intro γ)|refine pu9 ?_)|refine bS ?_|(refine aA rfl ?_ ?_<;>intro hq<;>try exact no9))
  · (refine jW Tryz.results151 (aU agg_50 rfl bN (by exact rfl)) (aB rfl) (aB rfl) ?_)
    have hfl:=hF1.1.1
    obtain rfl:fs=[]:=List.eq_nil_of_length_eq_zero (by omega)
    exact .inl ⟨rfl,rfl⟩
  · have hfl:=hF1.1.1
    obtain⟨f,t,rfl⟩:∃ f t,fs=f :: t:=by
      cases fs with
      | nil=>simp at hfl;omega
      | cons f t=>exact⟨f,t,rfl⟩
    obtain⟨b,off,f',rfl,hf',hcf,hNf⟩:=hF1.at_ (k:=0) (by omega)
    obtain rfl:f=f':=by simpa using hf'
    have hO:=xO V1 f.x hNf (hall (fz f) (by simp))
    obtain⟨hc8,hc9⟩:=fl_parts hcf
    refine bT (id:=4) _ mixed (List.nil_sublist _) ?_;refine gt9 0 ?_;refine gO 1 rfl rfl (iN (k:=0) und_183 siz_186 rfl rfl (by omega)) ?_;refine gt9 2 ?_;refine gt9 3 ?_;refine gt9 5 ?_;refine gO 6 rfl rfl (iN (k:=0) und_183 siz_186 rfl rfl (by omega)) ?_;refine gt9 7 ?_;refine gt9 8 ?_;refine bM (i:=4) rfl ?_;(refine aS rfl ⟨Tryz.call39⟩ rfl rfl (hO) ?_;rintro v V2 hV2 ⟨y,rfl,hyn,hyN⟩);refine bM (i:=9) rfl ?_;refine aP rfl siz_50 rfl rfl rfl rfl cI fU rfl ?_;refine gt9 10 ?_;refine gt9 11 ?_;refine bC (by kernel_rfl) vl9 vl9 cC ?_
    repeat' (first|refine gx9 ?_|fail)
    (refine jW Tryz.results151 (aU agg_50 rfl bN (by exact rfl)) (aB rfl) (aB rfl) ?_)
    exact .inr ⟨fz f,t.map fz,y,rfl,rfl,hyN,hyn⟩
end
section
theorem fl_bits {V:aE} {b o:Nat} {f:LF} (h:aD V b o (flC f)):V ⟨b,o+0+0,none⟩=some (.int .i64 f.x.h.kind)∧V ⟨b,o+0+4,none⟩=some (.bool f.x.h.opq):=⟨h 0 _ rfl,h 4 _ rfl⟩
theorem dU.take {V:aE} {A:Option Addr} {n k:Nat} {fs:List LF} (h:dU V A n fs) (hk:k≤n):dU V A k (fs.take k):=⟨h.1.take hk,fun f hf=>h.2 f (List.mem_of_mem_take hf)⟩
attribute [local irreducible] AtQ GoC GoL GoW QO QP Fn RV bF aD VLe bU bA
end
section
def kidB (cut:Bool) (s:ByteArray) (f:PF):Option PF:=if cut=true∧f.2=0 then none else oU s f
def vD (l:List PN) (ss:List ByteArray) (bare:Bool):Nat→List PF
  | 0=>mZ l
  | k+1=>match ss[k]? with
    | some s=>dV ((vD l ss bare k).filterMap (kidB (bare && decide (k+1=ss.length)) s))
    | none=>vD l ss bare k
theorem stackK_succ {l:List PN} {ss:List ByteArray} {bare:Bool} {k:Nat} {s:ByteArray} (h:ss[k]?=some s):vD l ss bare (k+1)=dV ((vD l ss bare k).filterMap (kidB (bare && decide (k+1=ss.length)) s)):=by
  rw [vD,h]
theorem kidB_false (s:ByteArray):kidB false s=oU s:=by funext f;unfold kidB;rw [if_neg (by rintro ⟨h,_⟩;cases h)]
theorem kidB_cut {cut:Bool} {s:ByteArray} {f:PF} (h:cut=true) (h0:f.2=0):kidB cut s f=none:=if_pos ⟨h,h0⟩
attribute [local irreducible] AtQ GoC GoL GoW QO QP Fn RV bF aD VLe bU bA
end
section
def parts:List UInt8→List (List UInt8)
  | []=>[[]]
  | c :: l=>if c=47 then [] :: parts l else (match parts l with|[]=>[[c]]|p :: ps=>(c :: p) :: ps)
theorem parts_no:∀ {l:List UInt8},(∀ c∈l,¬c=47)→parts l=[l]
  | [],_=>rfl
  | c :: l,h=>by rw [parts,if_neg (h c (by simp)),parts_no fun d hd=>h d (by simp [hd])]
theorem parts_at:∀ {a b:List UInt8},(∀ c∈a,¬c=47)→parts (a ++ 47 :: b)=a :: parts b
  | [],b,_=>by rw [List.nil_append,parts,if_pos rfl]
  | c :: a,b,h=>by rw [List.cons_append,parts,if_neg (h c (by simp)),parts_at fun d hd=>h d (by simp [hd])]
theorem index_no:∀ {l:List UInt8},Lib.indexByte l 47<0→∀ c∈l,¬c=47
  | [],_=>by simp
  | b :: l,h=>by
    unfold Lib.indexByte at h
    split at h
    · omega
    · rename_i hb
      split at h
      · rename_i h2
        have h2:Lib.indexByte l 47 = -1:=by simpa using h2
        intro c hc
        rcases List.mem_cons.1 hc with rfl|hc
        · simpa using hb
        · exact index_no (by omega) c hc
      · have:=Lib.indexByte_ge l 47
        rename_i h2
        have h2:¬Lib.indexByte l 47 = -1:=by simpa using h2
        omega
theorem index_at:∀ {l:List UInt8},0≤Lib.indexByte l 47→(∀ c∈l.take (Lib.indexByte l 47).toNat,¬c=47)∧l=l.take (Lib.indexByte l 47).toNat ++ 47 :: l.drop ((Lib.indexByte l 47).toNat+1)∧(Lib.indexByte l 47).toNat<l.length
  | [],h=>by simp [Lib.indexByte] at h
  | b :: l,h=>by
    unfold Lib.indexByte at h ⊢
    by_cases hb:b=47
    · subst hb;simp
    · have hb':(b == 47)=false:=by simpa using hb
      rw [hb'] at h ⊢
      by_cases h2:Lib.indexByte l 47 = -1
      · rw [h2] at h;simp at h
      · have h3:(Lib.indexByte l 47 == -1)=false:=by simpa using h2
        rw [h3] at h ⊢
        simp only [Bool.false_eq_true,if_false] at h ⊢
        have h4:=Lib.indexByte_ge l 47
        have h5:0≤Lib.indexByte l 47:=by omega
        obtain⟨g1,g2,g3⟩:=index_at h5
        rw [show (Lib.indexByte l 47+1).toNat=(Lib.indexByte l 47).toNat+1 by omega]
        refine⟨fun c hc=>?_,?_,by simp only [List.length_cons];omega⟩
        · rw [List.take_succ_cons] at hc
          rcases List.mem_cons.1 hc with rfl|hc
          · exact hb
          · exact g1 c hc
        · rw [List.take_succ_cons,List.drop_succ_cons,List.cons_append,←g2]
def allN (ps:List (List UInt8)):Bool:=ps.all fS
def eI (l:List UInt8):Int:=if l=[47] then 0 else if l=[]∨¬l.head?=some 47∨79<l.length then 4 else if ¬allN (parts (l.drop 1))=true then 4 else if 6<(parts (l.drop 1)).length then 2 else 0
def baL (ps:List (List UInt8)):List ByteArray:=ps.map fun p=>⟨p.toArray⟩
def aQ (l:List UInt8):List ByteArray:=if eI l=0∧¬l=[47] then baL (parts (l.drop 1)) else []
def rS (above l:List ByteArray):Bool:=decide (above.length≤l.length) && decide (above=l.take above.length)
end
section
def BldB (p:Nat) (l:List UInt8) (Bs:List Box):Prop:=∃ (a A:Option Addr) (c:Nat) (L1:List Box),Bs=⟨p,196,[.pointer a,.slice A l.length c]⟩ :: L1∧cX A l.length c 5 1 (u8C l) L1∧(A=none∨0<c)∧(a=none∨a=some ⟨p,0,none⟩)
theorem BldB.nil {p:Nat}:BldB p [] [⟨p,196,[.pointer none,.slice none 0 0]⟩]:=⟨none,none,0,[],rfl,cX.nil,.inl rfl,.inl rfl⟩
theorem BldB.of {p n c:Nat} {a A:Option Addr} {l:List UInt8} {L1:List Box} (hr:cX A n c 5 1 (u8C l) L1) (hn:n=l.length) (hA:A=none∨0<c) (ha:a=none∨a=some ⟨p,0,none⟩):BldB p l (⟨p,196,[.pointer a,.slice A n c]⟩ :: L1):=by
  subst hn;exact⟨a,A,c,L1,rfl,hr,hA,ha⟩
theorem ptr_bld:PtrIs Tryz.prog 194:=⟨by kernel_rfl⟩
theorem pinf_bld:PInf Tryz.prog 194:=⟨by obtain⟨i,h0,_⟩:=info_parts (show (Tryz.prog.info? 196).map (fun i=>(i.zero,i.size,i.bytes))=some (some (.agg #[.pointer none,.slice none 0 0]),2,32) by kernel_rfl);exact⟨_,i,Tryz.underlying194,h0⟩⟩
theorem und_upt:bR Tryz.prog 271 .unsafePointer:=⟨Tryz.underlying271⟩
theorem und_bptr:bR Tryz.prog 194 (.pointer 196):=⟨Tryz.underlying194⟩
theorem und_uptr:bR Tryz.prog 249 (.pointer 5):=⟨Tryz.underlying249⟩
theorem sz_bld:SzInf Tryz.prog 196:=⟨by obtain⟨i,h0,_,h2,_⟩:=info_parts (show (Tryz.prog.info? 196).map (fun i=>(i.zero,i.size,i.bytes))=some (some (.agg #[.pointer none,.slice none 0 0]),2,32) by kernel_rfl);exact⟨i,h0,by rw [h2];decide⟩⟩
theorem lies_bld:liesAt Tryz.prog Tryz.prog.depth 196 (2 / Tryz.prog.cellsOf 196) 0 196 1=true:=by kernel_rfl
theorem ext_noesc:ExternIs Tryz.prog 193 Extern.AbiNoEscape.same:=⟨fun args w=>run_callFunc_extern Tryz.func193 (by kernel_rfl) (by kernel_rfl) (by kernel_rfl) (by kernel_rfl) args w⟩
theorem u8_inf:U8Inf Tryz.prog 5:=⟨info_parts (show (Tryz.prog.info? 5).map (fun i=>(i.zero,i.size,i.bytes))=some (some (.int .u8 0),1,1) by kernel_rfl)⟩
theorem u8_cell:Tryz.prog.cellsOf 5=1:=by kernel_rfl
attribute [local irreducible] AtQ GoC GoL GoW QO QP Fn RV bF aD VLe bU bA
theorem copyCheck_c (V:aE) (p:Nat) (A:Option Addr) (n c:Nat) (L1:List Box) (a:Option Addr) (ha:a=none∨a=some ⟨p,0,none⟩) :
    FnB Tryz.prog 187 [.pointer (some ⟨p,0,none⟩)] V (⟨p,196,[.pointer a,.slice A n c]⟩ :: L1) fun v _ Bs=>v=.tuple #[]∧Bs=⟨p,196,[.pointer (some ⟨p,0,none⟩),.slice A n c]⟩ :: L1:=by
  rcases ha with rfl|rfl
  · (refine aL Tryz.func187 rfl Tryz.ntmps187 rfl ?_;intro w0)
    repeat' (first|(refine aG ?_;first|(refine bK ?_;(first|refine aI (q_pneq_same pinf_bld rfl rfl) ?_|refine aI (eH ptr_bld rfl) ?_))|(refine nQ ?_;(first|refine aI (q_fromUnsafe und_upt und_bptr sz_bld rfl (ownT_here rfl) lies_bld) ?_|refine aI (q_toUnsafe und_bptr und_upt sz_bld rfl (ownT_here rfl) rfl) ?_))|(refine aC ?_;refine aI (q_extern ext_noesc rfl (fun w=>Lib.run_noEscape w _)) ?_)|refine st9 ?_|refine pu9 ?_)|refine bV ?_|fail)
    (first|refine oE Tryz.results187  (List.Sublist.refl _) ?_|refine oF Tryz.results187 (List.Sublist.refl _) ?_)
    exact⟨rfl,rfl⟩
  · (refine aL Tryz.func187 rfl Tryz.ntmps187 rfl ?_;intro w0)
    repeat' (first|(refine aG ?_;first|(refine bK ?_;(first|refine aI (q_pneq_same pinf_bld rfl rfl) ?_|refine aI (eH ptr_bld rfl) ?_))|refine pu9 ?_)|refine bV ?_|fail)
    (first|refine oE Tryz.results187  (List.Sublist.refl _) ?_|refine oF Tryz.results187 (List.Sublist.refl _) ?_)
    exact⟨rfl,rfl⟩
theorem kG (V:aE) (p:Nat) (l:List UInt8) (Bs:List Box) (h:BldB p l Bs) (s:ByteArray) (hm:l.length+s.size≤1000000000) :
    FnB Tryz.prog 161 [.pointer (some ⟨p,0,none⟩),.string s] V Bs fun v _ Bs'=>v=.tuple #[.int .i64 (s.size:Int),.nilIface]∧BldB p (l ++ s.toList) Bs':=by
  obtain⟨a,A,c,L1,rfl,hr,hA,ha⟩:=h
  (refine aL Tryz.func161 rfl Tryz.ntmps161 rfl ?_;intro w0)
  repeat' (first|(refine aG ?_;first|(refine aC ?_;(refine aM rfl ⟨Tryz.call187⟩ rfl bD rfl (copyCheck_c _ p A l.length c L1 a ha) ?_;rintro v V1 B1 hV1 ⟨rfl,rfl⟩))|refine pu9 ?_)|refine bS ?_|fail)
  repeat' (first|(refine aG ?_;first|(refine aC ?_;(refine gw_appends rfl und_108 und_9 u8_inf rfl rfl hr hA bD (by omega) rfl ?_;intro A2 c2 L2 hr2 hA2))|refine st9 ?_|refine pu9 ?_)|refine bS ?_|fail)
  (refine bJ Tryz.results161 (aB rfl) (aB rfl) (List.Sublist.refl _) ?_)
  exact⟨rfl,BldB.of (by rw [u8C_app];exact hr2) (by rw [List.length_append,show s.toList.length=s.size by rw [Lib.toList_data];rfl]) hA2 (.inr rfl)⟩
theorem BString_c (V:aE) (p:Nat) (l:List UInt8) (Bs:List Box) (h:BldB p l Bs) (hm:l.length≤1000000000) :
    FnB Tryz.prog 122 [.pointer (some ⟨p,0,none⟩)] V Bs fun v _ _=>v=.string ⟨l.toArray⟩:=by
  obtain⟨a,A,c,L1,rfl,hr,hA,ha⟩:=h
  cases l with
  | nil =>
    cases A with
    | none =>
      (refine aL Tryz.func122 rfl Tryz.ntmps122 rfl ?_;intro w0)
      repeat' (first|(refine aG ?_;refine pu9 ?_)|refine bS ?_|fail)
      refine bT (id:=1) _ mixed (List.Sublist.refl _) ?_;refine gt9 0 ?_;refine gt9 1 ?_;refine gt9 2 ?_;refine gt9 3 ?_;refine gO 4 rfl rfl (q_slData0 rfl) ?_;refine gt9 5 ?_;refine gt9 6 ?_;refine gt9 7 ?_;refine gt9 8 ?_;refine gt9 9 ?_;refine bM (i:=10) rfl ?_;(refine aI (q_ustr0 rfl rfl) ?_);refine gt9 11 ?_;refine bC (by kernel_rfl) vl9 vl9 cC ?_
      repeat' (first|refine gx9 ?_|fail)
      (refine aV Tryz.results122 (aB rfl) (List.Sublist.refl _) ?_)
      rfl
    | some ad =>
      obtain⟨g,rfl⟩:∃ g,ad=⟨g,0,none⟩:=by
        rcases hr.2 with ⟨_,h,_⟩|⟨g,_,h,_⟩
        · cases h
        · injection h with h;exact⟨g,h⟩
      have hc:0<c:=by
        rcases hA with h|h
        · cases h
        · exact h
      (refine aL Tryz.func122 rfl Tryz.ntmps122 rfl ?_;intro w0)
      repeat' (first|(refine aG ?_;refine pu9 ?_)|refine bS ?_|fail)
      refine bT (id:=1) _ mixed (List.Sublist.refl _) ?_;refine gt9 0 ?_;refine gt9 1 ?_;refine gt9 2 ?_;refine gt9 3 ?_;refine gO 4 rfl rfl (q_slData rfl hc) ?_;refine gt9 5 ?_;refine gt9 6 ?_;refine gt9 7 ?_;refine gt9 8 ?_;refine gt9 9 ?_;refine bM (i:=10) rfl ?_;(refine aI (q_ustr0 rfl rfl) ?_);refine gt9 11 ?_;refine bC (by kernel_rfl) vl9 vl9 cC ?_
      repeat' (first|refine gx9 ?_|fail)
      (refine aV Tryz.results122 (aB rfl) (List.Sublist.refl _) ?_)
      rfl
  | cons b l =>
    obtain⟨g,rfl⟩:∃ g,A=some ⟨g,0,none⟩:=by
      rcases hr.2 with ⟨_,_,h,_⟩|⟨g,_,h,_⟩
      · simp at h
      · exact⟨g,h⟩
    have hc:0<c:=by
      rcases hA with h|h
      · cases h
      · exact h
    (refine aL Tryz.func122 rfl Tryz.ntmps122 rfl ?_;intro w0)
    repeat' (first|(refine aG ?_;refine pu9 ?_)|refine bS ?_|fail)
    refine bT (id:=1) _ mixed (List.Sublist.cons_cons _ (List.nil_sublist _)) ?_;refine gt9 0 ?_;refine gt9 1 ?_;refine gt9 2 ?_;refine gt9 3 ?_;refine gO 4 rfl rfl (q_slData rfl hc) ?_;refine gt9 5 ?_;refine gt9 6 ?_;refine gt9 7 ?_;refine gt9 8 ?_;refine gt9 9 ?_;refine bM (i:=10) rfl ?_;(refine gw_ustr rfl und_uptr u8_cell rfl rfl rfl hr bD (by simp) rfl ?_);refine gt9 11 ?_;refine bC (by kernel_rfl) vl9 vl9 cC ?_
    repeat' (first|refine gx9 ?_|fail)
    (refine aV Tryz.results122 (aB rfl) (List.Sublist.refl _) ?_)
    rfl
end
section
theorem ext_index:ExternIs Tryz.prog 211 Extern.BytealgIndexByte.indexByte:=⟨fun args w=>run_callFunc_extern Tryz.func211 (by kernel_rfl) (by kernel_rfl) (by kernel_rfl) (by kernel_rfl) args w⟩
theorem eZ {V V':aE} {p:Addr} {v:Value} (h:VLe V V') (hp:V p=some v):V' p=some v:=h p v hp
abbrev slash:ByteArray:=⟨#[47]⟩
theorem slash_size:(slash.size:Int)=1:=rfl
theorem ex_take9 (l:List UInt8) (n:Nat):(⟨l.toArray⟩:ByteArray).extract 0 n=⟨(l.take n).toArray⟩:=by
  rw [ba_is ((⟨l.toArray⟩:ByteArray).extract 0 n),Lib.toList_data]
  simp [ByteArray.data_extract]
theorem ex_drop9 (l:List UInt8) (n:Nat):(⟨l.toArray⟩:ByteArray).extract n (⟨l.toArray⟩:ByteArray).size=⟨(l.drop n).toArray⟩:=by
  rw [ba_is ((⟨l.toArray⟩:ByteArray).extract n (⟨l.toArray⟩:ByteArray).size),Lib.toList_data]
  simp [ByteArray.data_extract,oZ]
  exact List.take_of_length_le (by rw [List.length_drop];omega)
section
variable {P : Program} {B : Base} {N : Nat} {Q : Exit → Act → World → Prop} {k : List kC} {F : List (Nat × Value)} {V : aE} {L : List Box}
variable {d : Option Tmp} {ty : TypeId} {pos : String} {af : Array Edge} {gd : Option (Nat × Bool)} {T0 : TypeId} {ops : Array Oper} {rest : List Oper}
theorem St.perm {w:World} {L':List Box} (hs:St B V L w) (hp:L'.Perm L):St B V L' w :=
  ⟨hs.ext,fun p v h=>⟨(hs.view p v h).1,fun b hb=>(hs.view p v h).2 b (hp.mem_iff.1 hb)⟩,hs.old,hs.v0,fun b hb=>hs.own b (hp.mem_iff.1 hb),(hp.map Box.g).nodup_iff.2 hs.nodup⟩
end
attribute [local irreducible] AtQ GoC GoL GoW QO QP Fn RV bF aD VLe bU bA
theorem IndexByte_c (V:aE) (l:List UInt8):Fn Tryz.prog 196 [.string ⟨l.toArray⟩,.int .u8 47] V fun v _=>v=.int .i64 (Lib.indexByte l 47):=by
  (refine aN Tryz.func196 rfl Tryz.ntmps196 rfl ?_;intro w0)
  repeat' (first|(refine aG ?_;first|(refine aC ?_;refine aI (q_extern ext_index rfl (fun w=>Lib.run_indexByteString _ _ w)) ?_)|refine pu9 ?_)|refine fG ?_|(refine aJ rfl rfl rfl ?_ ?_<;>intro hq<;>try exact no9)|(refine cN rfl rfl rfl ?_ ?_<;>intro hq)|(refine aA rfl ?_ ?_<;>intro hq<;>try exact no9)|(refine bY rfl ?_ ?_<;>intro hq))
  all_goals (refine aR Tryz.results196 (aB rfl) ?_)
  all_goals rfl
theorem Index_c (V:aE) (l:List UInt8):Fn Tryz.prog 192 [.string ⟨l.toArray⟩,.string slash] V fun v _=>v=.int .i64 (Lib.indexByte l 47):=by
  have hs:=slash_size
  have hc:slash[(0:Int).toNat]?=some 47:=by rfl
  (refine aN Tryz.func192 rfl Tryz.ntmps192 rfl ?_;intro w0)
  repeat' (first|(refine aG ?_;first|(refine aC ?_;refine aO rfl (aK ⟨Tryz.call196⟩ rfl (IndexByte_c _ l)) ?_)|(refine iL ?_;refine aI (rU und_9 rfl rfl (by omega) (by assumption)) ?_)|refine pu9 ?_)|refine dL ?_|(refine aA rfl ?_ ?_<;>intro hq<;>try exact no9))
  · (refine aR Tryz.results192 (aB rfl) ?_)
    have e:l=[47]:=by have:=congrArg ByteArray.toList hq;rw [oW,oW] at this;exact this.symm
    rw [e];rfl
  · (refine aR Tryz.results192 (aB rfl) ?_)
    rfl
def cutL (l:List UInt8):Value:=if 0≤Lib.indexByte l 47 then .tuple #[.string ⟨(l.take (Lib.indexByte l 47).toNat).toArray⟩,.string ⟨(l.drop ((Lib.indexByte l 47).toNat+1)).toArray⟩,.bool true] else .tuple #[.string ⟨l.toArray⟩,.string ⟨#[]⟩,.bool false]
theorem Cut_lc (V:aE) (l:List UInt8) (hl:l.length≤1000000):Fn Tryz.prog 181 [.string ⟨l.toArray⟩,.string slash] V fun v _=>v=cutL l:=by
  have hs:=slash_size
  have hsz:=oZ l
  have hI:=Index_c V l
  unfold cutL
  by_cases h0:0≤Lib.indexByte l 47
  · obtain⟨_,_,h3⟩:=index_at h0
    rw [if_pos h0]
    (refine aN Tryz.func181 rfl Tryz.ntmps181 rfl ?_;intro w0)
    repeat' (first|(refine aG ?_;first|(refine aC ?_;refine aO rfl (aK ⟨Tryz.call192⟩ rfl (hI)) ?_)|(refine fW ?_;(first|refine aI (rA und_9 rfl rfl (by omega)) ?_|refine aI (vJ und_9 rfl rfl (by omega)) ?_))|refine pu9 ?_)|refine bS ?_|(refine aA rfl ?_ ?_<;>intro hq<;>try exact no9)|refine cO (id:=3) mixed (by kernel_rfl) ?_)
    all_goals (refine jW Tryz.results181 (aB rfl) (aB rfl) (aB rfl) ?_)
    all_goals (rw [ex_take9,ex_drop9,show (Lib.indexByte l 47+(slash.size:Int)).toNat=(Lib.indexByte l 47).toNat+1 by omega])
  · rw [if_neg h0]
    (refine aN Tryz.func181 rfl Tryz.ntmps181 rfl ?_;intro w0)
    repeat' (first|(refine aG ?_;first|(refine aC ?_;refine aO rfl (aK ⟨Tryz.call192⟩ rfl (hI)) ?_)|refine pu9 ?_)|refine bS ?_|(refine aA rfl ?_ ?_<;>intro hq<;>try exact no9))
    all_goals (refine jW Tryz.results181 (aB rfl) (aB rfl) (aB rfl) ?_)
    all_goals rfl
theorem SCut_c (V:aE) (l:List UInt8) (hl:l.length≤1000000):Fn Tryz.prog 148 [.string ⟨l.toArray⟩,.string slash] V fun v _=>v=cutL l:=by
  have hC:=Cut_lc V l hl
  unfold cutL at *
  by_cases h0:0≤Lib.indexByte l 47
  · rw [if_pos h0] at hC ⊢
    (refine aN Tryz.func148 rfl Tryz.ntmps148 rfl ?_;intro w0)
    repeat' (first|(refine aG ?_;first|(refine aC ?_;refine aO rfl (aK ⟨Tryz.call181⟩ rfl (hC)) ?_)|refine pu9 ?_)|refine fG ?_|(refine aJ rfl rfl rfl ?_ ?_<;>intro hq<;>try exact no9)|(refine cN rfl rfl rfl ?_ ?_<;>intro hq)|(refine aA rfl ?_ ?_<;>intro hq<;>try exact no9)|(refine bY rfl ?_ ?_<;>intro hq))
    all_goals (refine jW Tryz.results148 (aB rfl) (aB rfl) (aB rfl) ?_)
    all_goals rfl
  · rw [if_neg h0] at hC ⊢
    (refine aN Tryz.func148 rfl Tryz.ntmps148 rfl ?_;intro w0)
    repeat' (first|(refine aG ?_;first|(refine aC ?_;refine aO rfl (aK ⟨Tryz.call181⟩ rfl (hC)) ?_)|refine pu9 ?_)|refine fG ?_|(refine aJ rfl rfl rfl ?_ ?_<;>intro hq<;>try exact no9)|(refine cN rfl rfl rfl ?_ ?_<;>intro hq)|(refine aA rfl ?_ ?_<;>intro hq<;>try exact no9)|(refine bY rfl ?_ ?_<;>intro hq))
    all_goals (refine jW Tryz.results148 (aB rfl) (aB rfl) (aB rfl) ?_)
    all_goals rfl
end
section
theorem take_ne {α:Type} {xs ys:List α} {k n:Nat} {a b:α} (hx:xs[k]?=some a) (hy:ys[k]?=some b) (h:¬a=b) (hk:k<n):¬xs.take n=ys.take n:=fun e=>by
  have:=congrArg (fun l=>l[k]?) e
  simp only [List.getElem?_take,if_pos hk,hx,hy] at this
  exact h (Option.some.inj this)
theorem underB_no {xs ys:List ByteArray} (h:¬xs.length≤ys.length):rS xs ys=false:=by unfold rS;rw [decide_eq_false h];rfl
theorem underB_ne {xs ys:List ByteArray} (h:¬xs=ys.take xs.length):rS xs ys=false:=by unfold rS;rw [decide_eq_false h,Bool.and_false]
theorem underB_yes {xs ys:List ByteArray} (h1:xs.length≤ys.length) (h:xs=ys.take xs.length):rS xs ys=true:=by unfold rS;rw [decide_eq_true h1,decide_eq_true h];rfl
theorem name_size {s:ByteArray} (h:fS s.toList=true):s.size≤12:=((nameZ_iff s).1 h).2.1
theorem pnot_t {b:Bool} (h:(!b)=true):b=false:=by cases b<;>simp_all
theorem pnot_f {b:Bool} (h:(!b)=false):b=true:=by cases b<;>simp_all
attribute [local irreducible] AtQ GoC GoL GoW QO QP Fn RV bF aD VLe bU bA
theorem Under_c (V:aE) (A B:Option Addr) (n c m e:Nat) (xs ys:List ByteArray) (h:cV V A n xs) (g:cV V B m ys):Fn Tryz.prog 98 [.slice A n c,.slice B m e] V fun v _=>v=.bool (rS xs ys):=by
  have hl:=h.1.1
  have gl:=g.1.1
  have hm:=h.1.max
  have gm:=g.1.max
  (refine aN Tryz.func98 rfl Tryz.ntmps98 rfl ?_;intro w0)
  repeat' (first|(refine aG ?_;refine pu9 ?_)|refine cM ?_|(refine aA rfl ?_ ?_<;>intro hq<;>try exact no9))
  · (refine aR Tryz.results98 (aB rfl) ?_)
    rw [underB_no (by omega)]
  · refine bZ (fun F V' L' m'=>∃ k:Nat,V=V'∧[]=L'∧k≤n∧xs.take k=ys.take k∧m'=n - k∧F=[(1,.slice B m e),(12,.slice A n c),(13,.int .i64 n),(14,.int .i64 k)]) (m:=n) ⟨0,rfl,rfl,Nat.zero_le _,rfl,by omega,rfl⟩ bG rfl sl9 ?_
    rintro F V' L' m' ⟨k,rfl,rfl,hk,ht,rfl,rfl⟩
    by_cases hlt:k<n
    · obtain⟨b1,o1,x,rfl,hx,hc1,_⟩:=h.at_ hlt
      obtain⟨b2,o2,y,rfl,hy,hc2,_⟩:=g.at_ (k:=k) (by omega)
      repeat' (first|(refine aG ?_;refine pu9 ?_)|refine cM ?_|(refine aA rfl ?_ ?_<;>intro hq<;>try exact no9))
      all_goals first
        | ((refine aR Tryz.results98 (aB rfl) ?_);rw [underB_ne (fun e=>take_ne (n:=xs.length) hx hy (fun e2=>hq e2.symm) (by omega) (by rw [List.take_length];exact e))];done)
        | (refine aY _ (n - (k+1)) ⟨k+1,rfl,rfl,by omega,take_next hx hy ht (Decidable.not_not.1 hq).symm,rfl,rfl⟩ (by omega) bG sl9)
    · repeat' (first|(refine aG ?_;refine pu9 ?_)|refine eT ?_|(refine aA rfl ?_ ?_<;>intro hq<;>try exact no9))
      (refine aR Tryz.results98 (aB rfl) ?_)
      obtain rfl:k=n:=by omega
      rw [underB_yes (by omega) (by rw [hl,←ht,List.take_of_length_le (by omega)])]
theorem cV.take {V:aE} {A:Option Addr} {n k:Nat} {xs:List ByteArray} (h:cV V A n xs) (hk:k≤n):cV V A k (xs.take k):=⟨h.1.take hk,fun x hx=>h.2 x (List.mem_of_mem_take hx)⟩
end
end Go.Proofs.YtejkmomfpidnbacGreat
