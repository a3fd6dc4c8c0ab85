/- Walks and plain laws, part 4: what functions compute, proved once each (TreeE11, AttrE2, AttrE3, AttrE4, TreeE12, TreeE13, TopTreeP, MergeP, Rng, Rng2, Rng3, MergeE, MergeE2, TreeE14, TreeL). -/
import Derived.Test.YtejkmomfpidnbabGreatPart3
import Derived.Test.YtejkmomfpidnbabGreatPart2
import Derived.RangeFuncNested
import Derived.RangeFuncCalls
import Derived.RangeFuncLeaves
import Derived.TacticsIn
import Derived.RangeFuncBound
set_option linter.unusedSimpArgs false
set_option linter.unusedVariables false
set_option maxRecDepth 100000
set_option maxHeartbeats 40000000
namespace Go.Proofs.YtejkmomfpidnbabGreat
open Go.RowKit
section
attribute [local irreducible] AtQ GoC GoL GoW QO QP Fn RV bX aL VLe cG bT
theorem RPut_c (cut:Bool) (y:LN):∀ (l:List ByteArray) (V:aI) (x:LN) (A:Option Addr) (n c:Nat),aX V y→aX V x→cA sX x.n→bZ V A n l→n≤c →
    Fn Tryz.prog 189 [lnV x,.slice A n c,lnV y,.bool cut] V (jW cut y.n x.n l):=by
  intro l
  induction l with
  | nil =>
    intro V x A n c hy hx hmid hs hnc
    have hl:=hs.1.1
    simp at hl
    subst hl
    (refine aH Tryz.func189 rfl Tryz.ntmps189 rfl ?_;intro w0)
    repeat' (first|(refine aE ?_;first|refine st9 ?_|(refine al9 ?_;intro γ)|refine pu9 ?_)|refine cD ?_|fail)
    all_goals
      (refine bA Tryz.results189 (aS agg_70 rfl bB (by exact rfl)) (aB rfl) ?_)
      exact jW.bad (V':=V) (cut:=cut) (x:=y.n) (n:=x.n) (l:=[]) rfl (by decide)
  | cons s l ih =>
    intro V x A n c hy hx hmid hs hnc
    have hl:=hs.1.1
    have hm:=hs.1.max
    have hn0:0<n:=by rw [←hl];simp
    have hs':=hs
    obtain⟨b1,o1,s',rfl,hs0,hsc,hss⟩:=hs.at_ (k:=0) hn0
    obtain rfl:s=s':=by simpa using hs0
    have hsm:=hs.2 s (by simp)
    obtain⟨ha,hca,hd,hck,es,hk,hks⟩:=hx.inv
    have hkl:=hk.len
    have hzl:x.ks.length=x.nk:=by rw [hks,List.length_map,hk.len]
    have hmn:=hmid.here
    replace hmn:x.ks.length≤50000:=hmn.2
    have hple:=lV x.ks s
    have hkid:=kid_c V x hx s
    by_cases hkind:x.h.kind=2
    · cases l with
      | nil =>
        have hn1:n=1:=by rw [←hl];rfl
        subst hn1
        cases hia:fK x.ks s with
        | true =>
          cases cut with
          | true=>exact RPut_cut V y hy x hx hmid c _ s hs' hkind hia
          | false =>
            cases hnm:eX s.toList with
            | true=>exact RPut_at V y hy x hx hmid c _ s hs' hkind hia hnm
            | false =>
              have hN:=pC V s hss
              rw [hnm] at hN
              (refine aH Tryz.func189 rfl Tryz.ntmps189 rfl ?_;intro w0)
              repeat' (first|(refine aE ?_;first|(refine aD ?_;(first|refine aN rfl (aG ⟨Tryz.call245⟩ rfl (hkid)) ?_|refine aN rfl (aG ⟨Tryz.call221⟩ rfl (hN)) ?_))|refine st9 ?_|(refine al9 ?_;intro γ)|refine pu9 ?_)|refine cD ?_|(refine aA rfl ?_ ?_<;>intro hq<;>try exact no9)|refine bN (id:=3) mixed (by kernel_rfl) ?_)
              all_goals
                (refine bA Tryz.results189 (aS agg_70 rfl bB (by exact rfl)) (aB rfl) ?_)
                exact jW.bad (V':=V) (x:=y.n) (by rw [uV (n:=x.n) hkind,sT hnm]) (by decide)
        | false =>
          cases cut with
          | true =>
            rw [kidR_isnt (n:=x.n) hia] at hkid
            have hN:=pC V s hss
            (refine aH Tryz.func189 rfl Tryz.ntmps189 rfl ?_;intro w0)
            repeat' (first|(refine aE ?_;first|(refine aD ?_;(first|refine aN rfl (aG ⟨Tryz.call245⟩ rfl (hkid)) ?_|refine aN rfl (aG ⟨Tryz.call221⟩ rfl (hN)) ?_))|refine st9 ?_|(refine al9 ?_;intro γ)|refine pu9 ?_)|refine cD ?_|(refine aA rfl ?_ ?_<;>intro hq<;>try exact no9)|refine bN (id:=3) mixed (by kernel_rfl) ?_)
            all_goals
              (refine bA Tryz.results189 (aS agg_70 rfl bB (by exact rfl)) (aB rfl) ?_)
              exact jW.bad (V':=V) (x:=y.n) (by rw [uV (n:=x.n) hkind];exact wZ hia) (by decide)
          | false =>
            cases hnm:eX s.toList with
            | true=>exact RPut_in V y hy x hx hmid c _ s hs' hkind hia hnm
            | false =>
              have hN:=pC V s hss
              rw [hnm] at hN
              (refine aH Tryz.func189 rfl Tryz.ntmps189 rfl ?_;intro w0)
              repeat' (first|(refine aE ?_;first|(refine aD ?_;(first|refine aN rfl (aG ⟨Tryz.call245⟩ rfl (hkid)) ?_|refine aN rfl (aG ⟨Tryz.call221⟩ rfl (hN)) ?_))|refine st9 ?_|(refine al9 ?_;intro γ)|refine pu9 ?_)|refine cD ?_|(refine aA rfl ?_ ?_<;>intro hq<;>try exact no9)|refine bN (id:=3) mixed (by kernel_rfl) ?_)
              all_goals
                (refine bA Tryz.results189 (aS agg_70 rfl bB (by exact rfl)) (aB rfl) ?_)
                exact jW.bad (V':=V) (x:=y.n) (by rw [uV (n:=x.n) hkind,sT hnm]) (by decide)
      | cons t l =>
        have hn2:n=l.length+2:=by rw [←hl];rfl
        cases hia:fK x.ks s with
        | false =>
          rw [kidR_isnt (n:=x.n) hia] at hkid
          (refine aH Tryz.func189 rfl Tryz.ntmps189 rfl ?_;intro w0)
          repeat' (first|(refine aE ?_;first|(refine aD ?_;refine aN rfl (aG ⟨Tryz.call245⟩ rfl (hkid)) ?_)|refine st9 ?_|(refine al9 ?_;intro γ)|refine pu9 ?_)|refine cD ?_|(refine aJ rfl rfl rfl ?_ ?_<;>intro hq<;>try exact no9)|(refine aA rfl ?_ ?_<;>intro hq<;>try exact no9)|refine bN (id:=3) mixed (by kernel_rfl) ?_)
          all_goals
            (refine bA Tryz.results189 (aS agg_70 rfl bB (by exact rfl)) (aB rfl) ?_)
            exact jW.bad (V':=V) (x:=y.n) (pF_none (n:=x.n) hkind hia) (by decide)
        | true =>
          rw [kidR_is (n:=x.n) hkind hia,show bJ x.n.ks s=bJ x.ks s from rfl] at hkid
          have hpl:=jP hia
          obtain⟨b2,o2,e,hK1,he2,hem,hc',c0,c1,hms,hne⟩:=hk.at_ (k:=bJ x.ks s) (by omega)
          have hke:=mP hks he2
          have e1:=pF_on (cut:=cut) (x:=y.n) (n:=x.n) (s:=s) (t:=t) (l:=l) hkind hia hke
          have e2:=pN_on (cut:=cut) (x:=y.n) (n:=x.n) (s:=s) (t:=t) (l:=l) hke
          have htl:=hs'.tail hnc
          have hbd:=uR cut y.n (t :: l) e.x.n
          have hcall:=ih V e.x _ _ (c - 1) hy hne (hmid.kid (List.mem_of_getElem? hke)) htl (by omega)
          have ho:=tK es
          (refine aH Tryz.func189 rfl Tryz.ntmps189 rfl ?_;intro w0)
          repeat' (first|(refine aE ?_;first|(refine aD ?_;refine aN rfl (aG ⟨Tryz.call245⟩ rfl (hkid)) ?_)|refine st9 ?_|(refine al9 ?_;intro γ)|refine pu9 ?_)|refine cD ?_|(refine aJ rfl rfl rfl ?_ ?_<;>intro hq<;>try exact no9)|(refine aA rfl ?_ ?_<;>intro hq<;>try exact no9)|refine bN (id:=3) mixed (by kernel_rfl) ?_)
          refine bM (id:=9) _ mixed (List.Sublist.refl _) ?_;refine gt9 0 ?_;refine gt9 1 ?_;refine gt9 2 ?_;refine gt9 3 ?_;refine gt9 4 ?_;refine gt9 5 ?_;refine gt9 6 ?_;refine fP 7 rfl rfl (gM und_47 siz_9 rfl rfl (by omega)) ?_;refine gt9 8 ?_;refine gt9 9 ?_;(refine dF (i:=10) (j:=14) (by kernel_rfl) rfl rfl rfl rfl vl9 vl9 bD ?_ ?_<;>first|((refine aM rfl ⟨Tryz.call189⟩ rfl rfl (hcall) ?_;rintro v V4 hV4 ⟨z,rfl,hzN,hzn⟩);refine gt9 11 ?_;refine gt9 12 ?_;refine gt9 13 ?_;refine aY (i:=14) rfl ?_;(refine bS rfl zer_70 rfl ?_;intro γ);refine aY (i:=15) rfl ?_;refine aO rfl siz_70 rfl rfl rfl rfl bG dC rfl ?_;refine gt9 16 ?_;refine aU (by kernel_rfl) vl9 vl9 bD ?_)|((refine bS rfl zer_70 rfl ?_;intro γ);refine aY (i:=10) rfl ?_;(refine aM rfl ⟨Tryz.call189⟩ rfl rfl (hcall) ?_;rintro v V4 hV4 ⟨z,rfl,hzN,hzn⟩);refine gt9 11 ?_;refine gt9 12 ?_;refine gt9 13 ?_;refine aY (i:=15) rfl ?_;refine aO rfl siz_70 rfl rfl rfl rfl bG dC rfl ?_;refine gt9 16 ?_;refine aU (by kernel_rfl) vl9 vl9 bD ?_))
          all_goals
            repeat' (first|(refine aE ?_;first|(refine aD ?_;(refine aT rfl und_68 inf_156 rfl rfl rfl cU.nil (vU dT) (hk.le hV4).src bG (by omega) rfl rfl ?_;intro A3 c3 L3 hr3;rw [Nat.zero_add] at hr3 ⊢;rw [List.nil_append] at hr3;obtain⟨g,rest,rfl,rfl,hlen,hcap,hmax⟩:=hr3.open (by omega);have hfit:0+bJ x.ks s * 9+1+(lnC z).length≤(es.flatMap lkC ++ rest).length:=(by rw [hlen];show 0+bJ x.ks s * 9+1+8≤c3 * 9;omega)))|(refine dG ?_;refine aO rfl siz_70 rfl rfl rfl rfl bG puts9 rfl ?_)|refine st9 ?_|refine pu9 ?_)|refine bV ?_|(refine aA rfl ?_ ?_<;>intro hq<;>try exact no9))
          all_goals first
            | ((refine bA Tryz.results189 (aS agg_70 rfl bB (by exact rfl)) (aB rfl) ?_);exact jW.bad e1 (by omega))
            | skip
          all_goals
            have e0:pF cut y.n e.x.n (t :: l)=0:=by omega
            rw [spl_part (f:=lkC) nV (y:=⟨e.nm,z⟩) he2 (by show 1+8≤9;omega) rfl]
            have hlen':((es.set (bJ x.ks s) ⟨e.nm,z⟩).flatMap lkC ++ rest).length=c3 * 9:=by rw [List.length_append,kA lkC nV,List.length_set,←kA lkC nV es,←List.length_append];exact hlen
            refine eA (cU.close (g:=g) (E:=156) nV (by rw [List.length_set,hkl]) hlen' hcap hmax) bF ?_
            intro V6 hV6 hc6
            (refine bA Tryz.results189 (aS agg_70 rfl bB (by exact rfl)) (aB rfl) ?_)
            refine jW.good (z:=⟨x.h,x.A,x.na,x.ca,some ⟨g,0,none⟩,x.nk,c3,x.ks.set (bJ x.ks s) (e.nm,z.n)⟩) (n:=x.n) (e1.trans e0) (aX.of ((ha.le hV4).le hV6) hca hd hcap (eI.of hc6 (by rw [List.length_set,hkl]) (by show x.nk≤maxLen;unfold maxLen;omega) ?_) ?_) ?_
            · intro u hu
              rcases List.mem_or_eq_of_mem_set hu with hu|rfl
              · exact⟨(hk.2 u hu).1,(hk.2 u hu).2.le (VLe.trans hV4 hV6)⟩
              · exact⟨(hk.2 e hem).1,hzN.le hV6⟩
            · show x.ks.set _ _=_
              rw [hks,List.map_set];rfl
            · rw [e2]
              have hzz:z.n=pN cut y.n e.x.n (t :: l):=by rw [hzn];unfold tS;rw [if_pos e0]
              show PN.mk x.h (x.ks.set _ _)=PN.mk x.h (x.ks.set _ _)
              rw [hzz];rfl
    · (refine aH Tryz.func189 rfl Tryz.ntmps189 rfl ?_;intro w0)
      repeat' (first|(refine aE ?_;first|refine st9 ?_|(refine al9 ?_;intro γ)|refine pu9 ?_)|refine bV ?_|(refine aJ rfl rfl rfl ?_ ?_<;>intro hq<;>try exact no9)|(refine aA rfl ?_ ?_<;>intro hq<;>try exact no9))
      all_goals
        (refine bA Tryz.results189 (aS agg_70 rfl bB (by exact rfl)) (aB rfl) ?_)
        exact jW.bad (V':=V) (cut:=cut) (x:=y.n) (pF_kind (n:=x.n) (l:=s :: l) hkind) (by decide)
end
section
theorem not_t' {b:Bool} (h:(!b)=true):b=false:=by cases b<;>simp_all
theorem xN {b:Bool} (h:(!b)=false):b=true:=by cases b<;>simp_all
attribute [local irreducible] AtQ GoC GoL GoW QO QP Fn RV bX aL VLe cG bT
theorem Search_c (V:aI) (n:Nat) (hn:n≤1000000) (f:FuncId) (cs:List Value) (g:Nat→Bool) (he:kW Tryz.prog f) (hmono:∀ i j,i≤j→j<n→g i=true→g j=true)
    (hc:∀ (V':aI) (i:Nat),VLe V V'→i<n→Fn Tryz.prog f (.int .i64 i :: cs) V' fun v _=>v=.bool (g i)) :
    Fn Tryz.prog 263 [.int .i64 n,.func (.func f) #[] cs.toArray] V fun v _=>∃ k:Nat,v=.int .i64 k∧k≤n∧(∀ i,i<k→g i=false)∧∀ i,k≤i→i<n→g i=true:=by
  (refine aH Tryz.func263 rfl Tryz.ntmps263 rfl ?_;intro w0)
  repeat' (first|(refine aE ?_;first|(refine cX ?_;refine aR (q_shr rfl rfl (by omega)) ?_)|refine pu9 ?_)|refine dQ ?_|(refine aJ rfl rfl rfl ?_ ?_<;>intro hq<;>try exact no9)|(refine bU rfl rfl rfl ?_ ?_<;>intro hq)|(refine aA rfl ?_ ?_<;>intro hq<;>try exact no9)|(refine bP rfl ?_ ?_<;>intro hq))
  refine bQ (fun F V' L' m=>∃ i j:Nat,i≤j∧j≤n∧m=j - i∧V=V'∧[]=L'∧(∀ t,t<i→g t=false)∧(∀ t,j≤t→t<n→g t=true)∧F=[(1,.func (.func f) #[] cs.toArray),(5,.int .i64 i),(6,.int .i64 j)]) (m:=n) ⟨0,n,Nat.zero_le _,Nat.le_refl _,by omega,rfl,rfl,by omega,by omega,rfl⟩ bH rfl sl9 ?_
  rintro F V' L' m ⟨i,j,hij,hj,rfl,rfl,rfl,h1,h2,rfl⟩
  by_cases hlt:i<j
  · have hh:(((i+j) / 2:Nat):Int)=((i:Int)+j) / 2:=by omega
    have hci:=hc V ((i+j) / 2) (VLe.refl V) (by omega)
    rw [hh] at hci
    repeat' (first|(refine aE ?_;first|(refine cX ?_;(first|refine aR (q_half rfl rfl (by omega)) ?_|refine aR (q_shr rfl rfl (by omega)) ?_))|(refine gL ?_;(first|refine aR (q_conv und_148 und_3 rfl (wrap_i64 (by omega))) ?_|refine aR (q_conv und_3 und_148 rfl (wrap_u64 (by omega))) ?_))|(refine aD ?_;refine aN rfl (q_callv he rfl rfl (hci)) ?_)|refine pu9 ?_)|refine bW ?_|(refine aA rfl ?_ ?_<;>intro hq<;>try exact no9)|(refine bP rfl ?_ ?_<;>intro hq))
    all_goals first
      | (have hg:g ((i+j) / 2)=false:=by first|assumption|exact not_t' (by assumption)
         rw [←hh]
         refine aZ _ (j - ((i+j) / 2+1)) ⟨(i+j) / 2+1,j,by omega,hj,rfl,rfl,rfl,?_,h2,rfl⟩ (by omega) bH sl9
         intro t ht
         by_cases htt:t<i
         · exact h1 t htt
         · cases hgt:g t
           · rfl
           · rw [hmono t ((i+j) / 2) (by omega) (by omega) hgt] at hg;cases hg)
      | (have hg:g ((i+j) / 2)=true:=by first|assumption|exact xN (by assumption)
         rw [←hh]
         refine aZ _ ((i+j) / 2 - i) ⟨i,(i+j) / 2,by omega,by omega,rfl,rfl,rfl,h1,?_,rfl⟩ (by omega) bH sl9
         intro t ht htn
         exact hmono _ t ht htn hg)
  · have hij:i=j:=by omega
    subst hij
    repeat' (first|(refine aE ?_;first|(refine cX ?_;refine aR (q_shr rfl rfl (by omega)) ?_)|refine pu9 ?_)|refine dQ ?_|(refine aJ rfl rfl rfl ?_ ?_<;>intro hq<;>try exact no9)|(refine bU rfl rfl rfl ?_ ?_<;>intro hq)|(refine aA rfl ?_ ?_<;>intro hq<;>try exact no9)|(refine bP rfl ?_ ?_<;>intro hq))
    (refine aQ Tryz.results263 (aB rfl) ?_)
    exact⟨i,rfl,hj,h1,h2⟩
end
section
def belowA (nm:ByteArray) (xs:List PA) (i:Nat):Bool:=match xs[i]? with|some a=>decide (¬a.n.toList<nm.toList)|none=>true
theorem rY {nm:ByteArray} {xs:List PA} {i:Nat} {a:PA} (h:xs[i]?=some a):belowA nm xs i=decide (¬a.n.toList<nm.toList):=by rw [belowA,h]
theorem belowA_mono {nm:ByteArray} {xs:List PA} (hp:xs.Pairwise ltA) {i j:Nat} (hij:i≤j) (hj:j<xs.length) (h:belowA nm xs i=true):belowA nm xs j=true:=by
  have hi:i<xs.length:=by omega
  rw [rY (List.getElem?_eq_getElem hi)] at h
  rw [rY (List.getElem?_eq_getElem hj)]
  rcases Nat.lt_or_ge i j with hlt|hge
  · have:=List.pairwise_iff_getElem.1 hp i j hi hj hlt
    simp only [decide_eq_true_eq] at h ⊢
    intro h2
    exact h (nT this h2)
  · have:i=j:=by omega
    subst this;exact h
def nF (nm:ByteArray) (xs:List PA):Bool:=xs.any fun a=>decide (a.n=nm)
theorem eP {nm:ByteArray} {xs:List PA}:nF nm xs=true↔isA nm xs:=by simp [nF,isA]
theorem hasA_at {nm:ByteArray} {xs:List PA} (hp:xs.Pairwise ltA) {a:PA} (h:xs[atA nm xs]?=some a):nF nm xs=decide (a.n=nm):=by
  rw [Bool.eq_iff_iff,eP,wX hp,decide_eq_true_eq]
  constructor
  · rintro ⟨b,hb,e⟩;rw [h] at hb;injection hb with hb;subst hb;exact e
  · intro e;exact⟨a,h,e⟩
theorem hasA_none {nm:ByteArray} {xs:List PA} (hp:xs.Pairwise ltA) (h:¬atA nm xs<xs.length):nF nm xs=false:=by
  cases hb:nF nm xs
  · rfl
  · rw [eP,wX hp] at hb
    obtain⟨a,ha,_⟩:=hb
    rw [List.getElem?_eq_none (by omega)] at ha;cases ha
theorem getF_err {xs:List PA} {nm:ByteArray} (h:¬eR xs=0):jL xs nm=eR xs:=by unfold jL;rw [if_pos h]
theorem getF_name {xs:List PA} {nm:ByteArray} (h:eR xs=0) (h2:dH nm=0):jL xs nm=4:=by unfold jL;rw [if_neg (by omega),if_pos h2]
theorem getF_has {xs:List PA} {nm:ByteArray} (h:eR xs=0) (h2:¬dH nm=0):jL xs nm=if nF nm xs=true then 0 else 5:=by
  unfold jL
  rw [if_neg (by omega),if_neg h2]
  by_cases hi:isA nm xs
  · rw [if_pos hi,if_pos (eP.2 hi)]
  · rw [if_neg hi,if_neg (fun e=>hi (eP.1 e))]
theorem setF_err {xs:List PA} {nm vl:ByteArray} (h:¬eR xs=0):rR xs nm vl=eR xs:=by unfold rR;rw [if_pos h]
theorem setF_name {xs:List PA} {nm vl:ByteArray} (h:eR xs=0) (h2:dH nm=0):rR xs nm vl=4:=by unfold rR;rw [if_neg (by omega),if_pos h2]
theorem setF_big {xs:List PA} {nm vl:ByteArray} (h:eR xs=0) (h2:¬dH nm=0) (h3:20<vl.size):rR xs nm vl=1:=by unfold rR;rw [if_neg (by omega),if_neg h2,if_pos h3]
theorem setF_has {xs:List PA} {nm vl:ByteArray} (h:eR xs=0) (h2:¬dH nm=0) (h3:¬20<vl.size):rR xs nm vl=if nF nm xs=false∧xs.length=4 then 2 else 0:=by
  unfold rR
  rw [if_neg (by omega),if_neg h2,if_neg h3]
  have e:(¬isA nm xs)↔nF nm xs=false:=by rw [←eP];simp
  by_cases hh:¬isA nm xs∧xs.length=4
  · rw [if_pos hh,if_pos ⟨e.1 hh.1,hh.2⟩]
  · rw [if_neg hh,if_neg (fun h=>hh ⟨e.2 h.1,h.2⟩)]
theorem setA_has {xs:List PA} {nm vl:ByteArray}:nK xs nm vl=xs.take (atA nm xs) ++ ⟨nm,vl⟩ :: xs.drop (if nF nm xs=true then atA nm xs+1 else atA nm xs):=by
  unfold nK
  by_cases hi:isA nm xs
  · rw [if_pos hi,if_pos (eP.2 hi)]
  · rw [if_neg hi,if_neg (fun e=>hi (eP.1 e))]
def AttrRes (f:Int) (zs:List PA) (v:Value) (V:aI):Prop :=
  (f=0∧∃ A c,v=.tuple #[.slice A zs.length c,bT 0]∧eH V A zs.length zs∧zs.length≤c)∨(¬f=0∧v=.tuple #[.slice none 0 0,bT f])
theorem mE {f g:Int} {zs:List PA} {V:aI} (h:f=g) (h0:¬g=0):AttrRes f zs (.tuple #[.slice none 0 0,bT g]) V:=by subst h;exact .inr ⟨h0,rfl⟩
theorem jR {V:aI} {A:Option Addr} {n:Nat} {xs:List PA} (h:eU V 2 A n (xs.flatMap paC)) (hl:xs.length=n) (hm:n≤1000000) (hb:∀ a∈xs,a.n.size≤maxLen∧a.v.size≤maxLen):eH V A n xs :=
  ⟨eT.of_cells h pa_len hl (by unfold maxLen;omega),hb⟩
theorem cells_zero {V:aI} {b:Nat} {v:Value} (h:aL V b 0 [v]):V ⟨b,0,none⟩=some v:=h 0 v rfl
theorem vle_at {V V':aI} (h:VLe V V') {p:Addr} {x:Value} (hp:V p=some x):V' p=some x:=h p x hp
attribute [local irreducible] AtQ GoC GoL GoW QO QP Fn RV bX aL VLe cG bT
theorem place1_c (V:aI) (p q:Nat) (A:Option Addr) (n c:Nat) (xs:List PA) (nm:ByteArray) (h:eH V A n xs) (h1:V ⟨p,0,none⟩=some (.slice A n c)) (h2:V ⟨q,0,none⟩=some (.string nm)) (i:Nat) (hi:i<n) :
    Fn Tryz.prog 264 [.int .i64 i,.pointer (some ⟨p,0,none⟩),.pointer (some ⟨q,0,none⟩)] V fun v _=>v=.bool (belowA nm xs i):=by
  obtain⟨bb,off,a,rfl,hx,hc,c0,c1,_,_⟩:=h.at_ hi
  (refine aH Tryz.func264 rfl Tryz.ntmps264 rfl ?_;intro w0)
  repeat' (first|(refine aE ?_;first|(refine cX ?_;refine aR (q_sgeq rfl rfl) ?_)|refine pu9 ?_)|refine bV ?_|refine bN (id:=1) mixed (by kernel_rfl) ?_)
  (refine aQ Tryz.results264 (aB rfl) ?_)
  rw [rY hx]
theorem place_c (V:aI) (A:Option Addr) (n c:Nat) (xs:List PA) (nm:ByteArray) (h:eH V A n xs) (hp:xs.Pairwise ltA) (hn:n≤1000) :
    Fn Tryz.prog 238 [.slice A n c,.string nm] V fun v _=>v=.tuple #[.int .i64 (atA nm xs),.bool (nF nm xs)]:=by
  have hl:=h.1.1
  have hm:=h.1.max
  (refine aH Tryz.func238 rfl Tryz.ntmps238 rfl ?_;intro w0)
  repeat' (first|(refine aE ?_;first|(refine al9 ?_;intro γ)|refine pu9 ?_)|refine bV ?_|fail)
  refine gw_retire rfl (gH.here _ _ _ _) ?_
  intro V1 hV1 hs1
  refine gw_retire rfl (gH.here _ _ _ _) ?_
  intro V2 hV2 hs2
  have h1:=cells_zero hs2
  have h2:=vle_at hV2 (cells_zero hs1)
  have hS:=fun p q (h1:V2 ⟨p,0,none⟩=some (.slice A n c)) (h2:V2 ⟨q,0,none⟩=some (.string nm))=>Search_c V2 n (by omega) 264 [.pointer (some ⟨p,0,none⟩),.pointer (some ⟨q,0,none⟩)] (belowA nm xs) ⟨Tryz.call264⟩ (fun i j hij hj hg=>belowA_mono hp hij (by omega) hg)
    (fun V' i hV' hi=>place1_c V' p q A n c xs nm ((h.le (hV1.trans hV2)).le hV') (vle_at hV' h1) (vle_at hV' h2) i hi)
  repeat' (first|(refine aE ?_;first|(refine aD ?_;(refine aM rfl ⟨Tryz.call263⟩ rfl rfl (hS _ _ h1 h2) ?_;rintro v V3 hV3 ⟨k,rfl,hk,hk1,hk2⟩))|refine pu9 ?_)|refine gx9 ?_|fail)
  have hka:k=atA nm xs:=atA_of hp (by omega) (fun j a hj ha=>by
      have:=hk1 j hj
      rw [rY ha] at this
      simpa using this) (fun j a hj ha=>by
      have hjn:j<n:=by
        rcases Nat.lt_or_ge j n with h|h
        · exact h
        · rw [List.getElem?_eq_none (by omega)] at ha;cases ha
      have:=hk2 j hj hjn
      rw [rY ha] at this
      simpa using this)
  subst hka
  have h1':=vle_at hV3 h1
  have h2':=vle_at hV3 h2
  have h3:=h.le (hV1.trans (hV2.trans hV3))
  by_cases hlt:atA nm xs<n
  · obtain⟨bb,off,a,rfl,hx,hc,c0,c1,_,_⟩:=h3.at_ hlt
    have hha:=hasA_at hp hx
    repeat' (first|(refine aE ?_;refine pu9 ?_)|refine gx9 ?_|(refine aJ rfl rfl rfl ?_ ?_<;>intro hq<;>try exact no9)|refine bN (id:=2) mixed (by kernel_rfl) ?_)
    all_goals (refine bA Tryz.results238 (aB rfl) (aB rfl) ?_)
    all_goals first|(rw [hha];done)|rfl|exact no9
  · have hha:=hasA_none hp (show ¬atA nm xs<xs.length by omega)
    repeat' (first|(refine aE ?_;refine pu9 ?_)|refine gx9 ?_|(refine aJ rfl rfl rfl ?_ ?_<;>intro hq<;>try exact no9)|refine bN (id:=2) mixed (by kernel_rfl) ?_)
    all_goals (refine bA Tryz.results238 (aB rfl) (aB rfl) ?_)
    all_goals first|(rw [hha];done)|rfl|exact no9
end
section
noncomputable def GetR (xs:List PA) (nm:ByteArray):Value:=.tuple #[.string (if nF nm xs=true∧jL xs nm=0 then getA nm xs else ⟨#[]⟩),bT (jL xs nm)]
theorem getR_bad {xs:List PA} {nm:ByteArray} {f:Int} (h:jL xs nm=f) (h0:¬f=0):Value.tuple #[.string ⟨#[]⟩,bT f]=GetR xs nm:=by
  subst h;unfold GetR;rw [if_neg (fun e=>h0 e.2)]
theorem getR_ok {xs:List PA} {nm:ByteArray} (h:jL xs nm=0) (hh:nF nm xs=true):Value.tuple #[.string (getA nm xs),bT 0]=GetR xs nm:=by
  unfold GetR;rw [if_pos ⟨hh,h⟩,h]
theorem tn1 (a:Nat):((a:Int)+1).toNat=a+1:=by omega
theorem ev1:Value.iface 120 (.int .i64 1)=bT 1:=dE 1 rfl
theorem ev2:Value.iface 120 (.int .i64 2)=bT 2:=dE 2 rfl
theorem ev4:Value.iface 120 (.int .i64 4)=bT 4:=dE 4 rfl
theorem ev5:Value.iface 120 (.int .i64 5)=bT 5:=dE 5 rfl
attribute [local irreducible] AtQ GoC GoL GoW QO QP Fn RV bX aL VLe cG bT
theorem Get_c (V:aI) (A:Option Addr) (n c:Nat) (xs:List PA) (nm:ByteArray) (h:eH V A n xs) (hm2:nm.size≤9223372036854775807):Fn Tryz.prog 171 [.slice A n c,.string nm] V fun v _=>v=GetR xs nm:=by
  have hl:=h.1.1
  have hm:=h.1.max
  have hbd:=kY xs
  by_cases h0:eR xs=0
  · obtain⟨r1,r2,r3⟩:=kB h0
    by_cases hc:dH nm=0
    · (refine aH Tryz.func171 rfl Tryz.ntmps171 rfl ?_;intro w0)
      repeat' (first|(refine aE ?_;first|(refine aD ?_;(first|refine aN rfl (aG ⟨Tryz.call239⟩ rfl (lB _ _ _ _ xs h)) ?_|refine aN rfl (aG ⟨Tryz.call166⟩ rfl (kQ _ nm hm2)) ?_))|refine pu9 ?_)|refine bV ?_|(refine aA rfl ?_ ?_<;>intro hq<;>try exact no9))
      all_goals (refine bA Tryz.results171 (aB rfl) (aB rfl) ?_)
      rw [ev4]
      exact getR_bad (f:=4) (getF_name h0 hc) (by decide)
    · have hg:=getF_has (nm:=nm) h0 hc
      cases hh:nF nm xs with
      | true =>
        obtain⟨a,ha,hn⟩:=(wX r2).1 (eP.1 hh)
        have hlt:atA nm xs<n:=by
          rcases Nat.lt_or_ge (atA nm xs) n with h|h
          · exact h
          · rw [List.getElem?_eq_none (by omega)] at ha;cases ha
        obtain⟨bb,off,a',rfl,hx,hcc,c0,c1,_,_⟩:=h.at_ hlt
        have hga:getA nm xs=a'.v:=by rw [getA,hx];rfl
        have hpl:=place_c V (some ⟨bb,off,none⟩) n c xs nm h r2 (by omega)
        rw [hh] at hpl
        rw [hh] at hg
        (refine aH Tryz.func171 rfl Tryz.ntmps171 rfl ?_;intro w0)
        repeat' (first|(refine aE ?_;first|(refine aD ?_;(first|refine aN rfl (aG ⟨Tryz.call239⟩ rfl (lB _ _ _ _ xs h)) ?_|refine aN rfl (aG ⟨Tryz.call166⟩ rfl (kQ _ nm hm2)) ?_|refine aN rfl (aG ⟨Tryz.call238⟩ rfl (hpl)) ?_))|refine pu9 ?_)|refine cD ?_|(refine aA rfl ?_ ?_<;>intro hq<;>try exact no9))
        all_goals (refine bA Tryz.results171 (aB rfl) (aB rfl) ?_)
        have:=getR_ok (by rw [hg];rfl) hh
        rw [hga,dA] at this
        exact this
      | false =>
        have hpl:=place_c V A n c xs nm h r2 (by omega)
        rw [hh] at hpl
        rw [hh] at hg
        (refine aH Tryz.func171 rfl Tryz.ntmps171 rfl ?_;intro w0)
        repeat' (first|(refine aE ?_;first|(refine aD ?_;(first|refine aN rfl (aG ⟨Tryz.call239⟩ rfl (lB _ _ _ _ xs h)) ?_|refine aN rfl (aG ⟨Tryz.call166⟩ rfl (kQ _ nm hm2)) ?_|refine aN rfl (aG ⟨Tryz.call238⟩ rfl (hpl)) ?_))|refine pu9 ?_)|refine cD ?_|(refine aA rfl ?_ ?_<;>intro hq<;>try exact no9))
        all_goals (refine bA Tryz.results171 (aB rfl) (aB rfl) ?_)
        rw [ev5]
        exact getR_bad (f:=5) (by rw [hg];rfl) (by decide)
  · (refine aH Tryz.func171 rfl Tryz.ntmps171 rfl ?_;intro w0)
    repeat' (first|(refine aE ?_;first|(refine aD ?_;refine aN rfl (aG ⟨Tryz.call239⟩ rfl (lB _ _ _ _ xs h)) ?_)|refine pu9 ?_)|refine bV ?_|(refine aA rfl ?_ ?_<;>intro hq<;>try exact no9))
    all_goals (refine bA Tryz.results171 (aB rfl) (aB rfl) ?_)
    exact getR_bad (getF_err h0) h0
theorem wR {V:aI} {A:Option Addr} {n c k:Nat} {xs:List PA} (h:eH V A n xs) (hk:k≤n) (hc:n≤c):eU V 2 (xL A c k 2) (n - k) ((xs.drop k).flatMap paC):=(h.1.drop hk hc).cells pa_len
theorem xP {V:aI} {A:Option Addr} {n k:Nat} {xs:List PA} (h:eH V A n xs) (hk:k≤n):eU V 2 A k ((xs.take k).flatMap paC):=(h.1.take hk).cells pa_len
theorem Set_c (V:aI) (A:Option Addr) (n c:Nat) (xs:List PA) (nm vl:ByteArray) (h:eH V A n xs) (hcap:n≤c) (hm2:nm.size≤maxLen) (hm3:vl.size≤maxLen):Fn Tryz.prog 169 [.slice A n c,.string nm,.string vl] V (AttrRes (rR xs nm vl) (nK xs nm vl)):=by
  have hl:=h.1.1
  have hm:=h.1.max
  have hbd:=kY xs
  have hmx:maxLen≤9223372036854775807:=by unfold maxLen;omega
  by_cases h0:eR xs=0
  · obtain⟨r1,r2,r3⟩:=kB h0
    by_cases hc:dH nm=0
    · (refine aH Tryz.func169 rfl Tryz.ntmps169 rfl ?_;intro w0)
      repeat' (first|(refine aE ?_;first|(refine aD ?_;(first|refine aN rfl (aG ⟨Tryz.call239⟩ rfl (lB _ _ _ _ xs h)) ?_|refine aN rfl (aG ⟨Tryz.call166⟩ rfl (kQ _ nm (by omega))) ?_))|refine pu9 ?_)|refine bV ?_|(refine aA rfl ?_ ?_<;>intro hq<;>try exact no9))
      all_goals (refine bA Tryz.results169 (aB rfl) (aB rfl) ?_)
      rw [ev4]
      exact mE (g:=4) (setF_name h0 hc) (by decide)
    · by_cases hv:20<vl.size
      · (refine aH Tryz.func169 rfl Tryz.ntmps169 rfl ?_;intro w0)
        repeat' (first|(refine aE ?_;first|(refine aD ?_;(first|refine aN rfl (aG ⟨Tryz.call239⟩ rfl (lB _ _ _ _ xs h)) ?_|refine aN rfl (aG ⟨Tryz.call166⟩ rfl (kQ _ nm (by omega))) ?_))|refine pu9 ?_)|refine bV ?_|(refine aA rfl ?_ ?_<;>intro hq<;>try exact no9))
        all_goals (refine bA Tryz.results169 (aB rfl) (aB rfl) ?_)
        rw [ev1]
        exact mE (g:=1) (setF_big h0 hc hv) (by decide)
      · have hs:=setF_has (nm:=nm) (vl:=vl) h0 hc hv
        have hz:=setA_has (xs:=xs) (nm:=nm) (vl:=vl)
        have hle:=atA_le nm xs
        have hpl:=place_c V A n c xs nm h r2 (by omega)
        have hgood:∀ a∈nK xs nm vl,a.n.size≤maxLen∧a.v.size≤maxLen:=fun a ha=>by
          rcases (setA_mem r2 nm vl a).1 ha with rfl|⟨ha,_⟩
          · exact⟨hm2,hm3⟩
          · exact h.2 a ha
        have hlen:=setA_len nm vl r2
        cases hh:nF nm xs with
        | true =>
          have hlz:=hlen.1 (eP.1 hh)
          obtain⟨a,ha,_⟩:=(wX r2).1 (eP.1 hh)
          have hlt:atA nm xs<n:=by
            rcases Nat.lt_or_ge (atA nm xs) n with h|h
            · exact h
            · rw [List.getElem?_eq_none (by omega)] at ha;cases ha
          rw [hh] at hpl hs hz
          rw [if_pos rfl,←tn1] at hz
          have hdr:=wR (k:=((atA nm xs:Int)+1).toNat) h (by omega) hcap
          (refine aH Tryz.func169 rfl Tryz.ntmps169 rfl ?_;intro w0)
          repeat' (first|(refine aE ?_;first|(refine aD ?_;(first|refine aN rfl (aG ⟨Tryz.call239⟩ rfl (lB _ _ _ _ xs h)) ?_|refine aN rfl (aG ⟨Tryz.call166⟩ rfl (kQ _ nm (by omega))) ?_|refine aN rfl (aG ⟨Tryz.call238⟩ rfl (hpl)) ?_|(refine aT rfl und_67 inf_271 rfl rfl rfl cU.nil dT (fW (xP (k:=atA nm xs) h (by omega))) bG (by omega) rfl rfl ?_;intro A1 c1 L1 hr1)|(refine aT rfl und_67 inf_271 rfl rfl rfl hr1 bF (cZ bB rfl) bG (by omega) rfl rfl ?_;intro A2 c2 L2 hr2)|(refine aT rfl und_67 inf_271 rfl rfl rfl hr2 bF (fW hdr) bG (by omega) rfl rfl ?_;intro A3 c3 L3 hr3;have hcap3:=hr3.cap)))|(refine eG ?_;(first|refine aR (cE und_67 siz_271 rfl rfl (by omega)) ?_|refine aR (gM und_67 siz_271 rfl rfl (by omega)) ?_))|(refine cJ ?_;(refine aP rfl und_67 siz_271 zec_271 rfl rfl rfl rfl rfl rfl rfl ?_;intro γ))|refine pu9 ?_)|refine cD ?_|(refine aA rfl ?_ ?_<;>intro hq<;>try exact no9))
          all_goals first
            | (refine eA hr3 bF ?_
               intro V2 hV2 hc3
               (refine bA Tryz.results169 (aB rfl) (aB rfl) ?_)
               have hf0:rR xs nm vl=0:=by rw [hs,if_neg (by simp)]
               have hcells:([] ++ (xs.take (atA nm xs)).flatMap paC ++ [.string nm,.string vl] ++ (xs.drop (((atA nm xs:Int)+1).toNat)).flatMap paC:List Value)=(nK xs nm vl).flatMap paC:=by rw [hz,List.flatMap_append,List.flatMap_cons];simp
               have hN:0+atA nm xs+1+(n - (((atA nm xs:Int)+1).toNat))=(nK xs nm vl).length:=by rw [hlz];omega
               have hM:eH V2 A3 _ (nK xs nm vl):=jR (hcells▸hc3) hN.symm (by omega) hgood
               exact .inl ⟨hf0,A3,c3,by rw [←hN,dA],hN▸hM,hN▸hcap3⟩)
            | ((refine bA Tryz.results169 (aB rfl) (aB rfl) ?_)
               rw [ev2]
               exact mE (g:=2) (by rw [hs,if_pos ⟨rfl,by omega⟩]) (by decide))
        | false =>
          have hlz:=hlen.2 (fun e=>by rw [←eP,hh] at e;cases e)
          rw [hh] at hpl hs hz
          rw [if_neg (by simp)] at hz
          have hdr:=wR (k:=atA nm xs) h (by omega) hcap
          (refine aH Tryz.func169 rfl Tryz.ntmps169 rfl ?_;intro w0)
          repeat' (first|(refine aE ?_;first|(refine aD ?_;(first|refine aN rfl (aG ⟨Tryz.call239⟩ rfl (lB _ _ _ _ xs h)) ?_|refine aN rfl (aG ⟨Tryz.call166⟩ rfl (kQ _ nm (by omega))) ?_|refine aN rfl (aG ⟨Tryz.call238⟩ rfl (hpl)) ?_|(refine aT rfl und_67 inf_271 rfl rfl rfl cU.nil dT (fW (xP (k:=atA nm xs) h (by omega))) bG (by omega) rfl rfl ?_;intro A1 c1 L1 hr1)|(refine aT rfl und_67 inf_271 rfl rfl rfl hr1 bF (cZ bB rfl) bG (by omega) rfl rfl ?_;intro A2 c2 L2 hr2)|(refine aT rfl und_67 inf_271 rfl rfl rfl hr2 bF (fW hdr) bG (by omega) rfl rfl ?_;intro A3 c3 L3 hr3;have hcap3:=hr3.cap)))|(refine eG ?_;(first|refine aR (cE und_67 siz_271 rfl rfl (by omega)) ?_|refine aR (kK und_67 siz_271 rfl rfl (by omega)) ?_))|(refine cJ ?_;(refine aP rfl und_67 siz_271 zec_271 rfl rfl rfl rfl rfl rfl rfl ?_;intro γ))|refine pu9 ?_)|refine cD ?_|(refine aA rfl ?_ ?_<;>intro hq<;>try exact no9))
          all_goals first
            | (refine eA hr3 bF ?_
               intro V2 hV2 hc3
               (refine bA Tryz.results169 (aB rfl) (aB rfl) ?_)
               have hf0:rR xs nm vl=0:=by rw [hs,if_neg (by omega)]
               have hcells:([] ++ (xs.take (atA nm xs)).flatMap paC ++ [.string nm,.string vl] ++ (xs.drop (atA nm xs)).flatMap paC:List Value)=(nK xs nm vl).flatMap paC:=by rw [hz,List.flatMap_append,List.flatMap_cons];simp
               have hN:0+atA nm xs+1+(n - (atA nm xs))=(nK xs nm vl).length:=by rw [hlz];omega
               have hM:eH V2 A3 _ (nK xs nm vl):=jR (hcells▸hc3) hN.symm (by omega) hgood
               exact .inl ⟨hf0,A3,c3,by rw [←hN,dA],hN▸hM,hN▸hcap3⟩)
            | ((refine bA Tryz.results169 (aB rfl) (aB rfl) ?_)
               rw [ev2]
               exact mE (g:=2) (by rw [hs,if_pos ⟨rfl,by omega⟩]) (by decide))
  · (refine aH Tryz.func169 rfl Tryz.ntmps169 rfl ?_;intro w0)
    repeat' (first|(refine aE ?_;first|(refine aD ?_;refine aN rfl (aG ⟨Tryz.call239⟩ rfl (lB _ _ _ _ xs h)) ?_)|refine pu9 ?_)|refine bV ?_|(refine aA rfl ?_ ?_<;>intro hq<;>try exact no9))
    all_goals (refine bA Tryz.results169 (aB rfl) (aB rfl) ?_)
    exact mE (setF_err h0) h0
end
section
theorem size_zero {a:ByteArray}:a=⟨#[]⟩↔a.size=0:=by
  constructor
  · intro h;subst h;rfl
  · intro h;apply str_ext;rw [Lib.toList_data,Lib.toList_data]
    apply List.eq_nil_of_length_eq_zero
    rw [Array.length_toList];exact h
theorem q_sne0 {B:Base} {N:Nat} {F:List (Nat×Value)} {V:aI} {L:List Box} {d:Option Tmp} {ty t ty2:TypeId} {pos:String} {af:Array Edge} {gd:Option (Nat×Bool)} {x:Operand} {a:ByteArray} (hx:evF F x=some (.string a)):QP Tryz.prog B N V L ⟨d,.binOp .neq t x (.const (.string ⟨#[]⟩)) ty2,ty,pos,af,gd⟩ F (.bool (decide (¬a.size=0))):=by
  have:=q_sneq (P:=Tryz.prog) (B:=B) (N:=N) (V:=V) (L:=L) (d:=d) (ty:=ty) (t:=t) (ty2:=ty2) (pos:=pos) (af:=af) (gd:=gd) (F:=F) (x:=x) (y:=.const (.string ⟨#[]⟩)) (b:=⟨#[]⟩) hx rfl
  have e:decide (¬a=⟨#[]⟩)=decide (¬a.size=0):=decide_eq_decide.2 (not_congr size_zero)
  rw [e] at this;exact this
attribute [local irreducible] AtQ GoC GoL GoW QO QP Fn RV bX aL VLe cG bT
theorem tisID_c (V:aI) (x:Int):Fn Tryz.prog 132 [.int .i64 x] V fun v _=>v=.bool (decide (0≤x∧x≤65535)):=by
  (refine aH Tryz.func132 rfl Tryz.ntmps132 rfl ?_;intro w0)
  repeat' (first|(refine aE ?_;refine pu9 ?_)|refine dQ ?_|(refine aJ rfl rfl rfl ?_ ?_<;>intro hq<;>try exact no9)|(refine bU rfl rfl rfl ?_ ?_<;>intro hq)|(refine aA rfl ?_ ?_<;>intro hq<;>try exact no9)|(refine bP rfl ?_ ?_<;>intro hq))
  all_goals (refine aQ Tryz.results132 (aB rfl) ?_)
  all_goals first|rfl|(refine congrArg Value.bool ?_;first|exact(decide_eq_true (by omega)).symm|exact(decide_eq_false (by omega)).symm|exact decide_eq_decide.2 (by omega))
theorem oneF_1 {h:Hd} {many upper root:Bool} (a:¬(h.kind=1∨h.kind=2∨h.kind=3)):jJ h many upper root=3:=by unfold jJ;rw [if_pos a]
theorem oneF_2 {h:Hd} {many upper root:Bool} (a:h.kind=1∨h.kind=2∨h.kind=3) (b:¬((0≤h.mode∧h.mode≤4095)∧(0≤h.user∧h.user≤65535)∧(0≤h.group∧h.group≤65535))):jJ h many upper root=1:=by unfold jJ;rw [if_neg (not_not_intro a),if_pos b]
theorem oneF_3 {h:Hd} {many upper root:Bool} (a:h.kind=1∨h.kind=2∨h.kind=3) (b:(0≤h.mode∧h.mode≤4095)∧(0≤h.user∧h.user≤65535)∧(0≤h.group∧h.group≤65535)) (c:¬eR h.attrs=0):jJ h many upper root=eR h.attrs:=by unfold jJ;rw [if_neg (not_not_intro a),if_neg (not_not_intro b),if_pos c]
theorem oneF_4 {h:Hd} {many upper root:Bool} (a:h.kind=1∨h.kind=2∨h.kind=3) (b:(0≤h.mode∧h.mode≤4095)∧(0≤h.user∧h.user≤65535)∧(0≤h.group∧h.group≤65535)) (c:eR h.attrs=0) (d:200<h.data.size):jJ h many upper root=1:=by unfold jJ;rw [if_neg (not_not_intro a),if_neg (not_not_intro b),if_neg (not_not_intro c),if_pos d]
def shapeN (h:Hd) (many upper root:Bool):Prop:=(h.kind=3∧(upper=false∨0<h.mode+h.user+h.group+h.attrs.length))∨(¬h.kind=1∧0<h.data.size)∨(¬h.kind=2∧(many=true∨h.opq=true))∨(h.opq=true∧(upper=false∨root=true))
theorem oneF_5 {h:Hd} {many upper root:Bool} (a:h.kind=1∨h.kind=2∨h.kind=3) (b:(0≤h.mode∧h.mode≤4095)∧(0≤h.user∧h.user≤65535)∧(0≤h.group∧h.group≤65535)) (c:eR h.attrs=0) (d:h.data.size≤200) (e:shapeN h many upper root):jJ h many upper root=3:=by unfold jJ;rw [if_neg (not_not_intro a),if_neg (not_not_intro b),if_neg (not_not_intro c),if_neg (by omega)];exact if_pos e
theorem oneF_6 {h:Hd} {many upper root:Bool} (a:h.kind=1∨h.kind=2∨h.kind=3) (b:(0≤h.mode∧h.mode≤4095)∧(0≤h.user∧h.user≤65535)∧(0≤h.group∧h.group≤65535)) (c:eR h.attrs=0) (d:h.data.size≤200) (e:¬shapeN h many upper root):jJ h many upper root=0:=by unfold jJ;rw [if_neg (not_not_intro a),if_neg (not_not_intro b),if_neg (not_not_intro c),if_neg (by omega)];exact if_neg e
theorem one_c (V:aI) (x:LN) (hx:aX V x) (upper root:Bool):Fn Tryz.prog 224 [lnV x,.bool upper,.bool root] V fun v _=>v=bT (jJ x.h (decide (0<x.nk)) upper root):=by
  obtain⟨ha,hca,hd,hck,es,hk,hks⟩:=hx.inv
  have hatt:=lB V x.A x.na x.ca x.h.attrs ha
  have hab:=kY x.h.attrs
  have hal:x.h.attrs.length=x.na:=ha.1.1
  have hmk:=hk.max
  have hma:=ha.1.max
  have hmd:x.h.data.size≤9223372036854775807:=by unfold maxLen at hd;omega
  have h4:¬eR x.h.attrs=0∨x.na≤4:=by
    rcases Nat.lt_or_ge 4 x.na with h|h
    · left;unfold eR;rw [if_pos (by omega)];decide
    · right;exact h
  clear hks hk ha hx
  (refine aH Tryz.func224 rfl Tryz.ntmps224 rfl ?_;intro w0)
  repeat' (first|(refine aE ?_;first|(refine cX ?_;refine aR (q_sne0 rfl) ?_)|(refine aD ?_;refine aN rfl (aG ⟨Tryz.call239⟩ rfl (hatt)) ?_)|(refine al9 ?_;intro γ)|refine pu9 ?_)|refine cV ?_|(refine aJ rfl rfl rfl ?_ ?_<;>intro hq<;>try exact no9)|(refine bU rfl rfl rfl ?_ ?_<;>intro hq)|(refine aA rfl ?_ ?_<;>intro hq<;>try exact no9)|(refine bP rfl ?_ ?_<;>intro hq))
  all_goals (refine aQ Tryz.results224 (aB rfl) ?_)
  all_goals first
    | (refine dE 3 (oneF_1 ?_);omega)
    | (refine dE 1 (oneF_2 ?_ ?_)<;>omega)
    | (refine congrArg bT (oneF_3 ?_ ?_ ?_).symm<;>omega)
    | (refine dE 1 (oneF_4 ?_ ?_ ?_ ?_)<;>omega)
    | (refine dE 3 (oneF_5 (h:=x.h) (by omega) (by omega) (by omega) (by omega) ?_);(try simp only [Bool.not_eq_true',Bool.not_eq_false'] at *);first
        | exact .inl ⟨by omega,.inl (by assumption)⟩
        | exact .inl ⟨by omega,.inr (by omega)⟩
        | exact .inr (.inl ⟨by omega,by omega⟩)
        | exact .inr (.inr (.inl ⟨by omega,.inl (decide_eq_true (by omega))⟩))
        | exact .inr (.inr (.inl ⟨by omega,.inr (by assumption)⟩))
        | exact .inr (.inr (.inr ⟨by assumption,.inl (by assumption)⟩))
        | exact .inr (.inr (.inr ⟨by assumption,.inr (by assumption)⟩)))
    | (refine errV_nil (oneF_6 (h:=x.h) (by omega) (by omega) (by omega) (by omega) ?_);(try simp only [Bool.not_eq_true',Bool.not_eq_false'] at *);unfold shapeN;rintro (⟨h1,h2|h2⟩|⟨h1,h2⟩|⟨h1,h2|h2⟩|⟨h1,h2|h2⟩)<;>first|omega|(have h2:=of_decide_eq_true h2;omega)|simp_all)
theorem nodeFault_c (V:aI) (x:LN) (hx:aX V x) (upper root:Bool):Fn Tryz.prog 220 [lnV x,.bool upper,.bool root] V fun v _=>v=.int .i64 (jJ x.h (decide (0<x.nk)) upper root):=by
  obtain⟨ha,hca,hd,hck,es,hk,hks⟩:=hx.inv
  have hatt:=fU V x.A x.na x.ca x.h.attrs ha
  have hab:=kY x.h.attrs
  have hal:x.h.attrs.length=x.na:=ha.1.1
  have hmk:=hk.max
  have hma:=ha.1.max
  have hmd:x.h.data.size≤9223372036854775807:=by unfold maxLen at hd;omega
  clear hks hk ha hx
  (refine aH Tryz.func220 rfl Tryz.ntmps220 rfl ?_;intro w0)
  repeat' (first|(refine aE ?_;first|(refine aD ?_;(first|refine aN rfl (aG ⟨Tryz.call246⟩ rfl (hatt)) ?_|refine aN rfl (aG ⟨Tryz.call132⟩ rfl (tisID_c _ _)) ?_))|(refine al9 ?_;intro γ)|refine pu9 ?_)|refine cD ?_|(refine aJ rfl rfl rfl ?_ ?_<;>intro hq<;>try exact no9)|(refine bU rfl rfl rfl ?_ ?_<;>intro hq)|(refine aA rfl ?_ ?_<;>intro hq<;>try exact no9)|(refine bP rfl ?_ ?_<;>intro hq))
  all_goals (refine aQ Tryz.results220 (aB rfl) ?_)
  all_goals first
    | (refine congrArg (Value.int .i64) (Eq.symm (oneF_1 ?_));omega)
    | (refine congrArg (Value.int .i64) (Eq.symm (oneF_2 ?_ ?_))<;>omega)
    | (refine congrArg (Value.int .i64) (oneF_3 ?_ ?_ ?_).symm<;>omega)
    | (refine congrArg (Value.int .i64) (Eq.symm (oneF_4 ?_ ?_ ?_ ?_))<;>omega)
    | (refine congrArg (Value.int .i64) (Eq.symm (oneF_5 (h:=x.h) (by omega) (by omega) (by omega) (by omega) ?_));(try simp only [Bool.not_eq_true',Bool.not_eq_false'] at *);first
        | exact .inl ⟨by omega,.inl (by assumption)⟩
        | exact .inl ⟨by omega,.inr (by omega)⟩
        | exact .inr (.inl ⟨by omega,by omega⟩)
        | exact .inr (.inr (.inl ⟨by omega,.inl (decide_eq_true (by omega))⟩))
        | exact .inr (.inr (.inl ⟨by omega,.inr (by assumption)⟩))
        | exact .inr (.inr (.inr ⟨by assumption,.inl (by assumption)⟩))
        | exact .inr (.inr (.inr ⟨by assumption,.inr (by assumption)⟩)))
    | (refine congrArg (Value.int .i64) (Eq.symm (oneF_6 (h:=x.h) (by omega) (by omega) (by omega) (by omega) ?_));(try simp only [Bool.not_eq_true',Bool.not_eq_false'] at *);unfold shapeN;rintro (⟨h1,h2|h2⟩|⟨h1,h2⟩|⟨h1,h2|h2⟩|⟨h1,h2|h2⟩)<;>first|omega|(have h2:=of_decide_eq_true h2;omega)|simp_all)
end
section
theorem eI.prev {V:aI} {b off n k:Nat} {es:List LK} (h:eI V (some ⟨b,off,none⟩) n es) (hk:k<n) (h0:¬k=0):∃ y,es[k - 1]?=some y∧V ⟨b,off+((k:Int) - 1).toNat * 9+0,none⟩=some (.string y.nm):=by
  obtain⟨b',off',z,he,hz,_,_,hc,_⟩:=h.at_ (k:=k - 1) (by omega)
  cases he
  exact⟨z,hz,by rw [show ((k:Int) - 1).toNat=k - 1 by omega];exact hc⟩
theorem oneF_bd (h:Hd) (many upper root:Bool):0≤jJ h many upper root∧jJ h many upper root≤7:=by
  have:=kY h.attrs
  unfold jJ;(repeat' split)<;>omega
mutual
theorem kM (upper:Bool):∀ (deep so:Nat) (n:PN),so≤60→(cH upper deep so n).1≤60∧0≤(cH upper deep so n).2∧(cH upper deep so n).2≤7
  | deep,so,.mk h ks,hs=>by
    have h1:=oneF_bd h (decide (0<ks.length)) upper (decide (deep=0))
    rw [cH]
    split
    · exact⟨hs,by simp,by simp⟩
    · split
      · exact⟨hs,h1⟩
      · exact countK_bd upper deep (so+1) none ks (by omega)
theorem countK_bd (upper:Bool):∀ (deep so:Nat) (prev:Option ByteArray) (ks:PKs),so≤60→(dO upper deep so prev ks).1≤60∧0≤(dO upper deep so prev ks).2∧(dO upper deep so prev ks).2≤7
  | deep,so,prev,[],hs=>by rw [dO];exact⟨hs,by simp,by simp⟩
  | deep,so,prev,(nm,n) :: ks,hs=>by
    have h1:=kM upper (deep+1) so n hs
    rw [dO]
    split
    · exact⟨hs,by simp,by simp⟩
    · split
      · exact⟨hs,by simp,by simp⟩
      · split
        · exact h1
        · exact countK_bd upper deep _ _ ks h1.1
end
theorem tU {upper:Bool} {deep so:Nat} {n:PN} (h:so=60∨6<deep):cH upper deep so n=(so,2):=by cases n;rw [cH,if_pos h]
theorem wQ {upper:Bool} {deep so:Nat} {n:PN} (h:¬(so=60∨6<deep)) (h2:¬jJ n.h (decide (0<n.ks.length)) upper (decide (deep=0))=0):cH upper deep so n=(so,jJ n.h (decide (0<n.ks.length)) upper (decide (deep=0))):=by
  obtain⟨hd,ks⟩:=n;simp only [PN.h_mk,PN.ks_mk] at h2 ⊢;rw [cH,if_neg h];exact if_pos h2
theorem oO {upper:Bool} {deep so:Nat} {n:PN} (h:¬(so=60∨6<deep)) (h2:jJ n.h (decide (0<n.ks.length)) upper (decide (deep=0))=0):cH upper deep so n=dO upper deep (so+1) none n.ks:=by
  obtain⟨hd,ks⟩:=n;simp only [PN.h_mk,PN.ks_mk] at h2 ⊢;rw [cH,if_neg h];exact if_neg (not_not_intro h2)
def prevK (ks:PKs) (k:Nat):Option ByteArray:=if k=0 then none else (ks[k - 1]?).map Prod.fst
theorem prevK_pos {ks:PKs} {k:Nat} (h:¬k=0):prevK ks k=(ks[k - 1]?).map Prod.fst:=if_neg h
theorem sY {ks:PKs} {k:Nat}:prevK ks (k+1)=(ks[k]?).map Prod.fst:=by rw [prevK,if_neg (by omega)];rfl
theorem oH {upper:Bool} {deep so:Nat} {p:Option ByteArray} {k:ByteArray×PN} {ks:PKs} (h:eX k.1.toList=false):dO upper deep so p (k :: ks)=(so,4):=by
  obtain⟨a,b⟩:=k;rw [dO,if_pos (show ¬eX a.toList=true by have:eX a.toList=false:=h;rw [this];decide)]
theorem uG {upper:Bool} {deep so:Nat} {y:ByteArray} {k:ByteArray×PN} {ks:PKs} (h:eX k.1.toList=true) (h2:¬y.toList<k.1.toList):dO upper deep so (some y) (k :: ks)=(so,3):=by
  obtain⟨a,b⟩:=k;rw [dO,if_neg (not_not_intro h),if_pos ⟨y,rfl,h2⟩]
theorem pY {upper:Bool} {deep so:Nat} {p:Option ByteArray} {k:ByteArray×PN} {ks:PKs} (h:eX k.1.toList=true) (h2:∀ y,p=some y→y.toList<k.1.toList) (h3:¬(cH upper (deep+1) so k.2).2=0):dO upper deep so p (k :: ks)=cH upper (deep+1) so k.2:=by
  obtain⟨a,b⟩:=k;rw [dO,if_neg (not_not_intro h),if_neg (fun ⟨y,hy,hn⟩=>hn (h2 y hy)),if_pos h3]
theorem mH {upper:Bool} {deep so:Nat} {p:Option ByteArray} {k:ByteArray×PN} {ks:PKs} (h:eX k.1.toList=true) (h2:∀ y,p=some y→y.toList<k.1.toList) (h3:(cH upper (deep+1) so k.2).2=0):dO upper deep so p (k :: ks)=dO upper deep (cH upper (deep+1) so k.2).1 (some k.1) ks:=by
  obtain⟨a,b⟩:=k;rw [dO,if_neg (not_not_intro h),if_neg (fun ⟨y,hy,hn⟩=>hn (h2 y hy)),if_neg (not_not_intro h3)]
theorem tA {upper:Bool} {deep so:Nat} {p:Option ByteArray}:dO upper deep so p []=(so,0):=by rw [dO]
theorem cnt_is {p:Nat×Int} {a:Nat} (b:Int) (h:p=(a,b)) (hb:¬b=0):Value.tuple #[.int .i64 (a:Int),.iface 120 (.int .i64 b)]=.tuple #[.int .i64 (p.1:Int),bT p.2]:=by
  subst h;rw [dU hb]
theorem cnt_e {p:Nat×Int} {a:Nat} {b:Int} (h:p=(a,b)):Value.tuple #[.int .i64 (a:Int),bT b]=.tuple #[.int .i64 (p.1:Int),bT p.2]:=by
  subst h;rfl
theorem cnt_0 {p:Nat×Int} {a:Nat} (h:p=(a,0)):Value.tuple #[.int .i64 (a:Int),.nilIface]=.tuple #[.int .i64 (p.1:Int),bT p.2]:=by
  subst h;rw [dA]
theorem not_t {b:Bool} (h:(!b)=true):b=false:=by cases b<;>simp_all
theorem wB {b:Bool} (h:(!b)=false):b=true:=by cases b<;>simp_all
attribute [local irreducible] AtQ GoC GoL GoW QO QP Fn RV bX aL VLe cG bT
theorem count_c (V:aI) (x:LN) (hx:aX V x) (upper:Bool):∀ (deep so:Nat),deep≤7→so≤60→Fn Tryz.prog 139 [lnV x,.bool upper,.int .i64 (deep:Int),.int .i64 (so:Int)] V fun v _=>v=.tuple #[.int .i64 ((cH upper deep so x.n).1:Int),bT (cH upper deep so x.n).2]:=by
  refine aX.ind (C:=fun x=>∀ (deep so:Nat),deep≤7→so≤60→Fn Tryz.prog 139 [lnV x,.bool upper,.int .i64 (deep:Int),.int .i64 (so:Int)] V fun v _=>v=.tuple #[.int .i64 ((cH upper deep so x.n).1:Int),bT (cH upper deep so x.n).2]) ?_ hx
  intro x es ha hca hd hck hk hks ih deep so hdeep hso
  have hl:=hk.len
  have hm:=hk.max
  have hz:x.ks.length=x.nk:=by rw [hks,List.length_map,hl]
  have hone:=one_c V x (aX.of ha hca hd hck hk hks) upper (decide (deep=0))
  have hob:=oneF_bd x.h (decide (0<x.nk)) upper (decide (deep=0))
  have hd0:decide ((deep:Int)=0)=decide (deep=0):=decide_eq_decide.2 (by omega)
  rw [←hd0] at hone
  (refine aH Tryz.func139 rfl Tryz.ntmps139 rfl ?_;intro w0)
  repeat' (first|(refine aE ?_;first|(refine aD ?_;refine aN rfl (aG ⟨Tryz.call224⟩ rfl (hone)) ?_)|(refine al9 ?_;intro γ)|refine pu9 ?_)|refine cV ?_|(refine aJ rfl rfl rfl ?_ ?_<;>intro hq<;>try exact no9)|(refine aA rfl ?_ ?_<;>intro hq<;>try exact no9))
  all_goals (try rw [hd0] at hq)
  all_goals (try rw [hd0])
  all_goals first
    | ((refine bA Tryz.results139 (aB rfl) (aB rfl) ?_);exact cnt_is 2 (tU (by omega)) (by decide))
    | ((refine bA Tryz.results139 (aB rfl) (aB rfl) ?_);exact cnt_e (by rw [←hz] at *;exact wQ (n:=x.n) (by omega) hq))
    | skip
  have hone0:jJ x.h (decide (0<x.nk)) upper (decide (deep=0))=0:=by first|exact Decidable.not_not.1 hq|omega
  have hkids:cH upper deep so x.n=dO upper deep (so+1) none x.ks:=oO (n:=x.n) (by omega) (by rw [←hz] at hone0;exact hone0)
  refine bQ (fun F V' L' m=>∃ (k s:Nat) (S:Int),V=V'∧[⟨γ,70,lnC x⟩]=L'∧k≤x.nk∧m=x.nk - k∧s≤60∧S=s∧cH upper deep so x.n=dO upper deep s (prevK x.ks k) (x.ks.drop k)∧F=[(1,.bool upper),(2,.int .i64 (deep:Int)),(3,.int .i64 S),(4,.pointer (some ⟨γ,0,none⟩)),(33,.slice x.K x.nk x.ck),(34,.int .i64 x.nk),(35,.int .i64 k)]) (m:=x.nk) ⟨0,so+1,_,rfl,rfl,Nat.zero_le _,by omega,by omega,rfl,hkids,rfl⟩ bH rfl sl9 ?_
  rintro F V' L' m ⟨k,s,S,rfl,rfl,hkn,rfl,hs60,rfl,hcnt,rfl⟩
  by_cases hlt:k<x.nk
  · obtain⟨b1,o1,e,hK1,he,hem,hc,c0,c1,hms,hne⟩:=hk.at_ hlt
    have hke:=mP hks he
    rw [rZ hke] at hcnt
    have hcall:=ih e hem (deep+1) s (by omega) hs60
    have hcb:=kM upper (deep+1) s e.x.n hs60
    have hN:=Name_c V e.nm hms
    rw [Int.natCast_add,Int.natCast_one] at hcall
    by_cases h0:k=0
    · subst h0
      replace hcnt:cH upper deep so x.n=dO upper deep s none ((e.nm,e.x.n) :: x.ks.drop (0+1)):=hcnt
      repeat' (first|(refine aE ?_;first|(refine aD ?_;(first|refine aN rfl (aG ⟨Tryz.call225⟩ rfl (hN)) ?_|refine aN rfl (aG ⟨Tryz.call139⟩ rfl (hcall)) ?_))|refine st9 ?_|(refine al9 ?_;intro γ)|refine pu9 ?_)|refine cV ?_|(refine aA rfl ?_ ?_<;>intro hq<;>try exact no9)|(refine bP rfl ?_ ?_<;>intro hq)|refine bN (id:=12) mixed (by kernel_rfl) ?_)
      all_goals first
        | ((refine bA Tryz.results139 (aB rfl) (aB rfl) ?_);exact cnt_is 4 (hcnt.trans (oH (not_t hq))) (by decide))
        | ((refine bA Tryz.results139 (aB rfl) (aB rfl) ?_);rw [hcnt,pY (wB (by assumption)) (fun y hy=>by cases hy) hq];rfl)
        | (refine aZ _ (x.nk - (0+1)) ⟨0+1,(cH upper (deep+1) s e.x.n).1,_,rfl,rfl,by omega,rfl,hcb.1,rfl,?_,rfl⟩ (by omega) bH sl9
           rw [hcnt,mH (wB (by assumption)) (fun y hy=>by cases hy) (Decidable.not_not.1 hq),sY,hke];rfl)
    · obtain⟨y,hy,hcy⟩:=(hK1▸hk).prev hlt h0
      rw [prevK_pos h0,mP hks hy] at hcnt
      replace hcnt:cH upper deep so x.n=dO upper deep s (some y.nm) ((e.nm,e.x.n) :: x.ks.drop (k+1)):=hcnt
      repeat' (first|(refine aE ?_;first|(refine cX ?_;refine aR (q_sgeq rfl rfl) ?_)|(refine aD ?_;(first|refine aN rfl (aG ⟨Tryz.call225⟩ rfl (hN)) ?_|refine aN rfl (aG ⟨Tryz.call139⟩ rfl (hcall)) ?_))|refine st9 ?_|(refine al9 ?_;intro γ)|refine pu9 ?_)|refine bW ?_|(refine aJ rfl rfl rfl ?_ ?_<;>intro hq<;>try exact no9)|(refine aA rfl ?_ ?_<;>intro hq<;>try exact no9)|(refine bP rfl ?_ ?_<;>intro hq)|refine bN (id:=12) mixed (by kernel_rfl) ?_)
      all_goals first
        | ((refine bA Tryz.results139 (aB rfl) (aB rfl) ?_);exact cnt_is 4 (hcnt.trans (oH (not_t hq))) (by decide))
        | ((refine bA Tryz.results139 (aB rfl) (aB rfl) ?_);exact cnt_is 3 (hcnt.trans (uG (wB (by assumption)) hq)) (by decide))
        | ((refine bA Tryz.results139 (aB rfl) (aB rfl) ?_);rw [hcnt,pY (wB (by assumption)) (fun z hz=>by cases hz;exact Classical.byContradiction (by assumption)) hq];rfl)
        | (refine aZ _ (x.nk - (k+1)) ⟨k+1,(cH upper (deep+1) s e.x.n).1,_,rfl,rfl,by omega,rfl,hcb.1,rfl,?_,rfl⟩ (by omega) bH sl9
           rw [hcnt,mH (wB (by assumption)) (fun z hz=>by cases hz;exact Classical.byContradiction (by assumption)) (Decidable.not_not.1 hq),sY,hke];rfl)
  · repeat' (first|(refine aE ?_;refine pu9 ?_)|refine dR ?_|(refine aA rfl ?_ ?_<;>intro hq<;>try exact no9))
    (refine bA Tryz.results139 (aB rfl) (aB rfl) ?_)
    rw [hcnt,List.drop_eq_nil_of_le (by omega)]
    exact cnt_0 tA
theorem TCheck_c (V:aI) (x:LN) (hx:aX V x) (upper:Bool):Fn Tryz.prog 65 [lnV x,.bool upper] V fun v _=>v=bT (dK upper x.n):=by
  have hb:=kM upper 0 0 x.n (by omega)
  have hc:=count_c V x hx upper 0 0 (by omega) (by omega)
  (refine aH Tryz.func65 rfl Tryz.ntmps65 rfl ?_;intro w0)
  repeat' (first|(refine aE ?_;first|(refine aD ?_;refine aN rfl (aG ⟨Tryz.call139⟩ rfl (hc)) ?_)|(refine al9 ?_;intro γ)|refine pu9 ?_)|refine bV ?_|(refine aA rfl ?_ ?_<;>intro hq<;>try exact no9))
  all_goals (refine aQ Tryz.results65 (aB rfl) ?_)
  · exact dE 7 (by unfold dK;exact if_pos hq)
  · unfold dK;rw [if_neg (show ¬¬x.n.h.kind=2 from hq)];rfl
end
section
def dV:PKs→ByteArray→Option PN
  | [],_=>none
  | k :: ks,s=>if k.1=s then some k.2 else dV ks s
theorem qZ:∀ (a b:PKs) (s:ByteArray),dV (a ++ b) s=(dV a s).or (dV b s)
  | [],b,s=>by simp [dV]
  | k :: a,b,s=>by
    rw [List.cons_append,dV,dV]
    split
    · rfl
    · exact qZ a b s
theorem xA:∀ {ks:PKs} {s:ByteArray},dV ks s=none↔∀ k∈ks,¬k.1=s
  | [],s=>by simp [dV]
  | k :: ks,s=>by
    rw [dV]
    by_cases h:k.1=s
    · rw [if_pos h];simp [h]
    · rw [if_neg h,xA];simp [h]
theorem isAt_iff {ks:PKs} {s:ByteArray}:fK ks s=true↔∃ k∈ks,k.1=s:=by
  unfold fK;rw [List.any_eq_true];simp
theorem yI {ks:PKs} {s:ByteArray}:fK ks s=false↔dV ks s=none:=by
  rw [xA]
  constructor
  · intro h k hk he
    have:=isAt_iff.2 ⟨k,hk,he⟩;rw [h] at this;cases this
  · intro h
    cases hb:fK ks s
    · rfl
    · obtain⟨k,hk,he⟩:=isAt_iff.1 hb;exact absurd he (h k hk)
theorem pO {ks:PKs} {s:ByteArray} (h:fK ks s=true):∃ a x b,ks=a ++ (s,x) :: b∧dV a s=none∧bJ ks s=a.length:=by
  have hl:=jP h
  have e:bJ ks s=atN ks s:=by unfold bJ;rw [if_pos h]
  have h1:(ks[bJ ks s]'hl).1=s:=by
    have:=List.findIdx_getElem (p:=fun k:ByteArray×PN=>decide (k.1=s)) (xs:=ks) (w:=by rw [←show atN ks s=ks.findIdx (fun k=>decide (k.1=s)) from rfl,←e];exact hl)
    have h2:=of_decide_eq_true this
    simp only [e];exact h2
  refine⟨ks.take (bJ ks s),(ks[bJ ks s]'hl).2,ks.drop (bJ ks s+1),?_,?_,?_⟩
  · have e2:((s,(ks[bJ ks s]'hl).2):ByteArray×PN)=ks[bJ ks s]'hl:=Prod.ext h1.symm rfl
    rw [e2,←List.drop_eq_getElem_cons hl,List.take_append_drop]
  · rw [xA]
    intro k hk he
    obtain⟨i,hi,rfl⟩:=List.getElem_of_mem hk
    rw [List.length_take] at hi
    rw [List.getElem_take] at he
    have:=List.not_of_lt_findIdx (p:=fun k:ByteArray×PN=>decide (k.1=s)) (xs:=ks) (i:=i) (by rw [←show atN ks s=ks.findIdx (fun k=>decide (k.1=s)) from rfl,←e];omega)
    simp [he] at this
  · rw [List.length_take];omega
theorem nL {a b:PKs} {s:ByteArray} {x:PN} (ha:dV a s=none):dV (a ++ (s,x) :: b) s=some x:=by
  rw [qZ,ha];simp [dV]
theorem wG {a b:PKs} {s t:ByteArray} {x:PN} (h:¬s=t):dV (a ++ (s,x) :: b) t=dV (a ++ b) t:=by
  rw [qZ,qZ,dV,if_neg h]
theorem wT {cut:Bool} {a b:PKs} {s:ByteArray} {x y:PN} (hp:bJ (a ++ (s,x) :: b) s=a.length):gB cut y (a ++ (s,x) :: b) s=a ++ (if cut=true then [] else [(s,y)]) ++ b:=by
  have hi:fK (a ++ (s,x) :: b) s=true:=isAt_iff.2 ⟨(s,x),by simp,rfl⟩
  unfold gB
  rw [if_pos hi,hp]
  congr 1
  · rw [List.take_left]
  · rw [show a.length+1=(a ++ [(s,x)]).length by simp,show a ++ (s,x) :: b=(a ++ [(s,x)]) ++ b by simp,List.drop_left]
theorem edit_new {cut:Bool} {ks:PKs} {s:ByteArray} {y:PN} (h:fK ks s=false):∃ a b,ks=a ++ b∧gB cut y ks s=a ++ (if cut=true then [] else [(s,y)]) ++ b:=by
  refine⟨ks.take (bJ ks s),ks.drop (bJ ks s),(List.take_append_drop _ _).symm,?_⟩
  unfold gB;rw [h];rfl
theorem look_edit {ks:PKs} {s:ByteArray} {y:PN}:dV (gB false y ks s) s=some y:=by
  cases h:fK ks s
  · obtain⟨a,b,h1,h2⟩:=edit_new (cut:=false) (y:=y) h
    have h3:=yI.1 h
    rw [h1,qZ] at h3
    have ha:dV a s=none:=by cases h4:dV a s<;>simp_all
    rw [h2]
    simp only [Bool.false_eq_true,if_false,List.append_assoc,List.cons_append,List.nil_append]
    exact nL ha
  · obtain⟨a,x,b,h1,h2,h3⟩:=pO h
    rw [h1] at h3 ⊢
    rw [wT h3]
    simp only [Bool.false_eq_true,if_false,List.append_assoc,List.cons_append,List.nil_append]
    exact nL h2
theorem xR {cut:Bool} {ks:PKs} {s t:ByteArray} {y:PN} (hst:¬s=t):dV (gB cut y ks s) t=dV ks t:=by
  have key:∀ a b:PKs,dV (a ++ (if cut=true then [] else [(s,y)]) ++ b) t=dV (a ++ b) t:=by
    intro a b
    cases cut
    · simp only [Bool.false_eq_true,if_false,List.append_assoc,List.cons_append,List.nil_append]
      exact wG hst
    · simp
  cases h:fK ks s
  · obtain⟨a,b,h1,h2⟩:=edit_new (cut:=cut) (y:=y) h
    rw [h2,key,←h1]
  · obtain⟨a,x,b,h1,h2,h3⟩:=pO h
    rw [h1] at h3 ⊢
    rw [wT h3,key,wG hst]
theorem xJ {n:PN} {s:ByteArray} {l:List ByteArray}:dN n (s :: l)=if n.h.kind=2 then (dV n.ks s).bind (fun m=>dN m l) else none:=by
  rw [dN]
  by_cases hk:n.h.kind=2
  · rw [if_pos hk]
    cases h:fK n.ks s
    · rw [if_neg (by rintro ⟨_,h2⟩;cases h2),yI.1 h];rfl
    · rw [if_pos ⟨hk,rfl⟩]
      obtain⟨a,x,b,h1,h2,h3⟩:=pO h
      rw [h3,h1,nL h2]
      simp
  · rw [if_neg hk,if_neg (fun h=>hk h.1)]
theorem vN {cut:Bool} {x n:PN} {s t:ByteArray} {l:List ByteArray}:pF cut x n (s :: t :: l)=0↔n.h.kind=2∧∃ m,dV n.ks s=some m∧pF cut x m (t :: l)=0:=by
  rw [pF]
  by_cases hk:n.h.kind=2
  · rw [if_neg (not_not_intro hk)]
    cases h:fK n.ks s
    · rw [if_neg (by decide),yI.1 h];simp
    · rw [if_pos rfl]
      obtain⟨a,y,b,h1,h2,h3⟩:=pO h
      rw [h3,h1,nL h2]
      simp [hk]
  · rw [if_pos hk];simp [hk]
theorem vD {cut:Bool} {x n m:PN} {s t:ByteArray} {l:List ByteArray} (hm:dV n.ks s=some m):pN cut x n (s :: t :: l)=.mk n.h (gB false (pN cut x m (t :: l)) n.ks s):=by
  rw [pN]
  cases h:fK n.ks s
  · rw [yI.1 h] at hm;cases hm
  · obtain⟨a,y,b,h1,h2,h3⟩:=pO h
    rw [h1,nL h2] at hm
    cases hm
    rw [h3,h1]
    have h4:=h3;rw [h1] at h4
    rw [wT h4]
    simp
theorem tZ {u:Bool} {d so:Nat} {p:Option ByteArray} {k:ByteArray×PN} {ks:PKs}:(dO u d so p (k :: ks)).2=0↔eX k.1.toList=true∧(∀ y,p=some y→y.toList<k.1.toList)∧(cH u (d+1) so k.2).2=0∧(dO u d (cH u (d+1) so k.2).1 (some k.1) ks).2=0:=by
  by_cases h1:eX k.1.toList=true
  · by_cases h2:∀ y,p=some y→y.toList<k.1.toList
    · by_cases h3:(cH u (d+1) so k.2).2=0
      · rw [mH h1 h2 h3];simp [h1,h3];exact fun _=>h2
      · rw [pY h1 h2 h3];simp [h3]
    · have:∃ y,p=some y∧¬y.toList<k.1.toList:=by
        refine Classical.byContradiction fun hn=>h2 fun y hy=>Classical.byContradiction fun hl=>hn ⟨y,hy,hl⟩
      obtain⟨y,rfl,hy⟩:=this
      rw [uG h1 hy]
      constructor
      · intro h;simp at h
      · intro h;exact absurd (h.2.1 y rfl) hy
  · have h1':eX k.1.toList=false:=by simpa using h1
    rw [oH h1']
    constructor
    · intro h;simp at h
    · intro h;exact absurd h.1 h1
theorem rB {u:Bool} {d so:Nat} {n:PN}:(cH u d so n).2=0↔(¬so=60∧d≤6)∧jJ n.h (decide (0<n.ks.length)) u (decide (d=0))=0∧(dO u d (so+1) none n.ks).2=0:=by
  by_cases h1:so=60∨6<d
  · rw [tU h1];simp;omega
  · by_cases h2:jJ n.h (decide (0<n.ks.length)) u (decide (d=0))=0
    · rw [oO h1 h2];simp only [h2,true_and];omega
    · rw [wQ h1 h2]
      constructor
      · intro h;exact absurd h h2
      · intro h;exact absurd h.2.1 h2
theorem tE {u:Bool} {d:Nat}:∀ {ks:PKs} {so:Nat} {p:Option ByteArray},so≤60→(dO u d so p ks).2=0→ks.Pairwise (fun a b=>a.1.toList<b.1.toList)∧(∀ k∈ks,(∀ y,p=some y→y.toList<k.1.toList)∧eX k.1.toList=true∧∃ so',so'≤60∧(cH u (d+1) so' k.2).2=0)
  | [],so,p,_,_=>by simp
  | k :: ks,so,p,hs,h=>by
    obtain⟨h1,h2,h3,h4⟩:=tZ.1 h
    have hb:=kM u (d+1) so k.2 hs
    obtain⟨g1,g2⟩:=tE hb.1 h4
    refine⟨List.pairwise_cons.2 ⟨fun b hb=>(g2 b hb).1 _ rfl,g1⟩,fun b hb=>?_⟩
    rcases List.mem_cons.1 hb with rfl|hb
    · exact⟨h2,h1,so,hs,h3⟩
    · exact⟨fun y hy=>nT (h2 y hy) ((g2 b hb).1 _ rfl),(g2 b hb).2⟩
theorem lC:∀ {ks:PKs} {s:ByteArray} {m:PN},dV ks s=some m→(s,m)∈ks
  | [],s,m,h=>by cases h
  | k :: ks,s,m,h=>by
    rw [dV] at h
    split at h
    · rename_i he;cases h;subst he;exact List.mem_cons_self
    · exact List.mem_cons_of_mem _ (lC h)
mutual
theorem countF_ge (u:Bool):∀ (d so:Nat) (n:PN),so≤(cH u d so n).1
  | d,so,.mk h ks=>by
    have:=countK_ge u d (so+1) none ks
    rw [cH]
    split
    · exact Nat.le_refl _
    · split
      · exact Nat.le_refl _
      · omega
theorem countK_ge (u:Bool):∀ (d so:Nat) (prev:Option ByteArray) (ks:PKs),so≤(dO u d so prev ks).1
  | d,so,prev,[]=>by rw [dO];exact Nat.le_refl _
  | d,so,prev,(nm,n) :: ks=>by
    have h1:=countF_ge u (d+1) so n
    have h2:=countK_ge u d (cH u (d+1) so n).1 (some nm) ks
    rw [dO]
    split
    · exact Nat.le_refl _
    · split
      · exact Nat.le_refl _
      · split
        · exact h1
        · omega
end
inductive mW (u:Bool) (d:Nat):PKs→PKs→Prop
  | nil:mW u d [] []
  | drop {k a b}:mW u d a b→mW u d a (k :: b)
  | cons {s x y a b}:(∀ so so',so'≤so→so≤60→(cH u (d+1) so x).2=0→(cH u (d+1) so' y).2=0∧(cH u (d+1) so' y).1≤(cH u (d+1) so x).1)→mW u d a b→mW u d ((s,y) :: a) ((s,x) :: b)
theorem mW.count {u:Bool} {d:Nat} {a b:PKs} (h:mW u d a b):∀ {so so':Nat} {p p':Option ByteArray},so'≤so→so≤60→(∀ y,p'=some y→∃ z,p=some z∧(y=z∨y.toList<z.toList))→(dO u d so p b).2=0→(dO u d so' p' a).2=0∧(dO u d so' p' a).1≤(dO u d so p b).1:=by
  induction h with
  | nil=>intro so so' p p' hs _ _ _;rw [tA,tA];exact⟨rfl,hs⟩
  | @drop k a b h ih =>
    intro so so' p p' hs hs6 hp hc
    obtain⟨h1,h2,h3,h4⟩:=tZ.1 hc
    have hb:=kM u (d+1) so k.2 hs6
    have hge:so≤(cH u (d+1) so k.2).1:=countF_ge u (d+1) so k.2
    rw [mH h1 h2 h3]
    refine ih (by omega) hb.1 (fun y hy=>⟨k.1,rfl,.inr ?_⟩) h4
    obtain⟨z,hz,hyz⟩:=hp y hy
    rcases hyz with rfl|hyz
    · exact h2 _ hz
    · exact nT hyz (h2 z hz)
  | @cons s x y a b hxy h ih =>
    intro so so' p p' hs hs6 hp hc
    obtain⟨h1,h2,h3,h4⟩:=tZ.1 hc
    have hb:=kM u (d+1) so x hs6
    obtain⟨g1,g2⟩:=hxy so so' hs hs6 h3
    have h2':∀ z,p'=some z→z.toList<s.toList:=by
      intro z hz
      obtain⟨z2,hz2,he⟩:=hp z hz
      rcases he with rfl|he
      · exact h2 _ hz2
      · exact nT he (h2 z2 hz2)
    rw [mH (k:=(s,x)) h1 h2 h3,mH (k:=(s,y)) h1 h2' g1]
    exact ih g2 hb.1 (fun z hz=>⟨z,hz,.inl rfl⟩) h4
theorem node_less {u:Bool} {d so so':Nat} {n n':PN} (hh:n'.h=n.h) (ho:jJ n.h (decide (0<n'.ks.length)) u (decide (d=0))=jJ n.h (decide (0<n.ks.length)) u (decide (d=0))) (hk:mW u d n'.ks n.ks) (hs:so'≤so) (h6:so≤60) (hc:(cH u d so n).2=0):(cH u d so' n').2=0∧(cH u d so' n').1≤(cH u d so n).1:=by
  obtain⟨⟨a1,a2⟩,a3,a4⟩:=rB.1 hc
  have:=hk.count (so:=so+1) (so':=so'+1) (p:=none) (p':=none) (by omega) (by omega) (by simp) a4
  rw [oO (n:=n) (by omega) a3,oO (n:=n') (by omega) (by rw [hh,ho];exact a3)]
  exact this
theorem mW.of_all {u:Bool} {d:Nat}:∀ {ks:PKs},(∀ k∈ks,∀ so so',so'≤so→so≤60→(cH u (d+1) so k.2).2=0→(cH u (d+1) so' k.2).2=0∧(cH u (d+1) so' k.2).1≤(cH u (d+1) so k.2).1)→mW u d ks ks
  | [],_=>.nil
  | k :: ks,h=>.cons (h k List.mem_cons_self) (mW.of_all fun k hk=>h k (List.mem_cons_of_mem _ hk))
theorem countF_mono {u:Bool} (n:PN):∀ (d so so':Nat),so'≤so→so≤60→(cH u d so n).2=0→(cH u d so' n).2=0∧(cH u d so' n).1≤(cH u d so n).1:=by
  refine PN.ind (p:=fun n=>∀ (d so so':Nat),so'≤so→so≤60→(cH u d so n).2=0→(cH u d so' n).2=0∧(cH u d so' n).1≤(cH u d so n).1) ?_ n
  intro h ks ih d so so' hs h6 hc
  exact node_less rfl rfl (mW.of_all fun k hk=>ih k hk (d+1)) hs h6 hc
theorem mW.same {u:Bool} {d:Nat} (ks:PKs):mW u d ks ks:=mW.of_all fun k _ so so'=>countF_mono k.2 (d+1) so so'
theorem mW.app {u:Bool} {d:Nat}:∀ (a:PKs) {b c:PKs},mW u d b c→mW u d (a ++ b) (a ++ c)
  | [],_,_,h=>h
  | k :: a,_,_,h=>.cons (fun so so'=>countF_mono k.2 (d+1) so so') (mW.app a h)
theorem rU {u:Bool} {n:PN}:dK u n=0↔n.h.kind=2∧(cH u 0 0 n).2=0:=by
  unfold dK;split<;>simp_all
theorem pN_h {cut:Bool} {x:PN}:∀ {l:List ByteArray} {n:PN},(pN cut x n l).h=n.h
  | [],n=>rfl
  | [s],n=>rfl
  | s :: t :: l,n=>by rw [pN];split<;>rfl
end
section
abbrev PF:=PN×Int
def dI:List PF→List PF
  | []=>[]
  | f :: l=>if f.1.h.kind=2 then (if f.1.h.opq=true then [f] else f :: dI l) else []
def dJ:List PF→List PF
  | []=>[]
  | f :: l=>if f.1.h.kind=1 then [f] else dI (f :: l)
def gU (s:ByteArray) (f:PF):Option PF:=if f.1.h.kind=2 then (dV f.1.ks s).map (fun x=>(x,f.2)) else none
def cO (l:List PF) (s:ByteArray):List PF:=dJ (l.filterMap (gU s))
def iA:Int→List PN→List PF
  | _,[]=>[]
  | i,n :: l=>(n,i) :: iA (i+1) l
def jE (l:List PN):List PF:=dJ (iA 0 l)
def bY (l:List PN) (ss:List ByteArray):List PF:=ss.foldl cO (jE l)
theorem dirsP_len:∀ l:List PF,(dI l).length≤l.length
  | []=>Nat.le_refl _
  | f :: l=>by
    have:=dirsP_len l
    rw [dI];split
    · split<;>simp<;>omega
    · simp
theorem qF (l:List PF):(dJ l).length≤l.length:=by
  cases l with
  | nil=>exact Nat.le_refl _
  | cons f l =>
    rw [dJ];split
    · simp
    · exact dirsP_len _
theorem stepP_len (l:List PF) (s:ByteArray):(cO l s).length≤l.length:=Nat.le_trans (qF _) (List.length_filterMap_le _ _)
theorem layP_len:∀ (l:List PN) (i:Int),(iA i l).length=l.length
  | [],_=>rfl
  | n :: l,i=>by rw [iA,List.length_cons,layP_len l,List.length_cons]
theorem nM (l:List PN):∀ (ss:List ByteArray),(bY l ss).length≤l.length:=by
  have key:∀ (ss:List ByteArray) (at0:List PF),(ss.foldl cO at0).length≤at0.length:=fun ss=>by
    induction ss with
    | nil=>intro a;exact Nat.le_refl _
    | cons s ss ih=>intro a;exact Nat.le_trans (ih _) (stepP_len a s)
  intro ss
  refine Nat.le_trans (key ss _) ?_
  have:=qF (iA 0 l)
  rw [layP_len] at this;exact this
theorem dirs_at {l:List PF} {i:Nat} {f:PF} (h:l[i]?=some f) (hk:f.1.h.kind=2) (ho:f.1.h.opq=false):dI (l.drop i)=f :: dI (l.drop (i+1)):=by
  obtain⟨hi,rfl⟩:=List.getElem?_eq_some_iff.1 h
  rw [List.drop_eq_getElem_cons hi,dI,if_pos hk,if_neg (by rw [ho];decide)]
end
section
theorem upon_in {P:Program} {o:Oper} {a:Act} {w:World} {K K':Act→World→Prop} {Q:Exit→Act→World→Prop} {r n:Nat} (hd:∀ ev,o.semAt (some r) ev=execOp ev o) (hK:∀ a w,K a w→K' a w) (h:o.wp P a w K Q):o.wpIn (Fence.wide.inRound r) n P a w K' Q:=by
  unfold Oper.wp at h
  refine⟨fun _ _=>trivial,?_⟩
  show Oper.uponIn (Fence.wide.inRound r) n P o a K' Q ((o.semAt (some r) a.eval).run P w)
  rw [hd]
  generalize (execOp a.eval o).run P w=x at h ⊢
  cases x with
  | ok nx w' =>
    cases nx with
    | enter f args =>
      refine⟨fun hh=>(by cases hh),CallsIn.inRound r (callsIn_wide.2 (Calls.mono h fun e w'' h1=>?_))⟩
      cases e with
      | returned v=>exact hK _ _ h1
      | panicked c=>exact h1
      | outgrown=>exact h1
    | row rw args=>exact⟨fun hh=>(by cases hh),fun c cs _=>let ⟨v,w'',h1,h2⟩:=h c cs;⟨v,w'',hK _ _ h1,stepsIn_wide.2 h2⟩⟩
    | value v=>exact hK _ _ h
    | skip=>exact hK _ _ h
    | defer d=>exact hK _ _ h
    | _=>exact h.elim
  | halt hh w' =>
    cases hh with
    | panic v=>exact h
    | _=>exact h.elim
theorem list_in {P:Program} {ops:Array Oper} {Q:Exit→Act→World→Prop} {r n:Nat} (hQ:¬LetsOut Q):∀ (l:List Oper) (a:Act) (w:World),(∀ o∈l,∀ ev,o.semAt (some r) ev=execOp ev o)→wpList P ops Q l a w→wpListIn (Fence.wide.inRound r) n P ops Q l a w
  | [],a,w,_,h=>h
  | o :: l,a,w,hd,h=>by
    unfold wpList at h
    unfold wpListIn
    split at h
    · rename_i hw
      rw [if_pos hw]
      rcases h with h|⟨_,h⟩
      · exact upon_in (hd o (by simp)) (fun a w h=>list_in hQ l a w (fun o ho=>hd o (by simp [ho])) h) h
      · exact absurd h hQ
    · rename_i hw
      rw [if_neg hw]
      exact⟨fun _ _=>trivial,list_in hQ l _ w (fun o ho=>hd o (by simp [ho])) h⟩
theorem region_in {P:Program} {B:Base} {N:Nat} {Q:Exit→Act→World→Prop} {F:List (Nat×Value)} {V:aI} {L:List Box} {id r n:Nat} {l:List Oper} (hQ:¬LetsOut Q) (hd:∀ o∈l,∀ ev,o.semAt (some r) ev=execOp ev o) (h:GoL P B N .plain l.toArray Q [] l F V L) {a:Act} {w:World} (ha:Kn N F a) (hs:St B V L w):(Code.region id l.toArray false).wpIn (Fence.wide.inRound r) n P Q a w :=
  wpIn_region_lit (list_in hQ l a w hd (qG.1 h a w ha hs))
theorem St.ownFrom {B:Base} {V:aI} {L:List Box} {W W':World} {row:Option Nat} {b0:Nat} (hs:St B V L W) (hg:W.grownBy W' row) (hr:∀ r,row=some r→b0≤r∧∃ o:Obj,W.heap[r]?=some o∧o.isCells=false) (hB:B.w.heap.size≤b0) (hc:∀ b∈L,∃ E,b.t=.cells E):St B V L W':=by
  refine⟨hs.ext.grown hg fun k hk=>.inl (Nat.le_trans hB (hr k hk).1),fun p x hp=>⟨cell_kept (hs.view p x hp).1 hg fun r hr'=>(hr r hr').2,(hs.view p x hp).2⟩,hs.old,hs.v0,fun b hb=>⟨?_,(hs.own b hb).2⟩,hs.nodup⟩
  obtain⟨E,he⟩:=hc b hb
  have h1:=(hs.own b hb).1
  refine(grownBy_keeps_cells hg (fun r hr'=>(hr r hr').2) h1 ?_).trans h1
  rw [he];rfl
theorem St.rebase {B:Base} {V:aI} {L:List Box} {W:World} (hs:St B V L W):St ⟨V,W,L.map Box.g⟩ V L W :=
  ⟨Exc.refl _ W,hs.view,fun p x hp _=>hp,VLe.refl V,fun b hb=>⟨(hs.own b hb).1,.inr (List.mem_map.2 ⟨b,hb,rfl⟩)⟩,hs.nodup⟩
theorem St.back {B:Base} {V V':aI} {L L':List Box} {W W':World} (hs:St B V L W) (h:St ⟨V,W,L.map Box.g⟩ V' L' W'):St B V' L' W':=by
  have hfl:∀ g∈L.map Box.g,B.w.heap.size≤g∨g∈B.fl:=fun g hg=>by
    obtain⟨b,hb,rfl⟩:=List.mem_map.1 hg;exact(hs.own b hb).2
  refine⟨hs.ext.trans h.ext hfl,h.view,fun p x hp hlt=>?_,fun p x hp=>h.v0 p x (hs.v0 p x hp),fun b hb=>⟨(h.own b hb).1,?_⟩,h.nodup⟩
  · exact hs.old p x (h.old p x hp (Nat.lt_of_lt_of_le hlt hs.ext.sz)) hlt
  · rcases (h.own b hb).2 with h1|h1
    · exact .inl (Nat.le_trans hs.ext.sz h1)
    · exact hfl _ h1
theorem St.keeps {B:Base} {V V':aI} {L L':List Box} {W W':World} (hs:St B V L W) (hc:∀ b∈L,∃ E,b.t=.cells E) (h:St ⟨V,W,L.map Box.g⟩ V' L' W'):KeepsOthers W W':=by
  refine⟨h.ext.sz,fun k o hk ho=>?_⟩
  refine(h.ext.block k (Array.getElem?_eq_some_iff.1 hk).1 fun hm=>?_).trans hk
  obtain⟨b,hb,rfl⟩:=List.mem_map.1 hm
  obtain⟨E,he⟩:=hc b hb
  have h1:=(hs.own b hb).1
  rw [h1,he] at hk;cases hk;cases ho
structure qN (V:aI) (W W':World):Prop where
  os:W'.os=W.os
  tape:W'.tape=W.tape
  output:W'.output=W.output
  size:W.heap.size≤W'.heap.size
  cell:∀ p x,V p=some x→W.cell? p=some x→W'.cell? p=some x
theorem qN.trans {V:aI} {A B C:World} (h:qN V A B) (k:qN V B C):qN V A C:=⟨k.os.trans h.os,k.tape.trans h.tape,k.output.trans h.output,Nat.le_trans h.size k.size,fun p x hp hx=>k.cell p x hp (h.cell p x hp hx)⟩
theorem qN.put {V:aI} {W:World} {l:Nat} {o:Obj} (o':Obj) (hl:W.heap[l]?=some o) (ho:o.isCells=false):qN V W (W.putObj l o') :=
  ⟨rfl,rfl,rfl,by simp,fun p x _ hx=>cell_kept hx (grownBy_putObj' W l o') fun r e=>by cases e;exact⟨o,hl,ho⟩⟩
theorem qN.of {B:Base} {V V0 V':aI} {L L':List Box} {W W':World} (hs:St B V L W) (h:St ⟨V,W,L.map Box.g⟩ V' L' W') (h0:VLe V0 V):qN V0 W W' :=
  ⟨h.ext.os,h.ext.tape,h.ext.output,h.ext.sz,fun p x hp _=>(h.view p x (h.v0 p x (h0 p x hp))).1⟩
theorem cU.det {B B':Base} {V V':aI} {X X':List Box} {A:Option Addr} {n c E sz:Nat} {xs xs':List Value} {L L':List Box} {W:World} (h:cU A n c E sz xs L) (h':cU A n c E sz xs' L') (hs:St B V X W) (hs':St B' V' X' W) (hx:∀ b∈L,b∈X) (hx':∀ b∈L',b∈X'):xs=xs':=by
  rcases h.2 with ⟨h1,h2,h3,h4⟩|⟨g,cs,h1,h2,h3,h4,h5,h6⟩
  · have e1:=h.1
    have e2:=h'.1
    rw [h3,Nat.zero_mul] at e1 e2
    rw [List.eq_nil_of_length_eq_zero e1,List.eq_nil_of_length_eq_zero e2]
  · rcases h'.2 with ⟨_,k2,_⟩|⟨g',cs',k1,k2,k3,k4,k5,k6⟩
    · rw [h1] at k2;cases k2
    · rw [h1] at k1
      simp only [Option.some.injEq,Addr.mk.injEq,true_and,and_true] at k1
      subst k1
      have o1:=(hs.own _ (hx ⟨g,E,cs⟩ (by rw [h2];simp))).1
      have o2:=(hs'.own _ (hx' ⟨g,E,cs'⟩ (by rw [k2];simp))).1
      simp only [BT.obj_cells] at o1 o2
      rw [o1] at o2
      simp only [Option.some.injEq,Obj.cells.injEq,List.toArray_inj] at o2
      have e:cs=cs':=by simpa using o2
      rw [←h6,←k6,e]
theorem cU.cells {A:Option Addr} {n c E sz:Nat} {xs:List Value} {L:List Box} (h:cU A n c E sz xs L):∀ b∈L,∃ E,b.t=.cells E:=by
  rcases h.2 with ⟨h1,_⟩|⟨g,cs,_,h2,_⟩
  · rw [h1];simp
  · rw [h2];intro b hb;rw [List.mem_singleton.1 hb];exact⟨_,rfl⟩
section
variable {P : Program} {B : Base} {N : Nat} {Q : Exit → Act → World → Prop} {k : List kI} {F : List (Nat × Value)} {V : aI}
theorem gc_collect {α:Type} (cf:α→List Value) (enc:α→Value) (xs:List α) {γ T E sz p:Nat} {g:Operand} {gf:Nat} {lb:List Value} {id3 id4 i1:Nat} {l3 l4:List Oper} {F6:Nat→List (Nat×Value)}
    (hg:evF F g=some (.func (.func gf) #[] lb.toArray)) (eg:∀ args w,(callFunc gf args).run P w=.ok (.enter gf args) w) (hp:okD N (some p)=true)
    (hseq:∀ w,VIn V w→SeqStopsK Fence.wide 2 P gf lb.toArray (fun x=>#[enc x]) (qN V) (fun ys=>ys=xs) (fun _=>True) xs.length w)
    (hd3:∀ r,∀ o∈l3,∀ ev,o.semAt (some r) ev=execOp ev o) (hd4:∀ r,∀ o∈l4,∀ ev,o.semAt (some r) ev=execOp ev o)
    (hA:∀ (x:α) (V':aI) (L':List Box) (B':Base) (Q':Exit→Act→World→Prop),(∀ γ6,AtQ P B' N Q' [] .normal (F6 γ6) V' (⟨γ6,E,cf x⟩ :: L'))→GoL P B' N .plain l3.toArray Q' [] l3 ((p,enc x) :: F) V' L')
    (hBd:∀ (x:α) (V':aI) (B':Base) (Q':Exit→Act→World→Prop) (γ6:Nat) (A:Option Addr) (n c:Nat) (us:List Value) (LA:List Box),cU A n c E sz us LA→n<xs.length→(∀ A2 c2 LA2 F',cU A2 (n+1) c2 E sz (us ++ cf x) LA2→AtQ P B' N Q' [] .normal F' V' (⟨γ6,E,cf x⟩ :: ⟨γ,T,[.slice A2 (n+1) c2]⟩ :: LA2))→GoL P B' N .plain l4.toArray Q' [] l4 (F6 γ6) V' (⟨γ6,E,cf x⟩ :: ⟨γ,T,[.slice A n c]⟩ :: LA))
    (hdone:∀ (D:Nat) (V':aI) (A:Option Addr) (n c:Nat) (LA:List Box) (a:Act) (W:World),B.w.heap.size≤D→VLe V V'→cU A n c E sz (xs.flatMap cf) LA→xs.length=n→Kn N F a→St B V' (⟨γ,T,[.slice A n c]⟩ :: LA) W→W.heap[D]?=some (.deferred (some []))→evalQ P Q k .normal { a with defers:={ target:=.collected D,args:=#[] } :: a.defers } W) :
    GoC P B N (.rangeFunc g #[p] (.region id3 l3.toArray false) (.block i1 (.region id4 l4.toArray false))) Q k F V [⟨γ,T,[.slice none 0 0]⟩]:=fun a w ha hs=>by
  have hbox:∀ {A:Option Addr} {n c:Nat} {us:List Value} {LA:List Box},cU A n c E sz us LA→∀ b∈(⟨γ,T,[.slice A n c]⟩ :: LA:List Box),∃ E,b.t=.cells E:=fun h b hb=>by
    rcases List.mem_cons.1 hb with rfl|hb
    · exact⟨_,rfl⟩
    · exact h.cells b hb
  let I:List α→World→Prop:=fun pre W=>∃ V' A n c LA,VLe V V'∧cU A n c E sz (pre.flatMap cf) LA∧pre.length=n∧St B V' (⟨γ,T,[.slice A n c]⟩ :: LA) W
  let Ax:α→Act→World→Prop:=fun x a' W=>∃ V' A n c LA γ6 us,VLe V V'∧cU A n c E sz us LA∧Kn N (F6 γ6) a'∧St B V' (⟨γ6,E,cf x⟩ :: ⟨γ,T,[.slice A n c]⟩ :: LA) W
  refine wpIn_wide.1 (wpIn_rangeFunc_ownH (n:=3) (w0:=w) rfl (by omega) (ha.ev hg) trivial eg (hseq w fun p x hp=>(hs.view p x hp).1) (fun h k=>h.trans k) (fun W l o o' _ hl ho _=>qN.put o' hl ho) (Below.refl _ w) (fun _=>rfl) I (fun _ _ _=>False) ?_ (fun _ _ _ _ _ h _ _=>h) ⟨V,none,0,0,[],VLe.refl V,cU.nil,rfl,hs⟩ Ax ?_ ?_ ?_ ?_ ?_)
  · rintro pre W W' row ⟨V',A,n,c,LA,h1,h2,h3,h4⟩ hgr hr
    exact⟨V',A,n,c,LA,h1,h2,h3,h4.ownFrom hgr hr hs.ext.sz (hbox h2)⟩
  · rintro x a' _ W W' row ⟨V',A,n,c,LA,γ6,us,h1,h2,h3,h4⟩ hgr hr
    refine⟨V',A,n,c,LA,γ6,us,h1,h2,h3,h4.ownFrom hgr hr hs.ext.sz fun b hb=>?_⟩
    rcases List.mem_cons.1 hb with rfl|hb
    · exact⟨_,rfl⟩
    · exact hbox h2 b hb
  · rintro l pre x W K ⟨V',A,n,c,LA,h1,h2,h3,h4⟩ hK
    have hput:({ tmps:=(#[p].zip #[enc x]).foldl (fun t (p,v)=>t.setIfInBounds p v) a.tmps,defers:=[] }:Act)=a.put (some p) (enc x):=by
      have:=ha.1
      cases a;simp_all [Act.put]
    rw [hput]
    have hkn:Kn N ((p,enc x) :: F) (a.put (some p) (enc x)):=ha.put hp (enc x)
    refine region_in (Q:=Exit.then K fun _ _ _=>False) (fun ⟨_,_,h⟩=>h) (hd3 l) (hA x V' _ ⟨V',W,_⟩ _ fun γ6 a' W' hk' hs'=>?_) hkn h4.rebase
    have hb:=h4.back hs'
    exact hK a' W' ((h4.keeps (hbox h2) hs').from _) (qN.of h4 hs' h1) ⟨V',A,n,c,LA,h1,h2,h3,hb.drop (List.Sublist.cons _ (List.Sublist.refl _))⟩ ⟨V',A,n,c,LA,γ6,_,h1,h2,hk',hb⟩
  · rintro l pre x a' W _ _ ⟨V1,A1,n1,c1,LA1,g1,g2,g3,g4⟩ ⟨V',A,n,c,LA,γ6,us,h1,h2,h3,h4⟩ hlen
    have o1:=(g4.own _ List.mem_cons_self).1
    have o2:=(h4.own _ (List.mem_cons_of_mem _ List.mem_cons_self)).1
    simp only [BT.obj_cells] at o1 o2
    rw [o1] at o2
    simp only [Option.some.injEq,Obj.cells.injEq,List.toArray_inj,List.cons.injEq,Value.slice.injEq,and_true] at o2
    obtain⟨rfl,rfl,rfl⟩:=o2
    have hus:=g2.det h2 g4 h4 (fun b hb=>List.mem_cons_of_mem _ hb) (fun b hb=>List.mem_cons_of_mem _ (List.mem_cons_of_mem _ hb))
    have hcells:∀ b∈(⟨γ6,E,cf x⟩ :: ⟨γ,T,[.slice A1 n1 c1]⟩ :: LA:List Box),∃ E,b.t=.cells E:=fun b hb=>by
      rcases List.mem_cons.1 hb with rfl|hb
      · exact⟨_,rfl⟩
      · exact hbox h2 b hb
    refine wpIn_block (region_in (Q:=Exit.inBlock i1 _) (fun ⟨_,_,h⟩=>h) (hd4 l) (hBd x V' ⟨V',W,_⟩ _ γ6 A1 n1 c1 us LA h2 (by omega) fun A2 c2 LA2 F' hr2 a2 W2 hk2 hs2=>?_) h3 h4.rebase)
    have hb:=h4.back hs2
    exact⟨(h4.keeps hcells hs2).from _,qN.of h4 hs2 h1,V',A2,n1+1,c2,LA2,h1,by rw [List.flatMap_append,hus];simpa using hr2,by simp [g3],hb.drop (List.Sublist.cons _ (List.Sublist.refl _))⟩
  · rintro D ys W hD rfl ⟨V',A,n,c,LA,h1,h2,h3,h4⟩ hD2
    exact hdone D V' A n c LA a W (Nat.le_trans hs.ext.sz hD) h1 h2 h3 ha h4 hD2
  · rintro D c pre W _ _ h
    exact h.elim
end
end
section
def GoI (P:Program) (B:Base) (N:Nat) (ops:Array Oper) (Q:Exit→Act→World→Prop) (rest:List Oper) (F:List (Nat×Value)) (V:aI) (L:List Box):Prop:=∀ a w,Kn N F a→St B V L w→wpListIn Fence.wide 2 P ops Q rest a w
section
variable {P : Program} {B : Base} {N : Nat} {Q : Exit → Act → World → Prop} {ops : Array Oper} {rest : List Oper} {F : List (Nat × Value)} {V : aI} {L : List Box} {k : List kI}
variable {op : Op} {ty : TypeId} {pos : String} {af : Array Edge}
theorem gc_regionI {id:Nat} {l:List Oper} (h:GoI P B N l.toArray (evalQ P Q k) l F V L):GoC P B N (.region id l.toArray false) Q k F V L:=fun a w ha hs=>wpIn_wide.1 (wpIn_region_lit (h a w ha hs))
theorem gi_nil (h:AtQ P B N Q k .normal F V L):GoI P B N ops (evalQ P Q k) [] F V L:=fun a w ha hs=>h a w ha hs
theorem sH {t:Nat} {v:Value} (hd:okD N (some t)=true) (hq:QP P B N V L ⟨some t,op,ty,pos,af,none⟩ F v) (h:GoI P B N ops Q rest ((t,v) :: F) V L):GoI P B N ops Q (⟨some t,op,ty,pos,af,none⟩ :: rest) F V L:=fun a w ha hs=>by
  unfold wpListIn
  rw [if_pos (by simp [Region.wanted])]
  refine⟨fun _ _=>trivial,?_⟩
  show Oper.uponIn _ _ _ _ _ _ _ ((execOp a.eval _).run P w)
  rw [hq a w ha hs]
  exact h _ w (ha.put hd v) hs
theorem exec_yield {F:List (Nat×Value)} {a:Act} (ha:Kn N F a) {d:Option Tmp} {gd:Option (Nat×Bool)} {fo:Operand} {args:List Operand} {ats:Array TypeId} {vs:List Value} {l:Nat} (hf:evF F fo=some (.func (.yield l) #[] #[])) (hv:evL F args=some vs) (w:World) :
    (execOp a.eval ⟨d,.call ⟨.value fo,args.toArray,ats⟩,ty,pos,af,gd⟩).run P w=(Instr.yield l vs.toArray).run P w:=by
  have h1:=ha.ev hf
  have h2:=ha.evL hv
  simp [execOp,resolve,h1,h2,Deferred.ofValue,invoke]
theorem gi_yield {t l:Nat} {fo:Operand} {args:List Operand} {ats:Array TypeId} {vs:List Value} {Rb:Bool→World→Prop} (Vb:Bool→aI) (hd:okD N (some t)=true) (hf:evF F fo=some (.func (.yield l) #[] #[])) (hv:evL F args=some vs)
    (hY:∀ w,St B V L w→YieldAt Fence.wide 1 P l vs.toArray w fun e w'=>∃ b,e=.returned (.bool b)∧Rb b w') (hV:∀ b w',Rb b w'→VIn (Vb b) w')
    (h:∀ b w',Rb b w'→GoI P ⟨Vb b,w',[]⟩ N ops Q rest ((t,.bool b) :: F) (Vb b) []):GoI P B N ops Q (⟨some t,.call ⟨.value fo,args.toArray,ats⟩,ty,pos,af,none⟩ :: rest) F V L:=fun a w ha hs=>by
  unfold wpListIn
  rw [if_pos (by simp [Region.wanted])]
  refine⟨fun _ _=>trivial,?_⟩
  have hsem:∀ o:Oper,Oper.semAt Fence.wide.round a.eval o=execOp a.eval o:=fun _=>rfl
  rw [hsem]
  obtain⟨fn,tmps,assign,body,hy,hR⟩:=hY w hs
  rw [exec_yield ha hf hv w,hy]
  refine⟨fun hh=>(by cases hh),hR.mono ?_⟩
  rintro e w' ⟨b,rfl,hb⟩
  exact h b w' hb _ w' (ha.put hd _) ⟨Exc.refl _ w',fun p x hp=>⟨hV b w' hb p x hp,by simp⟩,fun p x hp _=>hp,VLe.refl (Vb b),by simp,by simp⟩
theorem gc_loopB {c:Code} (J:Base→List (Nat×Value)→aI→List Box→Nat→Prop) {F':List (Nat×Value)} {L':List Box} {m:Nat} (h0:J B F' V L' m) (hF:∀ p∈F',jC F p.1=some p.2) (hL:L'.Sublist L)
    (round:∀ B F V L m,J B F V L m→GoC P B N c Q (.thn (fun a w=>∃ B' F' V' L' m',m'<m∧J B' F' V' L' m'∧Kn N F' a∧St B' V' L' w) :: k) F V L):GoC P B N (.loop c) Q k F V L:=by
  intro a w ha hs
  have key:∀ n B F V L a w,J B F V L n→Kn N F a→St B V L w→(Code.loop c).wp P (evalQ P Q k) a w:=by
    intro n B F V L a w hJ ha hs
    let I:Act→World→Nat→Prop:=fun a w n=>∃ B F V L,J B F V L n∧Kn N F a∧St B V L w
    classical
    have hex:∀ a w,(∃ n,I a w n)→∃ n,I a w n∧∀ k,k<n→¬I a w k:=fun a w ⟨n,hn⟩=>by
      induction n using Nat.strongRecOn with
      | _ n ih =>
        by_cases h:∃ k,k<n∧I a w k
        · obtain⟨k,hk,hI⟩:=h;exact ih k hk hI
        · exact⟨n,hn,fun k hk hI=>h ⟨k,hk,hI⟩⟩
    let μ:Act→World→Nat:=fun a w=>if h:∃ n,I a w n then Classical.choose (hex a w h) else 0
    refine wp_loop (fun a w=>∃ n,I a w n) μ ⟨n,B,F,V,L,hJ,ha,hs⟩ fun a w h=>?_
    have hμ:=Classical.choose_spec (hex a w h)
    have hμe:μ a w=Classical.choose (hex a w h):=dif_pos h
    obtain⟨⟨B,F,V,L,hJ,ha,hs⟩,_⟩:=hμ
    refine Code.wp_mono (fun e a' w' q=>?_) (round B F V L _ hJ a w ha hs)
    cases e with
    | normal =>
      obtain⟨B',F',V',L',m',hlt,hJ',ha',hs'⟩:=q
      have h':∃ n,I a' w' n:=⟨m',B',F',V',L',hJ',ha',hs'⟩
      refine⟨h',?_⟩
      have hμe':μ a' w'=Classical.choose (hex a' w' h'):=dif_pos h'
      have hmin:=(Classical.choose_spec (hex a' w' h')).2 m'
      rw [hμe,hμe']
      rcases Nat.lt_or_ge m' (Classical.choose (hex a' w' h')) with hl|hl
      · exact absurd ⟨B',F',V',L',hJ',ha',hs'⟩ (hmin hl)
      · omega
    | exit i=>exact q
    | goto l=>exact q
    | ret=>exact q
    | panic ch=>exact q
    | outgrown=>exact q
  exact key m B F' V L' a w h0 (ha.less hF) (hs.drop hL)
theorem at_roundB {J:Base→List (Nat×Value)→aI→List Box→Nat→Prop} {m:Nat} (F':List (Nat×Value)) {L':List Box} (m':Nat) (hJ:J B F' V L' m') (hm:m'<m) (hF:∀ p∈F',jC F p.1=some p.2) (hL:L'.Sublist L) :
    AtQ P B N Q (.thn (fun a w=>∃ B' F' V' L' m',m'<m∧J B' F' V' L' m'∧Kn N F' a∧St B' V' L' w) :: k) .normal F V L:=fun a w ha hs=>⟨B,F',V,L',m',hm,hJ,ha.less hF,hs.drop hL⟩
end
def ItEnd {α:Type} (J Jx:List α→World→Prop) (S Sp:List α→Prop) (e:Ending) (W':World):Prop:=(∃ v,e=.returned v)∧((∃ xs,S xs∧J xs W')∨(∃ pre,Sp pre∧Jx pre W'))
theorem at_endI {P:Program} {B:Base} {N:Nat} {F:List (Nat×Value)} {V:aI} {L:List Box} {fn:Func} {α:Type} {J Jx:List α→World→Prop} {S Sp:List α→Prop} {e:Exit} (he:e=.normal∨e=.ret) (hr:fn.results=#[]) (h:∀ w,St B V L w→(∃ xs,S xs∧J xs w)∨(∃ pre,Sp pre∧Jx pre w)):AtQ P B N (bodyPost P fn (ItEnd J Jx S Sp)) [] e F V L:=fun a w ha hs=>by
  have key:a.defers=[]∧∃ v,(results fn a.tmps).run P w=.ok v w∧ItEnd J Jx S Sp (.returned v) w:=⟨ha.1,.tuple #[],by simp [results,hr],⟨_,rfl⟩,h w hs⟩
  rcases he with rfl|rfl<;>exact key
theorem seq_of {α:Type} {P:Program} {gf NN Nm:Nat} {fn:Func} {c:Code} {lb:List Value} {encs:α→Array Value} {V:aI} {S Sp:List α→Prop} (hf:P.funcs[gf]?=some fn) (hb:fn.body=some c) (hN:fn.ntmps=NN) (hsz:Nat.ble (1+lb.length) NN=true)
    (h:∀ (l:Nat) (J Jx:List α→World→Prop) (W:World),(∀ s W1 W',J s W1→Exc [] W1 W'→J s W')→(∀ s W1 W',Jx s W1→Exc [] W1 W'→Jx s W') →
      (∀ pre x W1,J pre W1→VIn V W1→pre.length<Nm→YieldAt Fence.wide 1 P l (encs x) W1 fun e W'=>∃ b,e=.returned (.bool b)∧((b=true∧J (pre ++ [x]) W'∧VIn V W')∨(b=false∧Jx (pre ++ [x]) W')))→J [] W →
      GoC P ⟨V,W,[]⟩ NN c (bodyPost P fn (ItEnd J Jx S Sp)) [] (xY (.func (.yield l) #[] #[] :: lb) 0) V []) :
    ∀ w,VIn V w→SeqStopsK Fence.wide 2 P gf lb.toArray encs (qN V) S Sp Nm w:=fun w hV l J Jx W hW hJ hJx hY h0=>by
  have hVW:VIn V W:=fun p x hp=>by
    have h1:=hV p x hp
    obtain⟨o,ho,_⟩:=cells_of_cell h1
    have h2:p.block<w.heap.size:=(Array.getElem?_eq_some_iff.1 ho).1
    exact(World.cell?_of_block (hW.block _ h2)).trans h1
  have hgr:∀ {X Y:World},Exc [] X Y→X.grownBy Y none:=fun h=>⟨h.os,h.tape,h.output,h.sz,fun k hk _=>h.block k hk (by simp)⟩
  have hg:=h l J Jx W (fun s X Y hs hx=>hJ s X Y none hs (hgr hx) (fun r e=>by cases e)) (fun s X Y hs hx=>hJx s X Y none hs (hgr hx) (fun r e=>by cases e))
    (fun pre x W1 hj hv hl=>YieldAt.mono (hY pre x W1 hj hl) fun e W' hr=>by
      rcases hr with ⟨rfl,h1,h2⟩|⟨rfl,h1⟩
      · exact⟨true,rfl,.inl ⟨rfl,h1,fun p y hp=>h2.cell p y hp (hv p y hp)⟩⟩
      · exact⟨false,rfl,.inr ⟨rfl,h1⟩⟩) h0
  refine callsIn_wide.2 (calls_of_wp hf hb ?_)
  have hargs:(#[.func (.yield l) #[] #[]] ++ lb.toArray:Array Value)=(.func (.yield l) #[] #[] :: lb:List Value).toArray:=by simp
  rw [hargs]
  refine hg _ W ⟨rfl,?_,fun t v hv=>?_⟩ ⟨Exc.refl _ W,fun p x hp=>⟨hVW p x hp,by simp⟩,fun p x hp _=>hp,VLe.refl V,by simp,by simp⟩
  · have:=Nat.le_of_ble_eq_true hsz
    simp [hN];omega
  · obtain⟨_,h2⟩:=pH _ 0 t v hv
    generalize (.func (.yield l) #[] #[] :: lb:List Value)=args at *
    have hlt:t<args.length:=by
      rcases Nat.lt_or_ge t args.length with hl|hl
      · exact hl
      · rw [List.getElem?_eq_none (by omega)] at h2;cases h2
    rw [List.getElem?_eq_getElem (by omega)] at h2
    simp only [Nat.sub_zero] at h2
    injection h2 with h2
    simp [Array.getElem?_append,hlt,h2]
end
section
theorem fn_enterM {P:Program} {N:Nat} {V:aI} {f:FuncId} {fn:Func} {c:Code} {args:List Value} {R:Value→aI→Prop} (hf:P.funcs[f]?=some fn) (hb:fn.body=some c) (hN:fn.ntmps=N) (hsz:Nat.ble args.length N=true)
    (h:∀ w,GoC P ⟨V,w,[]⟩ N c (bodyPostM Fence.wide 3 P fn (FnEnd V w R)) [] (xY args 0) V []):Fn P f args V R:=fun w hV=>by
  refine callsIn_wide.1 (callsIn_of_wp_marks (n:=3) hf hb trivial (wpIn_wide.2 (h w _ w ⟨rfl,?_,fun t v hv=>?_⟩ ⟨Exc.refl _ w,fun p x hp=>⟨hV p x hp,by simp⟩,fun p x hp _=>hp,VLe.refl V,by simp,by simp⟩)))
  · have:=Nat.le_of_ble_eq_true hsz
    simp [hN];omega
  · obtain⟨_,h2⟩:=pH args 0 t v hv
    have hlt:t<args.length:=by
      rcases Nat.lt_or_ge t args.length with hl|hl
      · exact hl
      · rw [List.getElem?_eq_none (by omega)] at h2;cases h2
    rw [List.getElem?_eq_getElem (by omega)] at h2
    simp only [Nat.sub_zero] at h2
    injection h2 with h2
    simp [Array.getElem?_append,hlt,h2]
theorem tail_call {P:Program} {V0 V':aI} {w0 W:World} {N D id f t1 t2 t3:Nat} {F:List (Nat×Value)} {L:List Box} {a:Act} {fn:Func} {Rf R':Value→aI→Prop} {op1:Op} {v1:Value} {ty1 ty2 ty3:TypeId} {p1 p2 p3:String} {af1 af2 af3:Array Edge} {ats:Array TypeId}
    (hres:fn.results=#[.tmp t3]) (ha:Kn N F a) (hs:St ⟨V0,w0,[]⟩ V' L W) (hD:W.heap[D]?=some (.deferred (some []))) (hDw:w0.heap.size≤D) (hcl:∀ b∈L,∃ E,b.t=.cells E) (he:kW P f)
    (hd1:okD N (some t1)=true) (hd2:okD N (some t2)=true) (hd3:okD N (some t3)=true)
    (h1:QP P ⟨V0,w0,[]⟩ N V' L ⟨some t1,op1,ty1,p1,af1,none⟩ F v1) (hc:Fn P f [v1] V' R') (hR:∀ v V'',VLe V' V''→R' v V''→Rf v V'') :
    ((Code.region id #[⟨some t1,op1,ty1,p1,af1,none⟩,⟨some t2,.call ⟨.value (.func f),#[.tmp t1],ats⟩,ty2,p2,af2,none⟩,⟨some t3,.assign (.tmp t2),ty3,p3,af3,none⟩] false).seq .ret).wp P (bodyPostM Fence.wide 3 P fn (FnEnd V0 w0 Rf)) { a with defers:={ target:=.collected D,args:=#[] } :: a.defers } W:=by
  have hev:∀ b:Act,∀ ds,({ b with defers:=ds }:Act).eval=b.eval:=fun b ds=>by funext x;cases x<;>rfl
  have hput:∀ (b:Act) ds d v,({ b with defers:=ds }:Act).put d v={ b.put d v with defers:=ds }:=fun b ds d v=>by cases d<;>rfl
  refine wp_seq (wp_region_lit (l:=[_,_,_]) ?_)
  unfold wpList
  rw [if_pos (by simp [Region.wanted])]
  left
  unfold Oper.wp
  rw [hev,h1 a W ha hs]
  show wpList P _ _ _ (({ a with defers:=_ }:Act).put (some t1) v1) W
  rw [hput]
  have ha1:=ha.put hd1 v1
  unfold wpList
  rw [if_pos (by simp [Region.wanted])]
  left
  unfold Oper.wp
  rw [hev]
  have hx:=rO (d:=some t2) (ty:=ty2) (pos:=p2) (af:=af2) (gd:=none) (ats:=ats) (w:=W) he ha1 (args:=[.tmp t1]) (vs:=[v1]) (by simp [evL,evF,sJ,jO])
  have hx':(execOp (a.put (some t1) v1).eval ⟨some t2,.call ⟨.value (.func f),#[.tmp t1],ats⟩,ty2,p2,af2,none⟩).run P W=.ok (.enter f [v1].toArray) W:=hx
  rw [hx',Oper.upon_enter]
  refine(hc W fun p x hp=>(hs.view p x hp).1).mono ?_
  rintro e W2 ⟨v2,rfl,hext,V2,g1,g2,g3,g4⟩
  have hs2:=hs.call hext g1 g2 g3
  show wpList P _ _ _ (({ a.put (some t1) v1 with defers:=_ }:Act).put (some t2) v2) W2
  rw [hput]
  have ha2:=ha1.put hd2 v2
  unfold wpList
  rw [if_pos (by simp [Region.wanted])]
  left
  unfold Oper.wp
  rw [hev]
  have e3:(execOp ((a.put (some t1) v1).put (some t2) v2).eval ⟨some t3,.assign (.tmp t2),ty3,p3,af3,none⟩).run P W2=.ok (.value v2) W2:=by
    have:=ha2.ev (x:=.tmp t2) (v:=v2) (by simp [evF,sJ,jO])
    simp [execOp,this]
  rw [e3]
  rw [Oper.upon_value]
  show Code.wp P .ret _ (({ (a.put (some t1) v1).put (some t2) v2 with defers:=_ }:Act).put (some t3) v2) W2
  rw [hput]
  have ha3:=ha2.put hd3 v2
  refine wp_ret ?_
  have hD2:W2.heap[D]?=some (.deferred (some [])):=(hext.block D (Array.getElem?_eq_some_iff.1 hD).1).trans hD
  have hs3:St ⟨V0,w0,[]⟩ V2 L (W2.putObj D (.deferred none)):=hs2.ownFrom (b0:=w0.heap.size) (grownBy_putObj' W2 D _) (fun r e=>by cases e;exact⟨hDw,_,hD2,rfl⟩) (Nat.le_refl _) hcl
  have hdef:(((a.put (some t1) v1).put (some t2) v2).put (some t3) v2).defers=[]:=ha3.1
  show LeavesInM Fence.wide 3 P fn _ _ ({ target:=.collected D,args:=#[] } :: a.defers) .returning W2
  rw [ha.1]
  refine⟨by simp,.inl ⟨D,_,rfl,run_takeDeferred hD2,v2,?_,fnEnd_of hs3 (hR v2 V2 g1 g4)⟩⟩
  have hv:=ha3.2.2 t3 v2 (by simp [sJ,jO])
  have hv':(((a.put (some t1) v1).put (some t2) v2).put (some t3) v2).tmps[t3]?.getD undef=v2:=by rw [←Array.getD_eq_getD_getElem?];exact hv
  simp [results,hres,hv']
end
section
structure LF where
  x:LN
  lay:Int
abbrev flC (f:LF):List Value:=[.int .i64 f.x.h.kind,.int .i64 f.x.h.mode,.int .i64 f.x.h.user,.int .i64 f.x.h.group,.bool f.x.h.opq,.slice f.x.A f.x.na f.x.ca,.string f.x.h.data,.slice f.x.K f.x.nk f.x.ck,.int .i64 f.lay]
abbrev flV (f:LF):Value:=.agg #[.int .i64 f.x.h.kind,.int .i64 f.x.h.mode,.int .i64 f.x.h.user,.int .i64 f.x.h.group,.bool f.x.h.opq,.slice f.x.A f.x.na f.x.ca,.string f.x.h.data,.slice f.x.K f.x.nk f.x.ck,.int .i64 f.lay]
def fz (f:LF):PF:=(f.x.n,f.lay)
theorem ones_fl (l:List LF):∀ u∈l.flatMap flC,iO u=true:=fun u hu=>by
  obtain⟨r,_,hr⟩:=List.mem_flatMap.1 hu
  simp only [List.mem_cons,List.not_mem_nil,or_false] at hr
  rcases hr with rfl|rfl|rfl|rfl|rfl|rfl|rfl|rfl|rfl<;>rfl
theorem yL (f:LF):∀ u∈flC f,iO u=true:=fun u hu=>ones_fl [f] u (by simpa using hu)
theorem fl_len (f:LF):(flC f).length=9:=rfl
def dL (V:aI) (A:Option Addr) (n:Nat) (fs:List LF):Prop:=eT V 9 flC A n fs∧∀ f∈fs,aX V f.x
theorem dL.le {V V':aI} (hv:VLe V V') {A:Option Addr} {n:Nat} {fs:List LF} (h:dL V A n fs):dL V' A n fs:=⟨h.1.le hv,fun f hf=>(h.2 f hf).le hv⟩
theorem dL.nil {V:aI} {A:Option Addr}:dL V A 0 []:=⟨eT.nil,by simp⟩
theorem dL.of {V:aI} {A:Option Addr} {n:Nat} {fs:List LF} (hc:eU V 9 A n (fs.flatMap flC)) (hl:fs.length=n) (hm:n≤maxLen) (hg:∀ f∈fs,aX V f.x):dL V A n fs:=⟨eT.of_cells hc fl_len hl hm,hg⟩
theorem dL.at_ {V:aI} {A:Option Addr} {n:Nat} {fs:List LF} (h:dL V A n fs) {k:Nat} (hk:k<n):∃ b off f,A=some ⟨b,off,none⟩∧fs[k]?=some f∧aL V b (off+k * 9) (flC f)∧aX V f.x:=by
  obtain⟨b,off,r,ha,hx,hc⟩:=h.1.at_ hk
  exact⟨b,off,r,ha,hx,hc,h.2 r (List.mem_of_getElem? hx)⟩
def qM (ps:List PF) (v:Value) (V':aI):Prop:=∃ (A:Option Addr) (n c:Nat) (fs:List LF),v=.slice A n c∧dL V' A n fs∧n≤c∧fs.map fz=ps
theorem fz_at {fs:List LF} {k:Nat} {f:LF} (h:fs[k]?=some f):(fs.map fz)[k]?=some (fz f):=by rw [List.getElem?_map,h];rfl
theorem yJ {l:List PF} {i:Nat} {f:PF} (h:l[i]?=some f) (hk:¬f.1.h.kind=2):dI (l.drop i)=[]:=by
  obtain⟨hi,rfl⟩:=List.getElem?_eq_some_iff.1 h
  rw [List.drop_eq_getElem_cons hi,dI,if_neg hk]
theorem dirs_opq {l:List PF} {i:Nat} {f:PF} (h:l[i]?=some f) (hk:f.1.h.kind=2) (ho:f.1.h.opq=true):dI (l.drop i)=[f]:=by
  obtain⟨hi,rfl⟩:=List.getElem?_eq_some_iff.1 h
  rw [List.drop_eq_getElem_cons hi,dI,if_pos hk,if_pos ho]
theorem dirs_done {l:List PF} {i:Nat} (h:l.length≤i):dI (l.drop i)=[]:=by rw [List.drop_eq_nil_of_le h];rfl
theorem shown_file {l:List PF} {f:PF} (h:l[0]?=some f) (hk:f.1.h.kind=1):dJ l=[f]:=by
  cases l with
  | nil=>cases h
  | cons g l=>simp at h;subst h;rw [dJ,if_pos hk]
theorem shown_dirs {l:List PF} {f:PF} (h:l[0]?=some f) (hk:¬f.1.h.kind=1):dJ l=dI l:=by
  cases l with
  | nil=>cases h
  | cons g l=>simp at h;subst h;rw [dJ,if_neg hk]
theorem qU {fs:List LF} {k:Nat} {f:LF} (h:fs[k]?=some f):(fs.take (k+1)).map fz=(fs.take k).map fz ++ [fz f]:=by rw [List.take_add_one,h,List.map_append];rfl
theorem cell0 {V:aI} {g:Nat} {v:Value} (h:aL V g 0 [v]):V ⟨g,0,none⟩=some v:=h 0 v rfl
theorem vin_st {B:Base} {V:aI} {L:List Box} {w:World} (h:St B V L w):VIn V w:=fun p x hp=>(h.view p x hp).1
theorem dL.one {V:aI} {g:Nat} {f:LF} {cs:List Value} (h:aL V g 0 cs) (hcs:cs=flC f) (hN:aX V f.x):dL V (some ⟨g,0,none⟩) 1 [f]:=by
  subst hcs
  exact dL.of ⟨rfl,fun _=>⟨g,0,rfl,by simpa using h⟩⟩ rfl (by unfold maxLen;omega) (by simpa using hN)
theorem dL.part {V V':aI} {A A':Option Addr} {n k:Nat} {fs:List LF} (h:dL V A n fs) (hV:VLe V V') (hk:k≤n) (hn:n≤1000) (hc:eU V' 9 A' k ((fs.take k).flatMap flC)):dL V' A' k (fs.take k) :=
  dL.of hc (by have:=h.1.1;rw [List.length_take];omega) (by unfold maxLen;omega) fun f hf=>(h.2 f (List.mem_of_mem_take hf)).le hV
theorem find_first {α:Type} {p:α→Bool}:∀ {l:List α} {k:Nat} {x:α},l[k]?=some x→p x=true→(∀ j,j<k→∀ y,l[j]?=some y→¬p y=true)→l.find? p=some x
  | [],k,x,h,_,_=>by simp at h
  | a :: l,0,x,h,hp,_=>by simp at h;subst h;rw [List.find?_cons,hp]
  | a :: l,k+1,x,h,hp,hn=>by
    have h0:p a=false:=by simpa using hn 0 (by omega) a rfl
    rw [List.find?_cons,h0]
    exact find_first (by simpa using h) hp fun j hj y hy=>hn (j+1) (by omega) y (by simpa using hy)
theorem find_nothing {α:Type} {p:α→Bool} {l:List α} (h:∀ (j:Nat) (y:α),l[j]?=some y→¬p y=true):l.find? p=none:=by
  rw [List.find?_eq_none]
  intro x hx
  obtain⟨j,hj,rfl⟩:=List.getElem_of_mem hx
  exact h j _ (List.getElem?_eq_getElem hj)
theorem fm_take_len {α β:Type} {f:α→Option β} {l:List α} {i:Nat} {x:α} {y:β} (h:l[i]?=some x) (hf:f x=some y):((l.take i).filterMap f).length<(l.filterMap f).length:=by
  have e:l.filterMap f=(l.take i).filterMap f ++ (l.drop i).filterMap f:=by rw [←List.filterMap_append,List.take_append_drop]
  obtain⟨hi,rfl⟩:=List.getElem?_eq_some_iff.1 h
  rw [e,List.length_append,List.drop_eq_getElem_cons hi,List.filterMap_cons,hf]
  simp
attribute [local irreducible] AtQ GoC GoL GoW QO QP Fn RV bX aL VLe cG bT
theorem Shown_c (V:aI) (A:Option Addr) (n c:Nat) (fs:List LF) (h:dL V A n fs) (hn:n≤1000):Fn Tryz.prog 254 [.slice A n c] V (qM (dJ (fs.map fz))):=by
  have hl:=h.1.1
  (refine aH Tryz.func254 rfl Tryz.ntmps254 rfl ?_;intro w0)
  repeat' (first|(refine aE ?_;refine pu9 ?_)|refine bW ?_|fail)
  have hlz:(fs.map fz).length=n:=by rw [List.length_map,hl]
  refine bQ (fun F V' L' m=>∃ (k:Nat) (A':Option Addr) (c':Nat) (LA:List Box),V=V'∧LA=L'∧k≤n∧cU A' k c' 306 9 ((fs.take k).flatMap flC) LA∧dI (fs.map fz)=(fs.take k).map fz ++ dI ((fs.map fz).drop k)∧(0<k→dJ (fs.map fz)=dI (fs.map fz))∧m=n - k∧F=[(3,.slice A' k c'),(6,.slice A n c),(7,.int .i64 n),(8,.int .i64 (k:Int))]) (m:=n) ⟨0,none,0,[],rfl,rfl,Nat.zero_le _,cU.nil,by simp,by simp,by omega,rfl⟩ bH rfl sl9 ?_
  rintro F V' L' m ⟨k,A',c',LA,rfl,rfl,hkn,hr,hd,hsh,rfl,rfl⟩
  have hcap:=hr.cap
  by_cases hlt:k<n
  · obtain⟨b,off,f,rfl,hf,hc,hN⟩:=h.at_ hlt
    have hfz:=fz_at hf
    have ho1:=yL f
    have htm:=qU hf
    have hfl:(fs.take (k+1)).flatMap flC=(fs.take k).flatMap flC ++ flC f:=by rw [List.take_add_one,hf,List.flatMap_append];simp
    have hsd:¬(f.x.h.kind=1∧k=0)→dJ (fs.map fz)=dI (fs.map fz):=fun hh=>by
      rcases Nat.eq_zero_or_pos k with h0|h0
      · subst h0;exact shown_dirs hfz (fun e=>hh ⟨e,rfl⟩)
      · exact hsh h0
    repeat' (first|(refine aE ?_;first|(refine aD ?_;(refine aT rfl und_272 inf_306 rfl rfl rfl hr bF (cZ bB rfl) bG (by omega) rfl rfl ?_;intro A2 c2 L2 hr2;have hcap2:=hr2.cap))|(refine cJ ?_;(refine aP rfl und_272 siz_306 zec_306 rfl rfl rfl rfl rfl rfl rfl ?_;intro γ))|refine st9 ?_|(refine al9 ?_;intro γ)|refine pu9 ?_)|refine dQ ?_|(refine aJ rfl rfl rfl ?_ ?_<;>intro hq<;>try exact no9)|(refine aA rfl ?_ ?_<;>intro hq<;>try exact no9)|(refine bP rfl ?_ ?_<;>intro hq))
    · obtain rfl:k=0:=by omega
      refine vK (gH.here _ _ _ _) ?_
      intro V2 hV2 hg2
      (refine aQ Tryz.results254 (aB rfl) ?_)
      exact⟨_,1,1,[f],rfl,dL.one hg2 rfl (hN.le hV2),Nat.le_refl _,by rw [shown_file hfz (by assumption)];rfl⟩
    · refine eA hr bF ?_
      intro V2 hV2 hc2
      (refine aQ Tryz.results254 (aB rfl) ?_)
      exact⟨_,_,_,fs.take k,rfl,h.part hV2 hkn hn hc2,hcap,by rw [hsd (by omega),hd,yJ hfz hq,List.append_nil]⟩
    · refine eA hr bF ?_
      intro V2 hV2 hc2
      (refine aQ Tryz.results254 (aB rfl) ?_)
      exact⟨_,_,_,fs.take k,rfl,h.part hV2 hkn hn hc2,hcap,by rw [hsd (by omega),hd,yJ hfz hq,List.append_nil]⟩
    · refine eA hr2 bF ?_
      intro V2 hV2 hc2
      (refine aQ Tryz.results254 (aB rfl) ?_)
      exact⟨_,_,_,fs.take (k+1),rfl,h.part hV2 hlt hn (by rw [hfl];exact hc2),hcap2,by rw [hsd (by omega),hd,dirs_opq hfz (by show f.x.h.kind=2;omega) hq,htm]⟩
    · refine aZ _ (n - (k+1)) ⟨k+1,A2,c2,L2,rfl,rfl,by omega,by rw [hfl];exact hr2,by rw [htm,hd,dirs_at hfz (by show f.x.h.kind=2;omega) hq];simp,fun _=>hsd (by omega),rfl,rfl⟩ (by omega) bH sl9
  · obtain rfl:k=n:=by omega
    repeat' (first|(refine aE ?_;refine pu9 ?_)|refine dR ?_|(refine aA rfl ?_ ?_<;>intro hq<;>try exact no9))
    all_goals
      refine eA hr bF ?_
      intro V2 hV2 hc2
      (refine aQ Tryz.results254 (aB rfl) ?_)
      refine⟨_,_,_,fs.take k,rfl,h.part hV2 hkn hn hc2,hcap,?_⟩
      rw [dirs_done (by omega),List.append_nil] at hd
      rcases Nat.eq_zero_or_pos k with h0|h0
      · obtain rfl:fs=[]:=List.eq_nil_of_length_eq_zero (by omega)
        simp [dJ]
      · rw [hsh h0,hd]
theorem Kids_mc (V:aI) (A:Option Addr) (n c:Nat) (nm:ByteArray):Fn Tryz.prog 262 [.slice A n c,.string nm] V fun v V'=>∃ g1 g2,v=.func (.func 270) #[] [.pointer (some ⟨g1,0,none⟩),.pointer (some ⟨g2,0,none⟩)].toArray∧V' ⟨g1,0,none⟩=some (.slice A n c)∧V' ⟨g2,0,none⟩=some (.string nm):=by
  (refine aH Tryz.func262 rfl Tryz.ntmps262 rfl ?_;intro w0)
  repeat' (first|(refine aE ?_;first|(refine al9 ?_;intro γ)|refine pu9 ?_)|refine dQ ?_|(refine aJ rfl rfl rfl ?_ ?_<;>intro hq<;>try exact no9)|(refine bU rfl rfl rfl ?_ ?_<;>intro hq)|(refine aA rfl ?_ ?_<;>intro hq<;>try exact no9)|(refine bP rfl ?_ ?_<;>intro hq))
  refine vK (gH.here _ _ _ _) ?_
  intro V2 hV2 hg2
  refine vK (gH.here _ _ _ _) ?_
  intro V3 hV3 hg3
  (refine aQ Tryz.results262 (aB rfl) ?_)
  exact⟨_,_,rfl,cell0 hg3,cell0 (hg2.le hV3)⟩
def oA (nm:ByteArray) (g:LF×List LK):Option LF:=if g.1.x.h.kind=2 then (g.2.find? fun e=>decide (e.nm=nm)).map (fun e=>⟨e.x,g.1.lay⟩) else none
theorem kids_seq (V:aI) (g1 g2:Nat) (A:Option Addr) (n c:Nat) (nm:ByteArray) (gs:List (LF×List LK)) (h1:V ⟨g1,0,none⟩=some (.slice A n c)) (h2:V ⟨g2,0,none⟩=some (.string nm)) (h:dL V A n (gs.map Prod.fst)) (hk:∀ g∈gs,eI V g.1.x.K g.1.x.nk g.2) :
    ∀ w,VIn V w→SeqStopsK Fence.wide 2 Tryz.prog 270 [.pointer (some ⟨g1,0,none⟩),.pointer (some ⟨g2,0,none⟩)].toArray (fun f:LF=>#[flV f]) (qN V) (fun ys=>ys=gs.filterMap (oA nm)) (fun _=>True) (gs.filterMap (oA nm)).length w:=by
  have hl:=h.1.1
  rw [List.length_map] at hl
  have hm:=h.1.max
  refine seq_of Tryz.func270 rfl Tryz.ntmps270 rfl ?_
  intro l J Jx W hJ hJx hY h0
  repeat' (first|(refine aE ?_;refine pu9 ?_)|refine gxb9 ?_|refine cL (id:=0) ?_)
  refine gc_loopB (fun B F V' L' m=>∃ (i:Nat) (W1:World),B=⟨V,W1,[]⟩∧V=V'∧[]=L'∧J ((gs.take i).filterMap (oA nm)) W1∧i≤n∧m=n - i∧F=[(0,.func (.yield l) #[] #[]),(2,.pointer (some ⟨g2,0,none⟩)),(8,.slice A n c),(9,.int .i64 n),(10,.int .i64 (i:Int))]) (m:=n) ⟨0,W,rfl,rfl,rfl,by simpa using h0,Nat.zero_le _,by omega,rfl⟩ bH sl9 ?_
  rintro B F V' L' m ⟨i,W1,rfl,rfl,rfl,hJ1,hin,rfl,rfl⟩
  by_cases hlt:i<n
  · obtain⟨b,off,f,rfl,hf,hc,hN⟩:=h.at_ hlt
    obtain⟨g,hg,rfl⟩:∃ g,gs[i]?=some g∧g.1=f:=by
      rw [List.getElem?_map] at hf
      cases hgi:gs[i]? with
      | none=>rw [hgi] at hf;cases hf
      | some g=>rw [hgi] at hf;exact⟨g,rfl,by simpa using hf⟩
    obtain⟨f,es⟩:=g
    have hK:=hk _ (List.mem_of_getElem? hg)
    have hKm:=hK.max
    have hKl:=hK.len
    simp only [] at hc hN hK hKm hKl
    have htk:(gs.take (i+1)).filterMap (oA nm)=(gs.take i).filterMap (oA nm) ++ (oA nm (f,es)).toList:=by rw [List.take_add_one,hg,List.filterMap_append];simp [List.filterMap_cons];cases oA nm (f,es)<;>rfl
    repeat' (first|(refine aE ?_;first|refine st9 ?_|(refine al9 ?_;intro γ)|refine pu9 ?_)|refine gxb9 ?_|refine dX [1,2,3] rfl ?_|(refine aA rfl ?_ ?_<;>intro hq<;>try exact no9))
    refine bQ (fun F V'' L'' m=>∃ k:Nat,V=V''∧[⟨γ,306,flC f⟩]=L''∧k≤f.x.nk∧(∀ j,j<k→∀ e,es[j]?=some e→¬(f.x.h.kind=2∧e.nm=nm))∧m=f.x.nk - k∧F=[(0,.func (.yield l) #[] #[]),(2,.pointer (some ⟨g2,0,none⟩)),(5,.pointer (some ⟨γ,0,none⟩)),(8,.slice (some ⟨b,off,none⟩) n c),(9,.int .i64 n),(10,.int .i64 (i:Int)),(16,.slice f.x.K f.x.nk f.x.ck),(17,.int .i64 f.x.nk),(18,.int .i64 (k:Int))]) (m:=f.x.nk) ⟨0,rfl,rfl,Nat.zero_le _,(by omega),by omega,rfl⟩ bH rfl sl9 ?_
    rintro F V'' L'' m ⟨k,rfl,rfl,hkn,hno,rfl,rfl⟩
    by_cases hlt2:k<f.x.nk
    · obtain⟨b1,o1,e,hKb,he,hem,hce,c0,c1,hms,hne⟩:=hK.at_ hlt2
      repeat' (first|(refine aE ?_;first|(refine cK ?_;refine aR (bL und_68 siz_156 rfl hKb rfl hlt2) ?_)|refine st9 ?_|(refine al9 ?_;intro γ)|refine pu9 ?_)|refine gxcbe9 ?_|(refine aJ rfl rfl rfl ?_ ?_<;>intro hq<;>try exact no9)|refine dX [4,5,6,8] rfl ?_|(refine aA rfl ?_ ?_<;>intro hq<;>try exact no9))
      · have hno':∀ j,j<k+1→∀ e',es[j]?=some e'→¬(f.x.h.kind=2∧e'.nm=nm):=fun j hj e' he' hh=>hq hh.1
        refine aZ _ (f.x.nk - (k+1)) ⟨k+1,rfl,rfl,by omega,hno',rfl,rfl⟩ (by omega) bH sl9
      · have hno':∀ j,j<k+1→∀ e',es[j]?=some e'→¬(f.x.h.kind=2∧e'.nm=nm):=fun j hj e' he' hh=>by
          rcases Nat.lt_or_ge j k with h3|h3
          · exact hno j h3 e' he' hh
          · have hjk:j=k:=by omega
            rw [hjk,he] at he';cases he';exact hq hh.2
        refine aZ _ (f.x.nk - (k+1)) ⟨k+1,rfl,rfl,by omega,hno',rfl,rfl⟩ (by omega) bH sl9
      · rename_i hk2
        have hkd:oA nm (f,es)=some ⟨e.x,f.lay⟩:=by
          unfold oA
          rw [if_pos (show f.x.h.kind=2 by omega),find_first he (decide_eq_true (Decidable.not_not.1 hq)) fun j hj y hy=>fun hd=>hno j hj y hy ⟨by omega,of_decide_eq_true hd⟩];rfl
        have hlen:=fm_take_len hg hkd
        rw [hkd] at htk
        have htk':(gs.take (i+1)).filterMap (oA nm)=(gs.take i).filterMap (oA nm) ++ [⟨e.x,f.lay⟩]:=htk
        refine gc_regionI ?_;refine sH rfl (kV rfl) ?_;refine sH rfl (eE fld_156_1 rfl) ?_;(first|refine sH rfl (pG agg_70 rfl bB (by exact rfl)) ?_|refine sH rfl (lR agg_70 rfl (by assumption) (by exact rfl)) ?_|refine sH rfl (mA agg_70 rfl bB (by exact rfl) (by exact rfl)) ?_|refine sH rfl (mA agg_70 rfl bB (by assumption) (by exact rfl)) ?_);refine sH rfl (eE fld_306_1 rfl) ?_;(first|refine sH rfl (bE one_3 rfl bB (by exact rfl)) ?_|refine sH rfl (bE one_3 rfl bB (by assumption)) ?_|refine sH rfl (cI one_3 rfl (by assumption)) ?_);refine sH rfl (q_build bld_306 rfl rfl) ?_
        refine gi_yield (vs:=[_]) (fun b=>if b=true then V else fun _=>none) (Rb:=fun b W'=>(b=true∧J ((gs.take i).filterMap (oA nm) ++ [⟨e.x,f.lay⟩]) W'∧VIn V W')∨(b=false∧Jx ((gs.take i).filterMap (oA nm) ++ [⟨e.x,f.lay⟩]) W')) rfl rfl rfl ?_ ?_ ?_
        · intro w hs
          refine Eq.mp ?_ (hY _ ⟨e.x,f.lay⟩ w (hJ _ W1 w hJ1 hs.ext) (vin_st hs) hlen)
          congr 1
        · rintro b' W' (⟨rfl,_,h3⟩|⟨rfl,_⟩)
          · exact h3
          · exact fun p x hp=>by simp at hp
        · rintro b' W' (⟨rfl,h3,h4⟩|⟨rfl,h3⟩)
          · (first|refine sH rfl (q_not_t rfl) ?_|refine sH rfl (yA rfl) ?_|refine sH rfl (q_not_p rfl) ?_|refine sH rfl (q_not_b rfl) ?_)
            refine gi_nil ?_
            repeat' (first|(refine aE ?_;refine pu9 ?_)|refine gxce9 ?_|refine cL (id:=9) ?_)
            refine at_roundB _ (n - (i+1)) ⟨i+1,W',rfl,rfl,rfl,by rw [htk'];exact h3,by omega,rfl,rfl⟩ (by omega) bH sl9
          · (first|refine sH rfl (q_not_t rfl) ?_|refine sH rfl (yA rfl) ?_|refine sH rfl (q_not_p rfl) ?_|refine sH rfl (q_not_b rfl) ?_)
            refine gi_nil ?_
            repeat' (first|refine fX ?_|fail)
            refine at_endI (.inr rfl) Tryz.results270 fun w hs=>.inr ⟨_,trivial,hJx _ W' w h3 hs.ext⟩
    · obtain rfl:k=f.x.nk:=by omega
      have hkd:oA nm (f,es)=none:=by
        unfold oA
        by_cases h2k:f.x.h.kind=2
        · rw [if_pos h2k,find_nothing fun j y hy hd=>?_];rfl
          have hj2:j<es.length:=(List.getElem?_eq_some_iff.1 hy).1
          have hj:j<f.x.nk:=by omega
          exact hno j hj y hy ⟨h2k,of_decide_eq_true hd⟩
        · rw [if_neg h2k]
      rw [hkd] at htk
      have htk':(gs.take (i+1)).filterMap (oA nm)=(gs.take i).filterMap (oA nm):=htk.trans (List.append_nil _)
      repeat' (first|(refine aE ?_;refine pu9 ?_)|refine gxe9 ?_|refine dX [4,9] rfl ?_|(refine aA rfl ?_ ?_<;>intro hq<;>try exact no9))
      refine at_roundB _ (n - (i+1)) ⟨i+1,W1,rfl,rfl,rfl,by rw [htk'];exact hJ1,by omega,rfl,rfl⟩ (by omega) bH sl9
  · obtain rfl:i=n:=by omega
    repeat' (first|(refine aE ?_;refine pu9 ?_)|refine gxe9 ?_|refine cL (id:=1) ?_|(refine aA rfl ?_ ?_<;>intro hq<;>try exact no9))
    refine at_endI (.inl rfl) Tryz.results270 fun w hs=>.inl ⟨_,rfl,hJ _ W1 w ?_ hs.ext⟩
    rw [List.take_of_length_le (by omega)] at hJ1
    exact hJ1
end
section
theorem at_weak {P:Program} {B:Base} {N:Nat} {Q:Exit→Act→World→Prop} {k:List kI} {e:Exit} {F F':List (Nat×Value)} {V:aI} {L L':List Box} (h:AtQ P B N Q k e F' V L') (hF:∀ p∈F',jC F p.1=some p.2) (hL:L'.Sublist L):AtQ P B N Q k e F V L:=fun a w ha hs=>h a w (ha.less hF) (hs.drop hL)
theorem floors_kids {V:aI}:∀ {fs:List LF},(∀ f∈fs,aX V f.x)→∃ gs:List (LF×List LK),gs.map Prod.fst=fs∧∀ g∈gs,eI V g.1.x.K g.1.x.nk g.2∧g.1.x.ks=g.2.map kz
  | [],_=>⟨[],rfl,by simp⟩
  | f :: fs,h=>by
    obtain⟨gs,h1,h2⟩:=floors_kids (fs:=fs) fun g hg=>h g (by simp [hg])
    obtain⟨_,_,_,_,es,h3,h4⟩:=(h f (by simp)).inv
    refine⟨(f,es) :: gs,by rw [List.map_cons,h1],fun g hg=>?_⟩
    rcases List.mem_cons.1 hg with rfl|hg
    · exact⟨h3,h4⟩
    · exact h2 g hg
theorem look_kz:∀ (es:List LK) (nm:ByteArray),dV (es.map kz) nm=(es.find? fun e=>decide (e.nm=nm)).map (fun e=>e.x.n)
  | [],nm=>rfl
  | e :: es,nm=>by
    rw [List.map_cons,dV,List.find?_cons]
    by_cases h:e.nm=nm
    · rw [if_pos (show (kz e).1=nm from h),decide_eq_true h];rfl
    · rw [if_neg (show ¬(kz e).1=nm from h),decide_eq_false h,look_kz es nm]
theorem kidF_fz {nm:ByteArray} {g:LF×List LK} (h:g.1.x.ks=g.2.map kz):(oA nm g).map fz=gU nm (fz g.1):=by
  unfold oA gU
  show Option.map fz _=if g.1.x.h.kind=2 then (dV g.1.x.ks nm).map (fun x=>(x,g.1.lay)) else none
  by_cases hk:g.1.x.h.kind=2
  · rw [if_pos hk,if_pos hk,h,look_kz,Option.map_map,Option.map_map];rfl
  · rw [if_neg hk,if_neg hk];rfl
theorem kids_fz {nm:ByteArray}:∀ {gs:List (LF×List LK)},(∀ g∈gs,g.1.x.ks=g.2.map kz)→(gs.filterMap (oA nm)).map fz=((gs.map Prod.fst).map fz).filterMap (gU nm)
  | [],_=>rfl
  | g :: gs,h=>by
    have h1:=kidF_fz (nm:=nm) (h g (by simp))
    have h2:=kids_fz (nm:=nm) (gs:=gs) fun k hk=>h k (by simp [hk])
    rw [List.filterMap_cons,List.map_cons,List.map_cons,List.filterMap_cons]
    cases h3:oA nm g with
    | none=>rw [h3] at h1;rw [←h1];exact h2
    | some f=>rw [h3] at h1;rw [←h1,List.map_cons,h2];rfl
theorem kidF_node {V:aI} {nm:ByteArray} {g:LF×List LK} {f:LF} (h:oA nm g=some f) (hk:eI V g.1.x.K g.1.x.nk g.2):aX V f.x:=by
  unfold oA at h
  split at h
  · cases h2:g.2.find? (fun e=>decide (e.nm=nm)) with
    | none=>rw [h2] at h;cases h
    | some e=>rw [h2] at h;cases h;exact(hk.2 e (List.mem_of_find?_eq_some h2)).2
  · cases h
attribute [local irreducible] AtQ GoC GoL GoW QO QP Fn RV bX aL VLe cG bT
theorem Step_c (V:aI) (A:Option Addr) (n c:Nat) (fs:List LF) (h:dL V A n fs) (hn:n≤1000) (nm:ByteArray):Fn Tryz.prog 234 [.slice A n c,.string nm] V (qM (cO (fs.map fz) nm)):=by
  have hl:=h.1.1
  obtain⟨gs,hgs,hkg⟩:=floors_kids h.2
  have hfz:=kids_fz (nm:=nm) fun g hg=>(hkg g hg).2
  rw [hgs] at hfz
  have hxl:(gs.filterMap (oA nm)).length≤1000:=by
    have:=List.length_filterMap_le (oA nm) gs
    have e:gs.length=fs.length:=by rw [←hgs,List.length_map]
    omega
  have hxN:∀ f∈gs.filterMap (oA nm),aX V f.x:=fun f hf=>by
    obtain⟨g,hg,hgf⟩:=List.mem_filterMap.1 hf
    exact kidF_node hgf (hkg g hg).1
  subst hgs
  refine fn_enterM Tryz.func234 rfl Tryz.ntmps234 rfl ?_
  intro w0
  repeat' (first|(refine aE ?_;first|(refine aD ?_;(refine aM rfl ⟨Tryz.call262⟩ rfl rfl (Kids_mc _ A n c nm) ?_;rintro v V2 hV2 ⟨g1,g2,rfl,hg1,hg2⟩))|(refine al9 ?_;intro γ)|refine pu9 ?_)|refine bW ?_|fail)
  have hseq:=kids_seq V2 g1 g2 A n c nm gs hg1 hg2 (h.le hV2) fun g hg=>(hkg g hg).1.le hV2
  generalize gs.filterMap (oA nm)=xs at *
  refine gc_collect flC flV xs (E:=306) (sz:=9) (lb:=[_,_]) (F6:=fun γ6=>[(6,.pointer (some ⟨γ6,0,none⟩)),(5,.pointer (some ⟨γ,0,none⟩))]) rfl (Tryz.call270) rfl hseq ?_ ?_ ?_ ?_ ?_
  · intro r o ho ev
    simp only [List.mem_cons,List.not_mem_nil,or_false] at ho
    rcases ho with rfl|rfl<;>rfl
  · intro r o ho ev
    simp only [List.mem_cons,List.not_mem_nil,or_false] at ho
    rcases ho with rfl|rfl|rfl|rfl|rfl<;>rfl
  · intro x V' L' B' Q' hK
    repeat' (first|(refine aE ?_;first|refine st9 ?_|(refine al9 ?_;intro γ))|refine gx9 ?_|fail)
    exact at_weak (hK _) bH (List.Sublist.refl _)
  · intro x V' B' Q' γ6 A1 n1 c1 us LA hr hn1 hK
    have ho1:=yL x
    repeat' (first|(refine aE ?_;first|(refine aD ?_;(refine aT rfl und_272 inf_306 rfl rfl rfl hr bF (cZ bB rfl) bG (by omega) rfl rfl ?_;intro A2 c2 L2 hr2))|(refine cJ ?_;(refine aP rfl und_272 siz_306 zec_306 rfl rfl rfl rfl rfl rfl rfl ?_;intro γ))|refine st9 ?_|refine pu9 ?_)|refine gx9 ?_|fail)
    exact at_weak (hK A2 c2 _ [] hr2) sub_nil (List.Sublist.cons _ (List.Sublist.refl _))
  · intro D V' A1 n1 c1 LA a W hD hV' hr hxn ha hs hD2
    have hcap:=hr.cap
    obtain⟨V3,hV3,hc3,hs3⟩:=hs.shut hr bF (by simp)
    have hF:dL V3 A1 n1 xs:=dL.of hc3 hxn (by unfold maxLen;omega) fun f hf=>(hxN f hf).le (hV2.trans (hV'.trans hV3))
    refine tail_call (f:=254) Tryz.results234 ha hs3 hD2 hD (by simp) ⟨Tryz.call254⟩ rfl rfl rfl (bE one_272 rfl bB (by exact rfl)) (Shown_c V3 A1 n1 c1 xs hF (by omega)) fun v V'' _ hh=>?_
    unfold cO
    rw [←hfz];exact hh
end
section
def OverR (p:Nat) (r:Nat×Int) (v:Value) (Bs:List Box):Prop:=∃ m:Nat,v=.tuple #[]∧Bs=[⟨p,206,[.int .i64 (m:Int),.int .i64 r.2]⟩]∧(r.2=0→m=r.1)
theorem OverR.of {p m:Nat} {f:Int} {r:Nat×Int} (h1:r.2=f) (h:f=0→m=r.1):OverR p r (.tuple #[]) [⟨p,206,[.int .i64 (m:Int),.int .i64 f]⟩]:=⟨m,rfl,by rw [h1],by rw [h1];exact h⟩
theorem over_next {c:Nat×Int} {r:Nat×Int} {m2:Nat} {q:Nat×Int} (h3:r.2=0→m2=r.1) (h1:¬r.2=0→c=r) (h2:r.2=0→c=q):(r.2=0∧c=q)∨(¬r.2=0∧c.2=r.2):=by
  by_cases h:r.2=0
  · exact .inl ⟨h,h2 h⟩
  · exact .inr ⟨h,by rw [h1 h]⟩
attribute [local irreducible] AtQ GoC GoL GoW QO QP Fn RV bX aL VLe cG bT
theorem over_c (V:aI) (x:LN) (hx:aX V x) (upper:Bool) (p:Nat):∀ (V1:aI),VLe V V1→∀ (deep so:Nat) (f0:Int),deep≤7→so≤60→FnB Tryz.prog 133 [.pointer (some ⟨p,0,none⟩),lnV x,.bool upper,.int .i64 (deep:Int)] V1 [⟨p,206,[.int .i64 (so:Int),.int .i64 f0]⟩] fun v _ Bs=>OverR p (cH upper deep so x.n) v Bs:=by
  refine aX.ind (C:=fun x=>∀ (V1:aI),VLe V V1→∀ (deep so:Nat) (f0:Int),deep≤7→so≤60→FnB Tryz.prog 133 [.pointer (some ⟨p,0,none⟩),lnV x,.bool upper,.int .i64 (deep:Int)] V1 [⟨p,206,[.int .i64 (so:Int),.int .i64 f0]⟩] fun v _ Bs=>OverR p (cH upper deep so x.n) v Bs) ?_ hx
  intro x es ha hca hd hck hk hks ih V1 hV1 deep so f0 hdeep hso
  have hl:=hk.len
  have hm:=hk.max
  have hz:x.ks.length=x.nk:=by rw [hks,List.length_map,hl]
  have hone:=nodeFault_c V1 x ((aX.of ha hca hd hck hk hks).le hV1) upper (decide (deep=0))
  have hob:=oneF_bd x.h (decide (0<x.nk)) upper (decide (deep=0))
  have hd0:decide ((deep:Int)=0)=decide (deep=0):=decide_eq_decide.2 (by omega)
  rw [←hd0] at hone
  (refine bI Tryz.func133 rfl Tryz.ntmps133 rfl ?_;intro w0)
  repeat' (first|(refine aE ?_;first|(refine aD ?_;refine aN rfl (aG ⟨Tryz.call220⟩ rfl (hone)) ?_)|refine st9 ?_|(refine al9 ?_;intro γ)|refine pu9 ?_)|refine cV ?_|(refine aJ rfl rfl rfl ?_ ?_<;>intro hq<;>try exact no9)|(refine aA rfl ?_ ?_<;>intro hq<;>try exact no9))
  all_goals first
    | ((first|refine nB Tryz.results133  (List.Sublist.cons _ (List.Sublist.refl _)) ?_|refine nC Tryz.results133 (List.Sublist.cons _ (List.Sublist.refl _)) ?_);exact OverR.of (by rw [tU (by omega)]) (fun h=>absurd h (by decide)))
    | skip
  rw [hd0]
  have hinit:(jJ x.h (decide (0<x.nk)) upper (decide (deep=0))=0∧cH upper deep so x.n=dO upper deep (so+1) (prevK x.ks 0) (x.ks.drop 0))∨(¬jJ x.h (decide (0<x.nk)) upper (decide (deep=0))=0∧(cH upper deep so x.n).2=jJ x.h (decide (0<x.nk)) upper (decide (deep=0))):=by
    by_cases h:jJ x.h (decide (0<x.nk)) upper (decide (deep=0))=0
    · exact .inl ⟨h,oO (n:=x.n) (by omega) (by rw [←hz] at h;exact h)⟩
    · refine .inr ⟨h,?_⟩
      rw [wQ (n:=x.n) (by omega) (by rw [←hz] at h;exact h)]
      rw [←hz];rfl
  refine bQ (fun F V' L' m=>∃ (k s:Nat) (S f:Int),VLe V1 V'∧[⟨γ,70,lnC x⟩,⟨p,206,[.int .i64 S,.int .i64 f]⟩]=L'∧k≤x.nk∧m=x.nk - k∧(f=0→s≤60)∧S=s∧((f=0∧cH upper deep so x.n=dO upper deep s (prevK x.ks k) (x.ks.drop k))∨(¬f=0∧(cH upper deep so x.n).2=f))∧F=[(0,.pointer (some ⟨p,0,none⟩)),(2,.bool upper),(3,.int .i64 (deep:Int)),(5,.pointer (some ⟨γ,0,none⟩)),(8,.int .i64 k)]) (m:=x.nk) ⟨0,so+1,_,_,VLe.refl _,rfl,Nat.zero_le _,by omega,fun _=>by omega,rfl,hinit,rfl⟩ bH rfl (List.Sublist.refl _) ?_
  rintro F V' L' m ⟨k,s,S,f,hV',rfl,hkn,rfl,hs60,rfl,hcnt,rfl⟩
  by_cases hlt:k<x.nk∧f=0
  · obtain⟨hlt,hf0⟩:=hlt
    subst hf0
    have hs60:=hs60 rfl
    have hcnt:cH upper deep so x.n=dO upper deep s (prevK x.ks k) (x.ks.drop k):=by
      rcases hcnt with h|h
      · exact h.2
      · exact absurd rfl h.1
    obtain⟨b1,o1,e,hK1,he,hem,hc,c0,c1,hms,hne⟩  :=(hk.le (hV1.trans hV')).at_ hlt
    have hke:=mP hks he
    rw [rZ hke] at hcnt
    have hcall:=ih e hem V' (hV1.trans hV') (deep+1) s 0 (by omega) hs60
    have hcb:=kM upper (deep+1) s e.x.n hs60
    have hN:=pC V' e.nm hms
    rw [Int.natCast_add,Int.natCast_one] at hcall
    by_cases h0:k=0
    · subst h0
      replace hcnt:cH upper deep so x.n=dO upper deep s none ((e.nm,e.x.n) :: x.ks.drop (0+1)):=hcnt
      repeat' (first|(refine aE ?_;first|(refine aD ?_;(first|refine aN rfl (aG ⟨Tryz.call221⟩ rfl (hN)) ?_|(refine aW rfl ⟨Tryz.call133⟩ rfl bF rfl (hcall) ?_;rintro v V2 B2 hV2 ⟨m2,rfl,rfl,hm2⟩)))|refine st9 ?_|refine pu9 ?_)|refine cV ?_|(refine aJ rfl rfl rfl ?_ ?_<;>intro hq<;>try exact no9)|(refine bP rfl ?_ ?_<;>intro hq)|refine bN (id:=12) mixed (by kernel_rfl) ?_)
      all_goals first
        | (refine aZ _ (x.nk - (0+1)) ⟨0+1,s,_,4,vl9,rfl,by omega,rfl,fun h=>absurd h (by decide),rfl,.inr ⟨by decide,by rw [hcnt,oH (not_t hq)]⟩,rfl⟩ (by omega) bH (List.Sublist.refl _))
        | (refine aZ _ (x.nk - (0+1)) ⟨0+1,m2,_,_,vl9,rfl,by omega,rfl,fun h=>by rw [hm2 h];exact hcb.1,rfl,over_next hm2 (fun h=>by rw [hcnt,pY (wB (by assumption)) (fun y hy=>by cases hy) h]) (fun h=>?_),rfl⟩ (by omega) bH (List.Sublist.refl _)
           rw [hcnt,mH (wB (by assumption)) (fun y hy=>by cases hy) h,sY,hke,hm2 h];rfl)
    · obtain⟨y,hy,hcy⟩:=(hK1▸(hk.le (hV1.trans hV'))).prev hlt h0
      rw [prevK_pos h0,mP hks hy] at hcnt
      replace hcnt:cH upper deep so x.n=dO upper deep s (some y.nm) ((e.nm,e.x.n) :: x.ks.drop (k+1)):=hcnt
      repeat' (first|(refine aE ?_;first|(refine cX ?_;refine aR (q_sleq rfl rfl) ?_)|(refine aD ?_;(first|refine aN rfl (aG ⟨Tryz.call221⟩ rfl (hN)) ?_|(refine aW rfl ⟨Tryz.call133⟩ rfl bF rfl (hcall) ?_;rintro v V2 B2 hV2 ⟨m2,rfl,rfl,hm2⟩)))|refine st9 ?_|refine pu9 ?_)|refine cV ?_|(refine aJ rfl rfl rfl ?_ ?_<;>intro hq<;>try exact no9)|(refine aA rfl ?_ ?_<;>intro hq<;>try exact no9)|(refine bP rfl ?_ ?_<;>intro hq)|refine bN (id:=12) mixed (by kernel_rfl) ?_)
      all_goals first
        | (refine aZ _ (x.nk - (k+1)) ⟨k+1,s,_,4,vl9,rfl,by omega,rfl,fun h=>absurd h (by decide),rfl,.inr ⟨by decide,by rw [hcnt,oH (not_t hq)]⟩,rfl⟩ (by omega) bH (List.Sublist.refl _))
        | (refine aZ _ (x.nk - (k+1)) ⟨k+1,s,_,3,vl9,rfl,by omega,rfl,fun h=>absurd h (by decide),rfl,.inr ⟨by decide,by rw [hcnt,uG (wB (by assumption)) hq]⟩,rfl⟩ (by omega) bH (List.Sublist.refl _))
        | (refine aZ _ (x.nk - (k+1)) ⟨k+1,m2,_,_,vl9,rfl,by omega,rfl,fun h=>by rw [hm2 h];exact hcb.1,rfl,over_next hm2 (fun h=>by rw [hcnt,pY (wB (by assumption)) (fun z hz=>by cases hz;exact Classical.byContradiction (by assumption)) h]) (fun h=>?_),rfl⟩ (by omega) bH (List.Sublist.refl _)
           rw [hcnt,mH (wB (by assumption)) (fun z hz=>by cases hz;exact Classical.byContradiction (by assumption)) h,sY,hke,hm2 h];rfl)
  · repeat' (first|(refine aE ?_;refine pu9 ?_)|refine nS ?_|(refine aJ rfl rfl rfl ?_ ?_<;>intro hq<;>try exact no9)|(refine aA rfl ?_ ?_<;>intro hq<;>try exact no9))
    all_goals
      (first|refine nB Tryz.results133  (List.Sublist.cons _ (List.Sublist.refl _)) ?_|refine nC Tryz.results133 (List.Sublist.cons _ (List.Sublist.refl _)) ?_)
      rcases hcnt with ⟨h1,h2⟩|⟨h1,h2⟩
      · rw [List.drop_eq_nil_of_le (by omega),tA] at h2
        exact OverR.of (by rw [h2,h1]) (fun _=>by rw [h2])
      · exact OverR.of h2 (fun h=>absurd h h1)
theorem uH (V:aI) (x:LN) (hx:aX V x) (upper:Bool):Fn Tryz.prog 60 [lnV x,.bool upper] V fun v _=>v=.int .i64 (dK upper x.n):=by
  have hc:=fun p=>over_c V x hx upper p V (VLe.refl _) 0 0 0 (by omega) (by omega)
  (refine aH Tryz.func60 rfl Tryz.ntmps60 rfl ?_;intro w0)
  repeat' (first|(refine aE ?_;first|(refine aD ?_;(refine aW rfl ⟨Tryz.call133⟩ rfl bF rfl (hc _) ?_;rintro v V2 B2 hV2 ⟨m2,rfl,rfl,hm2⟩))|(refine al9 ?_;intro γ)|refine pu9 ?_)|refine bV ?_|(refine aA rfl ?_ ?_<;>intro hq<;>try exact no9))
  all_goals (refine aQ Tryz.results60 (aB rfl) ?_)
  · unfold dK;rw [if_pos (show ¬x.n.h.kind=2 from hq)]
  · unfold dK;rw [if_neg (show ¬¬x.n.h.kind=2 from hq)]
end
section
def dirH:Hd:=⟨2,0,0,0,false,[],⟨#[]⟩⟩
def dirL:LN:=⟨dirH,none,0,0,none,0,0,[]⟩
theorem aX.dir {V:aI}:aX V dirL:=aX.of (es:=[]) eH.nil (Nat.le_refl _) (Nat.zero_le _) (Nat.le_refl _) ⟨eT.nil,by simp⟩ rfl
theorem Own_v (V:aI) (x:LN) (hx:aX V x) (hsm:cA dZ x.n):Fn Tryz.prog 54 [lnV x] V fun v V2=>∃ y:LN,v=lnV y∧y.n=x.n∧aX V2 y:=fun w hV=>by
  have hs:St ⟨V,w,jK []⟩ V [] w:=⟨Exc.refl _ w,fun p x hp=>⟨hV p x hp,by simp⟩,fun p x hp _=>hp,VLe.refl V,by simp,by simp⟩
  refine(Own_c V x hx V (VLe.refl _) hsm w hs).mono fun e w' ⟨v,V',Bs',he,hst,y,es,hv,hyn,hO⟩=>?_
  obtain⟨V'',h1,h2,h3⟩:=hst.shut hO.row repl_all (by simp)
  exact⟨v,he,h3.ext.ext,V'',h3.v0,fun p x hp=>(h3.view p x hp).1,h3.old,y,hv,hyn,hO.node h1 h2 (hO.bound hyn hsm)⟩
attribute [local irreducible] AtQ GoC GoL GoW QO QP Fn RV bX aL VLe cG bT
theorem Same1 (V:aI) (x y:LN) (hx:aX V x) (hy:aX V y) (h:x.n=y.n):Fn Tryz.prog 27 [lnV x,lnV y] V fun v _=>v=.bool true:=by
  have:=SameNode_c V x hx y hy
  rw [nZ.2 h] at this;exact this
end
end Go.Proofs.YtejkmomfpidnbabGreat
