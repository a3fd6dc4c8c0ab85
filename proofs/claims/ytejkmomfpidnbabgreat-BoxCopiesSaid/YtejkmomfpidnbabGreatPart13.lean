/- Walks and plain laws, part 13: what functions compute, proved once each (BoxLb). -/
import Derived.Test.YtejkmomfpidnbabGreatPart12
set_option linter.unusedSimpArgs false
set_option linter.unusedVariables false
set_option maxRecDepth 100000
set_option maxHeartbeats 40000000
namespace Go.Proofs.YtejkmomfpidnbabGreat
open Go.RowKit
section
noncomputable def runP (b:BX) (l:List CL):BX:=l.foldl (fun b c=>(doP b c).1) b
theorem runP_take {b:BX} {l:List CL} {k:Nat} {c:CL} (h:l[k]?=some c):runP b (l.take (k+1))=(doP (runP b (l.take k)) c).1:=by
  unfold runP
  rw [List.take_add_one,h,List.foldl_append];rfl
theorem runP_in {x:CF} {ls:List PN} {b:BX} (h:InB x ls b):∀ l:List CL,InB x ls (runP b l):=fun l=>by
  induction l generalizing b with
  | nil=>exact h
  | cons c l ih=>exact ih (h.step c)
theorem InB.maps {x:CF} {ls:List PN} {b:BX} (hcf:pD x ls=0) (h:InB x ls b):MapsOk b:=by
  obtain⟨_,k2,k3,_⟩:=cfg_ok hcf
  exact⟨by rw [h.us];exact k2,by rw [h.gs];exact k3⟩
attribute [local irreducible] AtQ GoC GoL GoW QO QP Fn RV bX aL VLe cG bT
attribute [local irreducible] FnB eO kS DoR eC mT iM
theorem BoxCopies_c (V:aI) (x:CF) (hx:CfV V x) (A:Option Addr) (n c:Nat) (ls:List LN) (h:dP V A n ls) (hnc:n≤c) (B:Option Addr) (m e:Nat) (xs:List CL) (hc:eT V 7 clC B m xs) (B2:Option Addr) (m2 e2:Nat) (zs:List CL) (hz:eT V 7 clC B2 m2 zs):Fn Tryz.prog 4 [cfV x,.slice A n c,.slice B m e,.slice B2 m2 e2] V fun v _=>v=.bool true:=by
  have hin:=fun h9=>InB.new (x:=x) (ls:=ls.map LN.n) h9
  have hmp:=fun hcf b h9=>InB.maps (x:=x) (ls:=ls.map LN.n) (b:=b) hcf h9
  have hmx:=hc.max
  have hcl:=hc.1
  have hmz:=hz.max
  have hzl:=hz.1
  have hL:=fun V2 (hV2:VLe V V2)=>Lights_c V2 A n c ls (h.le hV2)
  have hLC:=fun V2 (hV2:VLe V V2)=>sN V2 B m e xs (hc.le hV2)
  have hLZ:=fun V2 (hV2:VLe V V2)=>sN V2 B2 m2 e2 zs (hz.le hV2)
  have hNew:=fun V2 (hV2:VLe V V2)=>New_bx V2 x (hx.le hV2) A n c ls (h.le hV2)
  have hcfk:=fun h9=>cfg_ok (x:=x) (ls:=ls.map LN.n) h9
  have hok0:=fun h9=>newOk (x:=x) (ls:=ls.map LN.n) h9
  have hRN:=fun (hn3:n≤3) hu V2 (hV2:VLe V V2)=>RNew_bx V2 x (hx.le hV2) A n c ls (h.le hV2) hn3 hu
  have hlen:(ls.map LN.n).length=n:=by rw [List.length_map];exact h.1.1
  generalize hcfe:pD x (ls.map LN.n)=cf at *
  generalize newB x.M.us x.M.gs x.c x.q (ls.map LN.n)=bx at *
  (refine aH Tryz.func4 rfl Tryz.ntmps4 rfl ?_;intro w0)
  repeat' (first|(refine aE ?_;first|(refine al9 ?_;intro γ)|refine pu9 ?_)|refine gx9 ?_|refine cL (id:=0) ?_)
  obtain⟨g4,rfl⟩:∃ g4,g4=γ:=⟨γ,rfl⟩
  repeat' (first|(refine aE ?_;first|(refine aD ?_;(first|(refine aM rfl ⟨Tryz.call8⟩ rfl rfl (opens_c _) ?_;rintro v V0 hV0 rfl)|(refine aM rfl ⟨Tryz.call9⟩ rfl rfl (wE _ x) ?_;rintro v V1 hV1 ⟨b1,rfl⟩)|(refine aM rfl ⟨Tryz.call10⟩ rfl rfl (hL _ vl9) ?_;rintro v V1 hV1 ⟨b2,rfl,hb2⟩)|(refine aM rfl ⟨Tryz.call11⟩ rfl rfl (hLC _ vl9) ?_;rintro v V1 hV1 ⟨b3,rfl,hb3⟩)|(refine aM rfl ⟨Tryz.call11⟩ rfl rfl (hLZ _ vl9) ?_;rintro v V1 hV1 ⟨b4,rfl,hb4⟩)))|refine pu9 ?_)|refine fX ?_|(refine bU rfl rfl rfl ?_ ?_<;>intro hq)|refine dX [1,2,3] rfl ?_|(refine bP rfl ?_ ?_<;>intro hq))
  all_goals first
    | (refine eY ?_;(refine aQ Tryz.results4 (aB rfl) ?_);rfl)
    | skip
  have k3:b3=true:=by cases b3 with
    | true=>rfl
    | false=>exact absurd (by assumption:(!false)=false) (by decide)
  have k4:b4=true:=by cases b4 with
    | true=>rfl
    | false=>exact absurd (by assumption:(!false)=false) (by decide)
  have hlt3:=hb3 k3
  have hlt4:=hb4 k4
  have hVV1:VLe V V1:=vl9
  clear hb2 hb3 hb4 hL hLC hLZ k3 k4
  have hNew1:=fun V2 (hV2:VLe V1 V2)=>hNew V2 (hVV1.trans hV2)
  repeat' (first|(refine aE ?_;first|(refine aD ?_;(refine aW rfl ⟨Tryz.call13⟩ rfl bF rfl (hNew1 _ vl9) ?_;rintro v V3 B3 hV3 (⟨hn,rfl,rfl⟩|⟨hn,p,rfl,hB⟩)))|(refine cX ?_;refine aR (lO uC rfl) ?_)|refine pu9 ?_)|refine fX ?_|refine dX [4,5,6,7] rfl ?_|(refine aA rfl ?_ ?_<;>intro hq<;>try exact no9))
  all_goals first
    | exact no9
    | (refine eY ?_;(refine aQ Tryz.results4 (aB rfl) ?_);rfl)
    | skip
  have hI0:=hin hn
  have hVV3:VLe V V3:=hVV1.trans hV3
  clear hNew1 hNew hin
  repeat' (first|(refine aE ?_;refine pu9 ?_)|refine bW ?_|fail)
  refine bQ (fun F V' L' m'=>∃ (k:Nat) (Bs:List Box),VLe V3 V'∧⟨g4,29,cfC x⟩ :: Bs=L'∧eO V' p (runP bx (xs.take k)) Bs∧k≤m∧m'=m - k∧F=[(1,.slice A n c),(2,.slice B m e),(3,.slice B2 m2 e2),(4,.pointer (some ⟨g4,0,none⟩)),(10,.pointer (some ⟨p,0,none⟩)),(12,.int .i64 (k:Int))]) (m:=m) ⟨0,B3,VLe.refl _,rfl,hB,Nat.zero_le _,by omega,rfl⟩ bH rfl bD ?_
  clear hB
  rintro F V' L' m' ⟨k,Bs,hV',rfl,hB,hkm,rfl,rfl⟩
  have hIk:=runP_in hI0 (xs.take k)
  by_cases hlt:k<m
  · obtain⟨bb,off,y,rfl,hy,hcy⟩:=((hc.le hVV3).le hV').at_ hlt
    have hcl9:=(hlt3.2 y (List.mem_of_getElem? hy)).ok
    have hD1:=fun V2 (hV2:VLe V' V2)=>Do_c V2 p _ Bs hIk.ok (hB.le hV2) y hcl9
    have hrt:=runP_take (b:=bx) hy
    generalize doP (runP bx (xs.take k)) y=r at *
    obtain⟨rb,rt,re⟩:=r
    repeat' (first|(refine aE ?_;first|(refine aD ?_;(refine aW rfl ⟨Tryz.call18⟩ rfl bF rfl (hD1 _ vl9) ?_;rintro v V10 B10 hV10 hR;obtain⟨A10,n10,c10,rfl,hS10,hnc10,hB10⟩:=DoR.inv hR))|(refine k_load ?_;refine aR (lR agg_53 rfl (hcy.le vl9) (by exact rfl)) ?_)|refine pu9 ?_)|refine bW ?_|(refine aA rfl ?_ ?_<;>intro hq<;>try exact no9))
    all_goals first
      | exact no9
      | (refine aZ _ (m - (k+1)) ⟨k+1,B10,vl9,rfl,by rw [hrt];exact hB10.le vl9,by omega,rfl,rfl⟩ (by omega) bH bD)
  obtain rfl:k=m:=by omega
  rw [List.take_of_length_le (by omega)] at hB hIk
  obtain⟨k1',_,_,_,_,_,k7⟩:=hcfk hn
  have hn3:n≤3:=by omega
  have hmk:=hmp hn _ hIk
  have hok1:=hok0 hn
  generalize hbk:runP bx xs=bk at *
  have okk:=hIk.ok
  have hVV4:VLe V V':=hVV3.trans hV'
  repeat' (first|(refine aE ?_;refine pu9 ?_)|refine gxe9 ?_|refine cL (id:=10) ?_|(refine aA rfl ?_ ?_<;>intro hq<;>try exact no9))
  all_goals try exact no9
  refine gc_order (L':=Bs ++ [⟨g4,29,cfC x⟩]) sp9 ?_
  refine gc_boxv okk hB ?_ rfl
  intro V5 I5 hV5 hBV
  have hVV5:VLe V V5:=hVV4.trans hV5
  have hCp:=fun V2 (hV2:VLe V5 V2)=>Copy_bx V2 p bk I5 okk hmk (hBV.le hV2)
  have hBy:=fun V2 (hV2:VLe V5 V2)=>Bytes_v V2 p bk I5 okk (hBV.le hV2)
  have hRN1:=fun V2 (hV2:VLe V5 V2)=>hRN hn3 k7 V2 (hVV5.trans hV2)
  clear hB hRN hok0 hcfk hmp
  repeat' (first|(refine aE ?_;first|(refine aD ?_;(first|(refine aW rfl ⟨Tryz.call23⟩ rfl dT rfl (hCp _ vl9) ?_;rintro v V6 B6 hV6 ⟨g,rfl,hB6⟩)|refine aN rfl (aG ⟨Tryz.call24⟩ rfl (hBy _ vl9)) ?_|(refine aW rfl ⟨Tryz.call17⟩ rfl dT rfl (hRN1 _ vl9) ?_;rintro v V7 B7 hV7 ⟨p2,I2,L2,rfl,rfl,hW2⟩)))|(refine cX ?_;refine aR (lO uC rfl) ?_)|refine pu9 ?_)|refine fX ?_|refine dX [13,14,16,17] rfl ?_)
  all_goals try exact no9
  refine kR hW2.row bF ?_
  intro V8 hV8 hc8r
  have hRB:=hW2.rbox (p:=p2) hok1 hV8 hc8r
  have hV68:VLe V6 V8:=hV7.trans hV8
  have hV58:VLe V5 V8:=hV6.trans hV68
  have hVV8:VLe V V8:=hVV5.trans hV58
  have hB8:=hB6.le hV68
  clear hc8r hW2 hRN1 hCp hB6
  generalize bxC I2 bx=cR at *
  repeat' (first|(refine aE ?_;refine pu9 ?_)|refine bW ?_|fail)
  refine gc_order (L':=B6 ++ [⟨p2,130,cR⟩]) sp9 ?_
  refine bQ (fun F V' L' m'=>∃ (j:Nat) (Cs:List Box),VLe V8 V'∧B6 ++ Cs=L'∧eC V' p2 (runP bx (xs.take j)) Cs∧j≤k∧m'=k - j∧F=[(2,.slice B k e),(3,.slice B2 m2 e2),(10,.pointer (some ⟨p,0,none⟩)),(13,.pointer (some ⟨g,0,none⟩)),(14,.string ⟨(boxL bk).toArray⟩),(15,.pointer (some ⟨p2,0,none⟩)),(16,.int .i64 (j:Int))]) (m:=k) ⟨0,_,VLe.refl _,rfl,hRB,Nat.zero_le _,by omega,rfl⟩ bH rfl (List.Sublist.refl _) ?_
  clear hRB
  rintro F V9 L' m' ⟨j,Cs,hV9,rfl,hC,hjm,rfl,rfl⟩
  have hIj:=runP_in hI0 (xs.take j)
  by_cases hlt:j<k
  · obtain⟨bb,off,y,rfl,hy,hcy⟩:=((hc.le hVV8).le hV9).at_ hlt
    have hcl9:=(hlt3.2 y (List.mem_of_getElem? hy)).ok
    have hD2:=fun V2 (hV2:VLe V9 V2)=>RDo_c V2 p2 _ Cs hIj.ok (hC.le hV2) y hcl9
    have hrt:=runP_take (b:=bx) hy
    generalize doP (runP bx (xs.take j)) y=r at *
    obtain⟨rb,rt,re⟩:=r
    repeat' (first|(refine aE ?_;first|(refine aD ?_;(refine aW rfl ⟨Tryz.call19⟩ rfl bF rfl (hD2 _ vl9) ?_;rintro v V11 B11 hV11 hR;obtain⟨A11,n11,c11,rfl,hS11,hnc11,hB11⟩:=iM.inv hR))|(refine k_load ?_;refine aR (lR agg_53 rfl (hcy.le vl9) (by exact rfl)) ?_)|refine pu9 ?_)|refine bW ?_|(refine aA rfl ?_ ?_<;>intro hq<;>try exact no9))
    all_goals first
      | exact no9
      | (refine aZ _ (k - (j+1)) ⟨j+1,B11,vl9,rfl,by rw [hrt];exact hB11.le vl9,by omega,rfl,rfl⟩ (by omega) bH bD)
  obtain rfl:j=k:=by omega
  rw [List.take_of_length_le (by omega),hbk] at hC
  have hB9:=hB8.le hV9
  have hV59:=hV58.trans hV9
  have hVV9:=hVV8.trans hV9
  clear hbk hIj
  repeat' (first|(refine aE ?_;refine pu9 ?_)|refine pW ?_|(refine aA rfl ?_ ?_<;>intro hq<;>try exact no9))
  all_goals try exact no9
  refine bQ (fun F V' L' m'=>∃ (k:Nat) (b:BX) (Bs Cs:List Box),VLe V9 V'∧Bs ++ Cs=L'∧eO V' g b Bs∧eC V' p2 b Cs∧InB x (ls.map LN.n) b∧k≤m2∧m'=m2 - k∧F=[(3,.slice B2 m2 e2),(10,.pointer (some ⟨p,0,none⟩)),(13,.pointer (some ⟨g,0,none⟩)),(14,.string ⟨(boxL bk).toArray⟩),(15,.pointer (some ⟨p2,0,none⟩)),(17,.int .i64 (k:Int))]) (m:=m2) ⟨0,bk,B6,Cs,VLe.refl _,rfl,hB9,hC,hIk,Nat.zero_le _,by omega,rfl⟩ bH rfl (List.Sublist.refl _) ?_
  clear hB8 hB9 hC
  rintro F V' L' m' ⟨k,b,Bs,Cs,hV',rfl,hB,hC,hI,hkm,rfl,rfl⟩
  have hok:=hI.ok
  by_cases hlt:k<m2
  · obtain⟨bb,off,y,rfl,hy,hcy⟩:=((hz.le hVV9).le hV').at_ hlt
    have hcl9:=(hlt4.2 y (List.mem_of_getElem? hy)).ok
    have hD1:=fun V2 (hV2:VLe V' V2)=>Do_c V2 g b Bs hok (hB.le hV2) y hcl9
    have hD2:=fun V2 (hV2:VLe V' V2)=>RDo_c V2 p2 b Cs hok (hC.le hV2) y hcl9
    have g1:=good_do hok y
    have hI2:=hI.step y
    generalize doP b y=r at *
    obtain⟨rb,rt,re⟩:=r
    have e1:0≤re∧re≤17:=⟨g1.lo,g1.hi⟩
    replace hI2:InB x (ls.map LN.n) rb:=hI2
    have hS1:=fun V2=>same_is V2 re e1
    clear g1
    repeat' (first|(refine aE ?_;first|(refine aD ?_;(first|(refine aW rfl ⟨Tryz.call18⟩ rfl bF rfl (hD1 _ vl9) ?_;rintro v V10 B10 hV10 hR;obtain⟨A10,n10,c10,rfl,hS10,hnc10,hB10⟩:=DoR.inv hR)|(refine aW rfl ⟨Tryz.call19⟩ rfl bF rfl (hD2 _ vl9) ?_;rintro v V11 B11 hV11 hR;obtain⟨A11,n11,c11,rfl,hS11,hnc11,hB11⟩:=iM.inv hR)|refine aN rfl (aG ⟨Tryz.call15⟩ rfl (hS1 _)) ?_|refine aN rfl (aG ⟨Tryz.call20⟩ rfl (SameTold_c _ rt A10 A11 n10 c10 n11 c11 (hS10.le vl9) (hS11.le vl9))) ?_))|(refine k_load ?_;refine aR (lR agg_53 rfl (hcy.le vl9) (by exact rfl)) ?_)|refine st9 ?_|(refine al9 ?_;intro γ)|refine pu9 ?_)|refine cV ?_|(refine aA rfl ?_ ?_<;>intro hq<;>try exact no9))
    all_goals first
      | exact no9
      | (refine aZ _ (m2 - (k+1)) ⟨k+1,rb,B10,B11,vl9,rfl,hB10.le vl9,hB11.le vl9,hI2,by omega,rfl,rfl⟩ (by omega) bH bD)
  · have hAs:=asBox_b V' g p2 b Bs Cs hok hB hC
    have hBy9:=hBy V' (hV59.trans hV')
    repeat' (first|(refine aE ?_;first|(refine aD ?_;(first|refine aN rfl (aG ⟨Tryz.call24⟩ rfl (hBy9)) ?_|refine aN rfl (qQ ⟨Tryz.call21⟩ rfl bF (hAs)) ?_))|refine pu9 ?_)|refine dR ?_|(refine aJ rfl rfl rfl ?_ ?_<;>intro hq<;>try exact no9)|(refine aA rfl ?_ ?_<;>intro hq<;>try exact no9))
    all_goals first
      | exact no9
      | (exfalso;exact absurd rfl (by assumption))
      | ((refine aQ Tryz.results4 (aB rfl) ?_);rfl)
end
end Go.Proofs.YtejkmomfpidnbabGreat
