/- Walks and plain laws, part 12: what functions compute, proved once each (RwV, AttrE6, RwT, CredE4, RwD, BxD, BxT, BoxLa, Open, Fn, Open2, OpenT, Open3, OpenN, OpenB). -/
import Derived.Test.YtejkmomfpidnbabGreatPart11
import Derived.Test.YtejkmomfpidnbabGreatPart9
import Derived.Test.YtejkmomfpidnbabGreatPart8
import Derived.Test.YtejkmomfpidnbabGreatPart6
import Derived.Test.YtejkmomfpidnbabGreatPart5
import Derived.Test.YtejkmomfpidnbabGreatPart7
import Derived.Test.YtejkmomfpidnbabGreatPart1
import Derived.ProofKit
import Derived.OpenShut
import Derived.ShutString
import Derived.ChangeOld
import Derived.Deep.Slices
import Derived.Test.YtejkmomfpidnbabGreatPart2
import Derived.Test.YtejkmomfpidnbabGreatChecked
import Derived.Test.YtejkmomfpidnbabGreatPart3
set_option linter.unusedSimpArgs false
set_option linter.unusedVariables false
set_option maxRecDepth 100000
set_option maxHeartbeats 40000000
namespace Go.Proofs.YtejkmomfpidnbabGreat
open Go.RowKit
section
theorem ite_iff9 {p q:Prop} [Decidable p] [Decidable q] (h:p↔q) {α:Type} {a b:α}:(if p then a else b)=if q then a else b:=by
  by_cases hp:p
  · rw [if_pos hp,if_pos (h.1 hp)]
  · rw [if_neg hp,if_neg fun hq=>hp (h.2 hq)]
theorem move2_k {b:BX} {sa sb:SP} {ss os:List ByteArray} {k1 k2:Int} (h1:sa.th.dir=decide (k1=2)) (h2:sb.is=true→sb.th.dir=decide (k2=2)) :
    tM b sa sb ss os=if sb.is=true∧(k1=2∨k2=2) then (b,6)
      else if sb.is=true∧¬eM b sb=0 then (b,eM b sb)
      else if k1=2∧(0<sa.lay∨(sa.n.h.opq=false∧fO b.ls ss=true)) then (b,14)
      else if 6<os.length+jD sa.n then (b,2)
      else tV b (decide (k1=2)) ss os:=by
  unfold tM
  rw [ite_iff9 (p:=sb.is=true∧(sa.th.dir=true∨sb.th.dir=true)) (q:=sb.is=true∧(k1=2∨k2=2)) (and_congr_right fun h9=>by rw [h1,h2 h9,decide_eq_true_eq,decide_eq_true_eq])]
  rw [h1]
  rw [ite_iff9 (p:=decide (k1=2)=true∧(0<sa.lay∨(sa.n.h.opq=false∧fO b.ls ss=true))) (q:=k1=2∧(0<sa.lay∨(sa.n.h.opq=false∧fO b.ls ss=true))) (by rw [decide_eq_true_eq])]
attribute [local irreducible] AtQ GoC GoL GoW QO QP Fn RV bX aL VLe cG bT
attribute [local irreducible] FnB
theorem rmoved_c (V:aI) (p:Nat) (b:BX) (Bs:List Box) (hok:bK b) (h:eC V p b Bs) (s t:ByteArray) (hs1:s.size≤1000000) (ht1:t.size≤1000000):FnB Tryz.prog 82 [.pointer (some ⟨p,0,none⟩),.string s,.string t] V Bs (RChB p (rM b s t)):=by
  obtain⟨I,rfl,hI⟩:=h
  have hSp:=fun V2=>uI V2 (aC s) (by show s.data.toList.length≤1000000;rw [Array.length_toList];exact hs1)
  rw [show (⟨(aC s).toArray⟩:ByteArray)=s from fJ s] at hSp
  have hSq:=fun V2=>uI V2 (aC t) (by show t.data.toList.length≤1000000;rw [Array.length_toList];exact ht1)
  rw [show (⟨(aC t).toArray⟩:ByteArray)=t from fJ t] at hSq
  have hT:=fun V2 (hV2:VLe V V2)=>rat_b (V:=V2) (p:=p) hok ⟨I,rfl,hI.up hV2⟩ s hs1
  have hm2:=kH hok (aK (aC s)) (aK (aC s)).length
  have hm4:=kH hok (aK (aC t)) (aK (aC t)).length
  have hTk:=fun V2 (hV2:VLe V V2) A n c x=>rtaken_b (V:=V2) (p:=p) hok ⟨I,rfl,hI.up hV2⟩ A n c true x (aV b (aC s)) hm2
  have hW:=fun (V1:aI) (hV1:VLe V V1) (A1:Option Addr) (n1 c1:Nat) (hS1:bZ V1 A1 n1 (aK (aC t))) (hc1:n1≤c1)=>rwalk_b (V:=V1) (p:=p) hok ⟨I,rfl,hI.up hV1⟩ A1 n1 c1 _ hS1 hc1
  have hTk2:=fun V2 (hV2:VLe V V2) A n c x=>rtaken_b (V:=V2) (p:=p) hok ⟨I,rfl,hI.up hV2⟩ A n c (cC b (aK (aC t))).1.is x (cC b (aK (aC t))).1 hm4
  have hpb1:=mO (aC s)
  have hpb2:=mO (aC t)
  have htb:=gX b (aC s)
  have hkb:=sC b (aV b (aC s))
  have hkb2:=sC b (cC b (aK (aC t))).1
  have hsb:0≤(cC b (aK (aC t))).2∧(cC b (aK (aC t))).2≤9:=mR b (aK (aC t)) (aK (aC t)).length
  have hf1:=fD (aC s)
  have hf2:=fD (aC t)
  have hm40:I.m≤4:=by rw [←hI.len];exact hok.l4
  have hMM:rM b s t=if s=⟨#[47]⟩∨t=⟨#[47]⟩ then (b,15)
      else if ¬dY (aC s)=0 then (b,dY (aC s)) else if ¬dY (aC t)=0 then (b,dY (aC t))
      else if ¬cS b (aC s)=0 then (b,cS b (aC s))
      else if ¬eM b (aV b (aC s))=0 then (b,eM b (aV b (aC s)))
      else if ¬(cC b (aK (aC t))).2=0 then (b,(cC b (aK (aC t))).2)
      else if s=t then (b,0)
      else if nY (aK (aC s)) (aK (aC t))=true then (b,3)
      else if iL b.c (cC b (aK (aC t))).1.par 2=false then (b,9)
      else tM b (aV b (aC s)) (cC b (aK (aC t))).1 (aK (aC s)) (aK (aC t)):=rfl
  (refine bI Tryz.func82 rfl Tryz.ntmps82 rfl ?_;intro w0)
  repeat' (first|(refine aE ?_;first|(refine aD ?_;(first|(refine aM rfl ⟨Tryz.call177⟩ rfl rfl (hSp _) ?_;clear hSp;rintro v V0 hV0 ⟨A1,n1,c1,rfl,hS1,hc1⟩)|(refine aM rfl ⟨Tryz.call177⟩ rfl rfl (hSq _) ?_;rintro v V1 hV1 ⟨A2,n2,c2,rfl,hS2,hc2⟩)|(refine aW rfl ⟨Tryz.call174⟩ rfl bF rfl (hT _ vl9) ?_;rintro v V2 B2 hV2 ⟨rfl,hR⟩;rcases hR with ⟨ht0,A,n,k,x,rfl,hs,hnk,hxN,hxn⟩|⟨ht0,rfl⟩)|refine aN rfl (qQ ⟨Tryz.call181⟩ rfl bF (hTk _ vl9 A n k x)) ?_|(refine aW rfl ⟨Tryz.call178⟩ rfl bF rfl (hW _ vl9 A2 n2 c2 (hS2.le vl9) hc2) ?_;rintro v V3 B3 hV3 ⟨rfl,hR3⟩;rcases hR3 with ⟨hw0,x3,rfl,hx3N,hx3n⟩|⟨hw0,rfl⟩)|refine aN rfl (aG ⟨Tryz.call185⟩ rfl ((RUnder_c _ A A2 n k n2 c2 _ _ (hs.le vl9) (hS2.le vl9) hc2))) ?_))|(refine dG ?_;refine aO rfl siz_244 rfl rfl rfl rfl bG gG rfl ?_)|(refine al9 ?_;intro γ)|refine pu9 ?_)|refine cD ?_|(refine aJ rfl rfl rfl ?_ ?_<;>intro hq<;>try exact no9)|(refine aA rfl ?_ ?_<;>intro hq<;>try exact no9)|(refine bP rfl ?_ ?_<;>intro hq))
  all_goals first
    | exact no9
    | (refine eY ?_;(refine bC Tryz.results82 (aB rfl) (show List.Sublist [⟨p,130,bxC I b⟩] _ from bD) ?_);rw [hMM];(repeat (first|rw [if_pos (by first|omega|first|assumption|exact nb (by assumption)|exact .inl (by assumption)|exact .inr (by assumption))]|rw [if_neg (by first|omega|first|assumption|exact not_not_intro (by assumption)|exact nf (by assumption)|exact nbf (by assumption)|exact nor2 (by assumption) (by assumption))]));exact⟨rfl,I,rfl,hI.up vl9⟩)
    | skip
  rw [hMM]
  (repeat (first|rw [if_pos (by first|omega|first|assumption|exact nb (by assumption)|exact .inl (by assumption)|exact .inr (by assumption))]|rw [if_neg (by first|omega|first|assumption|exact not_not_intro (by assumption)|exact nf (by assumption)|exact nbf (by assumption)|exact nor2 (by assumption) (by assumption))]))
  have hSA:Deep 7 (aV b (aC s)).n:=spot_deep hok _ _
  have hpos1:=rF (qP ht0) (rN (s:=s) (by assumption))
  have hpos2:=rF (l:=aC t) (by omega) (rN (s:=t) (by assumption))
  have hdA:(aV b (aC s)).th.dir=decide (x.h.kind=2):=by
    obtain⟨f,r,hw,e1,e2,e3⟩:=nX ht0
    rw [e3,←e1,←hxn];rfl
  have hdB:(cC b (aK (aC t))).1.is=true→(cC b (aK (aC t))).1.th.dir=decide (x3.h.kind=2):=fun h9=>by have h8:=spot_dir hw0 h9;rw [←hx3n] at h8;exact h8
  have hkd:(upP b.ls b.us b.gs (aK (aC s))).2=0→((dN (upP b.ls b.us b.gs (aK (aC s))).1 (aK (aC s))).getD pnZ).h.kind=x.h.kind:=fun h9=>by
    obtain⟨f,r,hw,e1,e2,e3⟩:=nX ht0
    rw [move_kind hok h9 hw,←e1,←hxn];rfl
  have hMay:=fun V9 (h9:VLe V V9)=>xH V9 b.c I.A I.n I.k (hI.xs.le h9) hok.d (cC b (aK (aC t))).1.par hm4 2 (.inr (.inl rfl))
  have hVV3:VLe V V3:=vl9
  have hs3:=hs.le hV3
  have ht3:bZ V3 A2 n2 (aK (aC t)):=hS2.le (hV2.trans hV3)
  have hx3:=hxN.le hV3
  clear hSq hT hTk hW hMM hS1 hs hxN hS2
  refine dD (fun F V' L'=>∃ γ10 γ12,VLe V3 V'∧[⟨γ12,244,spC A2 n2 c2 (cC b (aK (aC t))).1.is x3 (cC b (aK (aC t))).1.lay (cC b (aK (aC t))).1.th (cC b (aK (aC t))).1.par⟩,⟨γ10,244,spC A n k true x (aV b (aC s)).lay (aV b (aC s)).th (aV b (aC s)).par⟩,⟨p,130,bxC I b⟩]=L'∧F=[(0,.pointer (some ⟨p,0,none⟩)),(9,.slice A2 n2 c2),(10,.pointer (some ⟨γ10,0,none⟩)),(12,.pointer (some ⟨γ12,0,none⟩)),(14,.bool (iL b.c (cC b (aK (aC t))).1.par 2))]) ?_ ?_
  · refine bM (id:=23) _ mixed (List.Sublist.refl _) ?_;refine gt9 0 ?_;refine gt9 1 ?_;refine gt9 2 ?_;refine gt9 3 ?_;refine gt9 4 ?_;refine gt9 5 ?_;refine aY (i:=6) rfl ?_;refine aN rfl (aG ⟨Tryz.call176⟩ rfl (hMay _ vl9)) ?_;refine gt9 7 ?_;refine aU (by kernel_rfl) vl9 vl9 bD ?_
    all_goals exact bR _ ⟨_,_,vl9,rfl,rfl⟩ bH sp9
  rintro F V5 L' ⟨g10,g12,hV5,rfl,rfl⟩
  have hVV5:=hVV3.trans hV5
  have hm22:=move2_k (b:=b) (ss:=aK (aC s)) (os:=aK (aC t)) hdA hdB
  rw [hm22]
  clear hm22 hMay
  cases hmy:iL b.c (cC b (aK (aC t))).1.par 2 with
  | false =>
    rw [if_pos rfl]
    repeat' (first|(refine aE ?_;refine pu9 ?_)|refine cD ?_|fail)
    all_goals ((refine bC Tryz.results82 (aB rfl) (show List.Sublist [⟨p,130,bxC I b⟩] _ from bD) ?_);exact⟨rfl,I,rfl,hI.up hVV5⟩)
  | true =>
  rw [if_neg (by decide)]
  clear hmy hm2 hm4 htb hkb hsb
  generalize hsa:aV b (aC s)=sa at *
  generalize hsb9:(cC b (aK (aC t))).1=sb at *
  repeat' (first|(refine aE ?_;refine pu9 ?_)|refine fX ?_|refine cL (id:=24) ?_)
  refine fC (fun F V' L'=>V5=V'∧¬(sb.is=true∧(x.h.kind=2∨x3.h.kind=2))∧[⟨g12,244,spC A2 n2 c2 sb.is x3 sb.lay sb.th sb.par⟩,⟨g10,244,spC A n k true x sa.lay sa.th sa.par⟩,⟨p,130,bxC I b⟩]=L'∧F=[(0,.pointer (some ⟨p,0,none⟩)),(9,.slice A2 n2 c2),(10,.pointer (some ⟨g10,0,none⟩)),(12,.pointer (some ⟨g12,0,none⟩))]) ?_ ?_
  · repeat' (first|(refine aE ?_;refine pu9 ?_)|refine fX ?_|(refine aJ rfl rfl rfl ?_ ?_<;>intro hq<;>try exact no9)|(refine bU rfl rfl rfl ?_ ?_<;>intro hq)|refine dX [26,27] rfl ?_|(refine aA rfl ?_ ?_<;>intro hq<;>try exact no9))
    all_goals first
      | (refine oV ?_;refine bR _ ⟨rfl,?_,rfl,rfl⟩ bH sp9
         first
         | exact fun h9=>nf (by assumption) h9.1
         | exact fun h9=>h9.2.elim (by assumption) (by assumption))
      | (refine eY ?_;(refine bC Tryz.results82 (aB rfl) (show List.Sublist [⟨p,130,bxC I b⟩] _ from bD) ?_)
         rw [if_pos ⟨by assumption,by first|exact .inl (by assumption)|exact .inr (by assumption)⟩];exact⟨rfl,I,rfl,hI.up hVV5⟩)
  rintro F V' L' ⟨rfl,hc1,rfl,rfl⟩
  rw [if_neg hc1]
  repeat' (first|refine gx9 ?_|fail)
  refine fC (fun F V' L'=>VLe V5 V'∧¬(sb.is=true∧¬eM b sb=0)∧[⟨g10,244,spC A n k true x sa.lay sa.th sa.par⟩,⟨p,130,bxC I b⟩]=L'∧F=[(0,.pointer (some ⟨p,0,none⟩)),(9,.slice A2 n2 c2),(10,.pointer (some ⟨g10,0,none⟩))]) ?_ ?_
  · repeat' (first|(refine aE ?_;first|(refine aD ?_;refine aN rfl (qQ ⟨Tryz.call181⟩ rfl bF (hTk2 _ vl9 A2 n2 c2 x3)) ?_)|refine pu9 ?_)|refine bV ?_|(refine aA rfl ?_ ?_<;>intro hq<;>try exact no9)|(refine bP rfl ?_ ?_<;>intro hq))
    all_goals first
      | (refine oV ?_;refine bR _ ⟨vl9,?_,rfl,rfl⟩ bH sp9
         first
         | exact fun h9=>nf (by assumption) h9.1
         | exact fun h9=>h9.2 (by omega))
      | (refine eY ?_;(refine bC Tryz.results82 (aB rfl) (show List.Sublist [⟨p,130,bxC I b⟩] _ from bD) ?_)
         rw [if_pos ⟨by assumption,by omega⟩];exact⟨rfl,I,rfl,hI.up vl9⟩)
  rintro F V7 L' ⟨hV7,hc2',rfl,rfl⟩
  rw [if_neg hc2']
  have hVV7:=hVV5.trans hV7
  have hop:sa.n.h.opq=x.h.opq:=by rw [←hxn];rfl
  rw [hop]
  have hs7:=hs3.le (hV5.trans hV7)
  have ht7:=ht3.le (hV5.trans hV7)
  have hx7:=hx3.le (hV5.trans hV7)
  have hBe:=fun V9 (h9:VLe V7 V9)=>RBelow_c V9 I.K I.m I.e I.xs ((hI.up (hVV7.trans h9)).ls) (by omega) A n k (aK (aC s)) (hs7.le h9)
  have hBe2:=fun V9 (h9:VLe V7 V9)=>RBelow_c V9 I.K I.m I.e I.xs ((hI.up (hVV7.trans h9)).ls) (by omega) A2 n2 c2 (aK (aC t)) (ht7.le h9)
  rw [hI.eq] at hBe hBe2
  generalize hbe:fO b.ls (aK (aC s))=be at *
  clear hTk2 hx3N hx3n hs3 ht3 hx3 hc1 hc2' hdB
  repeat' (first|refine gx9 ?_|fail)
  refine dD (fun F V' L'=>VLe V7 V'∧[⟨g10,244,spC A n k true x sa.lay sa.th sa.par⟩,⟨p,130,bxC I b⟩]=L'∧F=[(0,.pointer (some ⟨p,0,none⟩)),(9,.slice A2 n2 c2),(10,.pointer (some ⟨g10,0,none⟩)),(16,.bool be)]) ?_ ?_
  · refine bM (id:=32) _ mixed (List.Sublist.refl _) ?_;refine gt9 0 ?_;refine gt9 1 ?_;refine gt9 2 ?_;refine gt9 3 ?_;refine gt9 4 ?_;refine gt9 5 ?_;refine aY (i:=6) rfl ?_;refine aN rfl (aG ⟨Tryz.call186⟩ rfl (hBe _ vl9)) ?_;refine gt9 7 ?_;refine aU (by kernel_rfl) vl9 vl9 bD ?_
    all_goals exact bR _ ⟨vl9,rfl,rfl⟩ bH sp9
  rintro F V8 L' ⟨hV8,rfl,rfl⟩
  have hVV8:=hVV7.trans hV8
  repeat' (first|refine gx9 ?_|fail)
  refine fC (fun F V' L'=>V8=V'∧¬(x.h.kind=2∧(0<sa.lay∨(x.h.opq=false∧be=true)))∧[⟨g10,244,spC A n k true x sa.lay sa.th sa.par⟩,⟨p,130,bxC I b⟩]=L'∧F=[(0,.pointer (some ⟨p,0,none⟩)),(9,.slice A2 n2 c2),(10,.pointer (some ⟨g10,0,none⟩))]) ?_ ?_
  · repeat' (first|(refine aE ?_;refine pu9 ?_)|refine fX ?_|(refine aJ rfl rfl rfl ?_ ?_<;>intro hq<;>try exact no9)|(refine bU rfl rfl rfl ?_ ?_<;>intro hq)|refine dX [33,34] rfl ?_|(refine bP rfl ?_ ?_<;>intro hq))
    all_goals first
      | (refine oV ?_;refine bR _ ⟨rfl,?_,rfl,rfl⟩ bH sp9
         first
         | exact fun h9=>absurd h9.1 (by assumption)
         | exact fun h9=>h9.2.elim (by assumption) fun h8=>nf (by assumption) h8.2
         | exact fun h9=>h9.2.elim (by assumption) fun h8=>absurd h8.1 (by simpa using hq))
      | (refine eY ?_;(refine bC Tryz.results82 (aB rfl) (show List.Sublist [⟨p,130,bxC I b⟩] _ from bD) ?_)
         rw [if_pos (by first|exact⟨by assumption,.inl (by assumption)⟩|exact⟨by assumption,.inr ⟨nb (by assumption),by assumption⟩⟩)]
         exact⟨rfl,I,rfl,hI.up hVV8⟩)
  rintro F V' L' ⟨rfl,hc3,rfl,rfl⟩
  rw [if_neg hc3]
  have hhx:jD sa.n=jD x.n:=by rw [hxn]
  have hdx:Deep 7 x.n:=by rw [hxn];exact hSA
  have hHe:=fun V9 (h9:VLe V7 V9)=>deepest_c 7 (by omega) V9 x (hx7.le h9) hdx
  have hhb:=oN hdx
  have hn1:=hs7.1.1
  have hn2:=ht7.1.1
  rw [hhx]
  repeat' (first|(refine aE ?_;first|(refine aD ?_;refine aN rfl (aG ⟨Tryz.call187⟩ rfl (hHe _ vl9)) ?_)|refine pu9 ?_)|refine bV ?_|(refine aA rfl ?_ ?_<;>intro hq<;>try exact no9))
  all_goals first
    | (refine eY ?_;(refine bC Tryz.results82 (aB rfl) (show List.Sublist [⟨p,130,bxC I b⟩] _ from bD) ?_)
       rw [if_pos (by omega)];exact⟨rfl,I,rfl,hI.up vl9⟩)
    | skip
  rw [if_neg (by omega)]
  clear hHe hBe
  have hli:∀ y∈I.xs,cA eW y.n:=fun y hy=>hok.light _ (by rw [←hI.eq];exact List.mem_map_of_mem (f:=LN.n) hy)
  have hs8:=hs7.le hV8
  have ht8:=ht7.le hV8
  have hU:=fun V9 (h9:VLe V8 V9)=>RUp_c V9 I.K I.m I.e I.xs (hI.ls.le (hVV8.trans h9)) (by omega) hli I.M (hI.M.le (hVV8.trans h9)) A n k _ (hs8.le h9) hnk (by omega)
  rw [hI.eq,hI.us,hI.gs] at hU
  have hsz1:∀ s9∈aK (aC s),s9.size≤60:=pathN_size
  have hli2:=up_light hok hsz1 (by omega)
  have hub:=up_mid hok (ss:=aK (aC s)) (by omega)
  have hubd:=oQ b.ls b.us b.gs (aK (aC s))
  have hM3:tV b (decide (x.h.kind=2)) (aK (aC s)) (aK (aC t))=if ¬(upP b.ls b.us b.gs (aK (aC s))).2=0 then (b,(upP b.ls b.us b.gs (aK (aC s))).2)
      else if ¬(upP ((upP b.ls b.us b.gs (aK (aC s))).1 :: b.ls.tail) b.us b.gs ((aK (aC t)).take ((aK (aC t)).length - 1))).2=0 then (b,(upP ((upP b.ls b.us b.gs (aK (aC s))).1 :: b.ls.tail) b.us b.gs ((aK (aC t)).take ((aK (aC t)).length - 1))).2)
      else uN b (decide (x.h.kind=2)) ((dN (upP b.ls b.us b.gs (aK (aC s))).1 (aK (aC s))).getD pnZ) (upP ((upP b.ls b.us b.gs (aK (aC s))).1 :: b.ls.tail) b.us b.gs ((aK (aC t)).take ((aK (aC t)).length - 1))).1 (aK (aC s)) (aK (aC t)):=rfl
  rw [hM3]
  clear hM3
  generalize upP b.ls b.us b.gs (aK (aC s))=up at *
  refine dD (fun F V' L'=>∃ (γ17:Nat) (y:LN),VLe V8 V'∧aX V' y∧y.n=up.1∧[⟨γ17,70,lnC y⟩,⟨g10,244,spC A n k true x sa.lay sa.th sa.par⟩,⟨p,130,bxC I b⟩]=L'∧F=[(0,.pointer (some ⟨p,0,none⟩)),(8,.int .i64 up.2),(9,.slice A2 n2 c2),(10,.pointer (some ⟨g10,0,none⟩)),(17,.pointer (some ⟨γ17,0,none⟩))]) ?_ ?_
  · refine bM (id:=37) _ mixed (List.Sublist.refl _) ?_;refine gt9 0 ?_;refine gt9 1 ?_;refine gt9 2 ?_;refine gt9 3 ?_;refine gt9 4 ?_;refine gt9 5 ?_;refine gt9 6 ?_;refine gt9 7 ?_;refine gt9 8 ?_;refine gt9 9 ?_;(refine dF (i:=10) (j:=14) (by kernel_rfl) rfl rfl rfl rfl vl9 vl9 bD ?_ ?_<;>first|((refine aM rfl ⟨Tryz.call182⟩ rfl rfl (hU _ vl9) ?_;rintro v V10 hV10 ⟨y,rfl,hyN,hyn⟩);refine gt9 11 ?_;refine gt9 12 ?_;refine gt9 13 ?_;refine aY (i:=14) rfl ?_;(refine bS rfl zer_70 rfl ?_;intro γ);refine aY (i:=15) rfl ?_;refine aO rfl siz_70 rfl rfl rfl rfl bG dC rfl ?_;refine gt9 16 ?_;refine aU (by kernel_rfl) vl9 vl9 bD ?_)|((refine bS rfl zer_70 rfl ?_;intro γ);refine aY (i:=10) rfl ?_;(refine aM rfl ⟨Tryz.call182⟩ rfl rfl (hU _ vl9) ?_;rintro v V10 hV10 ⟨y,rfl,hyN,hyn⟩);refine gt9 11 ?_;refine gt9 12 ?_;refine gt9 13 ?_;refine aY (i:=15) rfl ?_;refine aO rfl siz_70 rfl rfl rfl rfl bG dC rfl ?_;refine gt9 16 ?_;refine aU (by kernel_rfl) vl9 vl9 bD ?_))
    all_goals exact bR _ ⟨_,y,vl9,hyN.le vl9,hyn,rfl,rfl⟩ bH sp9
  rintro F V10 L' ⟨g17,y,hV10,hyN,hyn,rfl,rfl⟩
  have hVV10:=hVV8.trans hV10
  by_cases hu:up.2=0
  rotate_left
  · rw [if_pos hu]
    repeat' (first|(refine aE ?_;refine pu9 ?_)|refine bV ?_|(refine aA rfl ?_ ?_<;>intro hq<;>try exact no9))
    all_goals first
      | exact no9
      | ((refine bC Tryz.results82 (aB rfl) (show List.Sublist [⟨p,130,bxC I b⟩] _ from bD) ?_);exact⟨rfl,I,rfl,hI.up hVV10⟩)
  rw [if_neg (not_not_intro hu)]
  have hli2:=hli2 hu
  have hub:=hub hu
  have hkd:=hkd hu
  have hs10:=hs8.le hV10
  have ht10:=ht8.le hV10
  have hFd:=fun V9 (h9:VLe V10 V9)=>RFind_c V9 y (hyN.le h9) A n k _ (hs10.le h9)
  rw [hyn] at hFd
  repeat' (first|(refine aE ?_;first|(refine aD ?_;(refine aM rfl ⟨Tryz.call188⟩ rfl rfl (hFd _ vl9) ?_;rintro v V11 hV11 ⟨z,rfl,hzN,hzn⟩))|refine st9 ?_|(refine al9 ?_;intro γ)|refine pu9 ?_)|refine bV ?_|(refine aA rfl ?_ ?_<;>intro hq<;>try exact no9))
  all_goals try exact no9
  rw [uS]
  rw [←hzn] at hkd
  rw [←hzn]
  have hfz:cA dZ z.n:=by
    rw [hzn]
    cases hf:dN up.1 (aK (aC s)) with
    | none=>exact .mk ⟨Nat.zero_le _,Nat.zero_le _⟩ (by simp)
    | some w=>exact pQ (hub.imp fun _ _=>lT) hf
  obtain⟨g18,rfl⟩:∃ g18,g18=γ:=⟨γ,rfl⟩
  have hVV11:=hVV10.trans hV11
  have hI11:=hI.up hVV11
  have hm0:0<I.m:=by rw [←hI.len];exact hok.l1
  have hdr:=hI11.ls.1.drop (k:=1) (by omega) hI.le
  have hsrc:=hdr.cells lG
  have hon:=ones_ln (I.xs.drop 1)
  have hxl:=hI.ls.1.1
  refine dD (fun F V' L'=>∃ (A3:Option Addr) (n3 c3:Nat),dP V' A3 n3 (y :: I.xs.drop 1)∧n3≤c3∧VLe V11 V'∧[⟨g17,70,lnC y⟩,⟨g18,70,lnC z⟩,⟨g10,244,spC A n k true x sa.lay sa.th sa.par⟩,⟨p,130,bxC I b⟩]=L'∧F=[(0,.pointer (some ⟨p,0,none⟩)),(9,.slice A2 n2 c2),(10,.pointer (some ⟨g10,0,none⟩)),(17,.pointer (some ⟨g17,0,none⟩)),(18,.pointer (some ⟨g18,0,none⟩)),(20,.slice A3 n3 c3)]) ?_ ?_
  · refine bM (id:=41) _ mixed (List.Sublist.refl _) ?_;refine gt9 0 ?_;refine gt9 2 ?_;refine gt9 3 ?_;refine gt9 4 ?_;refine gt9 5 ?_;refine fP 6 rfl rfl (gM und_30 siz_70 rfl rfl (by omega)) ?_;refine aY (i:=1) rfl ?_;(refine aP rfl und_30 siz_70 zec_70 rfl rfl rfl rfl rfl rfl rfl ?_;intro γ);refine aY (i:=7) rfl ?_;(refine aT rfl und_30 inf_70 rfl rfl rfl (cU.close (f:=lnC) (xs:=[y]) (rest:=[]) lG rfl rfl (Nat.le_refl _) (by unfold maxLen;omega)) bF (fW hsrc) bG (by omega) rfl rfl ?_;intro A3 c3 L3 hr3);refine gt9 8 ?_;refine aU (by kernel_rfl) vl9 vl9 bD ?_
    all_goals
      repeat' (first|fail)
      have hcap:=hr3.cap
      refine eA hr3 bF ?_ (by intro x9 hx9;simp [jK] at hx9;subst hx9;exact⟨_,bB⟩)
      intro V12 hV12 hc12
      exact bR _ ⟨A3,_,c3,dP.of (xs:=y :: I.xs.drop 1) (by rw [List.flatMap_cons];simpa using hc12) (by show (y :: I.xs.drop 1).length=1+(I.m - 1);rw [List.length_cons,List.length_drop];omega) (by show 1+(I.m - 1)≤maxLen;unfold maxLen;omega) (by
        intro w hw
        rcases List.mem_cons.1 hw with rfl|hw
        · exact(hyN.le hV11).le hV12
        · exact(hI11.ls.2 w (List.mem_of_mem_drop hw)).le hV12),hcap,hV12,rfl,rfl⟩ bH sp9
  rintro F V12 L' ⟨A3,n3,c3,hN3,hc3',hV12,rfl,rfl⟩
  have hVV12:=hVV11.trans hV12
  have hs12:=hs10.le (hV11.trans hV12)
  have ht12:=ht10.le (hV11.trans hV12)
  have e9:(((n2:Nat):Int) - 1).toNat=(aK (aC t)).length - 1:=by omega
  have htl:(y :: I.xs.drop 1).map LN.n=up.1 :: b.ls.tail:=by rw [List.map_cons,hyn,List.map_drop,hI.eq,List.drop_one]
  have hli3:∀ w∈y :: I.xs.drop 1,cA eW w.n:=fun w hw=>by
    rcases List.mem_cons.1 hw with rfl|hw
    · rw [hyn];exact hli2
    · exact hli w (List.mem_of_mem_drop hw)
  have hl3:=hN3.1.1
  rw [List.length_cons,List.length_drop] at hl3
  have hU2:=fun V9 (h9:VLe V12 V9)=>RUp_c V9 A3 n3 c3 (y :: I.xs.drop 1) (hN3.le h9) (by omega) hli3 I.M (hI.M.le (hVV12.trans h9)) A2 (((n2:Nat):Int) - 1).toNat c2 ((aK (aC t)).take ((aK (aC t)).length - 1)) (by rw [e9];exact jZ (ht12.le h9) (by omega)) (by omega) (by omega)
  rw [htl,hI.us,hI.gs] at hU2
  have hub2:(upP (up.1 :: b.ls.tail) b.us b.gs ((aK (aC t)).take ((aK (aC t)).length - 1))).2=0→cA (fB 200) (upP (up.1 :: b.ls.tail) b.us b.gs ((aK (aC t)).take ((aK (aC t)).length - 1))).1:=fun h9 =>
    up_bd9 (by rw [←htl];intro w hw;obtain⟨w2,hw2,rfl⟩:=List.mem_map.1 hw;exact hli3 w2 hw2) hli2 (by rw [List.length_take];omega) h9
  have hubd2:=oQ (up.1 :: b.ls.tail) b.us b.gs ((aK (aC t)).take ((aK (aC t)).length - 1))
  generalize upP (up.1 :: b.ls.tail) b.us b.gs ((aK (aC t)).take ((aK (aC t)).length - 1))=up2 at *
  repeat' (first|refine gx9 ?_|fail)
  refine dD (fun F V' L'=>∃ (y2:LN),VLe V12 V'∧aX V' y2∧y2.n=up2.1∧[⟨g17,70,lnC y2⟩,⟨g18,70,lnC z⟩,⟨g10,244,spC A n k true x sa.lay sa.th sa.par⟩,⟨p,130,bxC I b⟩]=L'∧F=[(0,.pointer (some ⟨p,0,none⟩)),(8,.int .i64 up2.2),(9,.slice A2 n2 c2),(10,.pointer (some ⟨g10,0,none⟩)),(17,.pointer (some ⟨g17,0,none⟩)),(18,.pointer (some ⟨g18,0,none⟩))]) ?_ ?_
  · refine bM (id:=42) _ mixed (List.Sublist.cons _ (List.Sublist.refl _)) ?_;refine gt9 0 ?_;refine gt9 1 ?_;refine gt9 2 ?_;refine gt9 3 ?_;refine gt9 4 ?_;refine gt9 5 ?_;refine gt9 6 ?_;refine gt9 7 ?_;refine gt9 8 ?_;refine fP 9 rfl rfl (dS und_47 siz_9 rfl rfl (by omega)) ?_;refine aY (i:=10) rfl ?_;(refine aM rfl ⟨Tryz.call182⟩ rfl rfl (hU2 _ vl9) ?_;rintro v V13 hV13 ⟨y2,rfl,hy2N,hy2n⟩);refine gt9 11 ?_;refine gt9 12 ?_;refine gt9 13 ?_;refine aY (i:=14) rfl ?_;refine aO rfl siz_70 rfl rfl rfl rfl bG dC rfl ?_;refine gt9 15 ?_;refine aU (by kernel_rfl) vl9 vl9 bD ?_
    all_goals exact bR _ ⟨y2,vl9,hy2N.le vl9,hy2n,rfl,rfl⟩ bH sp9
  rintro F V13 L' ⟨y2,hV13,hy2N,hy2n,rfl,rfl⟩
  have hVV13:=hVV12.trans hV13
  by_cases hu2:up2.2=0
  rotate_left
  · rw [if_pos hu2]
    repeat' (first|(refine aE ?_;refine pu9 ?_)|refine gx9 ?_|refine dX [43,44] rfl ?_|(refine aA rfl ?_ ?_<;>intro hq<;>try exact no9))
    all_goals first
      | exact no9
      | ((refine bC Tryz.results82 (aB rfl) (show List.Sublist [⟨p,130,bxC I b⟩] _ from bD) ?_);exact⟨rfl,I,rfl,hI.up hVV13⟩)
  rw [if_neg (not_not_intro hu2)]
  have hub2:=hub2 hu2
  have hs13:=hs12.le hV13
  have ht13:=ht12.le hV13
  have hz13:=(hzN.le hV12).le hV13
  have hM4:uN b (decide (x.h.kind=2)) z.n up2.1 (aK (aC s)) (aK (aC t))=if ¬iB b up2.1 (aK (aC s))=0 then (b,iB b up2.1 (aK (aC s))) else vZ b (.mk { z.n.h with opq:=decide (x.h.kind=2) && fO b.ls (aK (aC t)) } z.n.ks) (mV b up2.1 (aK (aC s))) (aK (aC t)):=rfl
  rw [hM4]
  clear hM4 hU2 hU hFd
  have hBe3:=fun V2 (hV2:VLe V13 V2)=>hBe2 V2 ((((hV8.trans hV10).trans hV11).trans hV12).trans (hV13.trans hV2))
  clear hBe2
  generalize fO b.ls (aK (aC t))=be2 at *
  have hzk:z.h.kind=x.h.kind:=hkd
  repeat' (first|(refine aE ?_;first|refine st9 ?_|refine pu9 ?_)|refine gx9 ?_|refine dX [43,45] rfl ?_|(refine aA rfl ?_ ?_<;>intro hq<;>try exact no9))
  all_goals try exact no9
  refine fC (fun F V' L'=>∃ (oo:Bool),VLe V13 V'∧(decide (x.h.kind=2) && be2)=oo∧[⟨g17,70,lnC y2⟩,⟨g18,70,lnC { z with h:={ z.h with opq:=oo } }⟩,⟨g10,244,spC A n k true x sa.lay sa.th sa.par⟩,⟨p,130,bxC I b⟩]=L'∧F=[(0,.pointer (some ⟨p,0,none⟩)),(9,.slice A2 n2 c2),(10,.pointer (some ⟨g10,0,none⟩)),(17,.pointer (some ⟨g17,0,none⟩)),(18,.pointer (some ⟨g18,0,none⟩))]) ?_ ?_
  · by_cases hz2:z.h.kind=2
    · rw [decide_eq_true (show x.h.kind=2 by omega),Bool.true_and]
      repeat' (first|(refine aE ?_;first|(refine aD ?_;refine aN rfl (aG ⟨Tryz.call186⟩ rfl (hBe3 _ vl9)) ?_)|refine st9 ?_|refine pu9 ?_)|refine gx9 ?_|refine dX [46,47] rfl ?_|(refine aA rfl ?_ ?_<;>intro hq<;>try exact no9))
      all_goals first
        | (exfalso;exact absurd hz2 (by assumption))
        | exact bR _ ⟨be2,vl9,rfl,rfl,rfl⟩ bH sp9
    · rw [decide_eq_false (show ¬x.h.kind=2 by omega),Bool.false_and]
      repeat' (first|(refine aE ?_;refine pu9 ?_)|refine gx9 ?_|refine cL (id:=46) ?_|(refine aA rfl ?_ ?_<;>intro hq<;>try exact no9))
      all_goals first
        | (exfalso;exact absurd (by assumption) hz2)
        | exact bR _ ⟨false,vl9,rfl,rfl,rfl⟩ bH sp9
  rintro F V14 L' ⟨oo,hV14,hoo,rfl,rfl⟩
  rw [hoo]
  have hVV14:=hVV13.trans hV14
  have hzo:aX V14 { z with h:={ z.h with opq:=oo } }:=node_opq (hz13.le hV14)
  have hzon:(LN.n { z with h:={ z.h with opq:=oo } })=.mk { z.n.h with opq:=oo } z.n.ks:=rfl
  have hgb:=goneF_bd b up2.1 (aK (aC s))
  have hGo:=rgone_b (V:=V14) (p:=p) hok ⟨I,rfl,hI.up hVV14⟩ y2 (hy2N.le hV14) (by rw [hy2n];exact hub2.imp fun _ _=>gK (by omega)) A n k _ (hs13.le hV14) hnk
  rw [hy2n] at hGo
  have hgm:∀ g9,mV b up2.1 (aK (aC s))=g9→iB b up2.1 (aK (aC s))=0→cA sX g9:=fun g9 h9 h8=>by rw [←h9];exact gone_mid hub2 h8
  generalize mV b up2.1 (aK (aC s))=gn at *
  generalize iB b up2.1 (aK (aC s))=gf at *
  have hgm:=hgm gn rfl
  repeat' (first|(refine aE ?_;first|(refine aD ?_;(refine aW rfl ⟨Tryz.call183⟩ rfl bF rfl (hGo) ?_;rintro v V15 B15 hV15 ⟨rfl,y3,rfl,hy3N,hy3n⟩))|refine st9 ?_|refine pu9 ?_)|refine gx9 ?_|refine cL (id:=48) ?_)
  have e0:spl (lnC y2) 0 (lnC y3)=lnC y3:=gY rfl
  rw [e0]
  clear e0 hGo
  have hVV15:=hVV14.trans hV15
  by_cases hgf:gf=0
  rotate_left
  · rw [if_pos hgf]
    repeat' (first|(refine aE ?_;refine pu9 ?_)|refine gx9 ?_|refine dX [49,50] rfl ?_|(refine aA rfl ?_ ?_<;>intro hq<;>try exact no9))
    all_goals first
      | exact no9
      | ((refine bC Tryz.results82 (aB rfl) (show List.Sublist [⟨p,130,bxC I b⟩] _ from bD) ?_);exact⟨rfl,I,rfl,hI.up hVV15⟩)
  rw [if_neg (not_not_intro hgf)]
  have hPu:=fun V9 (h9:VLe V15 V9)=>RPut_c false { z with h:={ z.h with opq:=oo } } (aK (aC t)) V9 y3 A2 n2 c2 ((hzo.le hV15).le h9) (hy3N.le h9) (by rw [hy3n hgf];exact hgm hgf) ((ht13.le (hV14.trans hV15)).le h9) hc2
  rw [hy3n hgf,hzon] at hPu
  have hpb:=uR false (.mk { z.n.h with opq:=oo } z.n.ks) (aK (aC t)) gn
  generalize (PN.mk { z.n.h with opq:=oo } z.n.ks)=n1 at *
  have hG:=fun V3 (hV3:VLe V15 V3) (w:LN) (hw:aX V3 w)=>rgrow_c V3 p b _ hok ⟨I,rfl,hI.up (hVV15.trans hV3)⟩ w hw
  unfold vZ
  repeat' (first|(refine aE ?_;first|(refine aD ?_;(refine aM rfl ⟨Tryz.call189⟩ rfl rfl (hPu _ vl9) ?_;rintro v V16 hV16 ⟨x5,rfl,hx5N,hx5n⟩))|refine st9 ?_|refine pu9 ?_)|refine gx9 ?_|refine dX [49,51] rfl ?_|(refine aA rfl ?_ ?_<;>intro hq<;>try exact no9))
  all_goals try exact no9
  have e0:spl (lnC y3) 0 (lnC x5)=lnC x5:=gY rfl
  rw [e0]
  by_cases hpf:pF false n1 gn (aK (aC t))=0
  · rw [if_neg (not_not_intro hpf)]
    rw [tS,if_pos hpf] at hx5n
    have hG2:=hG V16 hV16 x5 hx5N
    rw [hx5n] at hG2
    repeat' (first|(refine aE ?_;first|(refine aD ?_;(refine aW rfl ⟨Tryz.call184⟩ rfl bF rfl (hG2) ?_;rintro v V17 B17 hV17 ⟨rfl,hB17⟩))|refine pu9 ?_)|refine bV ?_|(refine aA rfl ?_ ?_<;>intro hq<;>try exact no9))
    all_goals first
      | exact no9
      | ((refine bC Tryz.results82 (aB rfl) (show List.Sublist B17 _ from bD) ?_);exact⟨rfl,hB17⟩)
  · rw [if_pos hpf]
    repeat' (first|(refine aE ?_;refine pu9 ?_)|refine bV ?_|(refine aA rfl ?_ ?_<;>intro hq<;>try exact no9))
    all_goals first
      | exact no9
      | ((refine bC Tryz.results82 (aB rfl) (show List.Sublist [⟨p,130,bxC I b⟩] _ from bD) ?_);exact⟨rfl,I,rfl,hI.up (hVV15.trans hV16)⟩)
end
section
attribute [local irreducible] AtQ GoC GoL GoW QO QP Fn RV bX aL VLe cG bT
theorem RAttr0_c (V:aI) (A:Option Addr) (n c:Nat) (xs:List PA) (nm vl:ByteArray) (h:eH V A n xs) (hm2:nm.size≤maxLen) (hm3:vl.size≤maxLen):Fn Tryz.prog 195 [.int .i64 0,.slice A n c,.string nm,.string vl] V fun v _=>v=Get3 xs nm:=by
  have hl:=h.1.1
  have hm:=h.1.max
  have hbd:=kY xs
  have hmx:maxLen≤9223372036854775807:=by unfold maxLen;omega
  by_cases h0:eR xs=0
  · obtain⟨r1,r2,r3⟩:=kB h0
    by_cases hc:dH nm=0
    · (refine aH Tryz.func195 rfl Tryz.ntmps195 rfl ?_;intro w0)
      repeat' (first|(refine aE ?_;first|(refine aD ?_;(first|refine aN rfl (aG ⟨Tryz.call246⟩ rfl (fU _ _ _ _ xs h)) ?_|refine aN rfl (aG ⟨Tryz.call194⟩ rfl (iT _ nm (by omega))) ?_))|refine pu9 ?_)|refine bV ?_|(refine aA rfl ?_ ?_<;>intro hq<;>try exact no9))
      all_goals (refine eB Tryz.results195 (aB rfl) (aB rfl) (aB rfl) ?_)
      exact get3_bad (getF_name h0 hc) (by first|assumption|decide)
    · have hg:=getF_has (nm:=nm) h0 hc
      (refine aH Tryz.func195 rfl Tryz.ntmps195 rfl ?_;intro w0)
      repeat' (first|(refine aE ?_;first|(refine aD ?_;(first|refine aN rfl (aG ⟨Tryz.call246⟩ rfl (fU _ _ _ _ xs h)) ?_|refine aN rfl (aG ⟨Tryz.call194⟩ rfl (iT _ nm (by omega))) ?_))|refine pu9 ?_)|refine cV ?_|(refine aA rfl ?_ ?_<;>intro hq<;>try exact no9))
      refine bQ (fun F V' L' m=>∃ (k:Nat) (out:List PA) (old:ByteArray) (there laid:Bool) (A12:Option Addr) (c12:Nat) (L12:List Box),k≤n∧m=n - k∧V=V'∧L12=L'∧(xs.take k).foldl (fQ nm vl) ⟨[],⟨#[]⟩,false,!false⟩=⟨out,old,there,laid⟩∧cU A12 out.length c12 271 2 (out.flatMap paC) L12∧F=[(0,.int .i64 0),(1,.slice A n c),(2,.string nm),(3,.string vl),(12,.slice A12 out.length c12),(13,.string old),(14,.bool there),(15,.bool laid),(16,.int .i64 k)]) (m:=n) ⟨0,[],⟨#[]⟩,false,!false,none,0,[],Nat.zero_le _,by omega,rfl,rfl,rfl,cU.nil,rfl⟩ bH rfl sl9 ?_
      rintro F V' L' m ⟨k,out,old,there,laid,A12,c12,L12,hk,rfl,rfl,rfl,hfo,hr,rfl⟩
      have hol:=vT nm vl (xs.take k) ⟨[],⟨#[]⟩,false,!false⟩
      rw [hfo,List.length_take] at hol
      simp only [List.length_nil] at hol
      by_cases hlt:k<n
      · obtain⟨bb,off,a,rfl,hx,hcc,c0,c1,w0',w1⟩:=h.at_ hlt
        have hsn:(xs.take (k+1)).foldl (fQ nm vl) ⟨[],⟨#[]⟩,false,!false⟩=fQ nm vl ⟨out,old,there,laid⟩ a:=by rw [xB hx,hfo]
        repeat' (first|(refine aE ?_;first|(refine aD ?_;(first|(refine aT rfl und_67 inf_271 rfl rfl rfl hr bF (cZ bB rfl) bG (by omega) rfl rfl ?_;intro A4 c4 L4 hr4)|(refine aT rfl und_67 inf_271 rfl rfl rfl hr4 bF (cZ bB rfl) bG (by omega) rfl rfl ?_;intro A5 c5 L5 hr5)))|(refine cX ?_;refine aR (q_sgtr rfl rfl) ?_)|(refine cJ ?_;(refine aP rfl und_67 siz_271 zec_271 rfl rfl rfl rfl rfl rfl rfl ?_;intro γ))|refine pu9 ?_)|refine dQ ?_|(refine bU rfl rfl rfl ?_ ?_<;>intro hq)|(refine aA rfl ?_ ?_<;>intro hq<;>try exact no9))
        all_goals first
          | (rw [rStep_eq (by assumption)] at hsn
             exact aZ _ (n - (k+1)) ⟨k+1,out,a.v,true,laid,A12,c12,L12,by omega,rfl,rfl,rfl,hsn,hr,rfl⟩ (by omega) bH sl9)
          | (rw [rStep_ins (by assumption) (by first|assumption|exact not_t' (by assumption)|exact xN (by assumption)) (by assumption)] at hsn
             refine aZ [(0,.int .i64 0),(1,.slice (some ⟨bb,off,none⟩) n c),(2,.string nm),(3,.string vl),(12,.slice A5 (out.length+1+1) c5),(13,.string old),(14,.bool there),(15,.bool true),(16,.int .i64 ((k+1:Nat):Int))] (n - (k+1)) ⟨k+1,_,old,there,true,A5,c5,L5,by omega,rfl,rfl,rfl,hsn,?_,?_⟩ (by omega) bH sl9
             · rw [List.length_append,List.flatMap_append];rw [List.append_assoc] at hr5;exact hr5
             · rw [List.length_append];rfl)
          | (rw [rStep_add (by assumption) (by rintro ⟨z1,z2⟩;simp only [] at z1;first|contradiction|(have z3:laid=true:=(by first|assumption|exact xN (by assumption));rw [z3] at z1;cases z1))] at hsn
             refine aZ [(0,.int .i64 0),(1,.slice (some ⟨bb,off,none⟩) n c),(2,.string nm),(3,.string vl),(12,.slice A4 (out.length+1) c4),(13,.string old),(14,.bool there),(15,.bool laid),(16,.int .i64 ((k+1:Nat):Int))] (n - (k+1)) ⟨k+1,_,old,there,laid,A4,c4,L4,by omega,rfl,rfl,rfl,hsn,?_,?_⟩ (by omega) bH sl9
             · rw [List.length_append,List.flatMap_append];exact hr4
             · rw [List.length_append];rfl)
      · have hkn:k=n:=by omega
        subst hkn
        rw [List.take_of_length_le (by omega)] at hfo
        have hla:=wK nm vl xs ⟨[],⟨#[]⟩,false,!false⟩ rfl
        have hrr:=rRun_laid (set:=false) (nm:=nm) (vl:=vl) (xs:=xs) hla
        rw [hfo] at hla
        simp only [] at hla
        subst hla
        have hget:=rRun_get nm vl r2
        rw [hrr,hfo] at hget
        simp only [] at hget
        cases there with
        | true =>
          have hi:=hget.1 rfl
          have hh:=eP.2 hi
          have hol4:out.length≤4:=by
            have e:=(xS nm vl r2 hi).2
            rw [hrr,hfo] at e
            simp only [] at e
            have:=(vM xs nm).length_le
            rw [←e] at this;omega
          repeat' (first|(refine aE ?_;refine pu9 ?_)|refine dQ ?_|(refine aA rfl ?_ ?_<;>intro hq<;>try exact no9))
          all_goals (refine eB Tryz.results195 (aB rfl) (aB rfl) (aB rfl) ?_)
          have hgo:=(xS nm vl r2 hi).1
          rw [hrr,hfo] at hgo
          simp only [] at hgo
          rw [hgo]
          exact get3_ok (by rw [hg,if_pos hh]) hh
        | false =>
          have hh:nF nm xs=false:=by
            cases hb:nF nm xs
            · rfl
            · exact absurd (hget.2 (eP.1 hb)) (by simp)
          repeat' (first|(refine aE ?_;refine pu9 ?_)|refine dQ ?_|(refine aA rfl ?_ ?_<;>intro hq<;>try exact no9))
          all_goals (refine eB Tryz.results195 (aB rfl) (aB rfl) (aB rfl) ?_)
          exact get3_bad (f:=5) (by rw [hg,if_neg (by rw [hh];simp)]) (by decide)
  · (refine aH Tryz.func195 rfl Tryz.ntmps195 rfl ?_;intro w0)
    repeat' (first|(refine aE ?_;first|(refine aD ?_;(first|refine aN rfl (aG ⟨Tryz.call246⟩ rfl (fU _ _ _ _ xs h)) ?_|refine aN rfl (aG ⟨Tryz.call194⟩ rfl (iT _ nm (by omega))) ?_))|refine pu9 ?_)|refine bV ?_|(refine aA rfl ?_ ?_<;>intro hq<;>try exact no9))
    all_goals (refine eB Tryz.results195 (aB rfl) (aB rfl) (aB rfl) ?_)
    exact get3_bad (getF_err h0) (by first|assumption|decide)
theorem RAttr1_c (V:aI) (A:Option Addr) (n c:Nat) (xs:List PA) (nm vl:ByteArray) (h:eH V A n xs) (hm2:nm.size≤maxLen) (hm3:vl.size≤maxLen):Fn Tryz.prog 195 [.int .i64 1,.slice A n c,.string nm,.string vl] V (Attr3 (rR xs nm vl) (nK xs nm vl)):=by
  have hl:=h.1.1
  have hm:=h.1.max
  have hbd:=kY xs
  have hmx:maxLen≤9223372036854775807:=by unfold maxLen;omega
  by_cases h0:eR xs=0
  · obtain⟨r1,r2,r3⟩:=kB h0
    by_cases hc:dH nm=0
    · (refine aH Tryz.func195 rfl Tryz.ntmps195 rfl ?_;intro w0)
      repeat' (first|(refine aE ?_;first|(refine aD ?_;(first|refine aN rfl (aG ⟨Tryz.call246⟩ rfl (fU _ _ _ _ xs h)) ?_|refine aN rfl (aG ⟨Tryz.call194⟩ rfl (iT _ nm (by omega))) ?_))|refine pu9 ?_)|refine bV ?_|(refine aA rfl ?_ ?_<;>intro hq<;>try exact no9))
      all_goals (refine eB Tryz.results195 (aB rfl) (aB rfl) (aB rfl) ?_)
      exact mB (setF_name h0 hc) (by first|assumption|decide)
    · by_cases hv:20<vl.size
      · (refine aH Tryz.func195 rfl Tryz.ntmps195 rfl ?_;intro w0)
        repeat' (first|(refine aE ?_;first|(refine aD ?_;(first|refine aN rfl (aG ⟨Tryz.call246⟩ rfl (fU _ _ _ _ xs h)) ?_|refine aN rfl (aG ⟨Tryz.call194⟩ rfl (iT _ nm (by omega))) ?_))|refine pu9 ?_)|refine bV ?_|(refine aA rfl ?_ ?_<;>intro hq<;>try exact no9))
        all_goals (refine eB Tryz.results195 (aB rfl) (aB rfl) (aB rfl) ?_)
        exact mB (setF_big h0 hc hv) (by decide)
      · have hs:=setF_has (nm:=nm) (vl:=vl) h0 hc hv
        (refine aH Tryz.func195 rfl Tryz.ntmps195 rfl ?_;intro w0)
        repeat' (first|(refine aE ?_;first|(refine aD ?_;(first|refine aN rfl (aG ⟨Tryz.call246⟩ rfl (fU _ _ _ _ xs h)) ?_|refine aN rfl (aG ⟨Tryz.call194⟩ rfl (iT _ nm (by omega))) ?_))|refine pu9 ?_)|refine bW ?_|(refine aA rfl ?_ ?_<;>intro hq<;>try exact no9))
        refine bQ (fun F V' L' m=>∃ (k:Nat) (out:List PA) (old:ByteArray) (there laid:Bool) (A12:Option Addr) (c12:Nat) (L12:List Box),k≤n∧m=n - k∧V=V'∧L12=L'∧(xs.take k).foldl (fQ nm vl) ⟨[],⟨#[]⟩,false,!true⟩=⟨out,old,there,laid⟩∧cU A12 out.length c12 271 2 (out.flatMap paC) L12∧F=[(0,.int .i64 1),(1,.slice A n c),(2,.string nm),(3,.string vl),(12,.slice A12 out.length c12),(13,.string old),(14,.bool there),(15,.bool laid),(16,.int .i64 k)]) (m:=n) ⟨0,[],⟨#[]⟩,false,!true,none,0,[],Nat.zero_le _,by omega,rfl,rfl,rfl,cU.nil,rfl⟩ bH rfl sl9 ?_
        rintro F V' L' m ⟨k,out,old,there,laid,A12,c12,L12,hk,rfl,rfl,rfl,hfo,hr,rfl⟩
        have hol:=vT nm vl (xs.take k) ⟨[],⟨#[]⟩,false,!true⟩
        rw [hfo,List.length_take] at hol
        simp only [List.length_nil] at hol
        by_cases hlt:k<n
        · obtain⟨bb,off,a,rfl,hx,hcc,c0,c1,w0',w1⟩:=h.at_ hlt
          have hsn:(xs.take (k+1)).foldl (fQ nm vl) ⟨[],⟨#[]⟩,false,!true⟩=fQ nm vl ⟨out,old,there,laid⟩ a:=by rw [xB hx,hfo]
          repeat' (first|(refine aE ?_;first|(refine aD ?_;(first|(refine aT rfl und_67 inf_271 rfl rfl rfl hr bF (cZ bB rfl) bG (by omega) rfl rfl ?_;intro A4 c4 L4 hr4)|(refine aT rfl und_67 inf_271 rfl rfl rfl hr4 bF (cZ bB rfl) bG (by omega) rfl rfl ?_;intro A5 c5 L5 hr5)))|(refine cX ?_;refine aR (q_sgtr rfl rfl) ?_)|(refine cJ ?_;(refine aP rfl und_67 siz_271 zec_271 rfl rfl rfl rfl rfl rfl rfl ?_;intro γ))|refine pu9 ?_)|refine dQ ?_|(refine bU rfl rfl rfl ?_ ?_<;>intro hq)|(refine aA rfl ?_ ?_<;>intro hq<;>try exact no9))
          all_goals first
            | (rw [rStep_eq (by assumption)] at hsn
               exact aZ _ (n - (k+1)) ⟨k+1,out,a.v,true,laid,A12,c12,L12,by omega,rfl,rfl,rfl,hsn,hr,rfl⟩ (by omega) bH sl9)
            | (rw [rStep_ins (by assumption) (by first|assumption|exact not_t' (by assumption)|exact xN (by assumption)) (by assumption)] at hsn
               refine aZ [(0,.int .i64 1),(1,.slice (some ⟨bb,off,none⟩) n c),(2,.string nm),(3,.string vl),(12,.slice A5 (out.length+1+1) c5),(13,.string old),(14,.bool there),(15,.bool true),(16,.int .i64 ((k+1:Nat):Int))] (n - (k+1)) ⟨k+1,_,old,there,true,A5,c5,L5,by omega,rfl,rfl,rfl,hsn,?_,?_⟩ (by omega) bH sl9
               · rw [List.length_append,List.flatMap_append];rw [List.append_assoc] at hr5;exact hr5
               · rw [List.length_append];rfl)
            | (rw [rStep_add (by assumption) (by rintro ⟨z1,z2⟩;simp only [] at z1;first|contradiction|(have z3:laid=true:=(by first|assumption|exact xN (by assumption));rw [z3] at z1;cases z1))] at hsn
               refine aZ [(0,.int .i64 1),(1,.slice (some ⟨bb,off,none⟩) n c),(2,.string nm),(3,.string vl),(12,.slice A4 (out.length+1) c4),(13,.string old),(14,.bool there),(15,.bool laid),(16,.int .i64 ((k+1:Nat):Int))] (n - (k+1)) ⟨k+1,_,old,there,laid,A4,c4,L4,by omega,rfl,rfl,rfl,hsn,?_,?_⟩ (by omega) bH sl9
               · rw [List.length_append,List.flatMap_append];exact hr4
               · rw [List.length_append];rfl)
        · have hkn:k=n:=by omega
          subst hkn
          rw [List.take_of_length_le (by omega)] at hfo
          have hgood:∀ a∈nK xs nm vl,a.n.size≤maxLen∧a.v.size≤maxLen:=fun a ha=>by
            rcases (setA_mem r2 nm vl a).1 ha with rfl|⟨ha,_⟩
            · exact⟨hm2,hm3⟩
            · exact h.2 a ha
          have hset:=rRun_set nm vl r2
          have hlen:=setA_len nm vl r2
          cases laid with
          | true =>
            have hrr:=rRun_laid (set:=true) (nm:=nm) (vl:=vl) (xs:=xs) (by rw [hfo])
            rw [hrr,hfo] at hset
            simp only [] at hset
            subst hset
            repeat' (first|(refine aE ?_;refine pu9 ?_)|refine dQ ?_|(refine aA rfl ?_ ?_<;>intro hq<;>try exact no9))
            all_goals first
              | (refine eA hr bF ?_
                 intro V2 hV2 hc3
                 (refine eB Tryz.results195 (aB rfl) (aB rfl) (aB rfl) ?_)
                 refine .inl ⟨?_,A12,c12,rfl,jR hc3 rfl (by omega) hgood,hr.cap⟩
                 rw [hs,if_neg]
                 rintro ⟨z1,z2⟩
                 have:=hlen.2 (fun e=>by rw [←eP,z1] at e;cases e)
                 omega)
              | ((refine eB Tryz.results195 (aB rfl) (aB rfl) (aB rfl) ?_)
                 refine mB (g:=2) ?_ (by decide)
                 rw [hs,if_pos]
                 cases hh:nF nm xs with
                 | true=>have:=hlen.1 (eP.1 hh);omega
                 | false =>
                   have:=hlen.2 (fun e=>by rw [←eP,hh] at e;cases e)
                   exact⟨rfl,by omega⟩)
          | false =>
            have hrr:=rRun_not (set:=true) (nm:=nm) (vl:=vl) (xs:=xs) (by rw [hfo])
            rw [hset,hfo] at hrr
            simp only [] at hrr
            have hle:(nK xs nm vl).length=out.length+1:=by rw [hrr];simp
            repeat' (first|(refine aE ?_;first|(refine aD ?_;(refine aT rfl und_67 inf_271 rfl rfl rfl hr bF (cZ bB rfl) bG (by omega) rfl rfl ?_;intro A4 c4 L4 hr4))|(refine cJ ?_;(refine aP rfl und_67 siz_271 zec_271 rfl rfl rfl rfl rfl rfl rfl ?_;intro γ))|refine pu9 ?_)|refine dQ ?_|(refine aA rfl ?_ ?_<;>intro hq<;>try exact no9))
            all_goals first
              | (refine eA hr4 bF ?_
                 intro V2 hV2 hc3
                 (refine eB Tryz.results195 (aB rfl) (aB rfl) (aB rfl) ?_)
                 have hM:eH V2 A4 _ (nK xs nm vl):=jR (by rw [hrr,List.flatMap_append];exact hc3) hle (by omega) hgood
                 refine .inl ⟨?_,A4,c4,by rw [hle],hle▸hM,by rw [hle];exact hr4.cap⟩
                 rw [hs,if_neg]
                 rintro ⟨z1,z2⟩
                 have:=hlen.2 (fun e=>by rw [←eP,z1] at e;cases e)
                 omega)
              | ((refine eB Tryz.results195 (aB rfl) (aB rfl) (aB rfl) ?_)
                 refine mB (g:=2) ?_ (by decide)
                 rw [hs,if_pos]
                 cases hh:nF nm xs with
                 | true=>have:=hlen.1 (eP.1 hh);omega
                 | false =>
                   have:=hlen.2 (fun e=>by rw [←eP,hh] at e;cases e)
                   exact⟨rfl,by omega⟩)
  · (refine aH Tryz.func195 rfl Tryz.ntmps195 rfl ?_;intro w0)
    repeat' (first|(refine aE ?_;first|(refine aD ?_;(first|refine aN rfl (aG ⟨Tryz.call246⟩ rfl (fU _ _ _ _ xs h)) ?_|refine aN rfl (aG ⟨Tryz.call194⟩ rfl (iT _ nm (by omega))) ?_))|refine pu9 ?_)|refine bV ?_|(refine aA rfl ?_ ?_<;>intro hq<;>try exact no9))
    all_goals (refine eB Tryz.results195 (aB rfl) (aB rfl) (aB rfl) ?_)
    exact mB (setF_err h0) (by first|assumption|decide)
theorem RAttr2_c (V:aI) (A:Option Addr) (n c:Nat) (xs:List PA) (nm vl:ByteArray) (h:eH V A n xs) (hm2:nm.size≤maxLen) (hm3:vl.size≤maxLen):Fn Tryz.prog 195 [.int .i64 2,.slice A n c,.string nm,.string vl] V (Attr3 (jL xs nm) (oF xs nm)):=by
  have hl:=h.1.1
  have hm:=h.1.max
  have hbd:=kY xs
  have hmx:maxLen≤9223372036854775807:=by unfold maxLen;omega
  by_cases h0:eR xs=0
  · obtain⟨r1,r2,r3⟩:=kB h0
    by_cases hc:dH nm=0
    · (refine aH Tryz.func195 rfl Tryz.ntmps195 rfl ?_;intro w0)
      repeat' (first|(refine aE ?_;first|(refine aD ?_;(first|refine aN rfl (aG ⟨Tryz.call246⟩ rfl (fU _ _ _ _ xs h)) ?_|refine aN rfl (aG ⟨Tryz.call194⟩ rfl (iT _ nm (by omega))) ?_))|refine pu9 ?_)|refine bV ?_|(refine aA rfl ?_ ?_<;>intro hq<;>try exact no9))
      all_goals (refine eB Tryz.results195 (aB rfl) (aB rfl) (aB rfl) ?_)
      exact mB (getF_name h0 hc) (by first|assumption|decide)
    · have hg:=getF_has (nm:=nm) h0 hc
      (refine aH Tryz.func195 rfl Tryz.ntmps195 rfl ?_;intro w0)
      repeat' (first|(refine aE ?_;first|(refine aD ?_;(first|refine aN rfl (aG ⟨Tryz.call246⟩ rfl (fU _ _ _ _ xs h)) ?_|refine aN rfl (aG ⟨Tryz.call194⟩ rfl (iT _ nm (by omega))) ?_))|refine pu9 ?_)|refine cV ?_|(refine aA rfl ?_ ?_<;>intro hq<;>try exact no9))
      refine bQ (fun F V' L' m=>∃ (k:Nat) (out:List PA) (old:ByteArray) (there laid:Bool) (A12:Option Addr) (c12:Nat) (L12:List Box),k≤n∧m=n - k∧V=V'∧L12=L'∧(xs.take k).foldl (fQ nm vl) ⟨[],⟨#[]⟩,false,!false⟩=⟨out,old,there,laid⟩∧cU A12 out.length c12 271 2 (out.flatMap paC) L12∧F=[(0,.int .i64 2),(1,.slice A n c),(2,.string nm),(3,.string vl),(12,.slice A12 out.length c12),(13,.string old),(14,.bool there),(15,.bool laid),(16,.int .i64 k)]) (m:=n) ⟨0,[],⟨#[]⟩,false,!false,none,0,[],Nat.zero_le _,by omega,rfl,rfl,rfl,cU.nil,rfl⟩ bH rfl sl9 ?_
      rintro F V' L' m ⟨k,out,old,there,laid,A12,c12,L12,hk,rfl,rfl,rfl,hfo,hr,rfl⟩
      have hol:=vT nm vl (xs.take k) ⟨[],⟨#[]⟩,false,!false⟩
      rw [hfo,List.length_take] at hol
      simp only [List.length_nil] at hol
      by_cases hlt:k<n
      · obtain⟨bb,off,a,rfl,hx,hcc,c0,c1,w0',w1⟩:=h.at_ hlt
        have hsn:(xs.take (k+1)).foldl (fQ nm vl) ⟨[],⟨#[]⟩,false,!false⟩=fQ nm vl ⟨out,old,there,laid⟩ a:=by rw [xB hx,hfo]
        repeat' (first|(refine aE ?_;first|(refine aD ?_;(first|(refine aT rfl und_67 inf_271 rfl rfl rfl hr bF (cZ bB rfl) bG (by omega) rfl rfl ?_;intro A4 c4 L4 hr4)|(refine aT rfl und_67 inf_271 rfl rfl rfl hr4 bF (cZ bB rfl) bG (by omega) rfl rfl ?_;intro A5 c5 L5 hr5)))|(refine cX ?_;refine aR (q_sgtr rfl rfl) ?_)|(refine cJ ?_;(refine aP rfl und_67 siz_271 zec_271 rfl rfl rfl rfl rfl rfl rfl ?_;intro γ))|refine pu9 ?_)|refine dQ ?_|(refine bU rfl rfl rfl ?_ ?_<;>intro hq)|(refine aA rfl ?_ ?_<;>intro hq<;>try exact no9))
        all_goals first
          | (rw [rStep_eq (by assumption)] at hsn
             exact aZ _ (n - (k+1)) ⟨k+1,out,a.v,true,laid,A12,c12,L12,by omega,rfl,rfl,rfl,hsn,hr,rfl⟩ (by omega) bH sl9)
          | (rw [rStep_ins (by assumption) (by first|assumption|exact not_t' (by assumption)|exact xN (by assumption)) (by assumption)] at hsn
             refine aZ [(0,.int .i64 2),(1,.slice (some ⟨bb,off,none⟩) n c),(2,.string nm),(3,.string vl),(12,.slice A5 (out.length+1+1) c5),(13,.string old),(14,.bool there),(15,.bool true),(16,.int .i64 ((k+1:Nat):Int))] (n - (k+1)) ⟨k+1,_,old,there,true,A5,c5,L5,by omega,rfl,rfl,rfl,hsn,?_,?_⟩ (by omega) bH sl9
             · rw [List.length_append,List.flatMap_append];rw [List.append_assoc] at hr5;exact hr5
             · rw [List.length_append];rfl)
          | (rw [rStep_add (by assumption) (by rintro ⟨z1,z2⟩;simp only [] at z1;first|contradiction|(have z3:laid=true:=(by first|assumption|exact xN (by assumption));rw [z3] at z1;cases z1))] at hsn
             refine aZ [(0,.int .i64 2),(1,.slice (some ⟨bb,off,none⟩) n c),(2,.string nm),(3,.string vl),(12,.slice A4 (out.length+1) c4),(13,.string old),(14,.bool there),(15,.bool laid),(16,.int .i64 ((k+1:Nat):Int))] (n - (k+1)) ⟨k+1,_,old,there,laid,A4,c4,L4,by omega,rfl,rfl,rfl,hsn,?_,?_⟩ (by omega) bH sl9
             · rw [List.length_append,List.flatMap_append];exact hr4
             · rw [List.length_append];rfl)
      · have hkn:k=n:=by omega
        subst hkn
        rw [List.take_of_length_le (by omega)] at hfo
        have hla:=wK nm vl xs ⟨[],⟨#[]⟩,false,!false⟩ rfl
        have hrr:=rRun_laid (set:=false) (nm:=nm) (vl:=vl) (xs:=xs) hla
        rw [hfo] at hla
        simp only [] at hla
        subst hla
        have hget:=rRun_get nm vl r2
        rw [hrr,hfo] at hget
        simp only [] at hget
        cases there with
        | true =>
          have hi:=hget.1 rfl
          have hh:=eP.2 hi
          have hol4:out.length≤4:=by
            have e:=(xS nm vl r2 hi).2
            rw [hrr,hfo] at e
            simp only [] at e
            have:=(vM xs nm).length_le
            rw [←e] at this;omega
          repeat' (first|(refine aE ?_;refine pu9 ?_)|refine dQ ?_|(refine aA rfl ?_ ?_<;>intro hq<;>try exact no9))
          have hdo:=(xS nm vl r2 hi).2
          rw [hrr,hfo] at hdo
          simp only [] at hdo
          subst hdo
          refine eA hr bF ?_
          intro V2 hV2 hc3
          (refine eB Tryz.results195 (aB rfl) (aB rfl) (aB rfl) ?_)
          exact .inl ⟨by rw [hg,if_pos hh],A12,c12,rfl,jR hc3 rfl (by omega) (fun a ha=>h.2 a ((vM xs nm).subset ha)),hr.cap⟩
        | false =>
          have hh:nF nm xs=false:=by
            cases hb:nF nm xs
            · rfl
            · exact absurd (hget.2 (eP.1 hb)) (by simp)
          repeat' (first|(refine aE ?_;refine pu9 ?_)|refine dQ ?_|(refine aA rfl ?_ ?_<;>intro hq<;>try exact no9))
          all_goals (refine eB Tryz.results195 (aB rfl) (aB rfl) (aB rfl) ?_)
          exact mB (g:=5) (by rw [hg,if_neg (by rw [hh];simp)]) (by decide)
  · (refine aH Tryz.func195 rfl Tryz.ntmps195 rfl ?_;intro w0)
    repeat' (first|(refine aE ?_;first|(refine aD ?_;(first|refine aN rfl (aG ⟨Tryz.call246⟩ rfl (fU _ _ _ _ xs h)) ?_|refine aN rfl (aG ⟨Tryz.call194⟩ rfl (iT _ nm (by omega))) ?_))|refine pu9 ?_)|refine bV ?_|(refine aA rfl ?_ ?_<;>intro hq<;>try exact no9))
    all_goals (refine eB Tryz.results195 (aB rfl) (aB rfl) (aB rfl) ?_)
    exact mB (getF_err h0) (by first|assumption|decide)
end
section
def iM (p:Nat) (r:BX×(TD×Int)) (v:Value) (V':aI) (Bs':List Box):Prop:=mT r.2 v V'∧eC V' p r.1 Bs'
theorem iM.ch {p:Nat} {r:BX×Int} {v:Value} {V':aI} {Bs':List Box} (hB:eC V' p r.1 Bs') (hv:v=.tuple #[tdV tdZ none 0 0,.int .i64 r.2]):iM p (chT r) v V' Bs':=⟨by rw [hv];exact⟨none,0,0,rfl,bZ.nil,Nat.le_refl _⟩,hB⟩
theorem iM.no {p:Nat} {b:BX} {e:Int} {V':aI} {Bs':List Box} (hB:eC V' p b Bs'):iM p (b,tdZ,e) (.tuple #[tdV tdZ none 0 0,.int .i64 e]) V' Bs':=⟨⟨none,0,0,rfl,bZ.nil,Nat.le_refl _⟩,hB⟩
theorem iM.inv {p:Nat} {b:BX} {t:TD} {e:Int} {v:Value} {V:aI} {Bs:List Box} (h:iM p (b,t,e) v V Bs):∃ (A:Option Addr) (n c:Nat),v=.tuple #[tdV t A n c,.int .i64 e]∧bZ V A n t.names∧n≤c∧eC V p b Bs:=by
  obtain⟨⟨A,n,c,h1,h2,h3⟩,h4⟩:=h
  exact⟨A,n,c,h1,h2,h3,h4⟩
noncomputable def ratP (b:BX) (c:CL):BX×(TD×Int):=if c.op=12 then (b,rK b c) else chT (mN b (aC c.path) c.name c.data (decide (c.op=11)))
def oM (c:CL):Int:=if c.op=12 then 4 else 2
def howQ (c:CL):Int:=if c.op=12 then 0 else c.op - 9
theorem class_few (s:ByteArray):dH s=0∨dH s=1∨dH s=2:=by unfold dH;(repeat' split)<;>simp
noncomputable def xQ (b:BX) (c:CL):Int:=if dH c.name=0 then 4 else if c.op=10∧20<c.data.size then 1 else if ¬cS b (aC c.path)=0 then cS b (aC c.path) else gE b (aV b (aC c.path)).th c.name (oM c)
theorem rat_no {b:BX} {c:CL} (ho:c.op=10∨c.op=11∨c.op=12) (h:¬xQ b c=0):ratP b c=(b,tdZ,xQ b c):=by
  unfold ratP xQ oM rK mN at *
  by_cases h1:dH c.name=0
  · simp only [h1,if_true];split<;>rfl
  · simp only [h1,if_false] at h ⊢
    by_cases h2:c.op=10∧20<c.data.size
    · have h12:¬c.op=12:=by omega
      have h11:decide (c.op=11)=false:=decide_eq_false (by omega)
      rw [if_neg h12,if_pos h2,h11,if_pos ⟨rfl,h2.2⟩];rfl
    · rw [if_neg h2] at h ⊢
      have h3:¬(decide (c.op=11)=false∧20<c.data.size∧¬c.op=12):=fun ⟨h9,h8,h7⟩=>h2 ⟨by have:=of_decide_eq_false h9;omega,h8⟩
      by_cases h12:c.op=12
      · rw [if_pos h12]
        rw [if_pos h12] at h
        by_cases h4:cS b (aC c.path)=0
        · rw [if_neg (not_not_intro h4)] at h ⊢
          rw [if_pos h,if_neg (not_not_intro h4),if_pos h12]
        · rw [if_pos h4,if_pos h4]
      · rw [if_neg h12]
        rw [if_neg h12] at h
        rw [if_neg (fun h9=>h3 ⟨h9.1,h9.2,h12⟩)]
        by_cases h4:cS b (aC c.path)=0
        · rw [if_neg (not_not_intro h4)] at h ⊢
          rw [if_pos h,if_neg (not_not_intro h4),if_neg h12];rfl
        · rw [if_pos h4,if_pos h4];rfl
theorem rat_get {b:BX} {c:CL} (ho:c.op=12) (h:xQ b c=0):ratP b c=(b,{ tdZ with data:=if nF c.name (aV b (aC c.path)).n.h.attrs=true∧jL (aV b (aC c.path)).n.h.attrs c.name=0 then getA c.name (aV b (aC c.path)).n.h.attrs else ⟨#[]⟩ },jL (aV b (aC c.path)).n.h.attrs c.name):=by
  unfold xQ oM at h
  by_cases h1:dH c.name=0
  · rw [if_pos h1] at h;simp at h
  · rw [if_neg h1,if_neg (by omega)] at h
    by_cases h4:cS b (aC c.path)=0
    · rw [if_neg (not_not_intro h4),if_pos ho] at h
      unfold ratP rK
      rw [if_pos ho,if_neg h1,if_neg (not_not_intro h4),if_neg (not_not_intro h)]
    · rw [if_pos h4] at h;exact absurd h h4
theorem rat_set {b:BX} {c:CL} (ho:c.op=10∨c.op=11) (h:xQ b c=0):ratP b c=chT (if ¬(xU (aV b (aC c.path)).n.h.attrs c.name c.data (decide (c.op=11))).1=0 then (b,(xU (aV b (aC c.path)).n.h.attrs c.name c.data (decide (c.op=11))).1) else fV b (aK (aC c.path)) (fun h=>{ h with attrs:=(xU (aV b (aC c.path)).n.h.attrs c.name c.data (decide (c.op=11))).2 })):=by
  have ho2:¬c.op=12:=by omega
  unfold xQ oM at h
  by_cases h1:dH c.name=0
  · rw [if_pos h1] at h;simp at h
  · rw [if_neg h1] at h
    by_cases h2:c.op=10∧20<c.data.size
    · rw [if_pos h2] at h;simp at h
    · rw [if_neg h2] at h
      by_cases h4:cS b (aC c.path)=0
      · rw [if_neg (not_not_intro h4),if_neg ho2] at h
        unfold ratP mN
        rw [if_neg ho2,if_neg h1,if_neg (fun h9=>h2 ⟨by have:=of_decide_eq_false h9.1;omega,h9.2⟩),if_neg (not_not_intro h4),if_neg (not_not_intro h)]
      · rw [if_pos h4] at h;exact absurd h h4
attribute [local irreducible] AtQ GoC GoL GoW QO QP Fn RV bX aL VLe cG bT
attribute [local irreducible] FnB
theorem rattr_c (V:aI) (p:Nat) (b:BX) (Bs:List Box) (hok:bK b) (h:eC V p b Bs) (c:CL) (hc:oR c) (ho:c.op=10∨c.op=11∨c.op=12):FnB Tryz.prog 85 [.pointer (some ⟨p,0,none⟩),clV c] V Bs (iM p (ratP b c)):=by
  obtain⟨I,rfl,hI⟩:=h
  have hcn:=hc.2.2.1
  have hcd:=hc.2.2.2
  have hT:=fun V2 (hV2:VLe V V2)=>rat_b (V:=V2) (p:=p) hok ⟨I,rfl,hI.up hV2⟩ c.path hc.1
  have hCl:=fun V2=>iT V2 c.name (by omega)
  have hd:=hok.d
  have htb:=gX b (aC c.path)
  have hmt:=fH hok (aC c.path)
  have hfew:=fD (aC c.path)
  have hcf:=class_few c.name
  have hno:=rat_no (b:=b) ho
  have hF:xQ b c=if dH c.name=0 then 4 else if c.op=10∧20<c.data.size then 1 else if ¬cS b (aC c.path)=0 then cS b (aC c.path) else gE b (aV b (aC c.path)).th c.name (oM c):=rfl
  (refine bI Tryz.func85 rfl Tryz.ntmps85 rfl ?_;intro w0)
  repeat' (first|(refine aE ?_;first|(refine al9 ?_;intro γ)|refine pu9 ?_)|refine gx9 ?_|refine dX [0,1] rfl ?_)
  rename_i g3
  obtain⟨g4,rfl⟩:∃ g4,g4=γ:=⟨γ,rfl⟩
  repeat' (first|(refine aE ?_;first|(refine aD ?_;refine aN rfl (aG ⟨Tryz.call194⟩ rfl (hCl _)) ?_)|refine st9 ?_|refine pu9 ?_)|refine gx9 ?_|refine dX [2,3] rfl ?_|(refine aA rfl ?_ ?_<;>intro hq<;>try exact no9))
  all_goals first
    | (refine eY ?_;(refine dB Tryz.results85 (aS agg_49 rfl bB (by exact rfl)) (aB rfl) (show List.Sublist [⟨p,130,bxC I b⟩] _ from bD) ?_)
       have e:xQ b c=4:=by rw [hF,if_pos (by assumption)]
       rw [hno (by rw [e];decide),e];exact iM.no ⟨I,rfl,hI⟩)
    | skip
  have hcz:¬dH c.name=0:=by assumption
  refine fC (fun F V' L'=>V=V'∧¬(c.op=10∧20<c.data.size)∧[⟨g4,49,[.int .i64 0,.int .i64 0,.int .i64 0,.int .i64 0,.int .i64 0,.slice none 0 0,.string ⟨#[]⟩]⟩,⟨g3,53,clC c⟩,⟨p,130,bxC I b⟩]=L'∧F=[(0,.pointer (some ⟨p,0,none⟩)),(3,.pointer (some ⟨g3,0,none⟩)),(4,.pointer (some ⟨g4,0,none⟩)),(6,.int .i64 (dH c.name))]) ?_ ?_
  · repeat' (first|(refine aE ?_;first|refine st9 ?_|refine pu9 ?_)|refine fX ?_|(refine aJ rfl rfl rfl ?_ ?_<;>intro hq<;>try exact no9)|refine dX [4,5] rfl ?_|(refine aA rfl ?_ ?_<;>intro hq<;>try exact no9))
    all_goals first
      | (refine oV ?_;exact bR _ ⟨rfl,by omega,rfl,rfl⟩ bH sp9)
      | (refine eY ?_;(refine dB Tryz.results85 (aS agg_49 rfl bB (by exact rfl)) (aB rfl) (show List.Sublist [⟨p,130,bxC I b⟩] _ from bD) ?_)
         have e:xQ b c=1:=by rw [hF,if_neg (by assumption),if_pos (by omega)]
         rw [hno (by rw [e];decide),e];exact iM.no ⟨I,rfl,hI⟩)
  rintro F V' L' ⟨rfl,hbg,rfl,rfl⟩
  repeat' (first|(refine aE ?_;first|(refine aD ?_;(refine aW rfl ⟨Tryz.call174⟩ rfl bF rfl (hT _ vl9) ?_;rintro v V2 B2 hV2 ⟨rfl,hR⟩;rcases hR with ⟨ht0,A,n,k,x,rfl,hs,hnk,hxN,hxn⟩|⟨ht0,rfl⟩))|(refine dG ?_;refine aO rfl siz_244 rfl rfl rfl rfl bG gG rfl ?_)|refine st9 ?_|(refine al9 ?_;intro γ)|refine pu9 ?_)|refine fX ?_|refine dX [6,7,8] rfl ?_|(refine aA rfl ?_ ?_<;>intro hq<;>try exact no9))
  all_goals first
    | exact no9
    | (refine eY ?_;(refine dB Tryz.results85 (aS agg_49 rfl bB (by exact rfl)) (aB rfl) (show List.Sublist [⟨p,130,bxC I b⟩] _ from bD) ?_)
       have e:xQ b c=cS b (aC c.path):=by rw [hF,if_neg hcz,if_neg hbg,if_pos ht0]
       rw [hno (by rw [e];exact ht0),e];exact iM.no ⟨I,rfl,hI.up vl9⟩)
    | skip
  obtain⟨g7,rfl⟩:∃ g7,g7=γ:=⟨γ,rfl⟩
  have hrf:xQ b c=gE b (aV b (aC c.path)).th c.name (oM c):=by rw [hF,if_neg hcz,if_neg hbg,if_neg (not_not_intro ht0)]
  have hge:=fun h12 h9=>rat_get (b:=b) (c:=c) h12 h9
  have hse:=fun h12 h9=>rat_set (b:=b) (c:=c) h12 h9
  have hxa:(aV b (aC c.path)).n.h.attrs=x.h.attrs:=by rw [←hxn];rfl
  rw [hxa] at hge hse
  clear hF hT hCl
  generalize aV b (aC c.path)=sp at *
  repeat' (first|(refine aE ?_;refine pu9 ?_)|refine gx9 ?_|refine dX [9,10] rfl ?_)
  refine fC (fun F V' L'=>V2=V'∧[⟨g7,244,spC A n k true x sp.lay sp.th sp.par⟩,⟨g4,49,[.int .i64 0,.int .i64 0,.int .i64 0,.int .i64 0,.int .i64 0,.slice none 0 0,.string ⟨#[]⟩]⟩,⟨g3,53,clC c⟩,⟨p,130,bxC I b⟩]=L'∧F=[(0,.pointer (some ⟨p,0,none⟩)),(3,.pointer (some ⟨g3,0,none⟩)),(4,.pointer (some ⟨g4,0,none⟩)),(6,.int .i64 (dH c.name)),(7,.pointer (some ⟨g7,0,none⟩)),(9,.int .i64 (oM c)),(10,.int .i64 (howQ c))]) ?_ ?_
  · by_cases h12:c.op=12
    · rw [show oM c=4 from if_pos h12,show howQ c=0 from if_pos h12]
      repeat' (first|(refine aE ?_;refine pu9 ?_)|refine bV ?_|(refine aA rfl ?_ ?_<;>intro hq<;>try exact no9))
      all_goals first
        | exact no9
        | exact bR _ ⟨rfl,rfl,rfl⟩ bH sp9
    · rw [show oM c=2 from if_neg h12,show howQ c=c.op - 9 from if_neg h12]
      repeat' (first|(refine aE ?_;refine pu9 ?_)|refine bV ?_|(refine aA rfl ?_ ?_<;>intro hq<;>try exact no9))
      all_goals first
        | exact no9
        | exact bR _ ⟨rfl,rfl,rfl⟩ bH sp9
  rintro F V' L' ⟨rfl,rfl,rfl⟩
  have hww:oM c=1∨oM c=2∨oM c=4:=by unfold oM;split<;>simp
  have hMay:=fun V9 (h9:VLe V2 V9)=>xH V9 b.c I.A I.n I.k ((hI.xs.le hV2).le h9) hd sp.th hmt (oM c) hww
  have hOw:=fun V9=>ROwns_c V9 b.c I.A I.n I.k hd sp.th
  have hAf:gE b sp.th c.name (oM c)=if dH c.name=1 then (if iL b.c sp.th (oM c)=false then 9 else 0) else if nI b.c sp.th=false then 10 else 0:=rfl
  rw [hAf] at hrf
  clear hAf
  generalize oM c=want at *
  generalize iL b.c sp.th want=m1 at *
  generalize nI b.c sp.th=o1 at *
  repeat' (first|refine gx9 ?_|fail)
  refine dD (fun F V' L'=>VLe V2 V'∧[⟨g7,244,spC A n k true x sp.lay sp.th sp.par⟩,⟨g4,49,[.int .i64 0,.int .i64 0,.int .i64 0,.int .i64 0,.int .i64 0,.slice none 0 0,.string ⟨#[]⟩]⟩,⟨g3,53,clC c⟩,⟨p,130,bxC I b⟩]=L'∧F=[(0,.pointer (some ⟨p,0,none⟩)),(3,.pointer (some ⟨g3,0,none⟩)),(4,.pointer (some ⟨g4,0,none⟩)),(6,.int .i64 (dH c.name)),(7,.pointer (some ⟨g7,0,none⟩)),(10,.int .i64 (howQ c)),(11,.bool m1)]) ?_ ?_
  · refine bM (id:=14) _ mixed (List.Sublist.refl _) ?_;refine gt9 0 ?_;refine gt9 1 ?_;refine gt9 2 ?_;refine gt9 3 ?_;refine gt9 4 ?_;refine gt9 5 ?_;refine gt9 6 ?_;refine aY (i:=7) rfl ?_;refine aN rfl (aG ⟨Tryz.call176⟩ rfl (hMay _ vl9)) ?_;refine gt9 8 ?_;refine aU (by kernel_rfl) vl9 vl9 bD ?_
    all_goals exact bR _ ⟨vl9,rfl,rfl⟩ bH sp9
  rintro F V3 L' ⟨hV3,rfl,rfl⟩
  repeat' (first|refine gx9 ?_|fail)
  refine dD (fun F V' L'=>VLe V3 V'∧[⟨g7,244,spC A n k true x sp.lay sp.th sp.par⟩,⟨g4,49,[.int .i64 0,.int .i64 0,.int .i64 0,.int .i64 0,.int .i64 0,.slice none 0 0,.string ⟨#[]⟩]⟩,⟨g3,53,clC c⟩,⟨p,130,bxC I b⟩]=L'∧F=[(0,.pointer (some ⟨p,0,none⟩)),(3,.pointer (some ⟨g3,0,none⟩)),(4,.pointer (some ⟨g4,0,none⟩)),(6,.int .i64 (dH c.name)),(7,.pointer (some ⟨g7,0,none⟩)),(10,.int .i64 (howQ c)),(11,.bool m1),(12,.bool o1)]) ?_ ?_
  · refine bM (id:=15) _ mixed (List.Sublist.refl _) ?_;refine gt9 0 ?_;refine gt9 1 ?_;refine gt9 2 ?_;refine gt9 3 ?_;refine gt9 4 ?_;refine gt9 5 ?_;refine aY (i:=6) rfl ?_;refine aN rfl (aG ⟨Tryz.call190⟩ rfl (hOw _)) ?_;refine gt9 7 ?_;refine aU (by kernel_rfl) vl9 vl9 bD ?_
    all_goals exact bR _ ⟨vl9,rfl,rfl⟩ bH sp9
  rintro F V4 L' ⟨hV4,rfl,rfl⟩
  have hV24:=hV3.trans hV4
  have hVV4:=hV2.trans hV24
  repeat' (first|refine gx9 ?_|fail)
  refine fC (fun F V' L'=>V4=V'∧¬(dH c.name=1∧m1=false)∧[⟨g7,244,spC A n k true x sp.lay sp.th sp.par⟩,⟨g4,49,[.int .i64 0,.int .i64 0,.int .i64 0,.int .i64 0,.int .i64 0,.slice none 0 0,.string ⟨#[]⟩]⟩,⟨g3,53,clC c⟩,⟨p,130,bxC I b⟩]=L'∧F=[(0,.pointer (some ⟨p,0,none⟩)),(3,.pointer (some ⟨g3,0,none⟩)),(4,.pointer (some ⟨g4,0,none⟩)),(6,.int .i64 (dH c.name)),(7,.pointer (some ⟨g7,0,none⟩)),(10,.int .i64 (howQ c)),(12,.bool o1)]) ?_ ?_
  · repeat' (first|(refine aE ?_;first|refine st9 ?_|refine pu9 ?_)|refine fX ?_|(refine aJ rfl rfl rfl ?_ ?_<;>intro hq<;>try exact no9)|refine dX [16,17] rfl ?_|(refine bP rfl ?_ ?_<;>intro hq))
    all_goals first
      | (refine oV ?_;refine bR _ ⟨rfl,?_,rfl,rfl⟩ bH sp9
         first
         | exact fun h9=>absurd h9.1 (by assumption)
         | exact fun h9=>nbf (by assumption) h9.2)
      | (refine eY ?_;(refine dB Tryz.results85 (aS agg_49 rfl bB (by exact rfl)) (aB rfl) (show List.Sublist [⟨p,130,bxC I b⟩] _ from bD) ?_)
         have e:xQ b c=9:=by rw [hrf,if_pos (by assumption),if_pos (nb (by assumption))]
         rw [hno (by rw [e];decide),e];exact iM.no ⟨I,rfl,hI.up hVV4⟩)
  rintro F V' L' ⟨rfl,hc1,rfl,rfl⟩
  repeat' (first|refine gx9 ?_|fail)
  refine fC (fun F V' L'=>V4=V'∧xQ b c=0∧[⟨g7,244,spC A n k true x sp.lay sp.th sp.par⟩,⟨g4,49,[.int .i64 0,.int .i64 0,.int .i64 0,.int .i64 0,.int .i64 0,.slice none 0 0,.string ⟨#[]⟩]⟩,⟨g3,53,clC c⟩,⟨p,130,bxC I b⟩]=L'∧F=[(0,.pointer (some ⟨p,0,none⟩)),(3,.pointer (some ⟨g3,0,none⟩)),(4,.pointer (some ⟨g4,0,none⟩)),(7,.pointer (some ⟨g7,0,none⟩)),(10,.int .i64 (howQ c))]) ?_ ?_
  · repeat' (first|(refine aE ?_;first|refine st9 ?_|refine pu9 ?_)|refine fX ?_|(refine aJ rfl rfl rfl ?_ ?_<;>intro hq<;>try exact no9)|refine dX [18,19] rfl ?_|(refine bP rfl ?_ ?_<;>intro hq))
    all_goals first
      | (refine oV ?_;refine bR _ ⟨rfl,?_,rfl,rfl⟩ bH sp9
         rw [hrf]
         first
         | (rw [if_pos (by omega),if_neg (fun h9=>hc1 ⟨by omega,h9⟩)];done)
         | (rw [if_neg (by omega),if_neg (nbf (by assumption))];done))
      | (refine eY ?_;(refine dB Tryz.results85 (aS agg_49 rfl bB (by exact rfl)) (aB rfl) (show List.Sublist [⟨p,130,bxC I b⟩] _ from bD) ?_)
         have e:xQ b c=10:=by rw [hrf,if_neg (by omega),if_pos (nb (by assumption))]
         rw [hno (by rw [e];decide),e];exact iM.no ⟨I,rfl,hI.up hVV4⟩)
  rintro F V' L' ⟨rfl,hz,rfl,rfl⟩
  clear hno hrf hMay hOw hc1
  have hm1:c.name.size≤maxLen:=by unfold maxLen;omega
  have hm2:c.data.size≤maxLen:=by unfold maxLen;omega
  have hxA:=(hxN.le hV24).inv.1
  have hgf:=getF_bd x.h.attrs c.name
  by_cases h12:c.op=12
  · rw [hge h12 hz,show howQ c=0 from if_pos h12]
    have hA0:=fun V9 (h9:VLe V4 V9)=>RAttr0_c V9 x.A x.na x.ca x.h.attrs c.name c.data (hxA.le h9) hm1 hm2
    by_cases hg:jL x.h.attrs c.name=0
    · repeat' (first|(refine aE ?_;first|(refine aD ?_;refine aN rfl (aG ⟨Tryz.call195⟩ rfl (hA0 _ vl9)) ?_)|refine st9 ?_|refine pu9 ?_)|refine cD ?_|(refine aA rfl ?_ ?_<;>intro hq<;>try exact no9))
      all_goals first
        | exact no9
        | ((refine dB Tryz.results85 (aS agg_49 rfl bB (by exact rfl)) (aB rfl) (show List.Sublist [⟨p,130,bxC I b⟩] _ from bD) ?_)
           rw [hg]
           exact⟨⟨none,0,0,rfl,bZ.nil,Nat.le_refl _⟩,I,rfl,hI.up (hVV4.trans vl9)⟩)
    · rw [if_neg (fun h9=>hg h9.2)]
      repeat' (first|(refine aE ?_;first|(refine aD ?_;refine aN rfl (aG ⟨Tryz.call195⟩ rfl (hA0 _ vl9)) ?_)|refine st9 ?_|refine pu9 ?_)|refine bV ?_|(refine aA rfl ?_ ?_<;>intro hq<;>try exact no9))
      all_goals first
        | exact no9
        | ((refine dB Tryz.results85 (aS agg_49 rfl bB (by exact rfl)) (aB rfl) (show List.Sublist [⟨p,130,bxC I b⟩] _ from bD) ?_)
           exact iM.no ⟨I,rfl,hI.up (hVV4.trans vl9)⟩)
  have ho2:c.op=10∨c.op=11:=by omega
  rw [hse ho2 hz,show howQ c=c.op - 9 from if_neg h12]
  obtain⟨f,zs,hnw,hAt,hfb⟩:∃ f zs,xU x.h.attrs c.name c.data (decide (c.op=11))=(f,zs)∧(∀ V9,VLe V4 V9→Fn Tryz.prog 195 [.int .i64 (c.op - 9),.slice x.A x.na x.ca,.string c.name,.string c.data] V9 (Attr3 f zs))∧(0≤f∧f≤17):=by
    rcases ho2 with ho2|ho2
    · refine⟨rR x.h.attrs c.name c.data,nK x.h.attrs c.name c.data,by unfold xU;rw [decide_eq_false (by omega),if_neg (by decide)],fun V9 h9=>?_,by have:=setF_bd x.h.attrs c.name c.data;omega⟩
      rw [show c.op - 9=1 by omega]
      exact RAttr1_c V9 x.A x.na x.ca x.h.attrs c.name c.data (hxA.le h9) hm1 hm2
    · refine⟨jL x.h.attrs c.name,oF x.h.attrs c.name,by unfold xU;rw [decide_eq_true ho2,if_pos rfl],fun V9 h9=>?_,by omega⟩
      rw [show c.op - 9=2 by omega]
      exact RAttr2_c V9 x.A x.na x.ca x.h.attrs c.name c.data (hxA.le h9) hm1 hm2
  rw [hnw]
  by_cases hf:f=0
  · subst hf
    rw [if_neg (by simp)]
    have hAl:=fun V9 (h9:VLe V4 V9) A5 c5 (hA5:eH V9 A5 zs.length zs) (hc5:zs.length≤c5)=>tI V9 p b _ hok ⟨I,rfl,hI.up (hVV4.trans h9)⟩ A n k _ ((hs.le hV24).le h9) hnk (by have:=hs.1.1;omega) true x sp.lay sp.th sp.par ⟨{ hZ with attrs:=zs },A5,zs.length,c5,none,0,0,[]⟩ (aX.of (es:=[]) hA5 hc5 (Nat.zero_le _) (Nat.le_refl _) ⟨eT.nil,by simp⟩ rfl) 4 (.inr (.inr (.inr rfl)))
    repeat' (first|(refine aE ?_;first|(refine aD ?_;(first|(refine aM rfl ⟨Tryz.call195⟩ rfl rfl (hAt _ vl9) ?_;rintro v V5 hV5 hR;obtain⟨A5,c5,rfl,hA5,hc5⟩:=attr3_yes hR rfl)|(refine aW rfl ⟨Tryz.call180⟩ rfl bF rfl (hAl _ vl9 A5 c5 hA5 hc5) ?_;rintro v V6 B6 hV6 ⟨rfl,hB6⟩)))|refine st9 ?_|refine pu9 ?_)|refine cD ?_|(refine aA rfl ?_ ?_<;>intro hq<;>try exact no9))
    all_goals first
      | exact no9
      | (rw [altF4] at hB6
         (refine dB Tryz.results85 (aS agg_49 rfl bB (by exact rfl)) (aB rfl) (show List.Sublist B6 _ from bD) ?_)
         rw [altF4]
         exact iM.ch hB6 rfl)
  · rw [if_pos hf]
    repeat' (first|(refine aE ?_;first|(refine aD ?_;(refine aM rfl ⟨Tryz.call195⟩ rfl rfl (hAt _ vl9) ?_;rintro v V5 hV5 hR;obtain rfl:=attr3_no hR hf))|refine st9 ?_|refine pu9 ?_)|refine bV ?_|(refine aA rfl ?_ ?_<;>intro hq<;>try exact no9))
    all_goals first
      | exact no9
      | ((refine dB Tryz.results85 (aS agg_49 rfl bB (by exact rfl)) (aB rfl) (show List.Sublist [⟨p,130,bxC I b⟩] _ from bD) ?_)
         exact iM.ch ⟨I,rfl,hI.up (hVV4.trans hV5)⟩ rfl)
end
section
attribute [local irreducible] AtQ GoC GoL GoW QO QP Fn RV bX aL VLe cG bT
theorem RBecome_c (V:aI) (a b d:Int) (A:Option Addr) (n c:Nat) (xs:List Int) (h:eV V A n xs) (user group:Int) :
    Fn Tryz.prog 86 [mU a b A n c d,.int .i64 user,.int .i64 group] V (BecR (.int .i64) a b d xs user group n):=by
  have hl:=h.1
  have hsrc:=h.2.2
  have hbd:=credF_bd a b d xs
  by_cases hc:fR a b d xs=0
  · have hn:n≤4:=by have:=fI hc;omega
    have hd:0≤d∧d≤15:=by have:=fI hc;omega
    (refine aH Tryz.func86 rfl Tryz.ntmps86 rfl ?_;intro w0)
    repeat' (first|(refine aE ?_;first|(refine aD ?_;(first|refine aN rfl (aG ⟨Tryz.call59⟩ rfl (uD _ _ _ _ _ _ _ xs h)) ?_|refine aN rfl (aG ⟨Tryz.call132⟩ rfl (isID_c _ _)) ?_|refine aN rfl (aG ⟨Tryz.call192⟩ rfl (RHas_c _ _ _ _ _ _ _ _ xs h)) ?_|refine aN rfl (aG ⟨Tryz.call193⟩ rfl (uB _ _ _ (by omega) (by omega))) ?_|(refine aT rfl und_25 inf_3 rfl rfl rfl cU.nil dT (fW hsrc) bG (by omega) rfl rfl ?_;intro A' c' L1 hr)))|refine st9 ?_|(refine al9 ?_;intro γ)|refine pu9 ?_)|refine cD ?_|(refine aJ rfl rfl rfl ?_ ?_<;>intro hq<;>try exact no9)|(refine aA rfl ?_ ?_<;>intro hq<;>try exact no9))
    all_goals first
      | (refine eA hr bF ?_
         intro V2 hV2 hc2
         (refine bA Tryz.results86 (aS agg_27 rfl bB (by exact rfl)) (aB rfl) ?_)
         have e0:mJ a b d xs user group=0:=by
           rw [mJ,if_neg (by omega),if_neg (by omega),if_neg]
           rintro ⟨h1,h2⟩
           first|omega|(simp_all;done)
         have hi:=qT hl (by omega) hc2
         simp only [Nat.zero_add]
         first
           | (have e1:jV a d user=d:=by (rw [jV,if_neg (by omega)])
              exact .inl ⟨e0,A',c',by rw [e1];rfl,hi⟩)
           | (have e1:jV a d user=0:=by (rw [jV,if_pos (by omega)])
              exact .inl ⟨e0,A',c',by rw [e1];rfl,hi⟩))
      | ((refine bA Tryz.results86 (aS agg_27 rfl bB (by exact rfl)) (aB rfl) ?_)
         have e:mJ a b d xs user group=1:=by (rw [mJ,if_neg (by omega),if_pos (by omega)])
         exact .inr ⟨by omega,by rw [e];rfl⟩)
      | ((refine bA Tryz.results86 (aS agg_27 rfl bB (by exact rfl)) (aB rfl) ?_)
         have e:mJ a b d xs user group=10:=by
           rw [mJ,if_neg (by omega),if_neg (by omega),if_pos]
           refine⟨by omega,?_⟩
           first|(left;omega)|(right;assumption)
         exact .inr ⟨by omega,by rw [e];rfl⟩)
  · (refine aH Tryz.func86 rfl Tryz.ntmps86 rfl ?_;intro w0)
    repeat' (first|(refine aE ?_;first|(refine aD ?_;refine aN rfl (aG ⟨Tryz.call59⟩ rfl (uD _ _ _ _ _ _ _ xs h)) ?_)|refine st9 ?_|(refine al9 ?_;intro γ)|refine pu9 ?_)|refine bV ?_|(refine aA rfl ?_ ?_<;>intro hq<;>try exact no9))
    all_goals (refine bA Tryz.results86 (aS agg_27 rfl bB (by exact rfl)) (aB rfl) ?_)
    all_goals exact .inr ⟨by rw [mJ,if_pos hc];exact hc,by rw [mJ,if_pos hc];rfl⟩
end
section
theorem mT.off {r:TD×Int} {v:Value} {V:aI} {gs:List Nat} (hc:qX V gs) (hp:∀ s∈r.1.names,0<s.size) (h:mT r v V):mT r v (V.off gs):=by
  obtain⟨A,n,c,h1,h2,h3⟩:=h
  exact⟨A,n,c,h1,h2.off hc hp,h3⟩
theorem rlooks_b {V:aI} {p:Nat} {b:BX} {Bs:List Box} (hok:bK b) (h:eC V p b Bs) (c:CL) (hc:c.path.size≤1000000) (ho:1≤c.op∧c.op≤3):FnB Tryz.prog 78 [.pointer (some ⟨p,0,none⟩),clV c] V Bs fun v V' Bs'=>Bs'=Bs∧mT (iY b c) v V' :=
  eC.read h (fun v V gs hc hR=>mT.off hc (look_pos hok c) hR) fun V' I hV hB=>rlooks_c V' p b I hok hB c hc ho
attribute [local irreducible] AtQ GoC GoL GoW QO QP Fn RV bX aL VLe cG bT
attribute [local irreducible] FnB
theorem RDo_4 (V:aI) (p:Nat) (b:BX) (Bs:List Box) (hok:bK b) (h:eC V p b Bs) (c:CL) (hc:oR c) (ho:c.op=4):FnB Tryz.prog 19 [.pointer (some ⟨p,0,none⟩),clV c] V Bs (iM p (doP b c)):=by
  have hC:=rput_c V p b Bs hok h c hc.1
  have e:doP b c=chT (gJ b c):=by unfold doP;(repeat (first|rw [if_pos (by omega)]|rw [if_neg (by omega)]))
  rw [e]
  clear e
  (refine bI Tryz.func19 rfl Tryz.ntmps19 rfl ?_;intro w0)
  repeat' (first|(refine aE ?_;first|(refine aD ?_;(refine aW rfl ⟨Tryz.call79⟩ rfl bF rfl (hC) ?_;rintro v V2 B2 hV2 ⟨rfl,hB2⟩))|refine st9 ?_|(refine al9 ?_;intro γ)|refine pu9 ?_)|refine bW ?_|(refine aA rfl ?_ ?_<;>intro hq<;>try exact no9))
  all_goals
    (refine dB Tryz.results19 (aS agg_49 rfl bB (by exact rfl)) (aB rfl) (show List.Sublist B2 _ from bD) ?_)
    exact iM.ch hB2 rfl
theorem RDo_5 (V:aI) (p:Nat) (b:BX) (Bs:List Box) (hok:bK b) (h:eC V p b Bs) (c:CL) (hc:oR c) (ho:c.op=5):FnB Tryz.prog 19 [.pointer (some ⟨p,0,none⟩),clV c] V Bs (iM p (doP b c)):=by
  have hC:=rdirectory_c V p b Bs hok h c hc.1
  have e:doP b c=chT (kJ b c):=by unfold doP;(repeat (first|rw [if_pos (by omega)]|rw [if_neg (by omega)]))
  rw [e]
  clear e
  (refine bI Tryz.func19 rfl Tryz.ntmps19 rfl ?_;intro w0)
  repeat' (first|(refine aE ?_;first|(refine aD ?_;(refine aW rfl ⟨Tryz.call80⟩ rfl bF rfl (hC) ?_;rintro v V2 B2 hV2 ⟨rfl,hB2⟩))|refine st9 ?_|(refine al9 ?_;intro γ)|refine pu9 ?_)|refine bW ?_|(refine aA rfl ?_ ?_<;>intro hq<;>try exact no9))
  all_goals
    (refine dB Tryz.results19 (aS agg_49 rfl bB (by exact rfl)) (aB rfl) (show List.Sublist B2 _ from bD) ?_)
    exact iM.ch hB2 rfl
theorem RDo_6 (V:aI) (p:Nat) (b:BX) (Bs:List Box) (hok:bK b) (h:eC V p b Bs) (c:CL) (hc:oR c) (ho:c.op=6):FnB Tryz.prog 19 [.pointer (some ⟨p,0,none⟩),clV c] V Bs (iM p (doP b c)):=by
  have hC:=rremoved_c V p b Bs hok h c.path hc.1
  have e:doP b c=chT (eL b c.path):=by unfold doP;(repeat (first|rw [if_pos (by omega)]|rw [if_neg (by omega)]))
  rw [e]
  clear e
  (refine bI Tryz.func19 rfl Tryz.ntmps19 rfl ?_;intro w0)
  repeat' (first|(refine aE ?_;first|(refine aD ?_;(refine aW rfl ⟨Tryz.call81⟩ rfl bF rfl (hC) ?_;rintro v V2 B2 hV2 ⟨rfl,hB2⟩))|refine st9 ?_|(refine al9 ?_;intro γ)|refine pu9 ?_)|refine bW ?_|(refine aA rfl ?_ ?_<;>intro hq<;>try exact no9))
  all_goals
    (refine dB Tryz.results19 (aS agg_49 rfl bB (by exact rfl)) (aB rfl) (show List.Sublist B2 _ from bD) ?_)
    exact iM.ch hB2 rfl
theorem RDo_7 (V:aI) (p:Nat) (b:BX) (Bs:List Box) (hok:bK b) (h:eC V p b Bs) (c:CL) (hc:oR c) (ho:c.op=7):FnB Tryz.prog 19 [.pointer (some ⟨p,0,none⟩),clV c] V Bs (iM p (doP b c)):=by
  have hC:=rmoved_c V p b Bs hok h c.path c.other hc.1 hc.2.1
  have e:doP b c=chT (rM b c.path c.other):=by unfold doP;(repeat (first|rw [if_pos (by omega)]|rw [if_neg (by omega)]))
  rw [e]
  clear e
  (refine bI Tryz.func19 rfl Tryz.ntmps19 rfl ?_;intro w0)
  repeat' (first|(refine aE ?_;first|(refine aD ?_;(refine aW rfl ⟨Tryz.call82⟩ rfl bF rfl (hC) ?_;rintro v V2 B2 hV2 ⟨rfl,hB2⟩))|refine st9 ?_|(refine al9 ?_;intro γ)|refine pu9 ?_)|refine bW ?_|(refine aA rfl ?_ ?_<;>intro hq<;>try exact no9))
  all_goals
    (refine dB Tryz.results19 (aS agg_49 rfl bB (by exact rfl)) (aB rfl) (show List.Sublist B2 _ from bD) ?_)
    exact iM.ch hB2 rfl
theorem RDo_8 (V:aI) (p:Nat) (b:BX) (Bs:List Box) (hok:bK b) (h:eC V p b Bs) (c:CL) (hc:oR c) (ho:c.op=8):FnB Tryz.prog 19 [.pointer (some ⟨p,0,none⟩),clV c] V Bs (iM p (doP b c)):=by
  have hC:=rmode_c V p b Bs hok h c hc.1
  have e:doP b c=chT (nQ b (aC c.path) c.a):=by unfold doP;(repeat (first|rw [if_pos (by omega)]|rw [if_neg (by omega)]))
  rw [e]
  clear e
  (refine bI Tryz.func19 rfl Tryz.ntmps19 rfl ?_;intro w0)
  repeat' (first|(refine aE ?_;first|(refine aD ?_;(refine aW rfl ⟨Tryz.call83⟩ rfl bF rfl (hC) ?_;rintro v V2 B2 hV2 ⟨rfl,hB2⟩))|refine st9 ?_|(refine al9 ?_;intro γ)|refine pu9 ?_)|refine bW ?_|(refine aA rfl ?_ ?_<;>intro hq<;>try exact no9))
  all_goals
    (refine dB Tryz.results19 (aS agg_49 rfl bB (by exact rfl)) (aB rfl) (show List.Sublist B2 _ from bD) ?_)
    exact iM.ch hB2 rfl
theorem RDo_9 (V:aI) (p:Nat) (b:BX) (Bs:List Box) (hok:bK b) (h:eC V p b Bs) (c:CL) (hc:oR c) (ho:c.op=9):FnB Tryz.prog 19 [.pointer (some ⟨p,0,none⟩),clV c] V Bs (iM p (doP b c)):=by
  have hC:=rowned_c V p b Bs hok h c hc.1
  have e:doP b c=chT (sZ b (aC c.path) c.a c.b):=by unfold doP;(repeat (first|rw [if_pos (by omega)]|rw [if_neg (by omega)]))
  rw [e]
  clear e
  (refine bI Tryz.func19 rfl Tryz.ntmps19 rfl ?_;intro w0)
  repeat' (first|(refine aE ?_;first|(refine aD ?_;(refine aW rfl ⟨Tryz.call84⟩ rfl bF rfl (hC) ?_;rintro v V2 B2 hV2 ⟨rfl,hB2⟩))|refine st9 ?_|(refine al9 ?_;intro γ)|refine pu9 ?_)|refine bW ?_|(refine aA rfl ?_ ?_<;>intro hq<;>try exact no9))
  all_goals
    (refine dB Tryz.results19 (aS agg_49 rfl bB (by exact rfl)) (aB rfl) (show List.Sublist B2 _ from bD) ?_)
    exact iM.ch hB2 rfl
theorem RDo_look (V:aI) (p:Nat) (b:BX) (Bs:List Box) (hok:bK b) (h:eC V p b Bs) (c:CL) (hc:oR c) (ho:1≤c.op∧c.op≤3):FnB Tryz.prog 19 [.pointer (some ⟨p,0,none⟩),clV c] V Bs (iM p (doP b c)):=by
  have hC:=rlooks_b hok h c hc.1 ho
  have e:doP b c=(b,iY b c):=by unfold doP;(repeat (first|rw [if_pos (by omega)]|rw [if_neg (by omega)]))
  rw [e]
  clear e
  (refine bI Tryz.func19 rfl Tryz.ntmps19 rfl ?_;intro w0)
  repeat' (first|(refine aE ?_;first|(refine aD ?_;(refine aW rfl ⟨Tryz.call78⟩ rfl bF rfl (hC) ?_;rintro v V2 B2 hV2 ⟨rfl,A2,n2,c2,rfl,hS2,hn2⟩))|refine st9 ?_|(refine al9 ?_;intro γ)|refine pu9 ?_)|refine bW ?_|(refine aA rfl ?_ ?_<;>intro hq<;>try exact no9))
  all_goals
    (refine dB Tryz.results19 (aS agg_49 rfl bB (by exact rfl)) (aB rfl) (show List.Sublist B2 _ from bD) ?_)
    exact⟨⟨A2,n2,c2,rfl,hS2,hn2⟩,h.le vl9⟩
theorem RDo_attr (V:aI) (p:Nat) (b:BX) (Bs:List Box) (hok:bK b) (h:eC V p b Bs) (c:CL) (hc:oR c) (ho:c.op=10∨c.op=11∨c.op=12):FnB Tryz.prog 19 [.pointer (some ⟨p,0,none⟩),clV c] V Bs (iM p (doP b c)):=by
  have hC:=rattr_c V p b Bs hok h c hc ho
  have e:doP b c=ratP b c:=by
    unfold ratP
    rcases ho with ho|ho|ho
    · rw [if_neg (by omega),decide_eq_false (by omega)];unfold doP;(repeat (first|rw [if_pos (by omega)]|rw [if_neg (by omega)]))
    · rw [if_neg (by omega),decide_eq_true ho];unfold doP;(repeat (first|rw [if_pos (by omega)]|rw [if_neg (by omega)]))
    · rw [if_pos ho];unfold doP;(repeat (first|rw [if_pos (by omega)]|rw [if_neg (by omega)]))
  rw [e]
  clear e
  (refine bI Tryz.func19 rfl Tryz.ntmps19 rfl ?_;intro w0)
  repeat' (first|(refine aE ?_;first|(refine aD ?_;(refine aW rfl ⟨Tryz.call85⟩ rfl bF rfl (hC) ?_;rintro v V2 B2 hV2 ⟨⟨A2,n2,c2,rfl,hS2,hn2⟩,hB2⟩))|refine st9 ?_|(refine al9 ?_;intro γ)|refine pu9 ?_)|refine bW ?_|(refine aA rfl ?_ ?_<;>intro hq<;>try exact no9))
  all_goals
    (refine dB Tryz.results19 (aS agg_49 rfl bB (by exact rfl)) (aB rfl) (show List.Sublist B2 _ from bD) ?_)
    exact⟨⟨A2,n2,c2,rfl,hS2,hn2⟩,hB2⟩
theorem RDo_be (V:aI) (p:Nat) (b:BX) (Bs:List Box) (hok:bK b) (h:eC V p b Bs) (c:CL) (ho:c.op=13):FnB Tryz.prog 19 [.pointer (some ⟨p,0,none⟩),clV c] V Bs (iM p (doP b c)):=by
  have e:doP b c=chT (beP b c.a c.b):=by unfold doP;(repeat (first|rw [if_pos (by omega)]|rw [if_neg (by omega)]))
  rw [e]
  clear e
  obtain⟨I,rfl,hI⟩:=h
  have hBe:=fun V2 (hV2:VLe V V2)=>RBecome_c V2 b.c.u b.c.g b.c.d I.A I.n I.k b.c.xs (hI.xs.le hV2) c.a c.b
  have hMv:=fun V2 (hV2:VLe V V2)=>sB V2 I.M (hI.M.le hV2) (kX 0 0 c.a c.b false ⟨#[]⟩) (iR (Nat.zero_le _))
  rw [hI.us,hI.gs,show (kX 0 0 c.a c.b false ⟨#[]⟩).n=idN c.a c.b from rfl] at hMv
  have hbb:=becF_bd b.c.u b.c.g b.c.d b.c.xs c.a c.b
  (refine bI Tryz.func19 rfl Tryz.ntmps19 rfl ?_;intro w0)
  repeat' (first|(refine aE ?_;first|(refine al9 ?_;intro γ)|refine pu9 ?_)|refine gx9 ?_|refine cL (id:=0) ?_)
  rename_i g3
  obtain⟨g4,rfl⟩:∃ g4,g4=γ:=⟨γ,rfl⟩
  repeat' (first|(refine aE ?_;first|(refine al9 ?_;intro γ)|refine pu9 ?_)|refine bW ?_|(refine aA rfl ?_ ?_<;>intro hq<;>try exact no9))
  obtain⟨g6,rfl⟩:∃ g6,g6=γ:=⟨γ,rfl⟩
  by_cases h0:mJ b.c.u b.c.g b.c.d b.c.xs c.a c.b=0
  rotate_left
  · rw [show beP b c.a c.b=(b,mJ b.c.u b.c.g b.c.d b.c.xs c.a c.b) from if_pos h0]
    refine dD (fun F V' L'=>VLe V V'∧[⟨g6,49,[.int .i64 0,.int .i64 0,.int .i64 0,.int .i64 0,.int .i64 0,.slice none 0 0,.string ⟨#[]⟩]⟩,⟨g4,49,[.int .i64 0,.int .i64 0,.int .i64 0,.int .i64 0,.int .i64 0,.slice none 0 0,.string ⟨#[]⟩]⟩,⟨p,130,bxC I b⟩]=L'∧F=[(4,.pointer (some ⟨g4,0,none⟩)),(6,.pointer (some ⟨g6,0,none⟩)),(9,.int .i64 (mJ b.c.u b.c.g b.c.d b.c.xs c.a c.b))]) ?_ ?_
    · refine bM (id:=25) _ mixed (List.Sublist.refl _) ?_;refine gt9 0 ?_;refine gt9 1 ?_;refine gt9 2 ?_;refine gt9 3 ?_;refine gt9 4 ?_;refine gt9 5 ?_;refine gt9 6 ?_;refine gt9 7 ?_;(refine dF (i:=8) (j:=12) (by kernel_rfl) rfl rfl rfl rfl vl9 vl9 bD ?_ ?_<;>first|((refine aM rfl ⟨Tryz.call86⟩ rfl rfl (hBe _ vl9) ?_;rintro v V1 hV1 (⟨h9,A1,c1,rfl,hI1⟩|⟨h9,rfl⟩);exact absurd h9 h0);refine gt9 9 ?_;refine gt9 10 ?_;refine gt9 11 ?_;refine aY (i:=12) rfl ?_;(refine bS rfl zer_27 rfl ?_;intro γ);refine aY (i:=13) rfl ?_;refine aO rfl siz_27 rfl rfl rfl rfl bG dC rfl ?_;refine gt9 14 ?_;refine aU (by kernel_rfl) vl9 vl9 bD ?_)|((refine bS rfl zer_27 rfl ?_;intro γ);refine aY (i:=8) rfl ?_;(refine aM rfl ⟨Tryz.call86⟩ rfl rfl (hBe _ vl9) ?_;rintro v V1 hV1 (⟨h9,A1,c1,rfl,hI1⟩|⟨h9,rfl⟩);exact absurd h9 h0);refine gt9 9 ?_;refine gt9 10 ?_;refine gt9 11 ?_;refine aY (i:=13) rfl ?_;refine aO rfl siz_27 rfl rfl rfl rfl bG dC rfl ?_;refine gt9 14 ?_;refine aU (by kernel_rfl) vl9 vl9 bD ?_))
      all_goals exact bR _ ⟨vl9,rfl,rfl⟩ bH sp9
    rintro F V1 L' ⟨hV1,rfl,rfl⟩
    repeat' (first|(refine aE ?_;first|refine st9 ?_|refine pu9 ?_)|refine bV ?_|(refine aA rfl ?_ ?_<;>intro hq<;>try exact no9))
    all_goals first
      | exact no9
      | ((refine dB Tryz.results19 (aS agg_49 rfl bB (by exact rfl)) (aB rfl) (show List.Sublist [⟨p,130,bxC I b⟩] _ from bD) ?_);exact iM.ch ⟨I,rfl,hI.up hV1⟩ rfl)
  refine dD (fun F V' L'=>∃ (γ8:Nat) (A1:Option Addr) (c1:Nat),VLe V V'∧eV V' A1 I.n b.c.xs∧[⟨γ8,27,crC (beC b c.a c.b) A1 I.n c1⟩,⟨g6,49,[.int .i64 0,.int .i64 0,.int .i64 0,.int .i64 0,.int .i64 0,.slice none 0 0,.string ⟨#[]⟩]⟩,⟨g4,49,[.int .i64 0,.int .i64 0,.int .i64 0,.int .i64 0,.int .i64 0,.slice none 0 0,.string ⟨#[]⟩]⟩,⟨g3,53,clC c⟩,⟨p,130,bxC I b⟩]=L'∧F=[(0,.pointer (some ⟨p,0,none⟩)),(3,.pointer (some ⟨g3,0,none⟩)),(4,.pointer (some ⟨g4,0,none⟩)),(6,.pointer (some ⟨g6,0,none⟩)),(8,.pointer (some ⟨γ8,0,none⟩)),(9,.int .i64 0)]) ?_ ?_
  · refine bM (id:=25) _ mixed (List.Sublist.refl _) ?_;refine gt9 0 ?_;refine gt9 1 ?_;refine gt9 2 ?_;refine gt9 3 ?_;refine gt9 4 ?_;refine gt9 5 ?_;refine gt9 6 ?_;refine gt9 7 ?_;(refine dF (i:=8) (j:=12) (by kernel_rfl) rfl rfl rfl rfl vl9 vl9 bD ?_ ?_<;>first|((refine aM rfl ⟨Tryz.call86⟩ rfl rfl (hBe _ vl9) ?_;rintro v V1 hV1 (⟨h9,A1,c1,rfl,hI1⟩|⟨h9,rfl⟩);rotate_left;exact absurd h0 h9);refine gt9 9 ?_;refine gt9 10 ?_;refine gt9 11 ?_;refine aY (i:=12) rfl ?_;(refine bS rfl zer_27 rfl ?_;intro γ);refine aY (i:=13) rfl ?_;refine aO rfl siz_27 rfl rfl rfl rfl bG dC rfl ?_;refine gt9 14 ?_;refine aU (by kernel_rfl) vl9 vl9 bD ?_)|((refine bS rfl zer_27 rfl ?_;intro γ);refine aY (i:=8) rfl ?_;(refine aM rfl ⟨Tryz.call86⟩ rfl rfl (hBe _ vl9) ?_;rintro v V1 hV1 (⟨h9,A1,c1,rfl,hI1⟩|⟨h9,rfl⟩);rotate_left;exact absurd h0 h9);refine gt9 9 ?_;refine gt9 10 ?_;refine gt9 11 ?_;refine aY (i:=13) rfl ?_;refine aO rfl siz_27 rfl rfl rfl rfl bG dC rfl ?_;refine gt9 14 ?_;refine aU (by kernel_rfl) vl9 vl9 bD ?_))
    all_goals exact bR _ ⟨_,A1,c1,vl9,hI1.le vl9,rfl,rfl⟩ bH sp9
  rintro F V1 L' ⟨g8,A1,c1,hV1,hI1,rfl,rfl⟩
  cases hm:cT true b.us b.gs (idN c.a c.b) with
  | none =>
    rw [hm] at hMv
    rw [show beP b c.a c.b=(b,11) by unfold beP;rw [if_neg (not_not_intro h0),if_pos hm]]
    repeat' (first|(refine aE ?_;refine pu9 ?_)|refine cD ?_|fail)
    refine dD (fun F V' L'=>VLe V1 V'∧[⟨g6,49,[.int .i64 0,.int .i64 0,.int .i64 0,.int .i64 0,.int .i64 0,.slice none 0 0,.string ⟨#[]⟩]⟩,⟨g4,49,[.int .i64 0,.int .i64 0,.int .i64 0,.int .i64 0,.int .i64 0,.slice none 0 0,.string ⟨#[]⟩]⟩,⟨p,130,bxC I b⟩]=L'∧F=[(4,.pointer (some ⟨g4,0,none⟩)),(6,.pointer (some ⟨g6,0,none⟩)),(11,.bool false)]) ?_ ?_
    · refine bM (id:=28) _ mixed (List.Sublist.refl _) ?_;refine gt9 0 ?_;refine gt9 1 ?_;refine gt9 2 ?_;refine gt9 3 ?_;refine gt9 4 ?_;refine gt9 5 ?_;refine gt9 6 ?_;refine gt9 7 ?_;refine gt9 8 ?_;(refine dF (i:=9) (j:=13) (by kernel_rfl) rfl rfl rfl rfl vl9 vl9 bD ?_ ?_<;>first|((refine aM rfl ⟨Tryz.call61⟩ rfl rfl (hMv _ vl9) ?_;rintro v V2 hV2 ⟨y,rfl,hyN,hyn⟩);refine gt9 10 ?_;refine gt9 11 ?_;refine gt9 12 ?_;refine aY (i:=13) rfl ?_;(refine bS rfl zer_70 rfl ?_;intro γ);refine aY (i:=14) rfl ?_;refine aO rfl siz_70 rfl rfl rfl rfl bG dC rfl ?_;refine gt9 15 ?_;refine aU (by kernel_rfl) vl9 vl9 bD ?_)|((refine bS rfl zer_70 rfl ?_;intro γ);refine aY (i:=9) rfl ?_;(refine aM rfl ⟨Tryz.call61⟩ rfl rfl (hMv _ vl9) ?_;rintro v V2 hV2 ⟨y,rfl,hyN,hyn⟩);refine gt9 10 ?_;refine gt9 11 ?_;refine gt9 12 ?_;refine aY (i:=14) rfl ?_;refine aO rfl siz_70 rfl rfl rfl rfl bG dC rfl ?_;refine gt9 15 ?_;refine aU (by kernel_rfl) vl9 vl9 bD ?_))
      all_goals exact bR _ ⟨vl9,rfl,rfl⟩ bH sp9
    rintro F V2 L' ⟨hV2,rfl,rfl⟩
    repeat' (first|(refine aE ?_;first|refine st9 ?_|refine pu9 ?_)|refine cD ?_|fail)
    all_goals ((refine dB Tryz.results19 (aS agg_49 rfl bB (by exact rfl)) (aB rfl) (show List.Sublist [⟨p,130,bxC I b⟩] _ from bD) ?_);exact iM.ch ⟨I,rfl,hI.up (hV1.trans hV2)⟩ rfl)
  | some z =>
    rw [hm] at hMv
    rw [show beP b c.a c.b=({ b with c:=beC b c.a c.b },0) by unfold beP;rw [if_neg (not_not_intro h0),if_neg (by rw [hm];simp)]]
    repeat' (first|(refine aE ?_;refine pu9 ?_)|refine cD ?_|fail)
    refine dD (fun F V' L'=>VLe V1 V'∧[⟨g8,27,crC (beC b c.a c.b) A1 I.n c1⟩,⟨g6,49,[.int .i64 0,.int .i64 0,.int .i64 0,.int .i64 0,.int .i64 0,.slice none 0 0,.string ⟨#[]⟩]⟩,⟨g4,49,[.int .i64 0,.int .i64 0,.int .i64 0,.int .i64 0,.int .i64 0,.slice none 0 0,.string ⟨#[]⟩]⟩,⟨p,130,bxC I b⟩]=L'∧F=[(0,.pointer (some ⟨p,0,none⟩)),(4,.pointer (some ⟨g4,0,none⟩)),(6,.pointer (some ⟨g6,0,none⟩)),(7,.int .i64 0),(8,.pointer (some ⟨g8,0,none⟩)),(11,.bool true)]) ?_ ?_
    · refine bM (id:=28) _ mixed (List.Sublist.refl _) ?_;refine gt9 0 ?_;refine gt9 1 ?_;refine gt9 2 ?_;refine gt9 3 ?_;refine gt9 4 ?_;refine gt9 5 ?_;refine gt9 6 ?_;refine gt9 7 ?_;refine gt9 8 ?_;(refine dF (i:=9) (j:=13) (by kernel_rfl) rfl rfl rfl rfl vl9 vl9 bD ?_ ?_<;>first|((refine aM rfl ⟨Tryz.call61⟩ rfl rfl (hMv _ vl9) ?_;rintro v V2 hV2 ⟨y,rfl,hyN,hyn⟩);refine gt9 10 ?_;refine gt9 11 ?_;refine gt9 12 ?_;refine aY (i:=13) rfl ?_;(refine bS rfl zer_70 rfl ?_;intro γ);refine aY (i:=14) rfl ?_;refine aO rfl siz_70 rfl rfl rfl rfl bG dC rfl ?_;refine gt9 15 ?_;refine aU (by kernel_rfl) vl9 vl9 bD ?_)|((refine bS rfl zer_70 rfl ?_;intro γ);refine aY (i:=9) rfl ?_;(refine aM rfl ⟨Tryz.call61⟩ rfl rfl (hMv _ vl9) ?_;rintro v V2 hV2 ⟨y,rfl,hyN,hyn⟩);refine gt9 10 ?_;refine gt9 11 ?_;refine gt9 12 ?_;refine aY (i:=14) rfl ?_;refine aO rfl siz_70 rfl rfl rfl rfl bG dC rfl ?_;refine gt9 15 ?_;refine aU (by kernel_rfl) vl9 vl9 bD ?_))
      all_goals exact bR _ ⟨vl9,rfl,rfl⟩ bH sp9
    rintro F V2 L' ⟨hV2,rfl,rfl⟩
    repeat' (first|(refine aE ?_;first|refine st9 ?_|refine pu9 ?_)|refine cD ?_|fail)
    all_goals
      (refine dB Tryz.results19 (aS agg_49 rfl bB (by exact rfl)) (aB rfl) (show List.Sublist [⟨p,130,bxC { I with A:=A1,k:=c1 } { b with c:=beC b c.a c.b }⟩] _ from bD) ?_)
      have hI2:=hI.up (hV1.trans hV2)
      exact iM.ch ⟨{ I with A:=A1,k:=c1 },rfl,hI2.M,hI2.us,hI2.gs,hI1.le hV2,trivial,hI2.ls,hI2.le,hI2.eq⟩ rfl
theorem RDo_charge (V:aI) (p:Nat) (b:BX) (Bs:List Box) (hok:bK b) (h:eC V p b Bs) (c:CL) (ho:c.op=14):FnB Tryz.prog 19 [.pointer (some ⟨p,0,none⟩),clV c] V Bs (iM p (doP b c)):=by
  have e:doP b c=(b,{ tdZ with size:=eF (b.ls.headD pnZ) },0):=by unfold doP;(repeat (first|rw [if_pos (by omega)]|rw [if_neg (by omega)]))
  rw [e]
  clear e
  obtain⟨I,rfl,hI⟩:=h
  obtain⟨q,o,x0,hK,hm0,hc0,hN0,hhd,t,ht⟩:=hI.head hok
  have hBl:=fun V2 (hV2:VLe V V2)=>RBlocks_c V2 x0 (hN0.le hV2)
  rw [hhd]
  (refine bI Tryz.func19 rfl Tryz.ntmps19 rfl ?_;intro w0)
  repeat' (first|(refine aE ?_;first|(refine aD ?_;refine aN rfl (aG ⟨Tryz.call87⟩ rfl (hBl _ vl9)) ?_)|(refine cK ?_;refine aR (bL (k:=0) und_30 siz_70 rfl hK rfl hm0) ?_)|refine st9 ?_|(refine al9 ?_;intro γ)|refine pu9 ?_)|refine bW ?_|(refine aA rfl ?_ ?_<;>intro hq<;>try exact no9))
  all_goals first
    | exact no9
    | ((refine dB Tryz.results19 (aS agg_49 rfl bB (by exact rfl)) (aB rfl) (show List.Sublist [⟨p,130,bxC I b⟩] _ from bD) ?_)
       exact⟨⟨none,0,0,rfl,bZ.nil,Nat.le_refl _⟩,I,rfl,hI.up vl9⟩)
theorem RDo_none (V:aI) (p:Nat) (b:BX) (Bs:List Box) (hok:bK b) (h:eC V p b Bs) (c:CL) (ho:c.op<1∨14<c.op):FnB Tryz.prog 19 [.pointer (some ⟨p,0,none⟩),clV c] V Bs (iM p (doP b c)):=by
  have e:doP b c=(b,tdZ,3):=by unfold doP;(repeat (first|rw [if_pos (by omega)]|rw [if_neg (by omega)]))
  rw [e]
  clear e
  obtain⟨I,rfl,hI⟩:=h
  (refine bI Tryz.func19 rfl Tryz.ntmps19 rfl ?_;intro w0)
  repeat' (first|(refine aE ?_;first|refine st9 ?_|(refine al9 ?_;intro γ)|refine pu9 ?_)|refine bW ?_|(refine aA rfl ?_ ?_<;>intro hq<;>try exact no9))
  all_goals first
    | exact no9
    | ((refine dB Tryz.results19 (aS agg_49 rfl bB (by exact rfl)) (aB rfl) (show List.Sublist [⟨p,130,bxC I b⟩] _ from bD) ?_);exact iM.no ⟨I,rfl,hI.up vl9⟩)
theorem RDo_c (V:aI) (p:Nat) (b:BX) (Bs:List Box) (hok:bK b) (h:eC V p b Bs) (c:CL) (hc:oR c):FnB Tryz.prog 19 [.pointer (some ⟨p,0,none⟩),clV c] V Bs (iM p (doP b c)):=by
  by_cases h0:c.op<1∨14<c.op
  · exact RDo_none V p b Bs hok h c h0
  by_cases h1:1≤c.op∧c.op≤3
  · exact RDo_look V p b Bs hok h c hc h1
  by_cases h4:c.op=4
  · exact RDo_4 V p b Bs hok h c hc h4
  by_cases h5:c.op=5
  · exact RDo_5 V p b Bs hok h c hc h5
  by_cases h6:c.op=6
  · exact RDo_6 V p b Bs hok h c hc h6
  by_cases h7:c.op=7
  · exact RDo_7 V p b Bs hok h c hc h7
  by_cases h8:c.op=8
  · exact RDo_8 V p b Bs hok h c hc h8
  by_cases h9:c.op=9
  · exact RDo_9 V p b Bs hok h c hc h9
  by_cases h13:c.op=13
  · exact RDo_be V p b Bs hok h c h13
  by_cases h14:c.op=14
  · exact RDo_charge V p b Bs hok h c h14
  exact RDo_attr V p b Bs hok h c hc (by omega)
end
section
attribute [local irreducible] AtQ GoC GoL GoW QO QP Fn RV bX aL VLe cG bT
theorem wE (V:aI) (x:CF):Fn Tryz.prog 9 [cfV x] V fun v _=>∃ b:Bool,v=.bool b:=by
  (refine aH Tryz.func9 rfl Tryz.ntmps9 rfl ?_;intro w0)
  repeat' (first|(refine aE ?_;first|(refine al9 ?_;intro γ)|refine pu9 ?_)|refine bV ?_|(refine aJ rfl rfl rfl ?_ ?_<;>intro hq<;>try exact no9))
  all_goals
    (refine aQ Tryz.results9 (aB rfl) ?_)
    exact⟨_,rfl⟩
def clLt (c:CL):Prop:=c.path.size≤200∧c.other.size≤200∧c.name.size≤60∧c.data.size≤300
theorem clLt.ok {c:CL} (h:clLt c):oR c:=⟨by have:=h.1;omega,by have:=h.2.1;omega,by have:=h.2.2.1;omega,by have:=h.2.2.2;omega⟩
theorem sN (V:aI) (A:Option Addr) (n c:Nat) (xs:List CL) (h:eT V 7 clC A n xs):Fn Tryz.prog 11 [.slice A n c] V fun v _=>∃ b:Bool,v=.bool b∧(b=true→n≤40∧∀ y∈xs,clLt y):=by
  have hl:=h.1
  have hm:=h.max
  (refine aH Tryz.func11 rfl Tryz.ntmps11 rfl ?_;intro w0)
  repeat' (first|(refine aE ?_;refine pu9 ?_)|refine bW ?_|(refine aA rfl ?_ ?_<;>intro hq<;>try exact no9))
  · (refine aQ Tryz.results11 (aB rfl) ?_)
    exact⟨_,rfl,fun h=>by cases h⟩
  · have hn40:n≤40:=by omega
    refine bQ (fun F V' L' m=>∃ k:Nat,V=V'∧[]=L'∧k≤n∧(∀ y∈xs.take k,clLt y)∧m=n - k∧F=[(0,.slice A n c),(3,.int .i64 (k:Int))]) (m:=n) ⟨0,rfl,rfl,Nat.zero_le _,by simp,by omega,rfl⟩ bH rfl sl9 ?_
    rintro F V' L' m ⟨k,rfl,rfl,hkn,hf,rfl,rfl⟩
    by_cases hlt:k<n
    · obtain⟨b,off,e,rfl,he,hc⟩:=h.at_ hlt
      have g1:=kL (j:=1) hc rfl
      have g2:=kL (j:=2) hc rfl
      have g3:=kL (j:=3) hc rfl
      have g4:=kL (j:=4) hc rfl
      repeat' (first|(refine aE ?_;refine pu9 ?_)|refine cV ?_|(refine aJ rfl rfl rfl ?_ ?_<;>intro hq<;>try exact no9)|(refine aA rfl ?_ ?_<;>intro hq<;>try exact no9))
      all_goals first
        | (refine eY ?_;(refine aQ Tryz.results11 (aB rfl) ?_);exact⟨_,rfl,fun h=>by cases h⟩)
        | (refine oV ?_
           refine aZ _ (n - (k+1)) ⟨k+1,rfl,rfl,by omega,fun y hy=>?_,rfl,rfl⟩ (by omega) bH sl9
           rw [List.take_add_one,he] at hy
           rcases List.mem_append.1 hy with h|h
           · exact hf y h
           · simp at h;subst h;exact⟨by omega,by omega,by omega,by omega⟩)
        | skip
    · repeat' (first|(refine aE ?_;refine pu9 ?_)|refine dR ?_|(refine aA rfl ?_ ?_<;>intro hq<;>try exact no9))
      all_goals
        (refine aQ Tryz.results11 (aB rfl) ?_)
        exact⟨_,rfl,fun _=>⟨hn40,by rw [List.take_of_length_le (by omega)] at hf;exact hf⟩⟩
theorem SameTold_c (V:aI) (t:TD) (A B:Option Addr) (n c m e:Nat) (h:bZ V A n t.names) (g:bZ V B m t.names):Fn Tryz.prog 20 [tdV t A n c,tdV t B m e] V fun v _=>v=.bool true:=by
  have hN:=fun V2 (hV2:VLe V V2)=>SameNames_c V2 A B n c m e t.names t.names (h.le hV2) (g.le hV2)
  rw [decide_eq_true rfl] at hN
  (refine aH Tryz.func20 rfl Tryz.ntmps20 rfl ?_;intro w0)
  repeat' (first|(refine aE ?_;first|(refine aD ?_;refine aN rfl (aG ⟨Tryz.call88⟩ rfl (hN _ vl9)) ?_)|(refine al9 ?_;intro γ)|refine pu9 ?_)|refine bV ?_|(refine aJ rfl rfl rfl ?_ ?_<;>intro hq<;>try exact no9))
  all_goals
    (refine aQ Tryz.results20 (aB rfl) ?_)
    rfl
end
section
theorem oS.boxv {V V':aI} {p:Nat} {b:BX} {I:BI} {L1:List Box} (hok:bK b) (h:oS V b I L1) (hv:VLe V V') (hp:aL V' p 0 (bxC I b)) (hc:eU V' 8 I.K I.m (I.xs.flatMap lnC)):mZ V' p b I:=by
  have hm:=h.m4 hok
  exact⟨hp,h.M.le hv,h.us,h.gs,h.xs.le hv,trivial,dP.of hc h.len (by unfold maxLen;omega) (fun x hx=>(h.ls x hx).le hv),h.row.cap,h.eq⟩
section
variable {P : Program} {B : Base} {N : Nat} {Q : Exit → Act → World → Prop} {k : List kI} {F : List (Nat × Value)} {V : aI}
theorem gc_boxv {c:Code} {p:Nat} {b:BX} {Bs Y:List Box} (hok:bK b) (h:eO V p b Bs) (hK:∀ V' I,VLe V V'→mZ V' p b I→GoC P B N c Q k F V' Y) (hfl:B.fl=[]):GoC P B N c Q k F V (Bs ++ Y):=by
  obtain⟨I,L1,rfl,hW⟩:=h
  refine kO (gH.here _ _ _ _) ?_ (by rw [hfl];simp)
  intro V1 hV1 hc1
  refine kR hW.row repl_here ?_ (by rw [hfl];simp)
  intro V2 hV2 hc2
  exact hK V2 I (hV1.trans hV2) (hW.boxv hok (hV1.trans hV2) (hc1.le hV2) hc2)
end
end
section
theorem firstF_bd:∀ {l:List Int},(∀ e∈l,0≤e∧e≤17)→0≤eJ l∧eJ l≤17
  | [],_=>by unfold eJ;omega
  | a :: l,h=>by
    rw [jA]
    split
    · exact h a (by simp)
    · exact firstF_bd fun e he=>h e (by simp [he])
theorem cfgF_bd (x:CF) (ls:List PN):0≤pD x ls∧pD x ls≤17:=by
  have h1:=vL x.M.us
  have h2:=vL x.M.gs
  have h3:=credF_bd x.c.u x.c.g x.c.d x.c.xs
  have h4:0≤eJ (ls.map (dK false))∧eJ (ls.map (dK false))≤17:=firstF_bd fun e he=>by
    obtain⟨y,_,rfl⟩:=List.mem_map.1 he
    have:=vE false y
    omega
  rw [cfgF_eq]
  (repeat' split)<;>omega
theorem oS.rbox {V V':aI} {b:BX} {I:BI} {L1:List Box} (hok:bK b) (h:oS V b I L1) (hv:VLe V V') (hc:eU V' 8 I.K I.m (I.xs.flatMap lnC)) {p:Nat}:eC V' p b [⟨p,130,bxC I b⟩]:=by
  have hm:=h.m4 hok
  exact⟨I,rfl,h.M.le hv,h.us,h.gs,h.xs.le hv,trivial,dP.of hc h.len (by unfold maxLen;omega) (fun x hx=>(h.ls x hx).le hv),h.row.cap,h.eq⟩
theorem same_is (V:aI) (e:Int) (he:0≤e∧e≤17):Fn Tryz.prog 15 [bT e,.int .i64 e] V fun v _=>v=.bool true:=by
  have h:=same_c V e e (by omega)
  rw [decide_eq_true rfl] at h;exact h
attribute [local irreducible] AtQ GoC GoL GoW QO QP Fn RV bX aL VLe cG bT
attribute [local irreducible] FnB eO kS DoR eC mT iM
theorem BoxSays_c (V:aI) (x:CF) (hx:CfV V x) (A:Option Addr) (n c:Nat) (ls:List LN) (h:dP V A n ls) (hnc:n≤c) (B:Option Addr) (m e:Nat) (xs:List CL) (hc:eT V 7 clC B m xs):Fn Tryz.prog 3 [cfV x,.slice A n c,.slice B m e] V fun v _=>v=.bool true:=by
  have hin:=fun h9=>InB.new (x:=x) (ls:=ls.map LN.n) h9
  have hmx:=hc.max
  have hcl:=hc.1
  have hcb:=cfgF_bd x (ls.map LN.n)
  have hsm9:(∀ y∈ls,cA eW y.n)→∀ y∈ls,cA dZ y.n:=fun h9 y hy=>(h9 y hy).imp fun _ _=>kE
  have hL:=fun V2 (hV2:VLe V V2)=>Lights_c V2 A n c ls (h.le hV2)
  have hLC:=fun V2 (hV2:VLe V V2)=>sN V2 B m e xs (hc.le hV2)
  (refine aH Tryz.func3 rfl Tryz.ntmps3 rfl ?_;intro w0)
  repeat' (first|(refine aE ?_;first|(refine al9 ?_;intro γ)|refine pu9 ?_)|refine gx9 ?_|refine cL (id:=0) ?_)
  obtain⟨g3,rfl⟩:∃ g3,g3=γ:=⟨γ,rfl⟩
  repeat' (first|(refine aE ?_;first|(refine aD ?_;(first|(refine aM rfl ⟨Tryz.call8⟩ rfl rfl (opens_c _) ?_;rintro v V0 hV0 rfl)|(refine aM rfl ⟨Tryz.call9⟩ rfl rfl (wE _ x) ?_;rintro v V1 hV1 ⟨b1,rfl⟩)|(refine aM rfl ⟨Tryz.call10⟩ rfl rfl (hL _ vl9) ?_;rintro v V1 hV1 ⟨b2,rfl,hb2⟩)|(refine aM rfl ⟨Tryz.call11⟩ rfl rfl (hLC _ vl9) ?_;rintro v V1 hV1 ⟨b3,rfl,hb3⟩)))|refine pu9 ?_)|refine fX ?_|(refine bU rfl rfl rfl ?_ ?_<;>intro hq)|refine dX [1,2,3] rfl ?_|(refine bP rfl ?_ ?_<;>intro hq))
  all_goals first
    | (refine eY ?_;(refine aQ Tryz.results3 (aB rfl) ?_);rfl)
    | skip
  have k2:b2=true:=by cases b2 with
    | true=>rfl
    | false=>exact absurd (by assumption:(!false)=false) (by decide)
  have k3:b3=true:=by cases b3 with
    | true=>rfl
    | false=>exact absurd (by assumption:(!false)=false) (by decide)
  obtain⟨hn5,hli⟩:=hb2 k2
  have hlt3:=hb3 k3
  have hcp:=fun V2 (hV2:VLe V V2)=>copies_c V2 A n c ls (h.le hV2) (by omega) (hsm9 hli)
  have hVV3:VLe V V1:=vl9
  clear hb2 hb3 hL hLC k2 k3
  repeat' (first|(refine aE ?_;first|(refine aD ?_;(refine aM rfl ⟨Tryz.call12⟩ rfl rfl (hcp _ vl9) ?_;rintro v V4 hV4 ⟨A8,c8,ys,rfl,hys,hc8,hyn⟩))|refine pu9 ?_)|refine gx9 ?_|refine cL (id:=4) ?_)
  have hVV4:VLe V V4:=hVV3.trans hV4
  have hNew:=fun V2 (hV2:VLe V4 V2)=>New_bx V2 x (hx.le (hVV4.trans hV2)) A8 n c8 ys (hys.le hV2)
  have hBF:=fun V2 (hV2:VLe V4 V2)=>BoxFault_c V2 x (hx.le (hVV4.trans hV2)) A n c ls (h.le (hVV4.trans hV2))
  have hCk:=fun V2 (hV2:VLe V4 V2)=>Check9_c V2 x (hx.le (hVV4.trans hV2)) A8 n c8 ys (hys.le hV2)
  rw [hyn] at hNew hCk
  clear hcp
  by_cases hcf:pD x (ls.map LN.n)=0
  rotate_left
  · generalize pD x (ls.map LN.n)=cf at *
    have hS:=fun V2=>same_is V2 cf hcb
    repeat' (first|(refine aE ?_;first|(refine aD ?_;(first|(refine aW rfl ⟨Tryz.call13⟩ rfl bF rfl (hNew _ vl9) ?_;rintro v V5 B5 hV5 (⟨hn,rfl,rfl⟩|⟨hn,p,rfl,hB⟩);rotate_left;exact absurd hn hcf)|refine aN rfl (aG ⟨Tryz.call14⟩ rfl (hBF _ vl9)) ?_|refine aN rfl (aG ⟨Tryz.call16⟩ rfl (hCk _ vl9)) ?_|refine aN rfl (aG ⟨Tryz.call15⟩ rfl (hS _)) ?_))|(refine cX ?_;refine aR (lO uC rfl) ?_)|refine pu9 ?_)|refine fX ?_|refine dX [5,6,7,9,10] rfl ?_|(refine aA rfl ?_ ?_<;>intro hq<;>try exact no9))
    all_goals first
      | exact no9
      | ((refine aQ Tryz.results3 (aB rfl) ?_);rfl)
  have hS:=fun V2=>same_is V2 0 (by omega)
  have hok:=newOk hcf
  have hI0:=hin hcf
  obtain⟨k1',_,_,_,_,_,k7⟩:=cfg_ok hcf
  have hn3:n≤3:=by rw [←h.1.1];simpa using k1'
  have hRN:=fun V2 (hV2:VLe V4 V2)=>RNew_bx V2 x (hx.le (hVV4.trans hV2)) A n c ls (h.le (hVV4.trans hV2)) hn3 k7
  rw [hcf] at hNew hBF hCk
  clear hin k1' k7 hcb
  generalize newB x.M.us x.M.gs x.c x.q (ls.map LN.n)=bx at *
  repeat' (first|(refine aE ?_;first|(refine aD ?_;(first|(refine aW rfl ⟨Tryz.call13⟩ rfl bF rfl (hNew _ vl9) ?_;rintro v V5 B5 hV5 (⟨hn,rfl,rfl⟩|⟨hn,p,rfl,hB⟩);exact absurd rfl hn)|refine aN rfl (aG ⟨Tryz.call14⟩ rfl (hBF _ vl9)) ?_|refine aN rfl (aG ⟨Tryz.call16⟩ rfl (hCk _ vl9)) ?_|refine aN rfl (aG ⟨Tryz.call15⟩ rfl (hS _)) ?_|(refine aW rfl ⟨Tryz.call17⟩ rfl dT rfl (hRN _ vl9) ?_;rintro v V7 B7 hV7 ⟨p2,I2,L2,rfl,rfl,hW2⟩)))|(refine cX ?_;refine aR (lO uC rfl) ?_)|refine pu9 ?_)|refine fX ?_|refine dX [5,6,7,9,11,13] rfl ?_)
  all_goals try exact no9
  refine kR hW2.row bF ?_
  intro V8 hV8 hc8r
  have hRB:=hW2.rbox (p:=p2) hok hV8 hc8r
  have hV58:VLe V5 V8:=hV7.trans hV8
  have hV48:VLe V4 V8:=hV5.trans hV58
  have hB8:=hB.le hV58
  clear hc8r hW2 hRN hNew hBF hCk hB
  generalize bxC I2 bx=cR at *
  repeat' (first|(refine aE ?_;refine pu9 ?_)|refine bW ?_|fail)
  refine gc_order (L':=B5 ++ [⟨p2,130,cR⟩]) sp9 ?_
  refine bQ (fun F V' L' m'=>∃ (k:Nat) (b:BX) (Bs Cs:List Box),VLe V8 V'∧Bs ++ Cs=L'∧eO V' p b Bs∧eC V' p2 b Cs∧InB x (ls.map LN.n) b∧k≤m∧m'=m - k∧F=[(1,.slice A n c),(2,.slice B m e),(8,.slice A8 n c8),(9,.pointer (some ⟨p,0,none⟩)),(12,.pointer (some ⟨p2,0,none⟩)),(13,.int .i64 (k:Int))]) (m:=m) ⟨0,bx,B5,_,VLe.refl _,rfl,hB8,hRB,hI0,Nat.zero_le _,by omega,rfl⟩ bH rfl (List.Sublist.refl _) ?_
  clear hB8 hRB hI0 hok
  rintro F V' L' m' ⟨k,b,Bs,Cs,hV',rfl,hB,hC,hI,hkm,rfl,rfl⟩
  have hok:=hI.ok
  have hVV9:VLe V V':=hVV4.trans (hV48.trans hV')
  by_cases hlt:k<m
  · obtain⟨bb,off,y,rfl,hy,hcy⟩:=(hc.le hVV9).at_ hlt
    have hcl9:=(hlt3.2 y (List.mem_of_getElem? hy)).ok
    have hD1:=fun V2 (hV2:VLe V' V2)=>Do_c V2 p b Bs hok (hB.le hV2) y hcl9
    have hD2:=fun V2 (hV2:VLe V' V2)=>RDo_c V2 p2 b Cs hok (hC.le hV2) y hcl9
    have g1:=good_do hok y
    have hI2:=hI.step y
    generalize doP b y=r at *
    obtain⟨rb,rt,re⟩:=r
    have e1:0≤re∧re≤17:=⟨g1.lo,g1.hi⟩
    have okr:bK rb:=g1.ok
    replace hI2:InB x (ls.map LN.n) rb:=hI2
    have hS1:=fun V2=>same_is V2 re e1
    have hAs:=fun V2 Bs Cs (h1:eO V2 p rb Bs) (h2:eC V2 p2 rb Cs)=>asBox_b V2 p p2 rb Bs Cs okr h1 h2
    clear g1 hS
    repeat' (first|(refine aE ?_;first|(refine aD ?_;(first|(refine aW rfl ⟨Tryz.call18⟩ rfl bF rfl (hD1 _ vl9) ?_;rintro v V10 B10 hV10 hR;obtain⟨A10,n10,c10,rfl,hS10,hnc10,hB10⟩:=DoR.inv hR)|(refine aW rfl ⟨Tryz.call19⟩ rfl bF rfl (hD2 _ vl9) ?_;rintro v V11 B11 hV11 hR;obtain⟨A11,n11,c11,rfl,hS11,hnc11,hB11⟩:=iM.inv hR)|refine aN rfl (aG ⟨Tryz.call15⟩ rfl (hS1 _)) ?_|refine aN rfl (aG ⟨Tryz.call20⟩ rfl (SameTold_c _ rt A10 A11 n10 c10 n11 c11 (hS10.le vl9) (hS11.le vl9))) ?_|refine aN rfl (qQ ⟨Tryz.call21⟩ rfl bF (hAs _ B10 B11 (hB10.le vl9) (hB11.le vl9))) ?_))|(refine k_load ?_;refine aR (lR agg_53 rfl (hcy.le vl9) (by exact rfl)) ?_)|refine st9 ?_|(refine al9 ?_;intro γ)|refine pu9 ?_)|refine cV ?_|(refine aJ rfl rfl rfl ?_ ?_<;>intro hq<;>try exact no9)|(refine aA rfl ?_ ?_<;>intro hq<;>try exact no9))
    all_goals first
      | exact no9
      | (refine aZ _ (m - (k+1)) ⟨k+1,rb,B10,B11,vl9,rfl,hB10.le vl9,hB11.le vl9,hI2,by omega,rfl,rfl⟩ (by omega) bH bD)
  · have hSN:=fun V2 (hV2:VLe V' V2)=>sameNodes_c V2 A8 A n c8 c ys ls ((hys.le (hV48.trans hV')).le hV2) ((h.le hVV9).le hV2) hyn
    have hAs:=asBox_b V' p p2 b Bs Cs hok hB hC
    repeat' (first|(refine aE ?_;first|(refine aD ?_;(first|refine aN rfl (qQ ⟨Tryz.call21⟩ rfl bF (hAs)) ?_|refine aN rfl (aG ⟨Tryz.call22⟩ rfl (hSN _ vl9)) ?_))|refine pu9 ?_)|refine dR ?_|(refine aA rfl ?_ ?_<;>intro hq<;>try exact no9))
    all_goals
      (refine aQ Tryz.results3 (aB rfl) ?_)
      rfl
end
section
open Go.ChangeShapes Go.WideShapes Go.ChangeAt Go.RowKit
open Go.Deep

section
variable {H : Type} {enc : TypeId × Value → H} {P : Program} {w : World} {base : Nat} {spare : Nat → Bool} {held : Bool}

theorem mG {x:Int} (h:(Lit.int .i64 x).wf=true):-9223372036854775808≤x∧x≤9223372036854775807:=by
  simp [Lit.wf,IntKind.min,IntKind.max,IntKind.signed,IntKind.bits] at h
  exact⟨by omega,by omega⟩

theorem ints_of_trod {t e:TypeId} {fuel:Nat} {v:Value} {x:DataW H×List MemPlace} (ht:P.underlying t=some (.slice e)) (he:P.underlying e=some (.int .i64)) (hc:P.cellsOf e=1)
    (h:DataW.trod enc P w base spare held fuel t [v]=some x):∃ A n c xs,v=.slice A n c∧iV w A n xs∧∀ z∈xs,-9223372036854775808≤z∧z≤9223372036854775807:=by
  rcases open_ints ht he hc h with ⟨hcs,_⟩|⟨a,len,cap,zs,hcs,_,hl,hm,hz,_,hcell,hwz⟩
  · obtain rfl:v=.slice none 0 0:=by simpa using hcs
    exact⟨none,0,0,[],rfl,iV.nil w,by simp⟩
  · obtain rfl:v=.slice (some a) len cap:=by simpa using hcs
    have hlz:len≤zs.length:=by rw [hz];split<;>omega
    refine⟨some a,len,cap,zs.take len,rfl,⟨by simp;omega,by omega,fun hn=>?_⟩,fun z hz'=>mG (hwz z (List.mem_of_mem_take hz'))⟩
    obtain⟨b,off,spot⟩:=a
    have hc0:=hcell 0 (by omega)
    have hs:spot=none:=by simpa [Addr.add] using World.cell?_spot hc0
    subst hs
    refine⟨b,off,rfl,fun j z hj=>?_⟩
    have hjl:j<len:=by
      rcases Nat.lt_or_ge j len with h|h
      · exact h
      · rw [List.getElem?_eq_none (by simp;omega)] at hj;cases hj
    rw [List.getElem?_take_of_lt hjl] at hj
    have hcj:=hcell j (by omega)
    rw [List.getD_eq_getElem?_getD,hj] at hcj
    have ha:(⟨b,off,none⟩:Addr).add j=⟨b,off+j,none⟩:=by unfold Addr.add;split<;>simp_all
    rw [ha] at hcj
    exact hcj

def iF {H:Type} (enc:TypeId×Value→H) (P:Program) (w:World) (base:Nat) (spare:Nat→Bool) (held:Bool) (fs:Array Field) (cs:List Value):Prop :=
  ∃ n,∀ (j:Nat) (f:Field),fs[j]?=some f→∃ y,DataW.trod enc P w base spare held n f.type ((cs.drop f.offset).take (P.cellsOf f.type))=some y

theorem nA {t:TypeId} {fs:Array Field} {fuel:Nat} {cs:List Value} {x:DataW H×List MemPlace} (hs:P.underlying t=some (.struct fs))
    (h:DataW.trod enc P w base spare held fuel t cs=some x):cs.length=P.cellsOf t∧iF enc P w base spare held fs cs:=by
  obtain⟨xs,n,_,_,hl,hxl,hg⟩:=DataW.trod_struct hs h
  refine⟨hl,n,fun j f hj=>?_⟩
  have hjl:j<xs.length:=by rw [hxl];exact(Array.getElem?_eq_some_iff.1 hj).1
  exact⟨xs[j],(hg j f hj).trans (List.getElem?_eq_getElem hjl)⟩

theorem iF.int {fs:Array Field} {cs:List Value} (h:iF enc P w base spare held fs cs) (j:Nat) {f:Field} (hj:fs[j]?=some f) {k:IntKind} (ht:P.underlying f.type=some (.int k)) (hc:P.cellsOf f.type=1) {v:Value} (hv:cs[f.offset]?=some v) :
    ∃ n,v=.int k n∧(Lit.int k n).wf=true:=by
  obtain⟨m,hm⟩:=h
  obtain⟨y,hy⟩:=hm j f hj
  obtain⟨n,he,_,hwf⟩:=DataW.trod_int ht hy
  rw [hc,kP (Lib.hid hv)] at he
  exact⟨n,by simpa using he,hwf⟩
theorem iF.bool {fs:Array Field} {cs:List Value} (h:iF enc P w base spare held fs cs) (j:Nat) {f:Field} (hj:fs[j]?=some f) (ht:P.underlying f.type=some .bool) (hc:P.cellsOf f.type=1) {v:Value} (hv:cs[f.offset]?=some v) :
    ∃ b,v=.bool b:=by
  obtain⟨m,hm⟩:=h
  obtain⟨y,hy⟩:=hm j f hj
  obtain⟨n,he,_⟩:=DataW.trod_bool ht hy
  rw [hc,kP (Lib.hid hv)] at he
  exact⟨n,by simpa using he⟩
theorem iF.string {fs:Array Field} {cs:List Value} (h:iF enc P w base spare held fs cs) (j:Nat) {f:Field} (hj:fs[j]?=some f) (ht:P.underlying f.type=some .string) (hc:P.cellsOf f.type=1) {v:Value} (hv:cs[f.offset]?=some v) :
    ∃ s,v=.string s∧s.size≤maxLen:=by
  obtain⟨m,hm⟩:=h
  obtain⟨y,hy⟩:=hm j f hj
  obtain⟨n,he,hx⟩:=DataW.trod_string ht hy
  rw [hc,kP (Lib.hid hv)] at he
  exact⟨n,by simpa using he,by simpa using hx.2⟩
theorem iF.ints {fs:Array Field} {cs:List Value} (h:iF enc P w base spare held fs cs) (j:Nat) {f:Field} (hj:fs[j]?=some f) {e:TypeId} (ht:P.underlying f.type=some (.slice e)) (he:P.underlying e=some (.int .i64)) (hc:P.cellsOf f.type=1) (hce:P.cellsOf e=1) {v:Value} (hv:cs[f.offset]?=some v) :
    ∃ A n c xs,v=.slice A n c∧iV w A n xs∧∀ z∈xs,-9223372036854775808≤z∧z≤9223372036854775807:=by
  obtain⟨m,hm⟩:=h
  obtain⟨y,hy⟩:=hm j f hj
  rw [hc,kP (Lib.hid hv)] at hy
  exact ints_of_trod ht he hce hy

theorem qR (hl:laidOutB P=true) {W W':World} (hb:Below W.heap.size W W'):∀ {ts:List TypeId} {vs:List Value} {ds:List (DataW H)} {ps:List MemPlace},(ts.all fun t=>P.readableRec t && decide (t<P.types.size))=true →
    DataW.TrodAll enc P W 0 (fun _=>true) true ts vs ds ps→DataW.TrodAll enc P W' 0 (fun b=>decide (b<W.heap.size)) true ts vs ds ps
  | [],[],[],_,_,h=>h
  | [],_ :: _,_,_,_,h=>h.elim
  | [],[],_ :: _,_,_,h=>h.elim
  | _ :: _,[],_,_,_,h=>h.elim
  | _ :: _,_ :: _,[],_,_,h=>h.elim
  | t :: ts,v :: vs,d :: ds,ps,hr,h=>by
    obtain⟨p,q,h1,h2,rfl⟩:=h
    simp only [List.all_cons,Bool.and_eq_true,decide_eq_true_eq] at hr
    have h1':=h1
    obtain⟨m,hm⟩:=h1'
    exact⟨p,q,Below.trod hl hr.1.1 hr.1.2 h1 hb (fun x hx=>DataW.trod_lt m _ _ _ hm x hx),qR hl hb (by simpa using hr.2) h2,rfl⟩
end
end
section

def oX (w:World):aI:=fun p=>w.cell? p
theorem fullV_in (w:World):VIn (oX w) w:=fun p x h=>h
theorem Fn.any {P:Program} {f:FuncId} {args:List Value} {w:World} {v:Value} (h:Fn P f args (oX w) fun u _=>u=v):Calls P f args.toArray w fun e w'=>e=.returned v∧Ext w w' :=
  (h w (fullV_in w)).mono fun e w' ⟨u,he,hx,_,_,_,_,hu⟩=>⟨by rw [he,hu],hx⟩
theorem iV.view {w:World} {A:Option Addr} {n:Nat} {xs:List Int} (h:iV w A n xs):eV (oX w) A n xs:=by
  refine⟨h.1,h.2.1,h.cells.1,fun hn=>?_⟩
  obtain⟨b,off,ha,hc⟩:=h.cells.2 hn
  exact⟨b,off,ha,hc⟩
end
section
open Go.ChangeShapes Go.WideShapes Go.ChangeAt Go.RowKit
open Go.Deep
section
variable {H : Type} {enc : TypeId × Value → H} {P : Program} {w : World} {base : Nat} {spare : Nat → Bool} {held : Bool}
theorem oE {α:Type} (f:α→List Value) (good:α→Prop) {t e:TypeId} {fuel:Nat} {v:Value} {x:DataW H×List MemPlace} (ht:P.underlying t=some (.slice e)) (hsz:0<P.cellsOf e)
    (hel:∀ (n:Nat) (cs:List Value) (y:DataW H×List MemPlace),n<fuel→cs.length=P.cellsOf e→DataW.trod enc P w base spare held n e cs=some y→∃ a:α,cs=f a∧good a)
    (h:DataW.trod enc P w base spare held fuel t [v]=some x):∃ A n c xs,v=.slice A n c∧n≤c∧eT (oX w) (P.cellsOf e) f A n xs∧∀ a∈xs,good a:=by
  rcases DataW.trod_slice ht h with ⟨hcs,_⟩|⟨a,len,cap,elems,rest,n,rfl,hcs,_,_,hl,hm,hlen,hat,_,_⟩
  · obtain rfl:v=.slice none 0 0:=by simpa using hcs
    exact⟨none,0,0,[],rfl,Nat.le_refl _,eT.nil,by simp⟩
  · obtain rfl:v=.slice (some a) len cap:=by simpa using hcs
    have key:∀ i,i<len→∃ z:α,(∀ j u,(f z)[j]?=some u→w.cell? ((a.add (i * P.cellsOf e)).add j)=some u)∧(f z).length=P.cellsOf e∧good z:=by
      intro i hi
      have:=hat i hi
      rw [List.getElem?_eq_getElem (by omega)] at this
      obtain⟨cs',h1,h2⟩:=Option.bind_eq_some_iff.1 this
      obtain⟨_,h3,h4⟩:=World.cells?_some h1
      obtain⟨z,rfl,hz⟩:=hel n cs' _ (Nat.lt_succ_self n) h3 h2
      refine⟨z,fun j u hj=>?_,h3,hz⟩
      have hjl:j<(f z).length:=by
        rcases Nat.lt_or_ge j (f z).length with h|h
        · exact h
        · rw [List.getElem?_eq_none h] at hj;cases hj
      rw [h4 j (by omega)];exact hj
    by_cases h0:len=0
    · subst h0
      exact⟨some a,0,cap,[],rfl,Nat.zero_le _,eT.nil,by simp⟩
    · obtain⟨z0,_,_,_⟩:=key 0 (by omega)
      haveI:Inhabited α:=⟨z0⟩
      obtain⟨Z,hZ⟩:=choose_lt (α:=α) (p:=fun i z=>(∀ j u,(f z)[j]?=some u→w.cell? ((a.add (i * P.cellsOf e)).add j)=some u)∧(f z).length=P.cellsOf e∧good z) (fun i hi=>key i hi)
      refine⟨some a,len,cap,(List.range len).map Z,rfl,hl,⟨by simp,Nat.le_trans hl hm,fun _=>?_⟩,?_⟩
      · obtain⟨b,off,spot⟩:=a
        have hspot:spot=none:=by
          obtain⟨h1,h2,_⟩:=hZ 0 (by omega)
          have:=h1 0 (f (Z 0))[0] (List.getElem?_eq_getElem (by omega))
          simpa [Addr.add] using World.cell?_spot this
        subst hspot
        refine⟨b,off,rfl,fun k z hk j u hj=>?_⟩
        have hkl:k<len:=by
          rcases Nat.lt_or_ge k len with h|h
          · exact h
          · rw [List.getElem?_eq_none (by simp;omega)] at hk;cases hk
        simp [hkl] at hk
        subst hk
        have:=(hZ k hkl).1 j u hj
        rw [jN,jN] at this
        exact this
      · intro z hz
        obtain⟨i,hi,rfl⟩:=List.mem_map.1 hz
        exact(hZ i (List.mem_range.1 hi)).2.2
theorem open_arg {t:TypeId} {v:Value} {d:DataW H} {p:List MemPlace} (h:DataW.Trod enc P w base spare held t v d p) (hv:v.cells=#[v]):∃ fuel x,DataW.trod enc P w base spare held fuel t [v]=some x:=by
  obtain⟨fuel,hf⟩:=h
  rw [hv] at hf
  exact⟨fuel,_,by simpa using hf⟩
end
end
section
open Go.ChangeShapes Go.WideShapes Go.ChangeAt Go.RowKit
open Go.Deep
section
variable {H : Type} {enc : TypeId × Value → H} {w : World} {base : Nat} {spare : Nat → Bool} {held : Bool}
def inI (x:Int):Prop:=-9223372036854775808≤x∧x≤9223372036854775807
def intsP (h:Hd) (_:PKs):Prop:=inI h.kind∧inI h.mode∧inI h.user∧inI h.group
theorem vF {P:Program} {t:TypeId} {fs:Array Field} {fuel:Nat} {cs:List Value} {x:DataW H×List MemPlace} (hs:P.underlying t=some (.struct fs))
    (h:DataW.trod enc P w base spare held fuel t cs=some x):∃ n,fuel=n+1∧cs.length=P.cellsOf t∧iF enc P w base spare held fs cs∧∀ (j:Nat) (f:Field),fs[j]?=some f→∃ y,DataW.trod enc P w base spare held n f.type ((cs.drop f.offset).take (P.cellsOf f.type))=some y:=by
  obtain⟨xs,n,hn,_,hl,hxl,hg⟩:=DataW.trod_struct hs h
  have key:∀ (j:Nat) (f:Field),fs[j]?=some f→∃ y,DataW.trod enc P w base spare held n f.type ((cs.drop f.offset).take (P.cellsOf f.type))=some y:=fun j f hj=>by
    have hjl:j<xs.length:=by rw [hxl];exact(Array.getElem?_eq_some_iff.1 hj).1
    exact⟨xs[j],(hg j f hj).trans (List.getElem?_eq_getElem hjl)⟩
  exact⟨n,hn,hl,⟨n,key⟩,key⟩
theorem tattr_of_trod {n:Nat} {cs:List Value} {y:DataW H×List MemPlace} (h:DataW.trod enc Tryz.prog w base spare held n 271 cs=some y):∃ a:PA,cs=paC a∧a.n.size≤maxLen∧a.v.size≤maxLen:=by
  obtain⟨hl,hF⟩:=nA Tryz.underlying271 h
  match cs,hl.trans (show Tryz.prog.cellsOf 271=2 by kernel_rfl) with
  | [c0,c1],_ =>
    obtain⟨a,rfl,wa⟩:=hF.string 0 rfl Tryz.underlying9 (by kernel_rfl) rfl
    obtain⟨b,rfl,wb⟩:=hF.string 1 rfl Tryz.underlying9 (by kernel_rfl) rfl
    exact⟨⟨a,b⟩,rfl,wa,wb⟩
theorem tattr_cells:Tryz.prog.cellsOf 271=2:=by kernel_rfl
theorem kid_cells:Tryz.prog.cellsOf 156=9:=by kernel_rfl
theorem xG:Tryz.prog.cellsOf 70=8:=by kernel_rfl
theorem list8 {α:Type} {l:List α} (h:l.length=8):∃ a b c d e f g i,l=[a,b,c,d,e,f,g,i]:=by
  match l,h with
  | [a,b,c,d,e,f,g,i],_=>exact⟨a,b,c,d,e,f,g,i,rfl⟩
theorem list9 {α:Type} {l:List α} (h:l.length=9):∃ a b c d e f g i j,l=[a,b,c,d,e,f,g,i,j]:=by
  match l,h with
  | [a,b,c,d,e,f,g,i,j],_=>exact⟨a,b,c,d,e,f,g,i,j,rfl⟩
theorem node_of_trod:∀ (fuel:Nat) {cs:List Value} {y:DataW H×List MemPlace},DataW.trod enc Tryz.prog w base spare held fuel 70 cs=some y→∃ x:LN,cs=lnC x∧aX (oX w) x∧cA intsP x.n:=by
  intro fuel
  induction fuel using Nat.strongRecOn with
  | _ fuel ih =>
    intro cs y h
    obtain⟨m,rfl,hl,hF,hat⟩:=vF Tryz.underlying70 h
    obtain⟨c0,c1,c2,c3,c4,c5,c6,c7,rfl⟩:=list8 (hl.trans xG)
    obtain⟨kind,rfl,w0⟩:=hF.int 0 rfl Tryz.underlying3 (by kernel_rfl) rfl
    obtain⟨mode,rfl,w1⟩:=hF.int 1 rfl Tryz.underlying3 (by kernel_rfl) rfl
    obtain⟨user,rfl,w2⟩:=hF.int 2 rfl Tryz.underlying3 (by kernel_rfl) rfl
    obtain⟨group,rfl,w3⟩:=hF.int 3 rfl Tryz.underlying3 (by kernel_rfl) rfl
    obtain⟨opq,rfl⟩:=hF.bool 4 rfl Tryz.underlying4 (by kernel_rfl) rfl
    obtain⟨y5,h5⟩:=hat 5 _ rfl
    obtain⟨data,rfl,w6⟩:=hF.string 6 rfl Tryz.underlying9 (by kernel_rfl) rfl
    obtain⟨y7,h7⟩:=hat 7 _ rfl
    replace h5:DataW.trod enc Tryz.prog w base spare held m 67 [c5]=some y5:=h5
    replace h7:DataW.trod enc Tryz.prog w base spare held m 68 [c7]=some y7:=h7
    obtain⟨A,na,ca,al,rfl,ga,hA,hAg⟩:=oE paC (fun a=>a.n.size≤maxLen∧a.v.size≤maxLen) Tryz.underlying67 (by rw [tattr_cells];omega) (fun m' cs y _ _ hy=>tattr_of_trod hy) h5
    obtain⟨K,nk,ck,es,rfl,gk,hK,hKg⟩:=oE lkC (fun e=>e.nm.size≤maxLen∧aX (oX w) e.x∧cA intsP e.x.n) Tryz.underlying68 (by rw [kid_cells];omega) (fun m' cs y hm' hcl hy=>by
      obtain⟨m2,rfl,hl2,hF2,hat2⟩:=vF Tryz.underlying156 hy
      obtain⟨d0,d1,d2,d3,d4,d5,d6,d7,d8,rfl⟩:=list9 (hl2.trans kid_cells)
      obtain⟨nm,rfl,wn⟩:=hF2.string 0 rfl Tryz.underlying9 (by kernel_rfl) rfl
      obtain⟨y1,h1⟩:=hat2 1 _ rfl
      replace h1:DataW.trod enc Tryz.prog w base spare held m2 70 [d1,d2,d3,d4,d5,d6,d7,d8]=some y1:=h1
      obtain⟨x,hx,hN,hI⟩:=ih m2 (by omega) h1
      refine⟨⟨nm,x⟩,?_,wn,hN,hI⟩
      simp only [List.cons.injEq] at hx
      obtain⟨rfl,rfl,rfl,rfl,rfl,rfl,rfl,rfl,_⟩:=hx
      rfl) h7
    rw [tattr_cells] at hA
    rw [kid_cells] at hK
    refine⟨⟨⟨kind,mode,user,group,opq,al,data⟩,A,na,ca,K,nk,ck,es.map kz⟩,rfl,aX.of ⟨hA,hAg⟩ ga w6 gk ⟨hK,fun e he=>⟨(hKg e he).1,(hKg e he).2.1⟩⟩ rfl,.mk ⟨mG w0,mG w1,mG w2,mG w3⟩ fun k hk=>?_⟩
    obtain⟨e,he,rfl⟩:=List.mem_map.1 hk
    exact(hKg e he).2.2
end
end
section
open Go.ChangeShapes Go.WideShapes Go.ChangeAt Go.RowKit
open Go.Deep
section
variable {H : Type} {enc : TypeId × Value → H} {w : World} {base : Nat} {spare : Nat → Bool} {held : Bool}
theorem list3 {α:Type} {l:List α} (h:l.length=3):∃ a b c,l=[a,b,c]:=by
  match l,h with
  | [a,b,c],_=>exact⟨a,b,c,rfl⟩
theorem list2 {α:Type} {l:List α} (h:l.length=2):∃ a b,l=[a,b]:=by
  match l,h with
  | [a,b],_=>exact⟨a,b,rfl⟩
theorem range_of_trod {n:Nat} {cs:List Value} {y:DataW H×List MemPlace} (h:DataW.trod enc Tryz.prog w base spare held n 197 cs=some y):∃ r:PR,cs=prC r∧inR64 r:=by
  obtain⟨hl,hF⟩:=nA Tryz.underlying197 h
  obtain⟨c0,c1,c2,rfl⟩:=list3 (hl.trans (by kernel_rfl))
  obtain⟨a,rfl,wa⟩:=hF.int 0 rfl Tryz.underlying3 (by kernel_rfl) rfl
  obtain⟨b,rfl,wb⟩:=hF.int 1 rfl Tryz.underlying3 (by kernel_rfl) rfl
  obtain⟨c,rfl,wc⟩:=hF.int 2 rfl Tryz.underlying3 (by kernel_rfl) rfl
  exact⟨⟨a,b,c⟩,rfl,mG wa,mG wb,mG wc⟩
theorem range_cells:Tryz.prog.cellsOf 197=3:=by kernel_rfl
theorem maps_of_trod {fuel:Nat} {v:Value} {x:DataW H×List MemPlace} (h:DataW.trod enc Tryz.prog w base spare held fuel 22 [v]=some x):∃ A n c xs,v=.slice A n c∧n≤c∧tR (oX w) A n xs:=by
  obtain⟨A,n,c,xs,h1,h2,h3,h4⟩:=oE prC inR64 Tryz.underlying22 (by rw [range_cells];omega) (fun m cs y _ _ hy=>range_of_trod hy) h
  rw [range_cells] at h3
  exact⟨A,n,c,xs,h1,h2,h3,h4⟩
end
end
section
open Go.ChangeShapes Go.WideShapes Go.ChangeAt Go.RowKit
open Go.Deep
section
variable {H : Type} {enc : TypeId × Value → H} {w : World} {base : Nat} {spare : Nat → Bool} {held : Bool}
theorem nodes_arg {r:Reach} {b0:Nat} {v:Value} {d:DataW H} {p:List MemPlace} (hv:Value.okWide Tryz.prog w r b0 30 v) (h:DataW.Trod enc Tryz.prog w base spare held 30 v d p):∃ A n c xs,v=.slice A n c∧n≤c∧dP (oX w) A n xs:=by
  obtain⟨A,n,c,rfl⟩:=okWide_slice Tryz.underlying30 hv
  obtain⟨fuel,y,hf⟩:=open_arg h rfl
  obtain⟨A',n',c',xs,he,hnc,hE,hg⟩:=oE lnC (fun x=>aX (oX w) x) Tryz.underlying30 (by rw [xG];omega) (fun m' cs y _ hcl hy=>by
    obtain⟨x,hx,hN,_⟩:=node_of_trod m' hy
    exact⟨x,hx,hN⟩) hf
  simp only [List.cons.injEq,Value.slice.injEq,and_true] at he
  obtain⟨rfl,rfl,rfl⟩:=he
  rw [xG] at hE
  exact⟨A,n,c,xs,rfl,hnc,hE,hg⟩
theorem maps2_of_trod {fuel:Nat} {cs:List Value} {y:DataW H×List MemPlace} (h:DataW.trod enc Tryz.prog w base spare held fuel 24 cs=some y):∃ M:LM,cs=[.slice M.A M.n M.c,.slice M.B M.m M.e]∧mS (oX w) M:=by
  obtain⟨m,rfl,hl,hF,hat⟩:=vF Tryz.underlying24 h
  obtain⟨c0,c1,rfl⟩:=list2 (hl.trans (by kernel_rfl))
  obtain⟨y0,h0⟩:=hat 0 _ rfl
  obtain⟨y1,h1⟩:=hat 1 _ rfl
  replace h0:DataW.trod enc Tryz.prog w base spare held m 22 [c0]=some y0:=h0
  replace h1:DataW.trod enc Tryz.prog w base spare held m 22 [c1]=some y1:=h1
  obtain⟨A,n,c,us,rfl,k1,m1⟩:=maps_of_trod h0
  obtain⟨B,m',e,gs,rfl,k2,m2⟩:=maps_of_trod h1
  exact⟨⟨A,n,c,us,B,m',e,gs⟩,rfl,m1,k1,m2,k2⟩
end
end
section
open Go.ChangeShapes Go.WideShapes Go.ChangeAt Go.RowKit
open Go.Deep
section
variable {H : Type} {enc : TypeId × Value → H} {w : World} {base : Nat} {spare : Nat → Bool} {held : Bool}
theorem list7 {α:Type} {l:List α} (h:l.length=7):∃ a b c d e f g,l=[a,b,c,d,e,f,g]:=by
  match l,h with
  | [a,b,c,d,e,f,g],_=>exact⟨a,b,c,d,e,f,g,rfl⟩
theorem list4b {α:Type} {l:List α} (h:l.length=4):∃ a b c d,l=[a,b,c,d]:=by
  match l,h with
  | [a,b,c,d],_=>exact⟨a,b,c,d,rfl⟩
theorem cred_of_trod {n:Nat} {cs:List Value} {y:DataW H×List MemPlace} (h:DataW.trod enc Tryz.prog w base spare held n 27 cs=some y):∃ (c:CR) (A:Option Addr) (n k:Nat),cs=[.int .i64 c.u,.int .i64 c.g,.slice A n k,.int .i64 c.d]∧eV (oX w) A n c.xs:=by
  obtain⟨hl,hF⟩:=nA Tryz.underlying27 h
  obtain⟨c0,c1,c2,c3,rfl⟩:=list4b (hl.trans (by kernel_rfl))
  obtain⟨a,rfl,_⟩:=hF.int 0 rfl Tryz.underlying3 (by kernel_rfl) rfl
  obtain⟨b,rfl,_⟩:=hF.int 1 rfl Tryz.underlying3 (by kernel_rfl) rfl
  obtain⟨A,n,c,xs,rfl,hI,_⟩:=hF.ints 2 rfl Tryz.underlying25 Tryz.underlying3 (by kernel_rfl) (by kernel_rfl) rfl
  obtain⟨d,rfl,_⟩:=hF.int 3 rfl Tryz.underlying3 (by kernel_rfl) rfl
  exact⟨⟨a,b,d,xs⟩,A,n,c,rfl,hI.view⟩
theorem config_of_trod {fuel:Nat} {cs:List Value} {y:DataW H×List MemPlace} (h:DataW.trod enc Tryz.prog w base spare held fuel 29 cs=some y):∃ x:CF,cs=cfC x∧CfV (oX w) x:=by
  obtain⟨m,rfl,hl,hF,hat⟩:=vF Tryz.underlying29 h
  obtain⟨c0,c1,c2,c3,c4,c5,c6,c7,rfl⟩:=list8 (hl.trans (by kernel_rfl))
  obtain⟨y0,h0⟩:=hat 0 _ rfl
  obtain⟨y1,h1⟩:=hat 1 _ rfl
  replace h0:DataW.trod enc Tryz.prog w base spare held m 24 [c0,c1]=some y0:=h0
  replace h1:DataW.trod enc Tryz.prog w base spare held m 27 [c2,c3,c4,c5]=some y1:=h1
  obtain⟨M,e0,hM⟩:=maps2_of_trod h0
  obtain⟨c,A,n,k,e1,hI⟩:=cred_of_trod h1
  obtain⟨q,rfl,_⟩:=hF.int 2 rfl Tryz.underlying3 (by kernel_rfl) rfl
  obtain⟨B,m',e,lo,rfl,hL,_⟩:=hF.ints 3 rfl Tryz.underlying25 Tryz.underlying3 (by kernel_rfl) (by kernel_rfl) rfl
  simp only [List.cons.injEq,and_true] at e0 e1
  obtain⟨rfl,rfl⟩:=e0
  obtain⟨rfl,rfl,rfl,rfl⟩:=e1
  exact⟨⟨M,c,A,n,k,q,B,m',e,lo⟩,rfl,hM,hI,hL.view⟩
theorem config_arg {r:Reach} {b0:Nat} {v:Value} {d:DataW H} {p:List MemPlace} (hv:Value.okWide Tryz.prog w r b0 29 v) (h:DataW.Trod enc Tryz.prog w base spare held 29 v d p):∃ x:CF,v=cfV x∧CfV (oX w) x:=by
  obtain⟨cs,rfl,hsz⟩:=okWide_struct Tryz.underlying29 hv
  obtain⟨fuel,hf⟩:=h
  obtain⟨x,hx,hX⟩:=config_of_trod hf
  refine⟨x,?_,hX⟩
  have:cs.toList=cfC x:=by simpa [Value.cells] using hx
  show Value.agg cs=Value.agg (cfC x).toArray
  rw [←this]
def clSz (c:CL):Prop:=c.path.size≤maxLen∧c.other.size≤maxLen∧c.name.size≤maxLen∧c.data.size≤maxLen
theorem call_of_trod {n:Nat} {cs:List Value} {y:DataW H×List MemPlace} (h:DataW.trod enc Tryz.prog w base spare held n 53 cs=some y):∃ c:CL,cs=clC c∧clSz c:=by
  obtain⟨hl,hF⟩:=nA Tryz.underlying53 h
  obtain⟨c0,c1,c2,c3,c4,c5,c6,rfl⟩:=list7 (hl.trans (by kernel_rfl))
  obtain⟨a0,rfl,_⟩:=hF.int 0 rfl Tryz.underlying3 (by kernel_rfl) rfl
  obtain⟨a1,rfl,w1⟩:=hF.string 1 rfl Tryz.underlying9 (by kernel_rfl) rfl
  obtain⟨a2,rfl,w2⟩:=hF.string 2 rfl Tryz.underlying9 (by kernel_rfl) rfl
  obtain⟨a3,rfl,w3⟩:=hF.string 3 rfl Tryz.underlying9 (by kernel_rfl) rfl
  obtain⟨a4,rfl,w4⟩:=hF.string 4 rfl Tryz.underlying9 (by kernel_rfl) rfl
  obtain⟨a5,rfl,_⟩:=hF.int 5 rfl Tryz.underlying3 (by kernel_rfl) rfl
  obtain⟨a6,rfl,_⟩:=hF.int 6 rfl Tryz.underlying3 (by kernel_rfl) rfl
  exact⟨⟨a0,a1,a2,a3,a4,a5,a6⟩,rfl,w1,w2,w3,w4⟩
theorem call_cells:Tryz.prog.cellsOf 53=7:=by kernel_rfl
theorem calls_arg {r:Reach} {b0:Nat} {v:Value} {d:DataW H} {p:List MemPlace} (hv:Value.okWide Tryz.prog w r b0 31 v) (h:DataW.Trod enc Tryz.prog w base spare held 31 v d p):∃ A n c xs,v=.slice A n c∧n≤c∧eT (oX w) 7 clC A n xs∧∀ a∈xs,clSz a:=by
  obtain⟨A,n,c,rfl⟩:=okWide_slice Tryz.underlying31 hv
  obtain⟨fuel,x,hf⟩:=open_arg h rfl
  obtain⟨A,n,c,xs,h1,h2,h3,h4⟩:=oE clC clSz Tryz.underlying31 (by rw [call_cells];omega) (fun m cs y _ _ hy=>call_of_trod hy) hf
  rw [call_cells] at h3
  exact⟨A,n,c,xs,h1,h2,h3,h4⟩
end
end
end Go.Proofs.YtejkmomfpidnbabGreat
