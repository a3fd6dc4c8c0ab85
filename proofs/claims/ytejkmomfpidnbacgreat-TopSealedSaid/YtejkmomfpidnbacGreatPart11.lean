/- Walks and plain laws, part 11: what functions compute, proved once each (HG, ReadE, ReadE2, ReadE3, ReadQ, BxX, HP, HN, BxD, Light, TU, IsE, Did, HF, RoomP, TopRoom, Open). -/
import Derived.Test.YtejkmomfpidnbacGreatPart10
import Derived.Test.YtejkmomfpidnbacGreatPart8
import Derived.Test.YtejkmomfpidnbacGreatPart5
import Derived.Test.YtejkmomfpidnbacGreatPart3
import Derived.Test.YtejkmomfpidnbacGreatPart4
import Derived.Test.YtejkmomfpidnbacGreatPart9
import Derived.Test.YtejkmomfpidnbacGreatPart6
import Derived.Test.YtejkmomfpidnbacGreatPart2
import Derived.Test.YtejkmomfpidnbacGreatPart1
import Derived.ProofKit
import Derived.OpenShut
import Derived.ShutString
import Derived.ChangeOld
import Derived.Deep.Slices
set_option linter.unusedSimpArgs false
set_option linter.unusedVariables false
set_option maxRecDepth 100000
set_option maxHeartbeats 40000000
namespace Go.Proofs.YtejkmomfpidnbacGreat
open Go.RowKit
section
theorem cfgF_cfA (x:CF) (ls:List PN):jH (cfA x).cf ls=jH x ls:=rfl
section
variable {a : HA} {s : DS} {x : CA} {ls : List PN}
theorem addBoxA_dead (hd:eS a s=true):eQ a s x=⟨a,s,16,0⟩:=if_pos hd
theorem addBoxA_none (hd:eS a s=false) (hn:iX a x.lo []=none):eQ a s x=⟨a,s,5,0⟩:=by unfold eQ;rw [if_neg (by rw [hd];decide),hn]
theorem addBoxA_cfg (hd:eS a s=false) (hn:iX a x.lo []=some ls) (hc:¬jH x.cf ls=0):eQ a s x=⟨a,s,jH x.cf ls,0⟩:=by
  unfold eQ;rw [if_neg (by rw [hd];decide),hn];exact if_pos hc
theorem addBoxA_many (hd:eS a s=false) (hn:iX a x.lo []=some ls) (hc:jH x.cf ls=0) (hf:aW a.bx=5):eQ a s x=⟨a,s,2,0⟩:=by
  unfold eQ;rw [if_neg (by rw [hd];decide),hn]
  exact(if_neg (not_not_intro hc)).trans (if_pos hf)
theorem addBoxA_take (hd:eS a s=false) (hn:iX a x.lo []=some ls) (hc:jH x.cf ls=0) (hf:¬aW a.bx=5) (ht:¬gA (gU s) a.M (5+(aW a.bx:Int)) (cW x.q)=0):eQ a s x=⟨a,s,gA (gU s) a.M (5+(aW a.bx:Int)) (cW x.q),0⟩:=by
  unfold eQ;rw [if_neg (by rw [hd];decide),hn]
  exact(if_neg (not_not_intro hc)).trans ((if_neg hf).trans (if_pos ht))
theorem addBoxA_put (hd:eS a s=false) (hn:iX a x.lo []=some ls) (hc:jH x.cf ls=0) (hf:¬aW a.bx=5) (ht:gA (gU s) a.M (5+(aW a.bx:Int)) (cW x.q)=0):eQ a s x=xJ { a with M:=fO (gU s) a.M (5+(aW a.bx:Int)) (cW x.q) } s (aW a.bx) (rV a s x ls):=by
  unfold eQ;rw [if_neg (by rw [hd];decide),hn]
  exact(if_neg (not_not_intro hc)).trans ((if_neg hf).trans (if_neg (not_not_intro ht)))
theorem putTA_1 {k:Nat} {t:TA} (h:¬cZ s (t.s1.headD 0 * 64) [0]=0):xJ a s k t=⟨{ a with off:=true },cD s (t.s1.headD 0 * 64) [0],cZ s (t.s1.headD 0 * 64) [0],0⟩:=if_pos h
theorem putTA_2 {k:Nat} {t:TA} (h:cZ s (t.s1.headD 0 * 64) [0]=0) (h2:¬(dF (t.s0.map (· * 64)) 64 1 (eG t.b) (cD s (t.s1.headD 0 * 64) [0])).2=0):xJ a s k t=⟨{ a with off:=true },(dF (t.s0.map (· * 64)) 64 1 (eG t.b) (cD s (t.s1.headD 0 * 64) [0])).1,(dF (t.s0.map (· * 64)) 64 1 (eG t.b) (cD s (t.s1.headD 0 * 64) [0])).2,0⟩:=(if_neg (not_not_intro h)).trans (if_pos h2)
theorem putTA_3 {k:Nat} {t:TA} (h:cZ s (t.s1.headD 0 * 64) [0]=0) (h2:(dF (t.s0.map (· * 64)) 64 1 (eG t.b) (cD s (t.s1.headD 0 * 64) [0])).2=0):xJ a s k t=rK { a with bx:=a.bx.set k (some t) } (dF (t.s0.map (· * 64)) 64 1 (eG t.b) (cD s (t.s1.headD 0 * 64) [0])).1 k:=(if_neg (not_not_intro h)).trans (if_neg (not_not_intro h2))
end
theorem abs_addM (h:HM) (M M':PM) (k g:Nat) (t:TE):fZ (addM h k g t) M'={ fZ h M with bx:=(fZ h M).bx.set k (some (teA t)),M:=M' }:=by
  unfold fZ addM
  simp only [bxA_set];rfl
theorem sp_hostG {a c h:Box} {D P T:List Box}:SubP (h :: (D ++ (P ++ (a :: T)))) (a :: c :: h :: (D ++ (P ++ T))):=sp9
theorem sC {x:Nat} {X Y:List Box} (h:x∈Y.map Box.g):x∈(X ++ Y).map Box.g:=by rw [List.map_append];exact List.mem_append_right _ h
attribute [local irreducible] AtQ GoC GoL GoW QO QP Fn RV bF aD VLe bU bA
attribute [local irreducible] FnB fE
theorem eY.addBox {V:aE} {p d m K:Nat} {a:HA} {s:DS} {Bs:List Box} (hB:eY V p d m a s Bs) (hi:fI K m a s) (hm:m≤128000) (h12:12800≤m) (hK:K≤1000) (x:CF) (hx:CfV V x) :
    FnB Tryz.prog 66 [.pointer (some ⟨p,0,none⟩),cfV x] V Bs fun u V' Bs'=>u=.tuple #[.int .i64 (eQ a s (cfA x)).n,bA (eQ a s (cfA x)).f]∧eY V' p d m (eQ a s (cfA x)).a (eQ a s (cfA x)).s Bs':=by
  have hB0:=hB
  obtain⟨h,D,Pb,T,rfl,rfl,ea,hD,hP,hk⟩:=hB
  have h5:=hk.l5
  have hb5:=hk.b5
  have hlen:=hi.len
  obtain⟨kk,hI⟩:=hi.lim.pl
  have ht9:=hi.lim.turn2
  have hs9:=hi.lim.seq
  have hd:=hi.lim.bd
  have e1:a.turn=h.turn:=by rw [←ea];rfl
  have e2:a.seq=h.seq:=by rw [←ea];rfl
  have ht:0≤h.turn∧h.turn≤1:=by omega
  have hs:0≤h.seq∧h.seq≤900000000:=by omega
  obtain⟨W,hWK,hW⟩:∃ W,W=K * 100000∧W≤100000000:=⟨_,rfl,by omega⟩
  rw [←hWK] at hd
  clear hWK
  obtain⟨gp,hPg⟩:=hP.g
  have hDe:=fun V9=>dead_c V9 p h s D hD (by omega)
  have hdA:eS a s=(h.off || s.off):=by rw [←ea];rfl
  have hnA:=fun ls (e:kI h x.lo []=some ls)=>(by rw [←ea];exact(wR h a.M x.lo []).trans (by rw [e];rfl):iX a (cfA x).lo []=some (ls.map LN.n))
  have hnN:=fun (e:kI h x.lo []=none)=>(by rw [←ea];exact(wR h a.M x.lo []).trans (by rw [e];rfl):iX a (cfA x).lo []=none)
  have hfA:aW a.bx=aW h.bx:=by rw [←first_bxA h,←ea];rfl
  have hrm:=hi.room
  generalize hrr:(m:Int) / 64 - 200=room at *
  cases hoff:(h.off || s.off) with
  | true =>
    have hfin:=addBoxA_dead (x:=cfA x) (hdA.trans hoff)
    rw [hoff] at hDe
    (refine aL Tryz.func66 rfl Tryz.ntmps66 rfl ?_;intro w0)
    repeat' (first|(refine aG ?_;first|(refine aC ?_;(refine aO rfl (dB ⟨Tryz.call71⟩ rfl (cT dZ) (hDe _)) ?_))|(refine al9 ?_;intro γ)|refine pu9 ?_)|refine bV ?_|fail)
    all_goals
      (refine bJ Tryz.results66 (aB rfl) (aB rfl) (List.Sublist.cons _ (List.Sublist.refl _)) ?_)
      rw [hfin]
      exact⟨congrArg (fun e=>Value.tuple #[.int .i64 0,e]) (bW (show ¬(16:Int)=0 by decide)).symm,hB0⟩
  | false =>
  have hdA:=hdA.trans hoff
  have haoff:a.off=false:=(qV (by rw [hdA];decide)).1
  rw [hoff] at hDe
  have hNo:=fun V9 (h9:VLe V V9)=>nodes_c V9 p h T (hk.le h9) x.B x.m x.e x.lo (hx.le h9).lo
  have hNe:=fun V9 (h9:VLe V V9) A n c ls (h8:fN V9 A n ls)=>New_bx V9 x (hx.le h9) A n c ls h8
  (refine aL Tryz.func66 rfl Tryz.ntmps66 rfl ?_;intro w0)
  repeat' (first|(refine aG ?_;first|(refine aC ?_;(first|(refine aO rfl (dB ⟨Tryz.call71⟩ rfl (cT dZ) (hDe _)) ?_)|(refine aM rfl ⟨Tryz.call134⟩ rfl bD rfl (hNo _ vl9) ?_;rintro v V1 B1 hV1 ⟨(⟨hn0,rfl⟩|⟨ls,A1,n1,c1,hn1,rfl,hN1,hn4⟩),rfl⟩)|(refine aM rfl ⟨Tryz.call12⟩ rfl eL rfl (hNe _ vl9 _ _ _ _ hN1) ?_;rintro v V2 B2 hV2 (⟨hcf,rfl,rfl⟩|⟨hcf,pb,rfl,hB⟩))))|(refine al9 ?_;intro γ)|refine pu9 ?_)|refine bV ?_|(refine aA rfl ?_ ?_<;>intro hq<;>try exact no9))
  · (refine bJ Tryz.results66 (aB rfl) (aB rfl) (List.Sublist.cons _ (List.Sublist.refl _)) ?_)
    rw [addBoxA_none hdA (hnN hn0)]
    exact⟨rfl,hB0.le vl9⟩
  · (refine bJ Tryz.results66 (aB rfl) (aB rfl) (List.Sublist.cons _ (List.Sublist.refl _)) ?_)
    rw [addBoxA_cfg hdA (hnA ls hn1) (by rw [cfgF_cfA];exact hcf),cfgF_cfA]
    exact⟨rfl,hB0.le vl9⟩
  have hok:=newOk hcf
  refine gc_boxvG hok hB (fun x9 hx9=>List.mem_cons_of_mem _ hx9) ?_
  intro V3 I hV3 hBV
  clear hB hNo hNe
  have hcfo:=cfg_cfOk hx hn1 hcf
  obtain⟨_,_,_,_,⟨q1,q64⟩,_⟩:=qL hcf
  revert γ;intro γ3
  generalize hbn:newB x.M.us x.M.gs x.c x.q (ls.map LN.n)=b at *
  have hV03:VLe V V3:=hV1.trans (hV2.trans hV3)
  obtain⟨e,he⟩:=Int.eq_ofNat_of_zero_le (show 0≤x.q+1 by omega)
  have hco:cW x.q=((2 * e:Nat):Int):=by unfold cW;omega
  have hCo:=fun V9=>cost_c V9 x.q (by omega)
  have hCo:∀ V9,Fn Tryz.prog 136 [.int .i64 x.q] V9 fun v _=>v=.int .i64 (cW x.q):=hCo
  have hCo':=hCo
  rw [hco] at hCo'
  have hquo:((2 * e:Nat):Int) / 2=(e:Int):=by omega
  refine cS ?_
  refine bZ (fun F V' L' m'=>∃ (k:Nat),V3=V'∧(⟨γ3,29,cfC x⟩ :: ⟨p,127,hC h⟩ :: (D ++ (Pb ++ T)):List Box)=L'∧k≤5∧aW h.bx=aW (h.bx.drop k)+k∧m'=5 - k∧F=[(0,.pointer (some ⟨p,0,none⟩)),(3,.pointer (some ⟨γ3,0,none⟩)),(8,.pointer (some ⟨pb,0,none⟩)),(9,.int .i64 k)]) (m:=5) ⟨0,rfl,rfl,by omega,rfl,rfl,rfl⟩ bG rfl sl9 ?_
  rintro F V' L' m' ⟨k,rfl,rfl,hk5,hkf,rfl,rfl⟩
  by_cases hlt:k<5
  · obtain⟨o,ho⟩:∃ o,h.bx[k]?=some o:=⟨_,List.getElem?_eq_getElem (by omega)⟩
    have hc:=hC_bx h5 ho
    cases o with
    | some gt =>
      repeat' (first|(refine aG ?_;first|(refine dA ?_;refine aI (aX one_124 rfl (cG own_here) hc) ?_)|(refine bK ?_;refine aI (fR kW rfl) ?_)|(refine bH ?_;refine aI (cU kK siz_124 rfl rfl rfl hlt) ?_)|refine pu9 ?_)|refine dL ?_|(refine aJ rfl rfl rfl ?_ ?_<;>intro hq<;>try exact no9))
      all_goals
        refine aY _ (5 - (k+1)) ⟨k+1,rfl,rfl,by omega,by rw [hkf,firstN_some ho];omega,rfl,rfl⟩ (by omega) bG sl9
    | none =>
      have hfk:aW h.bx=k:=by rw [hkf,firstN_none ho];omega
      have hTk:=fun V9=>PTake_g V9 h.q gp room a.M Pb hPg hI (5+(k:Int)) (cW x.q)
      have hfree:=fun h8=>addBx_free (x:=cfA x) hi haoff (show jH (cfA x).cf (ls.map LN.n)=0 from hcf) (by omega:¬aW a.bx=5) h8
      rw [hfA,hfk,hrm,hlen,←ea,←used_abs h a.M,ea] at hfree
      have hfree:gA room a.M (5+(k:Int)) (cW x.q)=0→(jA (wA h) (cW x.q).toNat (m / 64)).length=(cW x.q).toNat:=hfree
      repeat' (first|(refine aG ?_;first|(refine dA ?_;refine aI (aX one_124 rfl (cG own_here) hc) ?_)|(refine bK ?_;refine aI (fR kW rfl) ?_)|(refine bH ?_;refine aI (cU kK siz_124 rfl rfl rfl hlt) ?_)|refine pu9 ?_)|refine mV ?_|(refine aJ rfl rfl rfl ?_ ?_<;>intro hq<;>try exact no9)|(refine aA rfl ?_ ?_<;>intro hq<;>try exact no9))
      refine bT (id:=14) _ mixed (List.Sublist.cons_cons _ (List.Sublist.cons_cons _ (List.nil_sublist _))) ?_;refine gt9 0 ?_;refine gt9 1 ?_;refine gt9 2 ?_;refine gt9 3 ?_;refine gt9 4 ?_;refine gt9 5 ?_;refine gt9 6 ?_;refine gt9 7 ?_;refine bM (i:=8) rfl ?_;(first|refine aO rfl (aK ⟨Tryz.call136⟩ rfl (hCo _)) ?_|(refine aM rfl ⟨Tryz.call135⟩ rfl bD rfl (hTk _) ?_;rintro v V4 Pb2 hV4 ⟨rfl,hPg2⟩));refine bM (i:=9) rfl ?_;(first|refine aO rfl (aK ⟨Tryz.call136⟩ rfl (hCo _)) ?_|(refine aM rfl ⟨Tryz.call135⟩ rfl bD rfl (hTk _) ?_;rintro v V4 Pb2 hV4 ⟨rfl,hPg2⟩));refine gt9 10 ?_;refine bC (by kernel_rfl) vl9 vl9 cC ?_
      have hids:=hPg.ids hPg2
      by_cases hf:gA room a.M (5+(k:Int)) (cW x.q)=0
      · have hfr:=hfree hf
        rw [hco,Int.toNat_natCast] at hfr
        have hFr:=fun V9 (h9:VLe V V9)=>free_c V9 p h s D (Pb2 ++ T) hD (by omega) ⟨h5,hb5,fun i g l e=>((hk.lo i g l e).le h9),fun i g t e=>⟨eM (hk.bx i g t e).1,(hk.bx i g t e).2.le h9⟩,hk.inj⟩ (2 * e) (by omega)
        rw [hlen] at hFr
        generalize hfp:jA (wA h) (2 * e) (m / 64)=fl at *
        rw [hf]
        repeat' (first|(refine aG ?_;first|(refine aC ?_;(first|refine aO rfl (aK ⟨Tryz.call136⟩ rfl (hCo' _)) ?_|(refine aM rfl ⟨Tryz.call137⟩ rfl (cT lG) rfl (hFr _ vl9) ?_;rintro v V5 B5 hV5 ⟨⟨A5,n5,c5,rfl,hnc5,hI5⟩,rfl⟩;obtain rfl:n5=2 * e:=by rw [←hI5.1];exact hfr)))|(refine bK ?_;(refine aI (q_quo rfl rfl (by omega)) ?_;rw [hquo]))|refine pu9 ?_)|refine bV ?_|fail)
        have he2:2≤e:=by omega
        have hS0:=ints_takeH hI5 (k:=e) (by omega)
        have hS1:=ints_dropH hI5 (k:=e) (by omega) hnc5
        rw [show 2 * e - e=e by omega] at hS1
        obtain⟨b1,o1,z1,hA1,hz1,hc1⟩:=hS1.at_ (k:=0) (by omega)
        refine bT (id:=19) _ mixed (List.nil_sublist _) ?_;refine gt9 0 ?_;refine gt9 1 ?_;refine gt9 2 ?_;refine gt9 3 ?_;refine gO 4 rfl rfl (q_slice_n3 und_25 siz_3 rfl rfl rfl (Nat.le_refl _) (by omega)) ?_;refine gt9 5 ?_;refine gt9 6 ?_;refine gO 7 rfl rfl (q_slice_lE (l:=e) und_25 siz_3 rfl rfl (by omega) hA1 (show 2 * e - e=e by omega) rfl) ?_;refine gO 8 rfl rfl (q_buildA bld_two rfl rfl) ?_;refine gO 9 rfl rfl (bx_132_1_2_4 rfl rfl rfl) ?_;refine bM (i:=10) rfl ?_;(refine gw_box rfl rfl rfl rfl ?_;intro γ);refine gt9 11 ?_;refine bC (by kernel_rfl) vl9 vl9 cC ?_
        revert γ;intro γt
        repeat' (first|refine gx9 ?_|fail)
        have u1:=hx.M.1.1.cells vC
        have u2:=hx.M.2.2.1.1.cells vC
        have u3:=hx.lo.2.2
        have w1:=ones_of9 prC (fun _=>rfl) x.M.us
        have w2:=ones_of9 prC (fun _=>rfl) x.M.gs
        have l1:=hx.M.1.1.1
        have l2:=hx.M.2.2.1.1.1
        have l3:=hx.lo.1
        obtain⟨k1,k2,k3,k4⟩:=hcfo.few
        have hCr:=fun V9 (h9:VLe V3 V9)=>Cred_v V9 pb b I hok (hBV.le h9)
        have hbc:b.c=x.c:=by rw [←hbn];rfl
        rw [hbc] at hCr
        have hV35:VLe V3 V5:=vl9
        have hV5':VLe V V5:=hV03.trans hV35
        refine eK (fun F V' L'=>∃ (A1 A2 A3 Ac:Option Addr) (c1 c2 c3 nc kc:Nat) (L1 L2 L3:List Box),VLe V5 V'∧cX A1 (0+x.M.n) c1 190 3 ([] ++ x.M.us.flatMap prC) L1∧cX A2 (0+x.M.m) c2 190 3 ([] ++ x.M.gs.flatMap prC) L2∧cX A3 (0+x.m) c3 3 1 ([] ++ x.lo.map (.int .i64)) L3∧eD V' Ac nc x.c.xs∧L1 ++ (L2 ++ (L3 ++ (⟨γt,132,[.slice A1 (0+x.M.n) c1,.slice A2 (0+x.M.m) c2,.int .i64 x.c.u,.int .i64 x.c.g,.slice Ac nc kc,.int .i64 x.c.d,.int .i64 x.q,.slice A3 (0+x.m) c3,.pointer (some ⟨pb,0,none⟩),.slice A5 e e,.slice (some ⟨b1,o1,none⟩) e (c5 - e),.int .i64 0,.int .i64 1]⟩ :: ⟨γ3,29,cfC x⟩ :: ⟨p,127,hC h⟩ :: (D ++ (Pb2 ++ T)))))=L'∧F=[(0,.pointer (some ⟨p,0,none⟩)),(8,.pointer (some ⟨pb,0,none⟩)),(9,.int .i64 k),(12,.pointer (some ⟨γt,0,none⟩))]) ?_ ?_
        · refine bT (id:=20) _ mixed (List.Sublist.cons _ (List.Sublist.cons_cons _ (List.nil_sublist _))) ?_;refine gt9 0 ?_;refine gt9 1 ?_;refine gt9 2 ?_;refine gt9 3 ?_;refine gt9 5 ?_;refine gt9 6 ?_;refine gt9 7 ?_;refine gt9 10 ?_;refine gt9 12 ?_;refine gt9 13 ?_;refine gt9 14 ?_;refine gt9 15 ?_;refine bM (i:=4) rfl ?_;(refine bQ rfl und_22 inf_190 rfl rfl rfl cX.nil eL (nE (u1.le vl9)) cI (by omega) rfl rfl ?_;intro A6 c6 L6 hr6);refine bM (i:=8) rfl ?_;(refine bQ rfl und_22 inf_190 rfl rfl rfl cX.nil eL (nE (u2.le vl9)) cI (by omega) rfl rfl ?_;intro A7 c7 L7 hr7);refine gt9 9 ?_;refine bM (i:=11) rfl ?_;(refine aS rfl ⟨Tryz.call138⟩ rfl rfl (hCr _ vl9) ?_;rintro v V9 hV9 ⟨A9,n9,k9,rfl,hI9⟩);refine bM (i:=16) rfl ?_;(refine bQ rfl und_25 inf_3 rfl rfl rfl cX.nil eL (nE (u3.le vl9)) cI (by omega) rfl rfl ?_;intro A8 c8 L8 hr8);refine gt9 17 ?_;refine gt9 18 ?_;refine gt9 19 ?_;refine bM (i:=20) rfl ?_;(refine aP rfl siz_29 rfl rfl rfl rfl (by exact gL rfl) (by first|((repeat (first|exact cF.hereE spl8 (Nat.le_of_ble_eq_true rfl)|apply cF.next|apply gS));done)|fail) rfl ?_);refine bC (by kernel_rfl) vl9 vl9 cC ?_
          all_goals exact fP _ ⟨A6,A7,A8,A9,c6,c7,c8,n9,k9,L6,L7,L8,vl9,hr6,hr7,hr8,hI9.le vl9,rfl,rfl⟩ bG sp9
        rintro F V6 L' ⟨A1,A2,A3,Ac,c1,c2,c3,nc,kc,L1,L2,L3,hV6,hr1,hr2,hr3,hIc,rfl,rfl⟩
        have hmem:∀ x9∈iG (⟨p,127,hC h⟩ :: (D ++ (Pb ++ T))),x9∈(⟨p,127,hC h⟩ :: (D ++ (Pb2 ++ T)):List Box).map Box.g:=by
          intro x9 hx9
          have e9:iG (⟨p,127,hC h⟩ :: (D ++ (Pb ++ T)))=(⟨p,127,hC h⟩ :: (D ++ (Pb2 ++ T)):List Box).map Box.g:=by
            simp only [iG,List.map_cons,List.map_append,hids]
          rw [←e9];exact hx9
        have cp1:=hr1.cap
        have cp2:=hr2.cap
        have cp3:=hr3.cap
        refine at_shutG hr1 bD ?_ ?_
        · intro x9 hx9;have h9:=List.mem_cons_of_mem γt (List.mem_cons_of_mem γ3 (hmem x9 hx9));repeat (first|exact h9|apply sC)
        intro V7 hV7 hc7
        refine at_shutG hr2 bD ?_ ?_
        · intro x9 hx9;have h9:=List.mem_cons_of_mem γt (List.mem_cons_of_mem γ3 (hmem x9 hx9));repeat (first|exact h9|apply sC)
        intro V8 hV8 hc8
        refine at_shutG hr3 bD ?_ ?_
        · intro x9 hx9;have h9:=List.mem_cons_of_mem γt (List.mem_cons_of_mem γ3 (hmem x9 hx9));repeat (first|exact h9|apply sC)
        intro V9 hV9 hc9
        simp only [List.nil_append]
        have hV59:VLe V5 V9:=hV6.trans (hV7.trans (hV8.trans hV9))
        have hV39:VLe V3 V9:=hV35.trans hV59
        have hV09:VLe V V9:=hV5'.trans hV59
        rw [List.nil_append] at hc7 hc8 hc9
        have hmf:=fun z (hz:z∈fl)=>nP (us:=wA h) (n:=2 * e) (bl:=m / 64) (by rw [hfp];exact hz)
        obtain⟨te,te1,te2,te3,te4,te5⟩:∃ te:TE,teC te=[.slice A1 (0+x.M.n) c1,.slice A2 (0+x.M.m) c2,.int .i64 x.c.u,.int .i64 x.c.g,.slice Ac nc kc,.int .i64 x.c.d,.int .i64 x.q,.slice A3 (0+x.m) c3,.pointer (some ⟨pb,0,none⟩),.slice A5 e e,.slice (some ⟨b1,o1,none⟩) e (c5 - e),.int .i64 0,.int .i64 1]∧TenV V9 te∧teA te=rV a s (cfA x) (ls.map LN.n)∧te.s0=fl.take e∧te.s1=fl.drop e:=by
          refine⟨⟨⟨⟨A1,0+x.M.n,c1,x.M.us,A2,0+x.M.m,c2,x.M.gs⟩,x.c,Ac,nc,kc,x.q,A3,0+x.m,c3,x.lo⟩,pb,b,I,A5,e,e,fl.take e,some ⟨b1,o1,none⟩,e,c5 - e,fl.drop e,0,1⟩,rfl,⟨⟨⟨⟨fB.of_cells (hc7.le (hV8.trans hV9)) vC (show x.M.us.length=0+x.M.n by omega) (show 0+x.M.n≤maxLen by unfold maxLen;omega),hx.M.1.2⟩,cp1,⟨fB.of_cells (hc8.le hV9) vC (show x.M.gs.length=0+x.M.m by omega) (show 0+x.M.m≤maxLen by unfold maxLen;omega),hx.M.2.2.1.2⟩,cp2⟩,hIc.le (hV7.trans (hV8.trans hV9)),⟨show x.lo.length=0+x.m by omega,show 0+x.m≤maxLen by unfold maxLen;omega,hc9⟩⟩,⟨hcfo.us,hcfo.gs,hcfo.u,hcfo.g,hcfo.d,hcfo.xs,hcfo.q,hcfo.lo,⟨by show 0+x.M.n≤1000;omega,by show 0+x.M.m≤1000;omega,by have:=hIc.1;have:=hx.xs.1;show nc≤1000;omega,by show 0+x.m≤1000;omega⟩⟩,hok,hBV.le hV39,hS0.le hV59,(by rw [←hA1];exact hS1.le hV59),(fun z hz=>by have:=hmf z (List.mem_of_mem_take hz);omega),(fun z hz=>by have:=hmf z (List.mem_of_mem_drop hz);omega),⟨by show e≤1000;omega,by show e≤1000;omega⟩⟩,?_,rfl,rfl⟩
          show (⟨cfA x,b,fl.take e,fl.drop e,0,1⟩:TA)=rV a s (cfA x) (ls.map LN.n)
          have e9:jA (eO a) (cW (cfA x).q).toNat (s.bs.length / 64)=fl:=by rw [←ea,←used_abs h a.M,hlen,←hfp,show cW (cfA x).q=((2 * e:Nat):Int) from hco,Int.toNat_natCast]
          have e8:((cfA x).q+1).toNat=e:=by show (x.q+1).toNat=e;omega
          unfold rV
          rw [e9,e8,←hbn];rfl
        have hz1m:=hmf z1 (by have:=List.mem_of_getElem? hz1;exact List.mem_of_mem_drop this)
        have hc19:=eZ hV59 hc1
        have hd1:=hd.write (a:=z1 * 64) (l:=[0]) (k:=1) (by decide)
        have hW1:=fun V9=>pG V9 h.d s D hD hd (by omega) (by omega) (z1 * 64) [0] (by omega) (by decide)
        have hbl:(eG b).length≤200000:=by
          have h1:=bytes_few (b.ls.headD pnZ)
          have h2:=(eW hok.c).2.2.2.1
          unfold eG credB
          simp only [List.length_append,List.length_cons,List.length_nil,uA,b16_len];omega
        have ez1:te.s1.headD 0=z1:=by
          rw [te5]
          cases hdr:fl.drop e with
          | nil=>rw [hdr] at hz1;cases hz1
          | cons y l=>rw [hdr] at hz1;simp only [List.getElem?_cons_zero] at hz1;injection hz1
        have hput:=addBoxA_put (x:=cfA x) hdA (hnA ls hn1) (show jH (cfA x).cf (ls.map LN.n)=0 from hcf) (by omega:¬aW a.bx=5) (by rw [hfA,hfk,hrm];exact hf)
        rw [hfA,hfk,hrm,←te3] at hput
        have hputx:({ a with M:=fO room a.M (5+(k:Int)) (cW (cfA x).q) }:HA)=fZ h (fO room a.M (5+(k:Int)) (cW x.q)):=by rw [←ea];rfl
        rw [hputx] at hput
        have hq1:(teA te).s1.headD 0=z1:=ez1
        have hq2:(teA te).s0=fl.take e:=te4
        have hq3:(teA te).b=b:=by rw [te3];exact hbn
        have hp1:=putTA_1 (a:=fZ h (fO room a.M (5+(k:Int)) (cW x.q))) (s:=s) (k:=k) (t:=teA te)
        have hp2:=putTA_2 (a:=fZ h (fO room a.M (5+(k:Int)) (cW x.q))) (s:=s) (k:=k) (t:=teA te)
        have hp3:=putTA_3 (a:=fZ h (fO room a.M (5+(k:Int)) (cW x.q))) (s:=s) (k:=k) (t:=teA te)
        rw [hq1] at hp1 hp2 hp3
        rw [hq2,hq3] at hp2 hp3
        generalize hs1:cD s (z1 * 64) [0]=s1 at *
        generalize hf1:cZ s (z1 * 64) [0]=f1 at *
        have hb0:0+1+[Value.bool true].length≤(hC h).length:=by unfold hC;simp only [List.length_cons,List.length_nil];omega
        have hsetO:spl (hC h) (0+1) [Value.bool true]=hC { h with off:=true }:=rfl
        repeat' (first|refine gx9 ?_|fail)
        refine bT (id:=21) _ mixed (List.Sublist.cons_cons _ (List.Sublist.cons _ (List.Sublist.cons_cons _ (List.nil_sublist _)))) ?_;refine gt9 0 ?_;refine gt9 1 ?_;refine gt9 2 ?_;refine gt9 3 ?_;refine gt9 4 ?_;refine gt9 5 ?_;refine gt9 6 ?_;refine gO 7 rfl rfl (cU (m:=1) uE siz_25 rfl rfl rfl (by decide)) ?_;refine gt9 8 ?_;refine gt9 9 ?_;refine gt9 10 ?_;refine gt9 11 ?_;refine bM (i:=12) rfl ?_;(refine aM rfl ⟨Tryz.call126⟩ rfl bD rfl (hW1 _) ?_;rintro v V10 D1 hV10 ⟨rfl,hD1⟩);refine gt9 13 ?_;refine bC (by kernel_rfl) vl9 vl9 cC ?_
        have hV910:VLe V9 V10:=vl9
        by_cases hz:f1=0
        · replace hp2:=hp2 hz
          replace hp3:=hp3 hz
          have hPl:=fun V (h9:VLe V10 V)=>hplaces_c V A5 e e (fl.take e) (hS0.le (hV59.trans (hV910.trans h9))) (fun z hz=>by have:=hmf z (List.mem_of_mem_take hz);omega) (by omega)
          have hBy:=fun V (h9:VLe V10 V)=>Bytes_v V pb b I hok (hBV.le (hV39.trans (hV910.trans h9)))
          have hpb:∀ a∈(fl.take e).map (fun z:Int=>z * 64),0≤a∧a+((64:Nat):Int)≤(m:Int):=by
            intro a ha
            obtain⟨z,hz,rfl⟩:=List.mem_map.1 ha
            have:=hmf z (List.mem_of_mem_take hz)
            omega
          have hSp:=fun V A c (h9:eD V A e ((fl.take e).map (· * 64)))=>spread_c V p h.d (hC h).tail s1 D1 hD1 hd1 (by omega) (by omega) A e c _ h9 (fun a ha=>by have:=hpb a ha;omega) (by omega) 64 (by decide) 1 (by decide) (eG b) (by omega)
          have hd2:=sG (ps:=(fl.take e).map (· * 64)) (size:=64) (seq:=1) (t:=eG b) hd1
          generalize hr2:dF ((fl.take e).map (· * 64)) 64 1 (eG b) s1=r2 at *
          repeat' (first|(refine aG ?_;first|(refine aC ?_;(first|(refine aS rfl ⟨Tryz.call133⟩ rfl rfl (hPl _ vl9) ?_;rintro v V11 hV11 ⟨A10,c10,rfl,hI10⟩)|refine aO rfl (aK ⟨Tryz.call18⟩ rfl (hBy _ vl9)) ?_|(refine aM rfl ⟨Tryz.call132⟩ rfl (cT (cT dZ)) rfl (hSp _ _ _ hI10) ?_;rintro v V12 B12 hV12 ⟨rfl,D2,rfl,hD2⟩;simp only [List.cons_append])))|(refine bK ?_;refine aI (oV rfl) ?_)|(refine bH ?_;refine aI (cU (m:=0) uE siz_25 rfl rfl rfl (by decide)) ?_)|refine pu9 ?_)|refine gx9 ?_|refine iR [22,23] rfl ?_|(refine aA rfl ?_ ?_<;>intro hq<;>try exact no9))
          have hVe:VLe V9 V12:=vl9
          have hV0e:VLe V V12:=hV09.trans hVe
          by_cases hz2:r2.2=0
          · replace hp3:=hp3 hz2
            have hset:spl (hC h) (0+10+k * 1) [.pointer (some ⟨γt,0,none⟩)]=hC (addM h k γt te):=hC_set h5
            have hfit:0+10+k * 1+[Value.pointer (some ⟨γt,0,none⟩)].length≤(hC h).length:=by
              unfold hC loV bxV
              simp only [List.length_cons,List.length_nil,List.length_append,List.length_map];omega
            repeat' (first|(refine aG ?_;first|(refine bH ?_;refine aI (cU kK siz_124 rfl rfl rfl hlt) ?_)|(refine cY ?_;refine aP rfl siz_124 rfl rfl rfl rfl (by exact gL rfl) (cF.next _ _ _ _ _ _ (cF.next _ _ _ _ _ _ (cF.hereE hset hfit))) rfl ?_)|refine pu9 ?_)|refine gx9 ?_|refine iR [24,27] rfl ?_|(refine aA rfl ?_ ?_<;>intro hq<;>try exact no9))
            rw [←te1]
            refine gc_nodup ?_
            intro hnd
            have hnew:∀ (i g:Nat) (t:TE),h.bx[i]?=some (some (g,t))→¬g=γt:=by
              intro i g t e9 eg
              have hm9:=own_mem (hk.bx i g t e9).1
              rw [List.map_cons,List.nodup_cons] at hnd
              refine hnd.1 (List.mem_cons_of_mem _ (List.mem_cons_of_mem _ (sC (sC ?_))))
              rw [←eg];exact hm9
            refine gc_order sp_hostG ?_
            have hkT:HOk V12 (⟨γt,132,teC te⟩ :: T) (addM h k γt te):=by
              refine⟨h5,by show (h.bx.set k _).length=5;rw [List.length_set];exact hb5,fun i g l e9=>(hk.lo i g l e9).le hV0e,fun i g t e9=>?_,fun i j g t t' e8 e9=>?_⟩
              have e9:(h.bx.set k (some (γt,te)))[i]?=some (some (g,t)):=e9
              by_cases hik:i=k
              · subst hik
                rw [List.getElem?_set_self (by omega)] at e9
                injection e9 with e9;injection e9 with e9;injection e9 with e91 e92
                subst e91;subst e92
                exact⟨own_here,te2.le hVe⟩
              · rw [List.getElem?_set_ne (by omega)] at e9
                exact⟨cG (hk.bx i g t e9).1,(hk.bx i g t e9).2.le hV0e⟩
              · have a8:(h.bx.set k (some (γt,te)))[i]?=some (some (g,t)):=e8
                clear e8
                have a9:(h.bx.set k (some (γt,te)))[j]?=some (some (g,t')):=e9
                clear e9
                by_cases hik:i=k
                · by_cases hjk:j=k
                  · omega
                  · subst hik
                    rw [List.getElem?_set_self (by omega)] at a8
                    rw [List.getElem?_set_ne (by omega)] at a9
                    injection a8 with a8;injection a8 with a8;injection a8 with a81 e82
                    exact absurd a81.symm (hnew j g t' a9)
                · rw [List.getElem?_set_ne (by omega)] at a8
                  by_cases hjk:j=k
                  · subst hjk
                    rw [List.getElem?_set_self (by omega)] at a9
                    injection a9 with a9;injection a9 with a9;injection a9 with a91 e92
                    exact absurd a91.symm (hnew i g t a8)
                  · rw [List.getElem?_set_ne (by omega)] at a9
                    exact hk.inj i j g t t' a8 a9
            have hkN:HOk V12 (Pb2 ++ (⟨γt,132,teC te⟩ :: T)) (addM h k γt te):=hkT.skip _
            have hlm:((fl.take e).map (fun z:Int=>z * 64)).length≤65:=by rw [List.length_map,List.length_take];omega
            have hCm:=fun V9 (h9:VLe V12 V9)=>vQ V9 p (addM h k γt te) r2.1 D2 _ hD2 hd2 (by omega) (by omega) (hkN.le h9) ht ⟨hs.1,by have:=hs.2;show h.seq≤1000000000;omega⟩
            have habs:fZ (addM h k γt te) (fO room a.M (5+(k:Int)) (cW x.q))=({ fZ h (fO room a.M (5+(k:Int)) (cW x.q)) with bx:=(fZ h (fO room a.M (5+(k:Int)) (cW x.q))).bx.set k (some (teA te)) }:HA):=abs_addM h a.M _ k γt te
            have hcp:=mE (addM h k γt te) (fO room a.M (5+(k:Int)) (cW x.q)) r2.1
            rw [habs] at hcp
            have hcom:=fun V9 D9 (h9:VLe V12 V9) (hD9:gC h.d (jU (addM h k γt te) r2.1).1 D9)=>eY.com (V:=V9) (p:=p) (m:=m) (h:=addM h k γt te) (s:=r2.1) (D:=D9) (Pb:=Pb2) (M:=fO room a.M (5+(k:Int)) (cW x.q)) habs hD9 (by rw [hrr];exact hPg2.b) (hkT.le h9)
            by_cases hz3:(jU (addM h k γt te) r2.1).2=0
            · rw [hcp] at hz3
              rw [finA_f hz3] at hp3
              rw [hcp,hz3] at hCm
              repeat' (first|(refine aG ?_;first|(refine aC ?_;(refine aM rfl ⟨Tryz.call127⟩ rfl bD rfl (hCm _ vl9) ?_;rintro v V13 B13 hV13 ⟨rfl,D3,rfl,hD3⟩))|refine pu9 ?_)|refine bV ?_|fail)
              all_goals
                (refine bJ Tryz.results66 (aB rfl) (aB rfl) (List.Sublist.refl _) ?_)
                rw [hput,hp3]
                exact⟨congrArg (fun e=>Value.tuple #[.int .i64 (k:Int),e]) bO.symm,hcom _ _ hV13 (by rw [hcp];exact hD3)⟩
            · rw [hcp] at hz3
              rw [finA_b hz3] at hp3
              rw [hcp] at hCm
              repeat' (first|(refine aG ?_;first|(refine aC ?_;(refine aM rfl ⟨Tryz.call127⟩ rfl bD rfl (hCm _ vl9) ?_;rintro v V13 B13 hV13 ⟨rfl,D3,rfl,hD3⟩))|refine pu9 ?_)|refine bS ?_|(refine aA rfl ?_ ?_<;>intro hq<;>try exact no9))
              all_goals
                (refine bJ Tryz.results66 (aB rfl) (aB rfl) (List.Sublist.refl _) ?_)
                rw [hput,hp3]
                exact⟨rfl,hcom _ _ hV13 (by rw [hcp];exact hD3)⟩
          · replace hp2:=hp2 hz2
            repeat' (first|(refine aG ?_;first|(refine cY ?_;refine aP rfl siz_4 rfl rfl rfl rfl (by exact gL rfl) (cF.next _ _ _ _ _ _ (cF.next _ _ _ _ _ _ (cF.hereE hsetO hb0))) rfl ?_)|refine pu9 ?_)|refine bS ?_|(refine aA rfl ?_ ?_<;>intro hq<;>try exact no9))
            all_goals
              (refine bJ Tryz.results66 (aB rfl) (aB rfl) (List.Sublist.cons _ (List.Sublist.cons _ (List.Sublist.refl _))) ?_)
              rw [hput,hp2]
              exact⟨rfl,{ h with off:=true },D2,Pb2,T,rfl,rfl,rfl,hD2,by rw [hrr];exact hPg2.b,(hk.le hV0e).same rfl rfl⟩
        · replace hp1:=hp1 hz
          have hV0e:VLe V V10:=hV09.trans hV910
          repeat' (first|(refine aG ?_;first|(refine bK ?_;refine aI (oV rfl) ?_)|(refine cY ?_;refine aP rfl siz_4 rfl rfl rfl rfl (by exact gL rfl) (cF.next _ _ _ _ _ _ (cF.next _ _ _ _ _ _ (cF.hereE hsetO hb0))) rfl ?_)|refine pu9 ?_)|refine bS ?_|(refine aA rfl ?_ ?_<;>intro hq<;>try exact no9))
          all_goals
            (refine bJ Tryz.results66 (aB rfl) (aB rfl) (List.Sublist.cons _ (List.Sublist.cons _ (List.Sublist.refl _))) ?_)
            rw [hput,hp1]
            exact⟨rfl,{ h with off:=true },D1,Pb2,T,rfl,rfl,rfl,hD1,by rw [hrr];exact hPg2.b,(hk.le hV0e).same rfl rfl⟩
      · rw [takeM_bad hf] at hPg2
        have hbad:=addBoxA_take (x:=cfA x) hdA (hnA ls hn1) (show jH (cfA x).cf (ls.map LN.n)=0 from hcf) (by omega:¬aW a.bx=5) (by rw [hfA,hfk,hrm];exact hf)
        rw [hfA,hfk,hrm] at hbad
        repeat' (first|(refine aG ?_;refine pu9 ?_)|refine bS ?_|(refine aA rfl ?_ ?_<;>intro hq<;>try exact no9))
        all_goals
          (refine bJ Tryz.results66 (aB rfl) (aB rfl) (List.Sublist.cons _ (List.Sublist.refl _)) ?_)
          rw [hbad]
          exact⟨rfl,h,D,Pb2,T,rfl,rfl,ea,hD,by rw [hrr];exact hPg2.b,hk.le vl9⟩
  · obtain rfl:k=5:=by omega
    have hf5:aW h.bx=5:=by rw [hkf,List.drop_of_length_le (by omega)];rfl
    have hbad:=addBoxA_many (x:=cfA x) hdA (hnA ls hn1) (show jH (cfA x).cf (ls.map LN.n)=0 from hcf) (hfA.trans hf5)
    repeat' (first|(refine aG ?_;refine pu9 ?_)|refine mV ?_|fail)
    all_goals
      (refine bJ Tryz.results66 (aB rfl) (aB rfl) (List.Sublist.cons _ (List.Sublist.refl _)) ?_)
      rw [hbad]
      exact⟨congrArg (fun e=>Value.tuple #[.int .i64 0,e]) (bW (show ¬(2:Int)=0 by decide)).symm,hB0.le hV03⟩
end
section
attribute [local irreducible] AtQ GoC GoL GoW QO QP Fn RV bF aD VLe bU bA
end
section
section
variable {P : Program} {B : Base} {N : Nat} {Q : Exit → Act → World → Prop} {k : List kC} {F : List (Nat × Value)} {V : aE} {L L' : List Box} {c : Code}
end
attribute [local irreducible] AtQ GoC GoL GoW QO QP Fn RV bF aD VLe bU bA
end
section
def okB (two:Rd→Int×Rd) (upper:Bool) (l:List UInt8):Bool:=!(nodeG two 7 ⟨l,false⟩).2.bad && ((nodeG two 7 ⟨l,false⟩).2.l.isEmpty && decide (dD upper (nodeG two 7 ⟨l,false⟩).1=0))
attribute [local irreducible] AtQ GoC GoL GoW QO QP Fn RV bF aD VLe bU bA
end
section
theorem okB_lay {upper:Bool} {n:PN} (h:dD true n=0):okB twoR upper (qT n)=decide (dD upper n=0)∧nodeG twoR 7 ⟨qT n,false⟩=(n,⟨[],false⟩):=by
  have:=nodeG_of twoR_is 7 n [] (treeF_reads h)
  rw [List.append_nil] at this
  refine⟨?_,this⟩
  unfold okB;rw [this];rfl
end
section
def at8 (l:List UInt8) (i:Nat):Int:=((l[i]?.getD 0).toNat:Int)
def at16 (l:List UInt8) (i:Nat):Int:=at8 l i * 256+at8 l (i+1)
def loadK (l:List UInt8):Nat:=(l[5]?.getD 0).toNat
def loadXs (l:List UInt8) (k:Nat):List Int:=(List.range k).map fun i=>at16 l (6+2 * i)
def loadC (l:List UInt8):CR:=⟨at16 l 0,at16 l 2,at8 l 4,loadXs l (loadK l)⟩
def loadT (l:List UInt8):List UInt8:=l.drop (6+2 * loadK l)
def loadN (l:List UInt8):PN:=(nodeG twoR 7 ⟨loadT l,false⟩).1
theorem flat16_get:∀ (xs:List Int) (i:Nat) (n:Int) (r:List UInt8),xs[i]?=some n→(xs.flatMap b16 ++ r)[2 * i]?=some (b8 (n / 256))∧(xs.flatMap b16 ++ r)[2 * i+1]?=some (b8 n)
  | [],i,n,r,h=>by simp at h
  | x :: xs,0,n,r,h=>by
    simp at h;subst h
    exact⟨rfl,rfl⟩
  | x :: xs,i+1,n,r,h=>by
    rw [List.getElem?_cons_succ] at h
    have e:(x :: xs).flatMap b16 ++ r=b8 (x / 256) :: b8 x :: (xs.flatMap b16 ++ r):=rfl
    rw [e,show 2 * (i+1)=2 * i+1+1 by omega,show 2 * i+1+1+1=(2 * i+1)+1+1 by omega,List.getElem?_cons_succ,List.getElem?_cons_succ,List.getElem?_cons_succ,List.getElem?_cons_succ]
    exact flat16_get xs i n r h
theorem b16_back {n:Int} (h:0≤n∧n≤65535):((b8 (n / 256)).toNat:Int) * 256+((b8 n).toNat:Int)=n:=by
  rw [b8_nat,b8_nat];omega
theorem wP (b:BX):eG b=b8 (b.c.u / 256) :: b8 b.c.u :: b8 (b.c.g / 256) :: b8 b.c.g :: b8 b.c.d :: b8 (b.c.xs.length:Int) :: (b.c.xs.flatMap b16 ++ eE (upB b)):=by
  unfold eG credB upB;rfl
theorem loadK_box {b:BX} (hok:bI b):loadK (eG b)=b.c.xs.length:=by
  have hz:=eW hok.c
  have:((b8 (b.c.xs.length:Int)).toNat:Int)=(b.c.xs.length:Int):=b8_of (by omega)
  rw [wP]
  show (b8 (b.c.xs.length:Int)).toNat=_
  omega
theorem load_back {b:BX} (hok:bI b):loadC (eG b)=b.c:=by
  obtain⟨h1,h2,h3,h4,h5⟩:=eW hok.c
  have hx:=gF_ids _ _ h5
  have e1:at16 (eG b) 0=b.c.u:=by rw [wP];exact b16_back h1
  have e2:at16 (eG b) 2=b.c.g:=by rw [wP];exact b16_back h2
  have e3:at8 (eG b) 4=b.c.d:=by rw [wP];exact b8_of (by omega)
  have e4:loadXs (eG b) (loadK (eG b))=b.c.xs:=by
    rw [loadK_box hok]
    refine List.ext_getElem? fun i=>?_
    unfold loadXs
    by_cases hi:i<b.c.xs.length
    · rw [List.getElem?_map,List.getElem?_range hi,List.getElem?_eq_getElem hi]
      obtain⟨f1,f2⟩:=flat16_get b.c.xs i b.c.xs[i] (eE (upB b)) (List.getElem?_eq_getElem hi)
      have g1:(eG b)[6+2 * i]?=some (b8 (b.c.xs[i] / 256)):=by
        rw [wP,show 6+2 * i=2 * i+1+1+1+1+1+1 by omega]
        simp only [List.getElem?_cons_succ];exact f1
      have g2:(eG b)[6+2 * i+1]?=some (b8 b.c.xs[i]):=by
        rw [wP,show 6+2 * i+1=(2 * i+1)+1+1+1+1+1+1 by omega]
        simp only [List.getElem?_cons_succ];exact f2
      show some (at16 (eG b) (6+2 * i))=some b.c.xs[i]
      unfold at16 at8
      rw [g1,g2]
      exact congrArg some (b16_back (hx _ (List.getElem_mem hi)))
    · rw [List.getElem?_eq_none (by simp;omega),List.getElem?_eq_none (by omega)]
  unfold loadC
  rw [e1,e2,e3,e4]
theorem drop_box (b:BX):(eG b).drop (6+2 * b.c.xs.length)=eE (upB b):=by
  have e:eG b=(credB b.c ++ b.c.xs.flatMap b16) ++ eE (upB b):=rfl
  rw [e,List.drop_left' (by rw [List.length_append,uA];rfl)]
theorem bI.up0 {b:BX} (hok:bI b):dD true (upB b)=0:=by
  have hl:=hok.l1
  cases hb:b.ls with
  | nil=>rw [hb] at hl;simp at hl
  | cons n0 t=>unfold upB;rw [hb];exact hok.up n0 (by rw [hb];rfl)
theorem loadT_box {b:BX} (hok:bI b):loadT (eG b)=qT (upB b):=by
  unfold loadT
  rw [loadK_box hok,drop_box]
  unfold eE
  rw [if_pos hok.up0]
theorem loadN_box {b:BX} (hok:bI b):loadN (eG b)=upB b:=by
  unfold loadN
  rw [loadT_box hok,(okB_lay (upper:=true) hok.up0).2]
end
section
structure pV (s:DS) (m:Nat):Prop where
  off:s.off=false
  len:s.bs.length=m
def Out (m:Nat) (r:DS×Int):Prop:=(r.2=0∧pV r.1 m)∨(r.2=16∧r.1.off=true∧r.1.bs.length=m)
theorem pV.write {s:DS} {m:Nat} (h:pV s m) {a:Int} {l:List UInt8} (ha:0≤a) (hl:a+l.length≤m):Out m (cD s a l,cZ s a l):=by
  have h0:lO s a l.length=0:=dFault_ok h.off (by rw [h.len];omega)
  have hlen:=h.len
  have hp:=vS s a.toNat l (by omega)
  have e1:cD s a l=dPut s a.toNat l:=by unfold cD;rw [if_neg (not_not_intro h0)]
  have e2:cZ s a l=if mO s l.length=true then 16 else 0:=by unfold cZ;rw [if_neg (not_not_intro h0)]
  unfold Out
  rw [e1,e2]
  by_cases hs:mO s l.length=true
  · rw [if_pos hs]
    exact .inr ⟨rfl,hs,by rw [hp];exact hlen⟩
  · rw [if_neg hs]
    exact .inl ⟨rfl,⟨by show mO s l.length=false;simpa using hs,by rw [hp];exact hlen⟩⟩
theorem spreadK_out {size m:Nat} {all:List UInt8} (hs:1≤size):∀ (ps:List Int) (i:Nat) (s:DS),pV s m→(∀ a∈ps,0≤a∧a+size≤m)→Out m (fX size all ps i s)
  | [],_,s,h,_=>.inl ⟨rfl,h⟩
  | a :: ps,i,s,h,hp=>by
    obtain⟨h1,h2⟩:=hp a (by simp)
    obtain⟨t1,t2⟩:=toW_in (i:=i) (all:=all) hs h1 h2
    by_cases he:all.length≤i * size
    · rw [nZ he];exact .inl ⟨rfl,h⟩
    · rcases h.write t1 t2 with ⟨w1,w2⟩|⟨w1,w2⟩
      · rw [nL he w1]
        exact spreadK_out hs ps (i+1) _ w2 fun b hb=>hp b (by simp [hb])
      · have w1:cZ s (toW size all a i).1 (toW size all a i).2=16:=w1
        rw [oJ he (by rw [w1];decide)]
        exact .inr ⟨w1,w2⟩
theorem spread_out {size m:Nat} {ps:List Int} {seq:Int} {t:List UInt8} {s:DS} (hs:1≤size) (h:pV s m) (hn:ps≠[]) (hp:∀ a∈ps,0≤a∧a+size≤m):Out m (dF ps size seq t s):=by
  obtain⟨p0,pt,rfl⟩:∃ a l,ps=a :: l:=by
    cases ps with
    | nil=>exact absurd rfl hn
    | cons a l=>exact⟨a,l,rfl⟩
  obtain⟨h1,h2⟩:=hp p0 (by simp)
  unfold dF
  have e:(p0 :: pt).headD 0=p0:=rfl
  rw [e]
  rcases h.write (a:=p0) (l:=[0]) h1 (by simp only [List.length_cons,List.length_nil];omega) with ⟨w1,w2⟩|⟨w1,w2⟩
  · have w1:cZ s p0 [0]=0:=w1
    rw [if_neg (not_not_intro w1)]
    rcases spreadK_out (all:=allP seq t) hs (p0 :: pt) 0 _ w2 hp with ⟨k1,k2⟩|⟨k1,k2⟩
    · rw [if_neg (not_not_intro k1)]
      exact k2.write h1 (by simp only [List.length_cons,List.length_nil];omega)
    · rw [if_pos (by rw [k1];decide)]
      exact .inr ⟨k1,k2⟩
  · have w1:cZ s p0 [0]=16:=w1
    rw [if_pos (by rw [w1];decide)]
    exact .inr ⟨w1,w2⟩
theorem layD_out {m:Nat} {all:List UInt8}:∀ (ps:List Int) (i:Nat) (s:DS),pV s m→(∀ a∈ps,0≤a∧a+64≤m)→Out m (oG all ps i s)
  | [],_,s,h,_=>.inl ⟨rfl,h⟩
  | a :: ps,i,s,h,hp=>by
    obtain⟨h1,h2⟩:=hp a (by simp)
    have hl:=pL (size:=64) (i:=i) (all:=all)
    rw [oG]
    rcases h.write (a:=a) (l:=iF 64 all i) h1 (by omega) with ⟨w1,w2⟩|⟨w1,w2⟩
    · have w1:cZ s a (iF 64 all i)=0:=w1
      rw [if_neg (not_not_intro w1)]
      exact layD_out ps (i+1) _ w2 fun b hb=>hp b (by simp [hb])
    · have w1:cZ s a (iF 64 all i)=16:=w1
      rw [if_pos (by rw [w1];decide)]
      exact .inr ⟨w1,w2⟩
theorem spA_out {m:Nat} {a:HA} {s:DS} (h:pV s m) (h12:12800≤m) (ht:a.turn=0∨a.turn=1):Out m (spA a s) :=
  spread_out (by decide) h (by simp) (by intro z hz;rw [List.mem_singleton] at hz;omega)
structure CT where
  lo:List (Option PN)
  bx:List (Option (CA×BX))
def ctA (a:HA):CT:=⟨a.lo.map (Option.map LA.n),a.bx.map (Option.map fun t=>(t.x,t.b))⟩
def loAtC (c:CT) (n:Int):Option PN:=if 0≤n∧n<5 then (c.lo[n.toNat]?).join else none
def qE (c:CT) (n:Int):Option (CA×BX):=if 0≤n∧n<5 then (c.bx[n.toNat]?).join else none
def nodesC (c:CT):List Int→List PN→Option (List PN)
  | [],acc=>some acc
  | n :: l,acc=>match loAtC c n with
    | none=>none
    | some x=>nodesC c l (if 3<acc.length then acc else acc ++ [x])
def sumC (c:CT):Int:=gW (ocP bB 0 c.lo)+gW (ocP (fun t:CA×BX=>cW t.1.q) 5 c.bx)
def heldC (c:CT) (n:Int):Bool:=c.bx.any fun o=>match o with
  | none=>false
  | some t=>t.1.lo.any fun z=>decide (z=n)
structure CO where
  c:CT
  f:Int
  n:Int
def mP (room:Int) (c:CT) (x:CA):CO :=
  match nodesC c x.lo [] with
  | none=>⟨c,5,0⟩
  | some ls =>
    if ¬jH x.cf ls=0 then ⟨c,jH x.cf ls,0⟩
    else if aW c.bx=5 then ⟨c,2,0⟩
    else if room - sumC c<cW x.q then ⟨c,13,0⟩
    else ⟨{ c with bx:=c.bx.set (aW c.bx) (some (x,newB x.us x.gs x.c x.q ls)) },0,(aW c.bx:Int)⟩
def eC (room:Int) (c:CT) (n:PN):CO :=
  if ¬dD false n=0 then ⟨c,dD false n,0⟩
  else if aW c.lo=5 then ⟨c,2,0⟩
  else if room - sumC c<bB n then ⟨c,13,0⟩
  else ⟨{ c with lo:=c.lo.set (aW c.lo) (some n) },0,(aW c.lo:Int)⟩
def uM (room:Int) (c:CT) (n:Int):CO:=match qE c n with
  | none=>⟨c,5,0⟩
  | some t=>eC room c (flatB t.2)
def lE (c:CT) (n:Int):CO:=match qE c n with
  | none=>⟨c,5,0⟩
  | some _=>⟨{ c with bx:=c.bx.set n.toNat none },0,0⟩
def iB (c:CT) (n:Int):CO:=match loAtC c n with
  | none=>⟨c,5,0⟩
  | some _=>if heldC c n=true then ⟨c,15,0⟩ else ⟨{ c with lo:=c.lo.set n.toNat none },0,0⟩
noncomputable def doC (c:CT) (n:Int) (l:CL):CO×TD:=match qE c n with
  | none=>(⟨c,5,0⟩,tdZ)
  | some t=>if ¬(doP t.2 l).2.2=0 then (⟨c,(doP t.2 l).2.2,0⟩,tdZ) else (⟨{ c with bx:=c.bx.set n.toNat (some (t.1,(doP t.2 l).1)) },0,0⟩,(doP t.2 l).2.1)
theorem loAtC_ct (a:HA) (n:Int):loAtC (ctA a) n=(iO a n).map LA.n:=by
  unfold loAtC iO
  split
  · show ((a.lo.map _)[n.toNat]?).join=_
    rw [List.getElem?_map]
    cases a.lo[n.toNat]? with
    | none=>rfl
    | some o=>cases o<;>rfl
  · rfl
theorem sW (a:HA) (n:Int):qE (ctA a) n=(iS a n).map fun t=>(t.x,t.b):=by
  unfold qE iS
  split
  · show ((a.bx.map _)[n.toNat]?).join=_
    rw [List.getElem?_map]
    cases a.bx[n.toNat]? with
    | none=>rfl
    | some o=>cases o<;>rfl
  · rfl
theorem nodesC_ct (a:HA):∀ (l:List Int) (acc:List PN),nodesC (ctA a) l acc=iX a l acc
  | [],acc=>rfl
  | n :: l,acc=>by
    rw [nodesC,iX,loAtC_ct]
    cases iO a n with
    | none=>rfl
    | some x=>exact nodesC_ct a l _
theorem first_map {α β:Type} (f:α→β):∀ (l:List (Option α)),aW (l.map (Option.map f))=aW l
  | []=>rfl
  | none :: l=>rfl
  | some x :: l=>by show aW (l.map _)+1=aW l+1;rw [first_map f l]
theorem oc_map {α β:Type} (g:α→β) (f:β→Int):∀ (l:List (Option α)) (i:Nat),ocP f i (l.map (Option.map g))=ocP (fun x=>f (g x)) i l
  | [],_=>rfl
  | none :: l,i=>by show [] ++ ocP f (i+1) (l.map _)=[] ++ _;rw [oc_map g f l]
  | some x :: l,i=>by show [((i:Int),f (g x))] ++ ocP f (i+1) (l.map _)=[((i:Int),f (g x))] ++ _;rw [oc_map g f l]
theorem WF.sumC {bl:Nat} {a:HA} (h:WF bl a):sumC (ctA a)=((eO a).length:Int):=by
  rw [←h.sum,sumP_perm h.pool]
  unfold Go.Proofs.YtejkmomfpidnbacGreat.sumC jZ ctA
  rw [oc_map,oc_map,lD]
theorem heldC_ct (a:HA) (n:Int):heldC (ctA a) n=oO a n:=by
  unfold heldC oO ctA
  rw [List.any_map]
  congr 1
  funext o
  cases o<;>rfl
theorem comA_ct (a:HA) (s:DS):ctA (comA a s)=ctA a:=by unfold comA;split<;>rfl
theorem tA {α β:Type} (f:α→β) (l:List (Option α)) (k:Nat) (o:Option α):(l.set k o).map (Option.map f)=(l.map (Option.map f)).set k (o.map f):=List.map_set
def Off (m:Nat) (r:HO):Prop:=r.f=16∧r.n=0∧r.a.off=true∧r.s.off=true∧r.s.bs.length=m
def On (m:Nat) (r:HO) (o:CO):Prop:=r.a.off=false∧pV r.s m∧ctA r.a=o.c∧r.f=o.f∧r.n=o.n
theorem Off.of {m:Nat} {a:HA} {x:DS×Int} (h:Out m x) (h0:¬x.2=0):Off m ⟨{ a with off:=true },x.1,x.2,0⟩:=by
  rcases h with ⟨h1,_⟩|⟨h1,h2,h3⟩
  · exact absurd h1 h0
  · exact⟨h1,rfl,rfl,h2,h3⟩
theorem Out.live {m:Nat} {x:DS×Int} (h:Out m x) (h0:x.2=0):pV x.1 m:=by
  rcases h with ⟨_,h1⟩|⟨h1,_⟩
  · exact h1
  · omega
theorem On.stay {m:Nat} {a:HA} {s:DS} {f:Int} (ha:a.off=false) (hs:pV s m):On m ⟨a,s,f,0⟩ ⟨ctA a,f,0⟩:=⟨ha,hs,rfl,rfl,rfl⟩
theorem fin_out {m:Nat} {a:HA} {s:DS} {k:Int} {c:CT} (ha:a.off=false) (hs:pV s m) (h12:12800≤m) (ht:a.turn=0∨a.turn=1) (hc:ctA a=c):Off m (rK a s k)∨On m (rK a s k) ⟨c,0,k⟩:=by
  have h:=spA_out hs h12 ht
  by_cases hf:(spA a s).2=0
  · refine .inr ?_
    unfold rK
    refine⟨by unfold comA;rw [if_pos hf];exact ha,h.live hf,by rw [comA_ct];exact hc,hf,if_pos hf⟩
  · refine .inl ?_
    unfold rK comA
    rw [if_neg hf,if_neg hf]
    exact Off.of h hf
section
variable {K m : Nat} {a : HA} {s : DS}
theorem WF.slot {bl:Nat} {a:HA} (h:WF bl a) {m:Nat} (hm:bl=m / 64) {z:Int} (hz:z∈eO a):0≤z * 64∧z * 64+64≤m:=by
  have:=h.us z hz;omega
theorem free_slot {us:List Int} {n m:Nat} {z:Int} (hz:z∈jA us n (m / 64)):0≤z * 64∧z * 64+64≤m:=by
  have:=nP hz;omega
theorem addBox_out (hi:fI K m a s) (h12:12800≤m) (ha:a.off=false) (hs:pV s m) (x:CA):Off m (eQ a s x)∨On m (eQ a s x) (mP ((m:Int) / 64 - 200) (ctA a) x):=by
  have hw:=hi.wf ha
  have hd:¬eS a s=true:=by unfold eS;rw [ha,hs.off];decide
  unfold eQ mP
  rw [if_neg hd,nodesC_ct]
  cases hn:iX a x.lo [] with
  | none=>exact .inr (On.stay ha hs)
  | some ls =>
    dsimp only
    by_cases hc:jH x.cf ls=0
    · rw [if_neg (not_not_intro hc),if_neg (not_not_intro hc)]
      have e1:aW (ctA a).bx=aW a.bx:=first_map _ _
      rw [e1]
      by_cases hf:aW a.bx=5
      · rw [if_pos hf,if_pos hf];exact .inr (On.stay ha hs)
      rw [if_neg hf,if_neg hf]
      obtain⟨_,_,_,_,hq,_⟩:=qL hc
      have hq:1≤x.q∧x.q≤64:=hq
      have htk:=hw.take (room:=gU s) (who:=5+(aW a.bx:Int)) (n:=cW x.q) (hw.noBx hf) (by unfold cW;omega)
      rw [hi.room,←hw.sumC] at htk
      rw [hi.room]
      by_cases hr:(m:Int) / 64 - 200 - sumC (ctA a)<cW x.q
      · rw [if_pos hr] at htk ⊢
        rw [htk,if_pos (by decide)]
        exact .inr (On.stay ha hs)
      rw [if_neg hr] at htk ⊢
      rw [if_neg (not_not_intro htk)]
      have ht0:gA (gU s) a.M (5+(aW a.bx:Int)) (cW x.q)=0:=by rw [hi.room];exact htk
      obtain⟨g1,g2⟩:=newTA_ok hi ha hn hc hf ht0
      have hb:(rV a s x ls).b=newB x.us x.gs x.c x.q ls:=rfl
      have hx:(rV a s x ls).x=x:=rfl
      generalize rV a s x ls=t at *
      have l0:=g1.s0
      have l1:=g1.s1
      have hm0:∀ z∈t.s0,0≤z * 64∧z * 64+64≤m:=fun z hz=>free_slot (us:=eO a) (n:=(cW x.q).toNat) (by rw [←g2];exact List.mem_append_left _ hz)
      have hm1:∀ z∈t.s1,0≤z * 64∧z * 64+64≤m:=fun z hz=>free_slot (us:=eO a) (n:=(cW x.q).toNat) (by rw [←g2];exact List.mem_append_right _ hz)
      have hz1:t.s1.headD 0∈t.s1:=by
        cases h9:t.s1 with
        | nil=>rw [h9,hx] at l1;simp at l1;omega
        | cons z l=>simp
      have o1:=hs.write (a:=t.s1.headD 0 * 64) (l:=[0]) (hm1 _ hz1).1 (by have:=(hm1 _ hz1).2;simp only [List.length_cons,List.length_nil];omega)
      unfold xJ
      by_cases f1:cZ s (t.s1.headD 0 * 64) [0]=0
      · rw [if_neg (not_not_intro f1)]
        have o2:=spread_out (size:=64) (ps:=t.s0.map (· * 64)) (seq:=1) (t:=eG t.b) (by decide) (o1.live f1) (by intro h9;have:=congrArg List.length h9;rw [List.length_map] at this;rw [hx] at l0;simp only [List.length_nil] at this;omega) (by intro z hz;obtain⟨y,hy,rfl⟩:=List.mem_map.1 hz;exact hm0 y hy)
        by_cases f2:(dF (t.s0.map (· * 64)) 64 1 (eG t.b) (cD s (t.s1.headD 0 * 64) [0])).2=0
        · rw [if_neg (not_not_intro f2)]
          refine fin_out ha (o2.live f2) h12 hi.lim.turn ?_
          unfold ctA
          simp only [tA,Option.map_some,hx,hb]
        · rw [if_pos f2]
          exact .inl (Off.of o2 f2)
      · rw [if_pos f1]
        exact .inl (Off.of o1 f1)
    · rw [if_pos hc,if_pos hc]
      exact .inr (On.stay ha hs)
theorem addLower_out (hi:fI K m a s) (h12:12800≤m) (ha:a.off=false) (hs:pV s m) (n:PN):Off m (dS a s n)∨On m (dS a s n) (eC ((m:Int) / 64 - 200) (ctA a) n):=by
  have hw:=hi.wf ha
  have hd:¬eS a s=true:=by unfold eS;rw [ha,hs.off];decide
  unfold dS eC
  rw [if_neg hd]
  by_cases hc:dD false n=0
  · rw [if_neg (not_not_intro hc),if_neg (not_not_intro hc)]
    have e1:aW (ctA a).lo=aW a.lo:=first_map _ _
    rw [e1]
    by_cases hf:aW a.lo=5
    · rw [if_pos hf,if_pos hf];exact .inr (On.stay ha hs)
    rw [if_neg hf,if_neg hf]
    have htk:=hw.take (room:=gU s) (who:=(aW a.lo:Int)) (n:=bB n) (hw.noLo hf) (sD n).1
    rw [hi.room,←hw.sumC] at htk
    rw [hi.room]
    by_cases hr:(m:Int) / 64 - 200 - sumC (ctA a)<bB n
    · rw [if_pos hr] at htk ⊢
      rw [htk,if_pos (by decide)]
      exact .inr (On.stay ha hs)
    rw [if_neg hr] at htk ⊢
    rw [if_neg (not_not_intro htk)]
    have o2:=layD_out (all:=eE n) ((uZ a s n).bl.map (· * 64)) 0 s hs (by
      intro z hz
      obtain⟨y,hy,rfl⟩:=List.mem_map.1 hz
      have hy:y∈jA (eO a) (bB n).toNat (s.bs.length / 64):=hy
      rw [hi.len] at hy
      exact free_slot hy)
    have e2:(uZ a s n).n=n:=rfl
    unfold putLA
    rw [e2]
    by_cases f2:(oG (eE n) ((uZ a s n).bl.map (· * 64)) 0 s).2=0
    · rw [if_neg (not_not_intro f2)]
      refine fin_out ha (o2.live f2) h12 hi.lim.turn ?_
      unfold ctA
      simp only [tA]
      rfl
    · rw [if_pos f2]
      exact .inl (Off.of o2 f2)
  · rw [if_pos hc,if_pos hc]
    exact .inr (On.stay ha hs)
theorem seal_out (hi:fI K m a s) (h12:12800≤m) (ha:a.off=false) (hs:pV s m) (n:Int):Off m (mA a s n)∨On m (mA a s n) (uM ((m:Int) / 64 - 200) (ctA a) n):=by
  have hd:¬eS a s=true:=by unfold eS;rw [ha,hs.off];decide
  unfold mA uM
  rw [if_neg hd,sW]
  cases hb:iS a n with
  | none=>exact .inr (On.stay ha hs)
  | some t=>exact addLower_out hi h12 ha hs _
theorem tenFA_live (ha:a.off=false) (hs:pV s m) (n:Int):iZ a s n=if (iS a n).isNone=true then 5 else 0:=by
  unfold iZ eS;rw [ha,hs.off];rfl
theorem lowFA_live (ha:a.off=false) (hs:pV s m) (n:Int):kY a s n=if (iO a n).isNone=true then 5 else 0:=by
  unfold kY eS;rw [ha,hs.off];rfl
theorem dropBox_out (hi:fI K m a s) (h12:12800≤m) (ha:a.off=false) (hs:pV s m) (n:Int):Off m (fM a s n)∨On m (fM a s n) (lE (ctA a) n):=by
  unfold fM lE
  rw [tenFA_live ha hs,sW]
  cases hb:iS a n with
  | none=>exact .inr (On.stay ha hs)
  | some t =>
    refine fin_out ha hs h12 hi.lim.turn ?_
    unfold ctA
    simp only [tA]
    rfl
theorem dropLower_out (hi:fI K m a s) (h12:12800≤m) (ha:a.off=false) (hs:pV s m) (n:Int):Off m (dP a s n)∨On m (dP a s n) (iB (ctA a) n):=by
  unfold dP iB
  rw [lowFA_live ha hs,loAtC_ct,heldC_ct]
  cases hb:iO a n with
  | none=>exact .inr (On.stay ha hs)
  | some t =>
    show Off m (if oO a n=true then _ else _)∨On m (if oO a n=true then _ else _) (if oO a n=true then _ else _)
    by_cases hh:oO a n=true
    · rw [if_pos hh,if_pos hh];exact .inr (On.stay ha hs)
    · rw [if_neg hh,if_neg hh]
      refine fin_out ha hs h12 hi.lim.turn ?_
      unfold ctA
      simp only [tA]
      rfl
theorem box_same {x:CF} {ls:List PN} {b b':BX} (h:InB x ls b) (h':InB x ls b') (e:eG b'=eG b):b'=b:=by
  have e1:=load_back h.ok
  have e2:=load_back h'.ok
  have e3:=loadN_box h.ok
  have e4:=loadN_box h'.ok
  rw [e] at e2 e4
  have hl:=h.ok.l1
  have hl':=h'.ok.l1
  have hu:=h.us;have hg:=h.gs;have hq:=h.q;have ht:=h.tl
  have hu':=h'.us;have hg':=h'.gs;have hq':=h'.q;have ht':=h'.tl
  have ec:b'.c=b.c:=e2.symm.trans e1
  have eu:upB b'=upB b:=e4.symm.trans e3
  have el:b'.ls=b.ls:=by
    cases hb:b.ls with
    | nil=>rw [hb] at hl;simp at hl
    | cons x0 t0 =>
      cases hb':b'.ls with
      | nil=>rw [hb'] at hl';simp at hl'
      | cons x1 t1 =>
        rw [hb] at ht;rw [hb'] at ht'
        have e5:upB b=x0:=by unfold upB;rw [hb];rfl
        have e6:upB b'=x1:=by unfold upB;rw [hb'];rfl
        have ht:t0=ls:=ht
        have ht':t1=ls:=ht'
        rw [←e5,←e6,eu,ht,ht']
  obtain⟨u,g,c,q,l⟩:=b
  obtain⟨u',g',c',q',l'⟩:=b'
  simp only at hu hg hq hu' hg' hq' ec el
  subst hu;subst hg;subst hq
  rw [hu',hg',hq',ec,el]
theorem set_self {α:Type} {l:List α} {k:Nat} {x:α} (h:l[k]?=some x):l.set k x=l:=by
  apply List.ext_getElem?
  intro i
  by_cases hik:k=i
  · subst hik;rw [List.getElem?_set_self (List.getElem?_eq_some_iff.1 h).1,h]
  · rw [List.getElem?_set_ne hik]
theorem do_out (hi:fI K m a s) (ha:a.off=false) (hs:pV s m) (n:Int) (l:CL):(Off m (doA a s n l).1∧(doA a s n l).2=tdZ)∨(On m (doA a s n l).1 (doC (ctA a) n l).1∧(doA a s n l).2=(doC (ctA a) n l).2):=by
  have hw:=hi.wf ha
  have hd:¬eS a s=true:=by unfold eS;rw [ha,hs.off];decide
  unfold doA doC
  rw [if_neg hd,sW]
  cases hb:iS a n with
  | none=>exact .inr ⟨On.stay ha hs,rfl⟩
  | some t =>
    obtain⟨k,rfl,hk,hbk⟩:=qI hb
    dsimp only [Option.map]
    by_cases he:(doP t.b l).2.2=0
    · rw [if_neg (not_not_intro he),if_neg (not_not_intro he)]
      have hT:=hw.bx t (List.mem_of_getElem? hbk)
      obtain⟨ls,_,hcf,hin⟩:=hT.cfg
      have hck:(ctA a).bx[k]?=some (some (t.x,t.b)):=by
        show (a.bx.map _)[k]?=_
        rw [List.getElem?_map,hbk];rfl
      rw [Int.toNat_natCast]
      by_cases hbe:eG (doP t.b l).1=eG t.b
      · rw [if_pos hbe]
        have e:=box_same hin (hin.step l) hbe
        refine .inr ⟨⟨ha,hs,?_,rfl,rfl⟩,rfl⟩
        show ctA a={ ctA a with bx:=(ctA a).bx.set k (some (t.x,(doP t.b l).1)) }
        rw [e,set_self hck]
      rw [if_neg hbe]
      have hq:=hT.q
      have l0:=hT.s0
      have l1:=hT.s1
      have hsl:((jX t).length:Int)=t.x.q+1:=by unfold jX;split<;>assumption
      have hmem:∀ z∈jX t,z∈eO a:=fun z hz=>by
        unfold eO
        refine List.mem_append_right _ (List.mem_flatMap.2 ⟨some t,List.mem_of_getElem? hbk,?_⟩)
        show z∈t.s0 ++ t.s1
        unfold jX at hz
        split at hz
        · exact List.mem_append_right _ hz
        · exact List.mem_append_left _ hz
      have o2:=spread_out (size:=64) (ps:=(jX t).map (· * 64)) (seq:=t.seq+1) (t:=eG (doP t.b l).1) (by decide) hs (by intro h9;have:=congrArg List.length h9;rw [List.length_map] at this;simp only [List.length_nil] at this;omega) (by intro z hz;obtain⟨y,hy,rfl⟩:=List.mem_map.1 hz;exact hw.slot rfl (hmem y hy))
      by_cases f2:(dF ((jX t).map (· * 64)) 64 (t.seq+1) (eG (doP t.b l).1) s).2=0
      · rw [if_neg (not_not_intro f2)]
        refine .inr ⟨⟨ha,o2.live f2,?_,rfl,rfl⟩,rfl⟩
        show ctA (doneA a k t (doP t.b l).1)=_
        unfold ctA doneA
        simp only [tA]
        rfl
      · rw [if_pos f2]
        exact .inl ⟨Off.of o2 f2,rfl⟩
    · rw [if_pos he,if_pos he]
      exact .inr ⟨On.stay ha hs,rfl⟩
end
end
section
theorem firstF_in:∀ (l:List Int),lV l=0∨lV l∈l
  | []=>.inl rfl
  | e :: l=>by
    rw [lV]
    split
    · exact .inr (by simp)
    · rcases firstF_in l with h|h
      · exact .inl h
      · exact .inr (List.mem_cons_of_mem _ h)
theorem cfgF_le (x:CF) (ls:List PN):0≤jH x ls∧jH x ls≤11:=by
  have h1:=mapF_bd x.M.us
  have h2:=mapF_bd x.M.gs
  have h3:=credF_bd x.c.u x.c.g x.c.d x.c.xs
  have key1:∀ e∈yL x,0≤e∧e≤11:=fun e he=>by
    unfold yL at he
    rcases List.mem_append.1 he with he|he
    · simp only [List.mem_cons,List.not_mem_nil,or_false] at he
      rcases he with rfl|rfl|rfl<;>omega
    · split at he
      · simp only [List.mem_cons,List.not_mem_nil,or_false] at he;subst he;decide
      · cases he
  have key:∀ e∈cfgL x ls,0≤e∧e≤11:=fun e he=>by
    unfold cfgL at he
    split at he
    · rcases List.mem_append.1 he with he|he
      · exact key1 e he
      · simp only [List.mem_cons,List.not_mem_nil,or_false] at he;subst he;decide
    · rcases List.mem_append.1 he with he|he
      · rcases List.mem_append.1 he with he|he
        · exact key1 e he
        · obtain⟨y,_,rfl⟩:=List.mem_map.1 he
          have:=treeF_bdz false y;omega
      · split at he
        · simp only [List.mem_cons,List.not_mem_nil,or_false] at he;subst he;decide
        · cases he
  unfold jH
  rcases firstF_in (cfgL x ls) with h|h
  · rw [h];decide
  · exact key _ h
structure TP where
  kind:Int
  who:Int
  c:CL
  x:CA
  n:PN
noncomputable def gN (a:HA) (s:DS) (t:TP):HO×TD :=
  if t.kind=0 then doA a s t.who t.c
  else if t.kind=1 then (eQ a s t.x,tdZ)
  else if t.kind=2 then (fM a s t.who,tdZ)
  else if t.kind=3 then (dS a s t.n,tdZ)
  else if t.kind=4 then (mA a s t.who,tdZ)
  else if t.kind=5 then (dP a s t.who,tdZ)
  else (⟨a,s,0,0⟩,tdZ)
noncomputable def kM (room:Int) (c:CT) (t:TP):CO×TD :=
  if t.kind=0 then doC c t.who t.c
  else if t.kind=1 then (mP room c t.x,tdZ)
  else if t.kind=2 then (lE c t.who,tdZ)
  else if t.kind=3 then (eC room c t.n,tdZ)
  else if t.kind=4 then (uM room c t.who,tdZ)
  else if t.kind=5 then (iB c t.who,tdZ)
  else (⟨c,0,0⟩,tdZ)
section
variable {K m : Nat} {a : HA} {s : DS}
theorem did_inv (hi:fI K m a s) (t:TP):fI (K+1) m (gN a s t).1.a (gN a s t).1.s:=by
  unfold gN
  split
  · exact do_inv hi
  split
  · exact addBox_inv hi
  split
  · exact dropBox_inv hi
  split
  · exact addLower_inv hi
  split
  · exact seal_inv hi
  split
  · exact dropLower_inv hi
  · exact hi.mono (Nat.le_succ K)
theorem did_out (hi:fI K m a s) (h12:12800≤m) (ha:a.off=false) (hs:pV s m) (t:TP):(Off m (gN a s t).1∧(gN a s t).2=tdZ)∨(On m (gN a s t).1 (kM ((m:Int) / 64 - 200) (ctA a) t).1∧(gN a s t).2=(kM ((m:Int) / 64 - 200) (ctA a) t).2):=by
  have z:∀ {r:HO} {o:CO},Off m r∨On m r o→(Off m r∧tdZ=tdZ)∨(On m r o∧tdZ=tdZ):=fun h=>h.imp (fun h=>⟨h,rfl⟩) (fun h=>⟨h,rfl⟩)
  unfold gN kM
  split
  · exact do_out hi ha hs _ _
  split
  · exact z (addBox_out hi h12 ha hs _)
  split
  · exact z (dropBox_out hi h12 ha hs _)
  split
  · exact z (addLower_out hi h12 ha hs _)
  split
  · exact z (seal_out hi h12 ha hs _)
  split
  · exact z (dropLower_out hi h12 ha hs _)
  · exact .inr ⟨On.stay ha hs,rfl⟩
end
structure Pw (m:Nat) (a:HA) (s:DS):Prop where
  off:a.off=false
  pw:xQ s m
theorem Pw.live {m:Nat} {a:HA} {s:DS} (h:Pw m a s):pV s m:=⟨h.pw.off,h.pw.len⟩
theorem rW {s:DS} {a:Int} {l:List UInt8} (h:s.cut = -1) (ho:s.off=false):(cD s a l).cut = -1∧(cD s a l).off=false:=by
  unfold cD
  split
  · exact⟨h,ho⟩
  · unfold dPut
    refine⟨by show (if 0≤s.cut then _ else s.cut) = -1;rw [if_neg (by omega)];exact h,?_⟩
    show mO s l.length=false
    unfold mO;rw [h];simp
theorem cut_spreadK {size:Nat} {all:List UInt8}:∀ (ps:List Int) (i:Nat) (s:DS),s.cut = -1→s.off=false→(fX size all ps i s).1.cut = -1∧(fX size all ps i s).1.off=false
  | [],_,s,h,ho=>⟨h,ho⟩
  | a :: ps,i,s,h,ho=>by
    obtain⟨h1,h2⟩:=rW (a:=(toW size all a i).1) (l:=(toW size all a i).2) h ho
    by_cases he:all.length≤i * size
    · rw [nZ he];exact⟨h,ho⟩
    · by_cases hf:cZ s (toW size all a i).1 (toW size all a i).2=0
      · rw [nL he hf];exact cut_spreadK ps (i+1) _ h1 h2
      · rw [oJ he hf];exact⟨h1,h2⟩
theorem nM {size:Nat} {ps:List Int} {seq:Int} {t:List UInt8} {s:DS} (h:s.cut = -1) (ho:s.off=false):(dF ps size seq t s).1.cut = -1∧(dF ps size seq t s).1.off=false:=by
  obtain⟨h1,h2⟩:=rW (a:=ps.headD 0) (l:=[0]) h ho
  obtain⟨h3,h4⟩:=cut_spreadK (size:=size) (all:=allP seq t) ps 0 _ h1 h2
  unfold dF
  split
  · exact⟨h1,h2⟩
  · split
    · exact⟨h3,h4⟩
    · exact rW h3 h4
theorem cut_layD {all:List UInt8}:∀ (ps:List Int) (i:Nat) (s:DS),s.cut = -1→s.off=false→(oG all ps i s).1.cut = -1∧(oG all ps i s).1.off=false
  | [],_,s,h,ho=>⟨h,ho⟩
  | p :: ps,i,s,h,ho=>by
    obtain⟨h1,h2⟩:=rW (a:=p) (l:=iF 64 all i) h ho
    rw [oG]
    split
    · exact⟨h1,h2⟩
    · exact cut_layD ps (i+1) _ h1 h2
theorem cut_putLA {a:HA} {s:DS} {k:Nat} {l:LA} (h:s.cut = -1) (ho:s.off=false):(putLA a s k l).s.cut = -1∧(putLA a s k l).s.off=false:=by
  obtain⟨h1,h2⟩:=cut_layD (all:=eE l.n) (l.bl.map (· * 64)) 0 s h ho
  unfold putLA
  split
  · exact⟨h1,h2⟩
  · exact nM h1 h2
theorem cut_putTA {a:HA} {s:DS} {k:Nat} {t:TA} (h:s.cut = -1) (ho:s.off=false):(xJ a s k t).s.cut = -1∧(xJ a s k t).s.off=false:=by
  obtain⟨h1,h2⟩:=rW (a:=t.s1.headD 0 * 64) (l:=[0]) h ho
  obtain⟨h3,h4⟩:=nM (ps:=t.s0.map (· * 64)) (size:=64) (seq:=1) (t:=eG t.b) h1 h2
  unfold xJ
  split
  · exact⟨h1,h2⟩
  · split
    · exact⟨h3,h4⟩
    · exact nM h3 h4
theorem cut_addLower {a:HA} {s:DS} {n:PN} (h:s.cut = -1) (ho:s.off=false):(dS a s n).s.cut = -1∧(dS a s n).s.off=false:=by
  unfold dS
  (repeat' split)<;>first|exact⟨h,ho⟩|exact cut_putLA h ho
theorem cut_did {a:HA} {s:DS} {t:TP} (h:s.cut = -1) (ho:s.off=false):(gN a s t).1.s.cut = -1∧(gN a s t).1.s.off=false:=by
  unfold gN
  split
  · unfold doA
    split
    · exact⟨h,ho⟩
    · split
      · exact⟨h,ho⟩
      · split
        · exact⟨h,ho⟩
        · split
          · exact⟨h,ho⟩
          · split<;>exact nM h ho
  split
  · unfold eQ
    split
    · exact⟨h,ho⟩
    · split
      · exact⟨h,ho⟩
      · (repeat' split)<;>first|exact⟨h,ho⟩|exact cut_putTA h ho
  split
  · unfold fM
    split
    · exact⟨h,ho⟩
    · exact nM h ho
  split
  · exact cut_addLower h ho
  split
  · unfold mA
    split
    · exact⟨h,ho⟩
    · split
      · exact⟨h,ho⟩
      · exact cut_addLower h ho
  split
  · unfold dP
    split
    · exact⟨h,ho⟩
    · split
      · exact⟨h,ho⟩
      · exact nM h ho
  · exact⟨h,ho⟩
theorem did_pw {K m:Nat} {a:HA} {s:DS} (hi:fI K m a s) (h12:12800≤m) (hp:Pw m a s) (t:TP):Pw m (gN a s t).1.a (gN a s t).1.s∧ctA (gN a s t).1.a=(kM ((m:Int) / 64 - 200) (ctA a) t).1.c∧(gN a s t).1.f=(kM ((m:Int) / 64 - 200) (ctA a) t).1.f∧(gN a s t).1.n=(kM ((m:Int) / 64 - 200) (ctA a) t).1.n∧(gN a s t).2=(kM ((m:Int) / 64 - 200) (ctA a) t).2:=by
  obtain⟨c1,c2⟩:=cut_did (a:=a) (t:=t) hp.pw.cut hp.pw.off
  rcases did_out hi h12 hp.off hp.live t with ⟨⟨_,_,_,h4,_⟩,_⟩|⟨⟨h1,h2,h3,h4,h5⟩,h6⟩
  · rw [c2] at h4;cases h4
  · exact⟨⟨h1,c2,c1,h2.len⟩,h3,h4,h5,h6⟩
theorem jN (room:Int) (c:CT) (n:PN):0≤(eC room c n).f∧(eC room c n).f≤13∧((eC room c n).f=13→room - sumC c<bB n)∧((eC room c n).f=0→¬room - sumC c<bB n∧dD false n=0∧¬aW c.lo=5∧eC room c n=⟨{ c with lo:=c.lo.set (aW c.lo) (some n) },0,(aW c.lo:Int)⟩):=by
  have:=treeF_bdz false n
  unfold eC
  by_cases h1:dD false n=0
  · rw [if_neg (not_not_intro h1)]
    by_cases h2:aW c.lo=5
    · rw [if_pos h2];dsimp only;exact⟨by decide,by decide,fun h=>absurd h (by decide),fun h=>absurd h (by decide)⟩
    · rw [if_neg h2]
      by_cases h3:room - sumC c<bB n
      · rw [if_pos h3];dsimp only;exact⟨by decide,by decide,fun _=>h3,fun h=>absurd h (by decide)⟩
      · rw [if_neg h3];dsimp only;exact⟨by decide,by decide,fun h=>absurd h (by decide),fun _=>⟨h3,h1,h2,rfl⟩⟩
  · rw [if_pos h1]
    dsimp only
    exact⟨by omega,by omega,fun h=>by omega,fun h=>absurd h h1⟩
theorem wV (room:Int) (c:CT) (x:CA):0≤(mP room c x).f∧(mP room c x).f≤13∧((mP room c x).f=13→room - sumC c<cW x.q∧1≤x.q∧x.q≤64)∧((mP room c x).f=0→¬room - sumC c<cW x.q∧(1≤x.q∧x.q≤64)∧¬aW c.bx=5∧∃ ls,nodesC c x.lo []=some ls∧jH x.cf ls=0∧mP room c x=⟨{ c with bx:=c.bx.set (aW c.bx) (some (x,newB x.us x.gs x.c x.q ls)) },0,(aW c.bx:Int)⟩):=by
  unfold mP
  cases hn:nodesC c x.lo [] with
  | none=>dsimp only;exact⟨by decide,by decide,fun h=>absurd h (by decide),fun h=>absurd h (by decide)⟩
  | some ls =>
    dsimp only
    have:=cfgF_le x.cf ls
    by_cases h1:jH x.cf ls=0
    · rw [if_neg (not_not_intro h1)]
      obtain⟨_,_,_,_,hq,_⟩:=qL h1
      have hq:1≤x.q∧x.q≤64:=hq
      by_cases h2:aW c.bx=5
      · rw [if_pos h2];dsimp only;exact⟨by decide,by decide,fun h=>absurd h (by decide),fun h=>absurd h (by decide)⟩
      · rw [if_neg h2]
        by_cases h3:room - sumC c<cW x.q
        · rw [if_pos h3];dsimp only;exact⟨by decide,by decide,fun _=>⟨h3,hq⟩,fun h=>absurd h (by decide)⟩
        · rw [if_neg h3];dsimp only;exact⟨by decide,by decide,fun h=>absurd h (by decide),fun _=>⟨h3,hq,h2,ls,rfl,h1,rfl⟩⟩
    · rw [if_pos h1]
      dsimp only
      exact⟨by omega,by omega,fun h=>by omega,fun h=>absurd h h1⟩
theorem dropBoxC_f (c:CT) (n:Int):0≤(lE c n).f∧(lE c n).f≤5:=by
  unfold lE;split<;>exact⟨by dsimp only;decide,by dsimp only;decide⟩
theorem dropLowerC_f (c:CT) (n:Int):0≤(iB c n).f∧(iB c n).f≤15∧¬(iB c n).f=13:=by
  unfold iB
  split
  · exact⟨by dsimp only;decide,by dsimp only;decide,by dsimp only;decide⟩
  · split<;>exact⟨by dsimp only;decide,by dsimp only;decide,by dsimp only;decide⟩
theorem sealC_f (room:Int) (c:CT) (n:Int):0≤(uM room c n).f∧(uM room c n).f≤13:=by
  unfold uM
  split
  · exact⟨by dsimp only;decide,by dsimp only;decide⟩
  · have:=jN room c (flatB (by assumption:CA×BX).2)
    exact⟨(jN _ _ _).1,(jN _ _ _).2.1⟩
def BoxesOk (c:CT):Prop:=∀ n t,qE c n=some t→bI t.2
theorem WF.boxes {bl:Nat} {a:HA} (h:WF bl a):BoxesOk (ctA a):=fun n t ht=>by
  rw [sW] at ht
  cases hb:iS a n with
  | none=>rw [hb] at ht;cases ht
  | some y =>
    rw [hb] at ht
    injection ht with ht
    obtain⟨k,_,_,hk⟩:=qI hb
    obtain⟨ls,_,_,hin⟩:=(h.bx y (List.mem_of_getElem? hk)).cfg
    rw [←ht];exact hin.ok
theorem doC_f {c:CT} (h:BoxesOk c) (n:Int) (l:CL):0≤(doC c n l).1.f∧(doC c n l).1.f≤17∧¬(doC c n l).1.f=13∧¬(doC c n l).1.f=16:=by
  unfold doC
  cases hb:qE c n with
  | none=>exact⟨by dsimp only;decide,by dsimp only;decide,by dsimp only;decide,by dsimp only;decide⟩
  | some t =>
    have g:=good_do (h n t hb) l
    dsimp only
    split
    · exact⟨g.lo,g.hi,g.no.1,g.no.2⟩
    · exact⟨by dsimp only;decide,by dsimp only;decide,by dsimp only;decide,by dsimp only;decide⟩
theorem didC_f {c:CT} (h:BoxesOk c) (room:Int) (t:TP):0≤(kM room c t).1.f∧(kM room c t).1.f≤17∧¬(kM room c t).1.f=16:=by
  unfold kM
  split
  · have:=doC_f h t.who t.c;omega
  split
  · have:=wV room c t.x;dsimp only;omega
  split
  · have:=dropBoxC_f c t.who;dsimp only;omega
  split
  · have:=jN room c t.n;dsimp only;omega
  split
  · have:=sealC_f room c t.who;dsimp only;omega
  split
  · have:=dropLowerC_f c t.who;dsimp only;omega
  · exact⟨by dsimp only;decide,by dsimp only;decide,by dsimp only;decide⟩
theorem did_dead {a:HA} {s:DS} (h:eS a s=true) (t:TP):(gN a s t).1.a=a∧(gN a s t).1.s=s∧((gN a s t).1.f=16∨(gN a s t).1.f=0):=by
  unfold gN
  split
  · unfold doA;rw [if_pos h];exact⟨rfl,rfl,.inl rfl⟩
  split
  · unfold eQ;rw [if_pos h];exact⟨rfl,rfl,.inl rfl⟩
  split
  · unfold fM iZ;rw [if_pos h];exact⟨rfl,rfl,.inl rfl⟩
  split
  · unfold dS;rw [if_pos h];exact⟨rfl,rfl,.inl rfl⟩
  split
  · unfold mA;rw [if_pos h];exact⟨rfl,rfl,.inl rfl⟩
  split
  · unfold dP kY;rw [if_pos h];exact⟨rfl,rfl,.inl rfl⟩
  · exact⟨rfl,rfl,.inr rfl⟩
theorem did_f {K m:Nat} {a:HA} {s:DS} (hi:fI K m a s) (h12:12800≤m) (t:TP):0≤(gN a s t).1.f∧(gN a s t).1.f≤17:=by
  by_cases h:eS a s=true
  · obtain⟨_,_,h3⟩:=did_dead h t
    omega
  · obtain⟨h1,h2⟩:=qV h
    rcases did_out hi h12 h1 ⟨h2,hi.len⟩ t with ⟨⟨h4,_⟩,_⟩|⟨⟨_,_,_,h4,_⟩,_⟩
    · omega
    · rw [h4]
      have:=didC_f (hi.wf h1).boxes ((m:Int) / 64 - 200) t
      omega
end
section
attribute [local irreducible] AtQ GoC GoL GoW QO QP Fn RV bF aD VLe bU bA
theorem LightConfig_c (V:aE) (x:CF):Fn Tryz.prog 9 [cfV x] V fun v _=>∃ b:Bool,v=.bool b:=by
  (refine aN Tryz.func9 rfl Tryz.ntmps9 rfl ?_;intro w0)
  repeat' (first|(refine aG ?_;first|(refine al9 ?_;intro γ)|refine pu9 ?_)|refine bS ?_|(refine aJ rfl rfl rfl ?_ ?_<;>intro hq<;>try exact no9))
  all_goals
    (refine aR Tryz.results9 (aB rfl) ?_)
    exact⟨_,rfl⟩
def clLt (c:CL):Prop:=c.path.size≤200∧c.other.size≤200∧c.name.size≤60∧c.data.size≤300
theorem clLt.ok {c:CL} (h:clLt c):yI c:=⟨by have:=h.1;omega,by have:=h.2.1;omega,by have:=h.2.2.1;omega,by have:=h.2.2.2;omega⟩
theorem LightCalls_c (V:aE) (A:Option Addr) (n c:Nat) (xs:List CL) (h:fB V 7 clC A n xs):Fn Tryz.prog 11 [.slice A n c] V fun v _=>∃ b:Bool,v=.bool b∧(b=true→n≤40∧∀ y∈xs,clLt y):=by
  have hl:=h.1
  have hm:=h.max
  (refine aN Tryz.func11 rfl Tryz.ntmps11 rfl ?_;intro w0)
  repeat' (first|(refine aG ?_;refine pu9 ?_)|refine cM ?_|(refine aA rfl ?_ ?_<;>intro hq<;>try exact no9))
  · (refine aR Tryz.results11 (aB rfl) ?_)
    exact⟨_,rfl,fun h=>by cases h⟩
  · have hn40:n≤40:=by omega
    refine bZ (fun F V' L' m=>∃ k:Nat,V=V'∧[]=L'∧k≤n∧(∀ y∈xs.take k,clLt y)∧m=n - k∧F=[(0,.slice A n c),(3,.int .i64 (k:Int))]) (m:=n) ⟨0,rfl,rfl,Nat.zero_le _,by simp,by omega,rfl⟩ bG rfl sl9 ?_
    rintro F V' L' m ⟨k,rfl,rfl,hkn,hf,rfl,rfl⟩
    by_cases hlt:k<n
    · obtain⟨b,off,e,rfl,he,hc⟩:=h.at_ hlt
      have g1:=gM (j:=1) hc rfl
      have g2:=gM (j:=2) hc rfl
      have g3:=gM (j:=3) hc rfl
      have g4:=gM (j:=4) hc rfl
      repeat' (first|(refine aG ?_;refine pu9 ?_)|refine dL ?_|(refine aJ rfl rfl rfl ?_ ?_<;>intro hq<;>try exact no9)|(refine aA rfl ?_ ?_<;>intro hq<;>try exact no9))
      all_goals first
        | (refine kP ?_;(refine aR Tryz.results11 (aB rfl) ?_);exact⟨_,rfl,fun h=>by cases h⟩)
        | (refine xG ?_
           refine aY _ (n - (k+1)) ⟨k+1,rfl,rfl,by omega,fun y hy=>?_,rfl,rfl⟩ (by omega) bG sl9
           rw [List.take_add_one,he] at hy
           rcases List.mem_append.1 hy with h|h
           · exact hf y h
           · simp at h;subst h;exact⟨by omega,by omega,by omega,by omega⟩)
        | skip
    · repeat' (first|(refine aG ?_;refine pu9 ?_)|refine eT ?_|(refine aA rfl ?_ ?_<;>intro hq<;>try exact no9))
      all_goals
        (refine aR Tryz.results11 (aB rfl) ?_)
        exact⟨_,rfl,fun _=>⟨hn40,by rw [List.take_of_length_le (by omega)] at hf;exact hf⟩⟩
end
section
attribute [local irreducible] AtQ GoC GoL GoW QO QP Fn RV bF aD VLe bU bA
end
section
structure TU where
  kind:Int
  who:Int
  c:CL
  x:CF
  n:LN
  cut:Int
abbrev tuC (t:TU):List Value:=.int .i64 t.kind :: .int .i64 t.who :: (clC t.c ++ (cfC t.x ++ (lnC t.n ++ [.int .i64 t.cut])))
def yK (V:aE) (A:Option Addr) (n:Nat) (ts:List TU):Prop:=fB V 26 tuC A n ts∧∀ t∈ts,CfV V t.x∧aT V t.n
theorem yK.le {V V':aE} {A:Option Addr} {n:Nat} {ts:List TU} (h:yK V A n ts) (hv:VLe V V'):yK V' A n ts:=⟨h.1.le hv,fun t ht=>⟨(h.2 t ht).1.le hv,(h.2 t ht).2.le hv⟩⟩
theorem els_one {α:Type} {V:aE} {sz g:Nat} {f:α→List Value} {x:α} (h:aD V g 0 (f x)):fB V sz f (some ⟨g,0,none⟩) 1 [x] :=
  ⟨rfl,by unfold maxLen;omega,fun _=>⟨g,0,rfl,fun k y hy=>by
    cases k with
    | zero =>
      rw [List.getElem?_cons_zero] at hy
      injection hy with hy
      subst hy
      rw [Nat.zero_mul]
      exact h
    | succ k=>cases hy⟩⟩
theorem notf {b:Bool} (h:(!b)=false):b=true:=by simpa using h
attribute [local irreducible] AtQ GoC GoL GoW QO QP Fn RV bF aD VLe bU bA
attribute [local irreducible] FnB
theorem LightTurns_c (V:aE) (A:Option Addr) (n c:Nat) (ts:List TU) (h:yK V A n ts) (most:Int):Fn Tryz.prog 23 [.slice A n c,.int .i64 most] V fun v _=>∃ b:Bool,v=.bool b∧(b=true→(n:Int)≤most∧∀ y∈ts,clLt y.c):=by
  refine FnB.pure ?_
  have hl:=h.1.1
  have hm:=h.1.max
  (refine fn_enterH Tryz.func23 rfl Tryz.ntmps23 rfl ?_;intro w0 hfl0)
  by_cases hmost:(most:Int)<n
  · repeat' (first|(refine aG ?_;refine pu9 ?_)|refine bS ?_|(refine aA rfl ?_ ?_<;>intro hq<;>try exact no9))
    all_goals
      (refine aV Tryz.results23 (aB rfl) (List.nil_sublist _) ?_)
      exact⟨_,rfl,fun h=>by cases h⟩
  · repeat' (first|(refine aG ?_;refine pu9 ?_)|refine bS ?_|(refine aA rfl ?_ ?_<;>intro hq<;>try exact no9))
    refine cS ?_
    refine bZ (fun F V' L' m=>∃ k:Nat,VLe V V'∧[]=L'∧k≤n∧(∀ y∈ts.take k,clLt y.c)∧m=n - k∧F=[(0,.slice A n c),(5,.int .i64 (k:Int))]) (m:=n) ⟨0,vl9,rfl,Nat.zero_le _,by simp,by omega,rfl⟩ bG rfl sl9 ?_
    rintro F V' L' m ⟨k,hV',rfl,hkn,hf,rfl,rfl⟩
    by_cases hlt:k<n
    · obtain⟨b,off,y,hA,hy,hc⟩:=(h.1.le hV').at_ hlt
      subst hA
      obtain⟨hxv,hnv⟩:=h.2 y (List.mem_of_getElem? hy)
      have g1:=lZ hc 9 8 (ys:=cfC y.x) rfl
      have g2:=lZ hc 2 7 (ys:=clC y.c) rfl
      have g3:=lZ hc 17 8 (ys:=lnC y.n) rfl
      have hLi:=fun V9 (h9:VLe V V9)=>Light_c V9 y.n (hnv.le h9)
      repeat' (first|(refine aG ?_;first|(refine aC ?_;(first|(refine aS rfl ⟨Tryz.call9⟩ rfl rfl (LightConfig_c _ y.x) ?_;rintro v V1 hV1 ⟨b1,rfl⟩)|(refine aS rfl ⟨Tryz.call11⟩ rfl rfl (LightCalls_c _ (some ⟨γ,0,none⟩) 1 1 [y.c] (els_one (hc5.le vl9))) ?_;rintro v V6 hV6 ⟨b2,rfl,hb2⟩)|(refine aS rfl ⟨Tryz.call34⟩ rfl rfl (hLi _ vl9) ?_;rintro v V7 hV7 ⟨b3,rfl,hb3⟩)))|(refine dA ?_;(first|refine aI (iA agg_50 rfl (g3.le vl9) (by exact rfl)) ?_|refine aI (iA agg_46 rfl (g2.le vl9) (by exact rfl)) ?_))|(refine dC ?_;(first|(refine jE rfl hfl0 und_31 siz_46 zec_46 rfl rfl rfl rfl rfl rfl rfl ?_;intro γ V5 hV5 hc5)|(refine aZ rfl und_31 siz_46 zec_46 rfl rfl rfl rfl rfl rfl rfl ?_;intro γ)))|refine pu9 ?_)|refine dL ?_|(refine cN rfl rfl rfl ?_ ?_<;>intro hq)|(refine aA rfl ?_ ?_<;>intro hq<;>try exact no9)|(refine bY rfl ?_ ?_<;>intro hq))
      all_goals first
        | (refine kP ?_;(refine aV Tryz.results23 (aB rfl) (List.nil_sublist _) ?_);exact⟨_,rfl,fun h=>by cases h⟩)
        | (refine xG ?_
           refine aY _ (n - (k+1)) ⟨k+1,vl9,rfl,by omega,fun y' hy'=>?_,rfl,rfl⟩ (by omega) bG sl9
           rw [List.take_add_one,hy] at hy'
           rcases List.mem_append.1 hy' with h9|h9
           · exact hf y' h9
           · simp at h9;subst h9;exact(hb2 (notf (by assumption))).2 _ (by simp))
        | (refine xG ?_
           refine aY _ (n - (k+1)) ⟨k+1,vl9,rfl,by omega,fun y' hy'=>?_,rfl,rfl⟩ (by omega) bG sl9)
    · repeat' (first|(refine aG ?_;refine pu9 ?_)|refine eT ?_|(refine aA rfl ?_ ?_<;>intro hq<;>try exact no9))
      all_goals
        (refine aV Tryz.results23 (aB rfl) (List.nil_sublist _) ?_)
        exact⟨_,rfl,fun _=>⟨by omega,by rw [List.take_of_length_le (by omega)] at hf;exact hf⟩⟩
end
section
attribute [local irreducible] AtQ GoC GoL GoW QO QP Fn RV bF aD VLe bU bA
theorem is_c (V:aE) (e f:Int) (he:0≤e∧e≤1000):Fn Tryz.prog 21 [bA e,.int .i64 f] V fun v _=>v=.bool (decide (e=f)):=by
  by_cases h0:e=0
  · subst h0
    (refine aN Tryz.func21 rfl Tryz.ntmps21 rfl ?_;intro w0)
    repeat' (first|(refine aG ?_;first|(refine bK ?_;refine aI (oV rfl) ?_)|refine pu9 ?_)|refine fG ?_|(refine aJ rfl rfl rfl ?_ ?_<;>intro hq<;>try exact no9)|(refine cN rfl rfl rfl ?_ ?_<;>intro hq)|(refine aA rfl ?_ ?_<;>intro hq<;>try exact no9)|(refine bY rfl ?_ ?_<;>intro hq))
    all_goals (refine aR Tryz.results21 (aB rfl) ?_)
    all_goals simp_all [eq_comm]
  · rw [bW h0]
    have hnn:=run_eql_err e
    rw [bW h0] at hnn
    have hng:=fun x=>xL x e
    rw [bW h0] at hng
    (refine aN Tryz.func21 rfl Tryz.ntmps21 rfl ?_;intro w0)
    repeat' (first|(refine aG ?_;first|(refine bK ?_;refine aI (oV rfl) ?_)|refine aI (q_assert rfl) ?_|refine aI (sU (y:=.const .nilIface) rfl rfl (hng _) hnn) ?_|refine pu9 ?_)|refine bS ?_|(refine aJ rfl rfl rfl ?_ ?_<;>intro hq<;>try exact no9)|(refine aA rfl ?_ ?_<;>intro hq<;>try exact no9))
    all_goals first|(exfalso;omega)|skip
    all_goals (refine aR Tryz.results21 (aB rfl) ?_)
    all_goals (simp [*];try omega)
end
section
def TU.p (t:TU):TP:=⟨t.kind,t.who,t.c,cfA t.x,t.n.n⟩
abbrev tuV (t:TU):Value:=.agg (tuC t).toArray
attribute [local irreducible] AtQ GoC GoL GoW QO QP Fn RV bF aD VLe bU bA
attribute [local irreducible] FnB fE gJ DoR
theorem code_h (V:aE) (e:Int) (he:0≤e∧e≤17):Fn Tryz.prog 20 [bA e] V fun v _=>v=.int .i64 e:=by
  have hI:=fun (k:Nat)=>is_c V e (k:Int) ⟨he.1,by omega⟩
  (refine aN Tryz.func20 rfl Tryz.ntmps20 rfl ?_;intro w0)
  repeat' (first|(refine aG ?_;refine pu9 ?_)|refine fG ?_|(refine aJ rfl rfl rfl ?_ ?_<;>intro hq<;>try exact no9)|(refine cN rfl rfl rfl ?_ ?_<;>intro hq)|(refine aA rfl ?_ ?_<;>intro hq<;>try exact no9)|(refine bY rfl ?_ ?_<;>intro hq))
  refine bZ (fun F V' L' m=>∃ k:Nat,V=V'∧[]=L'∧(k:Int)≤e∧m=18 - k∧F=[(0,bA e),(3,.int .i64 (k:Int))]) (m:=18) ⟨0,rfl,rfl,by omega,by omega,rfl⟩ bG rfl sl9 ?_
  rintro F V' L' m ⟨k,rfl,rfl,hk,rfl,rfl⟩
  have hI:=hI k
  by_cases hek:e=(k:Int)
  · rw [decide_eq_true hek] at hI
    repeat' (first|(refine aG ?_;first|(refine aC ?_;refine aO rfl (aK ⟨Tryz.call21⟩ rfl (hI)) ?_)|refine pu9 ?_)|refine fG ?_|(refine aJ rfl rfl rfl ?_ ?_<;>intro hq<;>try exact no9)|(refine cN rfl rfl rfl ?_ ?_<;>intro hq)|(refine aA rfl ?_ ?_<;>intro hq<;>try exact no9)|(refine bY rfl ?_ ?_<;>intro hq))
    all_goals first
      | exact no9
      | ((refine aR Tryz.results20 (aB rfl) ?_);rw [hek])
  · rw [decide_eq_false hek] at hI
    repeat' (first|(refine aG ?_;first|(refine aC ?_;refine aO rfl (aK ⟨Tryz.call21⟩ rfl (hI)) ?_)|refine pu9 ?_)|refine fG ?_|(refine aJ rfl rfl rfl ?_ ?_<;>intro hq<;>try exact no9)|(refine cN rfl rfl rfl ?_ ?_<;>intro hq)|(refine aA rfl ?_ ?_<;>intro hq<;>try exact no9)|(refine bY rfl ?_ ?_<;>intro hq))
    all_goals first
      | exact no9
      | (refine aY _ (18 - (k+1)) ⟨k+1,rfl,rfl,by omega,rfl,rfl⟩ (by omega) bG sl9)
theorem gJ.invH {t:TD} {e:Int} {ev v:Value} {V:aE} (h:gJ (t,e) ev v V):∃ (A:Option Addr) (n c:Nat),v=.tuple #[tdV t A n c,ev]∧cV V A n t.names:=by
  unfold gJ at h
  obtain⟨A,n,c,h1,h2,_⟩:=h
  exact⟨A,n,c,h1,h2⟩
section
variable {a : HA} {s : DS} {t : TP}
theorem did_0 (h:t.kind=0):gN a s t=doA a s t.who t.c:=if_pos h
theorem did_1 (h:t.kind=1):gN a s t=(eQ a s t.x,tdZ):=by unfold gN;rw [if_neg (by omega),if_pos h]
theorem did_2 (h:t.kind=2):gN a s t=(fM a s t.who,tdZ):=by unfold gN;rw [if_neg (by omega),if_neg (by omega),if_pos h]
theorem did_3 (h:t.kind=3):gN a s t=(dS a s t.n,tdZ):=by unfold gN;rw [if_neg (by omega),if_neg (by omega),if_neg (by omega),if_pos h]
theorem did_4 (h:t.kind=4):gN a s t=(mA a s t.who,tdZ):=by unfold gN;rw [if_neg (by omega),if_neg (by omega),if_neg (by omega),if_neg (by omega),if_pos h]
theorem did_5 (h:t.kind=5):gN a s t=(dP a s t.who,tdZ):=by unfold gN;rw [if_neg (by omega),if_neg (by omega),if_neg (by omega),if_neg (by omega),if_neg (by omega),if_pos h]
theorem did_6 (h:¬(0≤t.kind∧t.kind≤5)):gN a s t=(⟨a,s,0,0⟩,tdZ):=by unfold gN;rw [if_neg (by omega),if_neg (by omega),if_neg (by omega),if_neg (by omega),if_neg (by omega),if_neg (by omega)]
end
theorem dropBoxA_n (a:HA) (s:DS) (n:Int):(fM a s n).n=0:=by
  unfold fM rK
  split
  · rfl
  · dsimp only;split<;>rfl
theorem dropLowerA_n (a:HA) (s:DS) (n:Int):(dP a s n).n=0:=by
  unfold dP rK
  split
  · rfl
  · split
    · rfl
    · dsimp only;split<;>rfl
theorem doA_n (a:HA) (s:DS) (n:Int) (c:CL):(doA a s n c).1.n=0:=by
  unfold doA
  split
  · rfl
  · split
    · rfl
    · (repeat' split)<;>rfl
theorem did_c {V:aE} {p d m K:Nat} {a:HA} {s:DS} {Bs:List Box} (hB:eY V p d m a s Bs) (hi:fI K m a s) (hm:m≤128000) (h12:12800≤m) (hK:K≤1000) (t:TU) (hx:CfV V t.x) (hn:aT V t.n) (hc:yI t.c) :
    FnB Tryz.prog 27 [.pointer (some ⟨p,0,none⟩),tuV t] V Bs fun u V' Bs'=>∃ (A:Option Addr) (n c:Nat),u=.tuple #[.int .i64 (gN a s t.p).1.f,.int .i64 (gN a s t.p).1.n,tdV (gN a s t.p).2 A n c]∧cV V' A n (gN a s t.p).2.names∧eY V' p d m (gN a s t.p).1.a (gN a s t.p).1.s Bs':=by
  have hbd:=did_f hi h12 t.p
  have hCo:=fun V9=>code_h V9 _ hbd
  by_cases k0:t.kind=0
  · have e:=did_0 (a:=a) (s:=s) (t:=t.p) k0
    have en:=doA_n a s t.who t.c
    have hD:=fun V9 (h9:VLe V V9)=>(hB.le h9).do_ hi hm hK t.who t.c hc
    rw [show gN a s t.p=doA a s t.who t.c from e] at hCo ⊢
    rw [en]
    clear e en
    generalize doA a s t.who t.c=r at *
    (refine aL Tryz.func27 rfl Tryz.ntmps27 rfl ?_;intro w0)
    repeat' (first|(refine aG ?_;first|(refine aC ?_;(refine aM rfl ⟨Tryz.call65⟩ rfl bD rfl (hD _ vl9) ?_;rintro v V1 B1 hV1 ⟨hR,hB1⟩;obtain⟨A1,n1,c1,rfl,hS1⟩:=hR.invH))|refine st9 ?_|(refine al9 ?_;intro γ)|refine pu9 ?_)|refine cM ?_|(refine aA rfl ?_ ?_<;>intro hq<;>try exact no9))
    refine bT (id:=17) _ mixed (List.Sublist.cons_cons _ (List.nil_sublist _)) ?_;refine gt9 0 ?_;refine gt9 2 ?_;refine gt9 3 ?_;refine bM (i:=1) rfl ?_;refine aO rfl (aK ⟨Tryz.call20⟩ rfl (hCo _)) ?_;refine gt9 4 ?_;refine gt9 5 ?_;refine bM (i:=6) rfl ?_;refine aP rfl siz_42 rfl rfl rfl rfl cI fU rfl ?_;refine bC (by kernel_rfl) vl9 vl9 cC ?_
    all_goals
      repeat' (first|refine gx9 ?_|fail)
      (refine oK Tryz.results27 (aB rfl) (aB rfl) (aU agg_42 rfl bN (by exact rfl)) (show List.Sublist B1 _ from cC) ?_)
      exact⟨A1,n1,c1,rfl,hS1,hB1⟩
  by_cases k1:t.kind=1
  · have e:=did_1 (a:=a) (s:=s) (t:=t.p) k1
    have hD:=fun V9 (h9:VLe V V9)=>(hB.le h9).addBox hi hm h12 hK t.x (hx.le h9)
    rw [show gN a s t.p=(eQ a s (cfA t.x),tdZ) from e] at hCo ⊢
    clear e
    generalize eQ a s (cfA t.x)=r at *
    (refine aL Tryz.func27 rfl Tryz.ntmps27 rfl ?_;intro w0)
    repeat' (first|(refine aG ?_;first|(refine aC ?_;(refine aM rfl ⟨Tryz.call66⟩ rfl bD rfl (hD _ vl9) ?_;rintro v V1 B1 hV1 ⟨rfl,hB1⟩))|(refine al9 ?_;intro γ)|refine pu9 ?_)|refine cM ?_|(refine aA rfl ?_ ?_<;>intro hq<;>try exact no9))
    refine bT (id:=17) _ mixed (List.Sublist.cons_cons _ (List.nil_sublist _)) ?_;refine gt9 0 ?_;refine gt9 2 ?_;refine gt9 3 ?_;refine bM (i:=1) rfl ?_;refine aO rfl (aK ⟨Tryz.call20⟩ rfl (hCo _)) ?_;refine gt9 4 ?_;refine gt9 5 ?_;refine bM (i:=6) rfl ?_;refine aP rfl siz_42 rfl rfl rfl rfl cI fU rfl ?_;refine bC (by kernel_rfl) vl9 vl9 cC ?_
    all_goals
      repeat' (first|refine gx9 ?_|fail)
      (refine oK Tryz.results27 (aB rfl) (aB rfl) (aU agg_42 rfl bN (by exact rfl)) (show List.Sublist B1 _ from cC) ?_)
      exact⟨none,0,0,rfl,cV.nil,hB1⟩
  by_cases k2:t.kind=2
  · have e:=did_2 (a:=a) (s:=s) (t:=t.p) k2
    have en:=dropBoxA_n a s t.who
    have hD:=fun V9 (h9:VLe V V9)=>(hB.le h9).dropBox hi hm hK t.who
    rw [show gN a s t.p=(fM a s t.who,tdZ) from e] at hCo ⊢
    dsimp only
    rw [en]
    clear en
    clear e
    generalize fM a s t.who=r at *
    (refine aL Tryz.func27 rfl Tryz.ntmps27 rfl ?_;intro w0)
    repeat' (first|(refine aG ?_;first|(refine aC ?_;(refine aM rfl ⟨Tryz.call67⟩ rfl bD rfl (hD _ vl9) ?_;rintro v V1 B1 hV1 ⟨rfl,hB1⟩))|(refine al9 ?_;intro γ)|refine pu9 ?_)|refine cM ?_|(refine aA rfl ?_ ?_<;>intro hq<;>try exact no9))
    refine bT (id:=17) _ mixed (List.Sublist.cons_cons _ (List.nil_sublist _)) ?_;refine gt9 0 ?_;refine gt9 2 ?_;refine gt9 3 ?_;refine bM (i:=1) rfl ?_;refine aO rfl (aK ⟨Tryz.call20⟩ rfl (hCo _)) ?_;refine gt9 4 ?_;refine gt9 5 ?_;refine bM (i:=6) rfl ?_;refine aP rfl siz_42 rfl rfl rfl rfl cI fU rfl ?_;refine bC (by kernel_rfl) vl9 vl9 cC ?_
    all_goals
      repeat' (first|refine gx9 ?_|fail)
      (refine oK Tryz.results27 (aB rfl) (aB rfl) (aU agg_42 rfl bN (by exact rfl)) (show List.Sublist B1 _ from cC) ?_)
      exact⟨none,0,0,rfl,cV.nil,hB1⟩
  by_cases k3:t.kind=3
  · have e:=did_3 (a:=a) (s:=s) (t:=t.p) k3
    have hD:=fun V9 (h9:VLe V V9)=>(hB.le h9).addLower hi hm h12 hK t.n (hn.le h9)
    rw [show gN a s t.p=(dS a s t.n.n,tdZ) from e] at hCo ⊢
    clear e
    generalize dS a s t.n.n=r at *
    (refine aL Tryz.func27 rfl Tryz.ntmps27 rfl ?_;intro w0)
    repeat' (first|(refine aG ?_;first|(refine aC ?_;(refine aM rfl ⟨Tryz.call68⟩ rfl bD rfl (hD _ vl9) ?_;rintro v V1 B1 hV1 ⟨rfl,hB1⟩))|(refine al9 ?_;intro γ)|refine pu9 ?_)|refine cM ?_|(refine aA rfl ?_ ?_<;>intro hq<;>try exact no9))
    refine bT (id:=17) _ mixed (List.Sublist.cons_cons _ (List.nil_sublist _)) ?_;refine gt9 0 ?_;refine gt9 2 ?_;refine gt9 3 ?_;refine bM (i:=1) rfl ?_;refine aO rfl (aK ⟨Tryz.call20⟩ rfl (hCo _)) ?_;refine gt9 4 ?_;refine gt9 5 ?_;refine bM (i:=6) rfl ?_;refine aP rfl siz_42 rfl rfl rfl rfl cI fU rfl ?_;refine bC (by kernel_rfl) vl9 vl9 cC ?_
    all_goals
      repeat' (first|refine gx9 ?_|fail)
      (refine oK Tryz.results27 (aB rfl) (aB rfl) (aU agg_42 rfl bN (by exact rfl)) (show List.Sublist B1 _ from cC) ?_)
      exact⟨none,0,0,rfl,cV.nil,hB1⟩
  by_cases k4:t.kind=4
  · have e:=did_4 (a:=a) (s:=s) (t:=t.p) k4
    have hD:=fun V9 (h9:VLe V V9)=>(hB.le h9).sealT hi hm h12 hK t.who
    rw [show gN a s t.p=(mA a s t.who,tdZ) from e] at hCo ⊢
    clear e
    generalize mA a s t.who=r at *
    (refine aL Tryz.func27 rfl Tryz.ntmps27 rfl ?_;intro w0)
    repeat' (first|(refine aG ?_;first|(refine aC ?_;(refine aM rfl ⟨Tryz.call69⟩ rfl bD rfl (hD _ vl9) ?_;rintro v V1 B1 hV1 ⟨rfl,hB1⟩))|(refine al9 ?_;intro γ)|refine pu9 ?_)|refine cM ?_|(refine aA rfl ?_ ?_<;>intro hq<;>try exact no9))
    refine bT (id:=17) _ mixed (List.Sublist.cons_cons _ (List.nil_sublist _)) ?_;refine gt9 0 ?_;refine gt9 2 ?_;refine gt9 3 ?_;refine bM (i:=1) rfl ?_;refine aO rfl (aK ⟨Tryz.call20⟩ rfl (hCo _)) ?_;refine gt9 4 ?_;refine gt9 5 ?_;refine bM (i:=6) rfl ?_;refine aP rfl siz_42 rfl rfl rfl rfl cI fU rfl ?_;refine bC (by kernel_rfl) vl9 vl9 cC ?_
    all_goals
      repeat' (first|refine gx9 ?_|fail)
      (refine oK Tryz.results27 (aB rfl) (aB rfl) (aU agg_42 rfl bN (by exact rfl)) (show List.Sublist B1 _ from cC) ?_)
      exact⟨none,0,0,rfl,cV.nil,hB1⟩
  by_cases k5:t.kind=5
  · have e:=did_5 (a:=a) (s:=s) (t:=t.p) k5
    have en:=dropLowerA_n a s t.who
    have hD:=fun V9 (h9:VLe V V9)=>(hB.le h9).dropLower hi hm hK t.who
    rw [show gN a s t.p=(dP a s t.who,tdZ) from e] at hCo ⊢
    dsimp only
    rw [en]
    clear en
    clear e
    generalize dP a s t.who=r at *
    (refine aL Tryz.func27 rfl Tryz.ntmps27 rfl ?_;intro w0)
    repeat' (first|(refine aG ?_;first|(refine aC ?_;(refine aM rfl ⟨Tryz.call70⟩ rfl bD rfl (hD _ vl9) ?_;rintro v V1 B1 hV1 ⟨rfl,hB1⟩))|(refine al9 ?_;intro γ)|refine pu9 ?_)|refine cM ?_|(refine aA rfl ?_ ?_<;>intro hq<;>try exact no9))
    refine bT (id:=17) _ mixed (List.Sublist.cons_cons _ (List.nil_sublist _)) ?_;refine gt9 0 ?_;refine gt9 2 ?_;refine gt9 3 ?_;refine bM (i:=1) rfl ?_;refine aO rfl (aK ⟨Tryz.call20⟩ rfl (hCo _)) ?_;refine gt9 4 ?_;refine gt9 5 ?_;refine bM (i:=6) rfl ?_;refine aP rfl siz_42 rfl rfl rfl rfl cI fU rfl ?_;refine bC (by kernel_rfl) vl9 vl9 cC ?_
    all_goals
      repeat' (first|refine gx9 ?_|fail)
      (refine oK Tryz.results27 (aB rfl) (aB rfl) (aU agg_42 rfl bN (by exact rfl)) (show List.Sublist B1 _ from cC) ?_)
      exact⟨none,0,0,rfl,cV.nil,hB1⟩
  have e:=did_6 (a:=a) (s:=s) (t:=t.p) (show ¬(0≤t.kind∧t.kind≤5) by omega)
  rw [e] at hCo ⊢
  dsimp only at hCo
  simp only [bO] at hCo
  (refine aL Tryz.func27 rfl Tryz.ntmps27 rfl ?_;intro w0)
  repeat' (first|(refine aG ?_;first|(refine al9 ?_;intro γ)|refine pu9 ?_)|refine cM ?_|(refine aA rfl ?_ ?_<;>intro hq<;>try exact no9))
  refine bT (id:=17) _ mixed (List.Sublist.cons_cons _ (List.nil_sublist _)) ?_;refine gt9 0 ?_;refine gt9 2 ?_;refine gt9 3 ?_;refine bM (i:=1) rfl ?_;refine aO rfl (aK ⟨Tryz.call20⟩ rfl (hCo _)) ?_;refine gt9 4 ?_;refine gt9 5 ?_;refine bM (i:=6) rfl ?_;refine aP rfl siz_42 rfl rfl rfl rfl cI fU rfl ?_;refine bC (by kernel_rfl) vl9 vl9 cC ?_
  all_goals
    repeat' (first|refine gx9 ?_|fail)
    (refine oK Tryz.results27 (aB rfl) (aB rfl) (aU agg_42 rfl bN (by exact rfl)) (show List.Sublist Bs _ from cC) ?_)
    exact⟨none,0,0,rfl,cV.nil,hB.le vl9⟩
end
section
def dZn (b:Nat):DS:=⟨List.replicate (b * 64) 0,-1,false,0⟩
theorem dZn_pw (b:Nat):xQ (dZn b) (b * 64):=⟨rfl,rfl,List.length_replicate⟩
theorem dZn_bd (b:Nat):hBd (b * 64) 0 (dZn b):=⟨List.length_replicate,⟨Int.le_refl 0,Int.le_refl 0⟩,by show (-9223372036854775808:Int) ≤ -1∧(-1:Int)≤9223372036854775807;omega⟩
theorem fmt_ok {s:DS} {m W:Nat} (hp:xQ s m) (hd:hBd m W s) (h12:12800≤m):xQ (fmtS s) m∧hBd m (W+10000) (fmtS s):=by
  obtain⟨w1,w2⟩:=hp.write (a:=0) (l:=[0]) (by decide) (by simp only [List.length_cons,List.length_nil];omega)
  obtain⟨w3,w4⟩:=w2.write (a:=6400) (l:=[0]) (by decide) (by simp only [List.length_cons,List.length_nil];omega)
  have hd1:=hd.write (a:=0) (l:=[0]) (k:=1) (by decide)
  have hd2:=hd1.write (a:=6400) (l:=[0]) (k:=1) (by decide)
  obtain⟨c1,c2⟩:=spread_pw (size:=6400) (m:=m) (ps:=[6400]) (seq:=1) (t:=pW (h0 0 0 0 0)) (by decide) w4 (by simp) (by intro a ha;rw [List.mem_singleton] at ha;omega)
  have hb:=sG (ps:=[6400]) (size:=6400) (seq:=1) (t:=pW (h0 0 0 0 0)) hd2
  exact⟨c2,hBd.mono hb (by simp only [List.length_cons,List.length_nil];omega)⟩
theorem ptr_host:PtrIs Tryz.prog 64:=⟨by kernel_rfl⟩
theorem poolI_nil {room:Int} (h:0≤room∧room≤2000):lI room 0 []:=⟨h,fun p hp=>(by cases hp),h.1,Nat.le_refl 0⟩
def a0:HA:=⟨false,1,1,[none,none,none,none,none],[none,none,none,none,none],[]⟩
theorem abs_h0 (d q:Nat):fZ (h0 d q 1 1) []=a0:=rfl
theorem a0_wf (bl:Nat):WF bl a0:=⟨rfl,rfl,fun l h=>by simp [a0] at h,fun t h=>by simp [a0] at h,fun z h=>by simp [a0,eO,loBA,bxBA] at h,by simp [a0,eO,loBA,bxBA],by simp [a0,jZ,ocP,ocO]⟩
theorem a0_inv {m:Nat} {s:DS} (h12:12800≤m) (hm:m≤128000) (hd:hBd m 10000 s):fI 1 m a0 s :=
  ⟨⟨hd.mono (by omega),.inr rfl,by show (0:Int)≤1∧(1:Int)≤((1:Nat):Int);omega,fun t h=>by simp [a0] at h,⟨0,poolI_nil (by omega)⟩⟩,fun _=>a0_wf _⟩
attribute [local irreducible] AtQ GoC GoL GoW QO QP Fn RV bF aD VLe bU bA
attribute [local irreducible] FnB fE
theorem Fresh_c (V:aE) (b:Nat) (hb:200≤b∧b≤2000):FnB Tryz.prog 24 [.int .i64 b] V [] fun u _ Bs'=>∃ d p q D Pb,u=.tuple #[.pointer (some ⟨d,0,none⟩),.pointer (some ⟨p,0,none⟩),.bool true]∧Bs'=⟨p,127,hC (h0 d q 1 1)⟩ :: (D ++ Pb)∧gC d (fmtS (dZn b)) D∧oL q ((b:Int) - 200) [] Pb:=by
  have hN:=fun V9=>New_c V9 (b:Int)
  have hF:=fun V9 d D hD=>Format_c V9 d (dZn b) D hD (dZn_pw b) (dZn_bd b) (by omega) (by omega)
  have e64:(((b * 64:Nat):Int)) / 64=(b:Int):=by omega
  rw [e64] at hF
  (refine aL Tryz.func24 rfl Tryz.ntmps24 rfl ?_;intro w0)
  repeat' (first|(refine aG ?_;first|(refine aC ?_;(first|(refine aM rfl ⟨Tryz.call60⟩ rfl eL rfl (hN _) ?_;rintro v V2 B2 hV2 (⟨_,d,rfl,hD⟩|⟨hx,_⟩);rotate_left;(exfalso;exact hx ⟨by omega,by omega⟩);rw [Int.toNat_natCast] at hD)|(refine aM rfl ⟨Tryz.call61⟩ rfl bD rfl (hF _ _ _ hD) ?_;rintro v V3 B3 hV3 (⟨hx,_⟩|⟨_,p,q,D,Pb,rfl,rfl,hD3,hPb⟩);(exfalso;omega))))|(refine bK ?_;(first|refine aI (fR ptr_host rfl) ?_|refine aI (eH ptr_disk rfl) ?_|refine aI (oV rfl) ?_))|refine pu9 ?_)|refine bV ?_|fail)
  all_goals
    (refine oK Tryz.results24 (aB rfl) (aB rfl) (aB rfl) (List.Sublist.refl _) ?_)
    exact⟨d,p,q,D,Pb,rfl,by simp only [List.append_nil],hD3,hPb⟩
theorem Fresh_h (V:aE) (b:Nat) (hb:200≤b∧b≤2000):FnB Tryz.prog 24 [.int .i64 b] V [] fun u V' Bs'=>∃ d p,u=.tuple #[.pointer (some ⟨d,0,none⟩),.pointer (some ⟨p,0,none⟩),.bool true]∧eY V' p d (b * 64) a0 (fmtS (dZn b)) Bs' :=
  (Fresh_c V b hb).mono_ fun u V' Bs' _ ⟨d,p,q,D,Pb,h1,h2,h3,h4⟩=>by
    have e:((b * 64:Nat):Int) / 64 - 200=(b:Int) - 200:=by omega
    exact⟨d,p,h1,h0 d q 1 1,D,Pb,[],by rw [h2,List.append_nil],rfl,abs_h0 d q,h3,by rw [e];exact h4,h0_ok _ _ _ _ _ _⟩
theorem fresh_inv {b:Nat} (hb:200≤b∧b≤2000):fI 1 (b * 64) a0 (fmtS (dZn b))∧xQ (fmtS (dZn b)) (b * 64):=by
  obtain⟨fp,fd⟩:=fmt_ok (dZn_pw b) (dZn_bd b) (by omega)
  exact⟨a0_inv (by omega) (by omega) (fd.mono (by omega)),fp⟩
end
section
def oN {α:Type} (f:α→Int):Option α→Int
  | none=>0
  | some x=>f x
def loN (c:CT):List Int:=c.lo.map (oN bB)
def bxN (c:CT):List Int:=c.bx.map (oN fun t:CA×BX=>cW t.1.q)
def qK:List Int→Int
  | []=>0
  | x :: l=>x+qK l
theorem sumI_take {l:List Int} {k:Nat} {x:Int} (h:l[k]?=some x):qK (l.take (k+1))=qK (l.take k)+x:=by
  induction l generalizing k with
  | nil=>cases h
  | cons y l ih =>
    cases k with
    | zero=>injection h with h;subst h;simp [qK]
    | succ k =>
      have:=ih (k:=k) (by simpa using h)
      simp only [List.take_succ_cons,qK,this];omega
theorem oc_sumI {α:Type} (f:α→Int):∀ (l:List (Option α)) (i:Nat),gW (ocP f i l)=qK (l.map (oN f))
  | [],_=>rfl
  | none :: l,i=>by
    show gW ([] ++ ocP f (i+1) l)=0+qK (l.map (oN f))
    rw [List.nil_append,oc_sumI f l];omega
  | some x :: l,i=>by
    show f x+gW (ocP f (i+1) l)=f x+qK (l.map (oN f))
    rw [oc_sumI f l]
theorem sumC_N (c:CT):sumC c=qK (loN c)+qK (bxN c):=by unfold sumC loN bxN;rw [oc_sumI,oc_sumI]
def pZ (c:CT) (n:Int):PN:=match qE c n with
  | none=>pnZ
  | some t=>flatB t.2
def iP (c:CT) (t:TP):Int :=
  if t.kind=1 then 2 * (min (max t.x.q 0) 1000+1)
  else if t.kind=3 then bB t.n
  else if t.kind=4 then bB (pZ c t.who)
  else 0
theorem flat_ct (a:HA) (n:Int):(match iS a n with|none=>pnZ|some t=>flatB t.b)=pZ (ctA a) n:=by
  unfold pZ
  rw [sW]
  cases iS a n<;>rfl
section
variable {room : Int} {c : CT} {t : TP}
theorem didC_0 (h:t.kind=0):kM room c t=doC c t.who t.c:=if_pos h
theorem didC_1 (h:t.kind=1):kM room c t=(mP room c t.x,tdZ):=by unfold kM;rw [if_neg (by omega),if_pos h]
theorem didC_2 (h:t.kind=2):kM room c t=(lE c t.who,tdZ):=by unfold kM;rw [if_neg (by omega),if_neg (by omega),if_pos h]
theorem didC_3 (h:t.kind=3):kM room c t=(eC room c t.n,tdZ):=by unfold kM;rw [if_neg (by omega),if_neg (by omega),if_neg (by omega),if_pos h]
theorem didC_4 (h:t.kind=4):kM room c t=(uM room c t.who,tdZ):=by unfold kM;rw [if_neg (by omega),if_neg (by omega),if_neg (by omega),if_neg (by omega),if_pos h]
theorem didC_5 (h:t.kind=5):kM room c t=(iB c t.who,tdZ):=by unfold kM;rw [if_neg (by omega),if_neg (by omega),if_neg (by omega),if_neg (by omega),if_neg (by omega),if_pos h]
theorem didC_6 (h:¬(0≤t.kind∧t.kind≤5)):kM room c t=(⟨c,0,0⟩,tdZ):=by unfold kM;rw [if_neg (by omega),if_neg (by omega),if_neg (by omega),if_neg (by omega),if_neg (by omega),if_neg (by omega)]
theorem bxAtC_some {n:Int} {x:CA×BX} (h:qE c n=some x):∃ k:Nat,n=k∧k<5∧c.bx[k]?=some (some x):=by
  unfold qE at h
  split at h
  · rename_i hn
    refine⟨n.toNat,by omega,by omega,?_⟩
    cases hx:c.bx[n.toNat]? with
    | none=>rw [hx] at h;cases h
    | some o=>rw [hx] at h;exact congrArg some h
  · cases h
theorem loAtC_some {n:Int} {x:PN} (h:loAtC c n=some x):∃ k:Nat,n=k∧k<5∧c.lo[k]?=some (some x):=by
  unfold loAtC at h
  split at h
  · rename_i hn
    refine⟨n.toNat,by omega,by omega,?_⟩
    cases hx:c.lo[n.toNat]? with
    | none=>rw [hx] at h;cases h
    | some o=>rw [hx] at h;exact congrArg some h
  · cases h
theorem sealC_13 (h:(uM room c t.who).f=13):room - sumC c<bB (pZ c t.who):=by
  unfold uM at h
  unfold pZ
  cases hb:qE c t.who with
  | none=>rw [hb] at h;exact absurd h (by dsimp only;decide)
  | some x=>rw [hb] at h;exact(jN _ _ _).2.2.1 h
theorem room_no (hb:BoxesOk c) (h:(kM room c t).1.f=13):(t.kind=1∨t.kind=3∨t.kind=4)∧room - sumC c<iP c t:=by
  unfold iP
  by_cases k0:t.kind=0
  · rw [didC_0 k0] at h;exact absurd h (doC_f hb _ _).2.2.1
  by_cases k1:t.kind=1
  · rw [didC_1 k1] at h
    have:=(wV room c t.x).2.2.1 h
    rw [if_pos k1]
    refine⟨.inl k1,?_⟩
    have h1:=this.1
    unfold cW at h1
    omega
  by_cases k2:t.kind=2
  · rw [didC_2 k2] at h;have:=dropBoxC_f c t.who;dsimp only at h;omega
  by_cases k3:t.kind=3
  · rw [didC_3 k3] at h
    rw [if_neg k1,if_pos k3]
    exact⟨.inr (.inl k3),(jN room c t.n).2.2.1 h⟩
  by_cases k4:t.kind=4
  · rw [didC_4 k4] at h
    rw [if_neg k1,if_neg k3,if_pos k4]
    exact⟨.inr (.inr k4),sealC_13 h⟩
  by_cases k5:t.kind=5
  · rw [didC_5 k5] at h;have:=dropLowerC_f c t.who;dsimp only at h;omega
  · rw [didC_6 (by omega)] at h;exact absurd h (by dsimp only;decide)
end
theorem vN {α:Type} (f:α→Int) (l:List (Option α)) (k:Nat) (o:Option α):(l.set k o).map (oN f)=(l.map (oN f)).set k (oN f o):=List.map_set
theorem set_selfI {l:List Int} {k:Nat} {x:Int} (h:l[k]?=some x):l.set k x=l:=set_self h
structure RoomR (room:Int) (c:CT) (t:TP) (r:CO):Prop where
  fits:iP c t≤room - sumC c
  k1:t.kind=1→∃ k:Nat,r.n=k∧k<5∧loN r.c=loN c∧bxN r.c=(bxN c).set k (iP c t)
  k2:t.kind=2→∃ k:Nat,t.who=k∧k<5∧loN r.c=loN c∧bxN r.c=(bxN c).set k 0
  k3:t.kind=3∨t.kind=4→∃ k:Nat,r.n=k∧k<5∧loN r.c=(loN c).set k (iP c t)∧bxN r.c=bxN c
  k5:t.kind=5→∃ k:Nat,t.who=k∧k<5∧loN r.c=(loN c).set k 0∧bxN r.c=bxN c
  kz:¬(1≤t.kind∧t.kind≤5)→loN r.c=loN c∧bxN r.c=bxN c
theorem xN {room:Int} {c:CT} {n:PN} (h5:c.lo.length=5) (h:(eC room c n).f=0):∃ k:Nat,(eC room c n).n=k∧k<5∧loN (eC room c n).c=(loN c).set k (bB n)∧bxN (eC room c n).c=bxN c∧bB n≤room - sumC c:=by
  obtain⟨h1,_,h2,h3⟩:=(jN room c n).2.2.2 h
  rw [h3]
  have:=mF c.lo
  refine⟨aW c.lo,rfl,by omega,?_,rfl,by omega⟩
  unfold loN
  rw [vN];rfl
theorem room_ok {room:Int} {c:CT} {t:TP} (hs:0≤room - sumC c) (h5:c.lo.length=5) (hb5:c.bx.length=5) (h:(kM room c t).1.f=0):RoomR room c t (kM room c t).1:=by
  by_cases k0:t.kind=0
  · rw [didC_0 k0]
    have hc:iP c t=0:=by unfold iP;rw [if_neg (by omega),if_neg (by omega),if_neg (by omega)]
    refine⟨by rw [hc];exact hs,fun h=>by omega,fun h=>by omega,fun h=>by omega,fun h=>by omega,fun _=>?_⟩
    unfold doC
    cases hb:qE c t.who with
    | none=>exact⟨rfl,rfl⟩
    | some x =>
      obtain⟨k,hk,_,hx⟩:=bxAtC_some hb
      dsimp only
      split
      · exact⟨rfl,rfl⟩
      · refine⟨rfl,?_⟩
        unfold bxN
        rw [vN]
        refine set_selfI ?_
        rw [hk,Int.toNat_natCast,List.getElem?_map,hx];rfl
  by_cases k1:t.kind=1
  · rw [didC_1 k1] at h ⊢
    obtain⟨h1,hq,h2,ls,h3,h4,h5⟩:=(wV room c t.x).2.2.2 h
    have hc:iP c t=cW t.x.q:=by unfold iP cW;rw [if_pos k1];omega
    rw [h5]
    have:=mF c.bx
    refine⟨by omega,fun _=>⟨aW c.bx,rfl,by omega,rfl,?_⟩,fun h=>by omega,fun h=>by omega,fun h=>by omega,fun h=>by omega⟩
    unfold bxN
    rw [vN,hc];rfl
  by_cases k2:t.kind=2
  · rw [didC_2 k2] at h ⊢
    have hc:iP c t=0:=by unfold iP;rw [if_neg (by omega),if_neg (by omega),if_neg (by omega)]
    refine⟨by rw [hc];exact hs,fun h=>by omega,fun _=>?_,fun h=>by omega,fun h=>by omega,fun h=>by omega⟩
    unfold lE at h ⊢
    cases hb:qE c t.who with
    | none=>rw [hb] at h;exact absurd h (by dsimp only;decide)
    | some x =>
      obtain⟨k,hk,hk5,hx⟩:=bxAtC_some hb
      refine⟨k,hk,hk5,rfl,?_⟩
      unfold bxN
      dsimp only
      rw [vN,hk,Int.toNat_natCast];rfl
  by_cases k3:t.kind=3
  · rw [didC_3 k3] at h ⊢
    have hc:iP c t=bB t.n:=by unfold iP;rw [if_neg (by omega),if_pos k3]
    obtain⟨k,e1,e2,e3,e4,e5⟩:=xN h5 h
    rw [hc.symm] at e3 e5
    exact⟨e5,fun h=>by omega,fun h=>by omega,fun _=>⟨k,e1,e2,e3,e4⟩,fun h=>by omega,fun h=>by omega⟩
  by_cases k4:t.kind=4
  · rw [didC_4 k4] at h ⊢
    have hc:iP c t=bB (pZ c t.who):=by unfold iP;rw [if_neg (by omega),if_neg (by omega),if_pos k4]
    unfold pZ at hc
    unfold uM at h ⊢
    cases hb:qE c t.who with
    | none=>rw [hb] at h;exact absurd h (by dsimp only;decide)
    | some x =>
      rw [hb] at h hc
      obtain⟨k,e1,e2,e3,e4,e5⟩:=xN h5 h
      have hc:iP c t=bB (flatB x.2):=hc
      rw [←hc] at e3 e5
      exact⟨e5,fun h=>by omega,fun h=>by omega,fun _=>⟨k,e1,e2,e3,e4⟩,fun h=>by omega,fun h=>by omega⟩
  by_cases k5:t.kind=5
  · rw [didC_5 k5] at h ⊢
    have hc:iP c t=0:=by unfold iP;rw [if_neg (by omega),if_neg (by omega),if_neg (by omega)]
    refine⟨by rw [hc];exact hs,fun h=>by omega,fun h=>by omega,fun h=>by omega,fun _=>?_,fun h=>by omega⟩
    unfold iB at h ⊢
    cases hb:loAtC c t.who with
    | none=>rw [hb] at h;exact absurd h (by dsimp only;decide)
    | some x =>
      obtain⟨k,hk,hk5,hx⟩:=loAtC_some hb
      rw [hb] at h
      dsimp only at h ⊢
      split
      · rename_i hh;rw [if_pos hh] at h;exact absurd h (by dsimp only;decide)
      · refine⟨k,hk,hk5,?_,rfl⟩
        unfold loN
        dsimp only
        rw [vN,hk,Int.toNat_natCast];rfl
  · rw [didC_6 (by omega)]
    have hc:iP c t=0:=by unfold iP;rw [if_neg (by omega),if_neg (by omega),if_neg (by omega)]
    exact⟨by rw [hc];exact hs,fun h=>by omega,fun h=>by omega,fun h=>by omega,fun h=>by omega,fun _=>⟨rfl,rfl⟩⟩
theorem vX {room:Int} {c:CT} {n:PN} (h:¬(eC room c n).f=0):(eC room c n).c=c∧(eC room c n).n=0:=by
  unfold eC at h ⊢
  (repeat' split)<;>first|exact⟨rfl,rfl⟩|(exfalso;simp_all)
theorem didC_same {room:Int} {c:CT} {t:TP} (h:¬(kM room c t).1.f=0):(kM room c t).1.c=c∧(kM room c t).1.n=0:=by
  unfold kM at h ⊢
  by_cases k0:t.kind=0
  · rw [if_pos k0] at h ⊢
    unfold doC at h ⊢
    (repeat' split)<;>first|exact⟨rfl,rfl⟩|(exfalso;simp_all)
  rw [if_neg k0] at h ⊢
  by_cases k1:t.kind=1
  · rw [if_pos k1] at h ⊢
    unfold mP at h ⊢
    dsimp only at h ⊢
    (repeat' split)<;>first|exact⟨rfl,rfl⟩|(exfalso;simp_all)
  rw [if_neg k1] at h ⊢
  by_cases k2:t.kind=2
  · rw [if_pos k2] at h ⊢
    unfold lE at h ⊢
    dsimp only at h ⊢
    (repeat' split)<;>first|exact⟨rfl,rfl⟩|(exfalso;simp_all)
  rw [if_neg k2] at h ⊢
  by_cases k3:t.kind=3
  · rw [if_pos k3] at h ⊢;exact vX h
  rw [if_neg k3] at h ⊢
  by_cases k4:t.kind=4
  · rw [if_pos k4] at h ⊢
    unfold uM at h ⊢
    dsimp only at h ⊢
    split
    · exact⟨rfl,rfl⟩
    · rename_i x hx;rw [hx] at h;exact vX h
  rw [if_neg k4] at h ⊢
  by_cases k5:t.kind=5
  · rw [if_pos k5] at h ⊢
    unfold iB at h ⊢
    dsimp only at h ⊢
    (repeat' split)<;>first|exact⟨rfl,rfl⟩|(exfalso;simp_all)
  · rw [if_neg k5];exact⟨rfl,rfl⟩
theorem sumI_bd {l:List Int} (h:∀ x∈l,0≤x∧x≤400):∀ k:Nat,0≤qK (l.take k)∧qK (l.take k)≤400 * l.length:=by
  induction l with
  | nil=>intro k;simp [qK]
  | cons x l ih =>
    intro k
    have h0:=h x (by simp)
    have ih:=ih fun y hy=>h y (by simp [hy])
    cases k with
    | zero=>simp [qK];omega
    | succ k =>
      have:=ih k
      simp only [List.take_succ_cons,qK,List.length_cons]
      omega
theorem WF.rooms {bl:Nat} {a:HA} (h:WF bl a):(∀ x∈loN (ctA a),0≤x∧x≤400)∧(∀ x∈bxN (ctA a),0≤x∧x≤400):=by
  refine⟨fun x hx=>?_,fun x hx=>?_⟩
  · obtain⟨o,ho,rfl⟩:=List.mem_map.1 hx
    cases o with
    | none=>exact⟨by show (0:Int)≤0;decide,by show (0:Int)≤400;decide⟩
    | some n=>have:=sD n;exact⟨this.1,by show bB n≤400;omega⟩
  · obtain⟨o,ho,rfl⟩:=List.mem_map.1 hx
    cases o with
    | none=>exact⟨by show (0:Int)≤0;decide,by show (0:Int)≤400;decide⟩
    | some t =>
      have ho:some t∈a.bx.map (Option.map fun t=>(t.x,t.b)):=ho
      obtain⟨o2,ho2,e⟩:=List.mem_map.1 ho
      cases o2 with
      | none=>cases e
      | some y =>
        injection e with e
        have:=(h.bx y ho2).q
        rw [←e]
        show 0≤cW y.x.q∧cW y.x.q≤400
        unfold cW;omega
theorem WF.c5 {bl:Nat} {a:HA} (h:WF bl a):(ctA a).lo.length=5∧(ctA a).bx.length=5:=⟨by show (a.lo.map _).length=5;rw [List.length_map];exact h.l5,by show (a.bx.map _).length=5;rw [List.length_map];exact h.b5⟩
theorem flat_live {m:Nat} {a:HA} {s:DS} {n:Int} (ha:a.off=false) (hs:pV s m) (h:¬iZ a s n=0):pZ (ctA a) n=pnZ:=by
  rw [tenFA_live ha hs] at h
  unfold pZ
  rw [sW]
  cases hb:iS a n with
  | none=>rfl
  | some t=>rw [hb] at h;exact absurd rfl h
end
section
abbrev oR (l:List Int):List Value:=l.map (.int .i64)
theorem splI {l:List Int} {i:Nat} {x:Int}:spl (oR l) (0+i * 1) [.int .i64 x]=oR (l.set i x):=by
  rw [setL,show 0+i * 1=i by omega]
  exact(List.map_set).symm
theorem atI {l:List Int} {i:Nat} {x:Int} (h:l[i]?=some x):(oR l)[0+i * 1]?=some (.int .i64 x):=by
  rw [show 0+i * 1=i by omega,List.getElem?_map,h];rfl
theorem und_i5:bR Tryz.prog 67 (.array 5 3):=⟨Tryz.underlying67⟩
theorem flatNA_ct (a:HA) (n:Int):xX a n=pZ (ctA a) n:=flat_ct a n
attribute [local irreducible] AtQ GoC GoL GoW QO QP Fn RV bF aD VLe bU bA
attribute [local irreducible] FnB fE gJ DoR eY
theorem TopRoom_c (V:aE) (b:Int) (A:Option Addr) (n c:Nat) (ts:List TU) (h:yK V A n ts):Fn Tryz.prog 5 [.int .i64 b,.slice A n c] V fun v _=>v=.bool true:=by
  have hmx:=h.1.max
  have hl:=h.1.1
  by_cases hb:200≤b∧b≤500
  · obtain⟨m,rfl⟩:=Int.eq_ofNat_of_zero_le (show 0≤b by omega)
    have hLT:=fun V9 (h9:VLe V V9)=>LightTurns_c V9 A n c ts (h.le h9) 20
    have hFr:=fun V9=>Fresh_h V9 m (by omega)
    obtain⟨hi0,hp0⟩:=fresh_inv (b:=m) (by omega)
    (refine aN Tryz.func5 rfl Tryz.ntmps5 rfl ?_;intro w0)
    repeat' (first|(refine aG ?_;first|(refine aC ?_;(first|(refine aS rfl ⟨Tryz.call23⟩ rfl rfl (hLT _ vl9) ?_;rintro v V1 hV1 ⟨b1,rfl,hb1⟩)|(refine aM rfl ⟨Tryz.call24⟩ rfl eL rfl (hFr _) ?_;rintro v V2 B2 hV2 ⟨d,p,rfl,hB2⟩;simp only [List.append_nil])))|(refine al9 ?_;intro γ)|refine pu9 ?_)|refine bV ?_|(refine aJ rfl rfl rfl ?_ ?_<;>intro hq<;>try exact no9)|(refine bY rfl ?_ ?_<;>intro hq))
    · (refine aR Tryz.results5 (aB rfl) ?_)
      rfl
    have hb1t:=hb1 (notf hq)
    have hV02:VLe V V2:=vl9
    clear hLT hFr hb1
    rename_i γ9
    revert γ
    intro γ10
    refine cS ?_
    refine bZ (fun F V' L' m'=>∃ (i:Nat) (a:HA) (s:DS) (Bs:List Box),VLe V2 V'∧(⟨γ10,67,oR (bxN (ctA a))⟩ :: ⟨γ9,67,oR (loN (ctA a))⟩ :: Bs:List Box)=L'∧eY V' p d (m * 64) a s Bs∧fI (1+i) (m * 64) a s∧Pw (m * 64) a s∧i≤n∧m'=n - i∧F=[(1,.slice A n c),(6,.pointer (some ⟨p,0,none⟩)),(8,.int .i64 ((m:Int) - 200)),(9,.pointer (some ⟨γ9,0,none⟩)),(10,.pointer (some ⟨γ10,0,none⟩)),(11,.int .i64 i)]) (m:=n) ⟨0,a0,_,B2,vl9,rfl,hB2,hi0,⟨rfl,hp0⟩,Nat.zero_le _,rfl,rfl⟩ bG rfl sl9 ?_
    clear hB2 hi0 hp0
    rintro F V' L' m' ⟨i,a,s,Bs,hV',rfl,hB,hi,hp,hin,rfl,rfl⟩
    by_cases hlt:i<n
    · obtain⟨bb,off,t,hA,hy,hc⟩:=((h.1.le hV02).le hV').at_ hlt
      have htm:=List.mem_of_getElem? hy
      obtain⟨hxv,hnv⟩:=h.2 t htm
      have hcl:=(hb1t.2 t htm).ok
      subst hA
      have hw:=hi.wf hp.off
      obtain⟨r1,r2⟩:=hw.rooms
      obtain⟨l5,b5⟩:=hw.c5
      obtain⟨kk,hkk⟩:=hi.lim.pl
      have hLe:=fun V9 (h9:VLe V' V9)=>(hB.le h9).left hi
      have hFl:=fun V9 (h9:VLe V' V9)=>(hB.le h9).flat hi (by omega) t.who
      have hDi:=fun V9 (h9:VLe V' V9)=>did_c (hB.le h9) hi (by omega) (by omega) (by omega) t ((hxv.le hV02).le (hV'.trans h9)) ((hnv.le hV02).le (hV'.trans h9)) hcl
      have hin':=did_inv hi t.p
      obtain⟨q1,q2,q3,q4,q5⟩:=did_pw hi (by omega) hp t.p
      have hNf:=fun (h0:¬iZ a s t.who=0)=>flat_live hp.off hp.live h0
      rw [flatNA_ct] at hFl
      have hm64:((m * 64:Nat):Int) / 64 - 200=(m:Int) - 200:=by omega
      have hsm:gW a.M=sumC (ctA a):=by rw [hw.sum,hw.sumC]
      have hroom:0≤(m:Int) - 200 - sumC (ctA a):=by have:=hkk.s;rw [hsm,hm64] at this;omega
      rw [hsm,hm64] at hLe
      rw [hm64] at q2 q3 q4 q5
      have hbo:=hw.boxes
      have hno:=fun h9=>room_no (room:=(m:Int) - 200) (t:=t.p) hbo h9
      have hok:=fun h9=>room_ok (room:=(m:Int) - 200) (t:=t.p) hroom l5 b5 h9
      have hsame:=fun h9=>didC_same (room:=(m:Int) - 200) (c:=ctA a) (t:=t.p) h9
      have hdf:=didC_f hbo ((m:Int) - 200) t.p
      rw [q3,q4] at hDi
      generalize gN a s t.p=ra at *
      generalize (kM ((m:Int) - 200) (ctA a) t.p).1=o at *
      have g0:=gM (j:=0) hc rfl
      have g1:=gM (j:=1) hc rfl
      have g9:V' ⟨bb,off+i * 26+9+6,none⟩=some (.int .i64 t.x.q):=gM (j:=15) hc rfl
      have g17:=lZ hc 17 8 (ys:=lnC t.n) rfl
      have hcs:=sumC_N (ctA a)
      generalize hLo:loN (ctA a)=Lo at *
      generalize hBx:bxN (ctA a)=Bx at *
      have hLl:Lo.length=5:=by rw [←hLo];unfold loN;rw [List.length_map];exact l5
      have hBl:Bx.length=5:=by rw [←hBx];unfold bxN;rw [List.length_map];exact b5
      repeat' (first|(refine aG ?_;first|(refine aC ?_;(first|refine aI (q_max rfl rfl rfl) ?_|refine aI (pC rfl rfl rfl) ?_))|refine pu9 ?_)|refine bS ?_|(refine aA rfl ?_ ?_<;>intro hq<;>try exact no9))
      refine cS ?_
      repeat' (first|(refine aG ?_;refine pu9 ?_)|refine bS ?_|fail)
      refine cS ?_
      refine bZ (fun F V2' L' m'=>∃ (k:Nat),V'=V2'∧(⟨γ10,67,oR Bx⟩ :: ⟨γ9,67,oR Lo⟩ :: Bs:List Box)=L'∧k≤5∧m'=5 - k∧F=[(1,.slice (some ⟨bb,off,none⟩) n c),(6,.pointer (some ⟨p,0,none⟩)),(8,.int .i64 ((m:Int) - 200)),(9,.pointer (some ⟨γ9,0,none⟩)),(10,.pointer (some ⟨γ10,0,none⟩)),(11,.int .i64 i),(12,.int .i64 (qK (Lo.take k)+qK (Bx.take k))),(13,.int .i64 k)]) (m:=5) ⟨0,rfl,rfl,by omega,rfl,rfl⟩ bG rfl sl9 ?_
      rintro F V2' L' m' ⟨k,rfl,rfl,hk5,rfl,rfl⟩
      have s1:=sumI_bd r1 k
      have s2:=sumI_bd r2 k
      rw [hLl] at s1
      rw [hBl] at s2
      by_cases hk:k<5
      · obtain⟨x1,hx1⟩:∃ x,Lo[k]?=some x:=⟨_,List.getElem?_eq_getElem (by omega)⟩
        obtain⟨x2,hx2⟩:∃ x,Bx[k]?=some x:=⟨_,List.getElem?_eq_getElem (by omega)⟩
        have hc1:=atI hx1
        have hc2:=atI hx2
        have e1:=sumI_take hx1
        have e2:=sumI_take hx2
        have b1:=r1 x1 (List.mem_of_getElem? hx1)
        have b2:=r2 x2 (List.mem_of_getElem? hx2)
        repeat' (first|(refine aG ?_;first|(refine bH ?_;refine aI (cU und_i5 siz_3 rfl rfl rfl hk) ?_)|(refine dA ?_;(first|refine aI (aX one_3 rfl (cG own_here) hc1) ?_|refine aI (aX one_3 rfl own_here hc2) ?_))|refine pu9 ?_)|refine cM ?_|(refine aA rfl ?_ ?_<;>intro hq<;>try exact no9)|refine cO (id:=16) mixed (by kernel_rfl) ?_)
        have hse:qK (Lo.take k)+qK (Bx.take k)+x1+x2=qK (Lo.take (k+1))+qK (Bx.take (k+1)):=by omega
        all_goals
          refine aY [(1,.slice (some ⟨bb,off,none⟩) n c),(6,.pointer (some ⟨p,0,none⟩)),(8,.int .i64 ((m:Int) - 200)),(9,.pointer (some ⟨γ9,0,none⟩)),(10,.pointer (some ⟨γ10,0,none⟩)),(11,.int .i64 i),(12,.int .i64 (qK (Lo.take k)+qK (Bx.take k)+x1+x2)),(13,.int .i64 ((k+1:Nat):Int))] (5 - (k+1)) ⟨k+1,rfl,rfl,by omega,rfl,by rw [hse]⟩ (by omega) bG sl9
      · obtain rfl:k=5:=by omega
        rw [List.take_of_length_le (by omega),List.take_of_length_le (by omega),←hcs]
        rw [List.take_of_length_le (by omega)] at s1 s2
        repeat' (first|(refine aG ?_;first|(refine aC ?_;(first|refine aI (q_max rfl rfl rfl) ?_|refine aI (pC rfl rfl rfl) ?_|refine aO rfl (dB ⟨Tryz.call25⟩ rfl bD (hLe _ vl9)) ?_))|(refine dA ?_;refine aI (cK one_3 rfl g0) ?_)|refine pu9 ?_)|refine mV ?_|(refine aA rfl ?_ ?_<;>intro hq<;>try exact no9))
        refine eK (fun F V2 L'=>∃ (cost:Int),iP (ctA a) t.p=cost∧VLe V' V2∧(⟨γ10,67,oR Bx⟩ :: ⟨γ9,67,oR Lo⟩ :: Bs:List Box)=L'∧F=[(1,.slice (some ⟨bb,off,none⟩) n c),(6,.pointer (some ⟨p,0,none⟩)),(8,.int .i64 ((m:Int) - 200)),(9,.pointer (some ⟨γ9,0,none⟩)),(10,.pointer (some ⟨γ10,0,none⟩)),(11,.int .i64 i),(12,.int .i64 (sumC (ctA a))),(14,.int .i64 cost)]) ?_ ?_
        · refine cS ?_
          by_cases k1:t.kind=1
          · have hct:iP (ctA a) t.p=2 * (min (max t.x.q 0) 1000+1):=if_pos k1
            repeat' (first|(refine aG ?_;first|(refine aC ?_;(first|refine aI (q_max rfl rfl rfl) ?_|refine aI (pC rfl rfl rfl) ?_))|(refine dA ?_;refine aI (cK one_3 rfl g9) ?_)|refine pu9 ?_)|refine bS ?_|(refine aA rfl ?_ ?_<;>intro hq<;>try exact no9))
            all_goals exact dO _ ⟨_,hct,vl9,rfl,rfl⟩ bG sl9
          by_cases k3:t.kind=3
          · have hct:iP (ctA a) t.p=bB t.n.n:=by unfold iP;exact(if_neg k1).trans (if_pos k3)
            have hBl:=fun V9 (h9:VLe V' V9)=>sY V9 t.n ((hnv.le hV02).le (hV'.trans h9))
            repeat' (first|(refine aG ?_;first|(refine aC ?_;(first|refine aI (q_max rfl rfl rfl) ?_|refine aI (pC rfl rfl rfl) ?_|refine aO rfl (aK ⟨Tryz.call17⟩ rfl (hBl _ vl9)) ?_))|(refine dA ?_;refine aI (iA agg_50 rfl g17 (by exact rfl)) ?_)|refine pu9 ?_)|refine bS ?_|(refine aA rfl ?_ ?_<;>intro hq<;>try exact no9))
            all_goals exact dO _ ⟨_,hct,vl9,rfl,rfl⟩ bG sl9
          by_cases k4:t.kind=4
          · have hct:iP (ctA a) t.p=bB (pZ (ctA a) t.who):=by unfold iP;exact(if_neg k1).trans ((if_neg k3).trans (if_pos k4))
            have hBl:=fun V9 y (h9:aT V9 y)=>sY V9 y h9
            repeat' (first|(refine aG ?_;first|(refine aC ?_;(first|(refine aM rfl ⟨Tryz.call26⟩ rfl bD rfl (hFl _ vl9) ?_;rintro v V3 B3 hV3 ⟨(⟨hnf,rfl⟩|⟨_,y,rfl,hyN,hyn⟩),rfl⟩)|refine aO rfl (aK ⟨Tryz.call17⟩ rfl (hBl _ lnZ aT.zero)) ?_|refine aO rfl (aK ⟨Tryz.call17⟩ rfl (hBl _ y (hyN.le vl9))) ?_))|(refine dA ?_;refine aI (cK one_3 rfl g1) ?_)|refine st9 ?_|(refine al9 ?_;intro γ)|refine pu9 ?_)|refine bS ?_|(refine aA rfl ?_ ?_<;>intro hq<;>try exact no9))
            · have hct:iP (ctA a) t.p=bB lnZ.n:=by rw [hct,hNf hnf];rfl
              exact dO _ ⟨_,hct,vl9,rfl,rfl⟩ bG sl9
            · rw [←hyn] at hct
              exact dO _ ⟨_,hct,vl9,rfl,rfl⟩ bG sl9
          have hct:iP (ctA a) t.p=0:=by unfold iP;exact(if_neg k1).trans ((if_neg k3).trans (if_neg k4))
          repeat' (first|(refine aG ?_;refine pu9 ?_)|refine bS ?_|(refine aA rfl ?_ ?_<;>intro hq<;>try exact no9))
          all_goals exact dO _ ⟨_,hct,vl9,rfl,rfl⟩ bG sl9
        rintro F V3 L' ⟨cost,hcost,hV3,rfl,rfl⟩
        rw [hcost] at hno
        repeat' (first|(refine aG ?_;first|(refine aC ?_;(refine aM rfl ⟨Tryz.call27⟩ rfl (cT (cT lG)) rfl (hDi _ vl9) ?_;rintro v V4 B4 hV4 ⟨A4,n4,c4,rfl,hS4,hB4⟩))|(refine dA ?_;refine aI (iA agg_70 rfl (hc.le vl9) (by exact rfl)) ?_)|refine st9 ?_|(refine al9 ?_;intro γ)|refine pu9 ?_)|refine gx9 ?_|refine dW (id:=28) ?_)
        have hV4':VLe V' V4:=vl9
        have g04:=eZ hV4' g0
        have g14:=eZ hV4' g1
        first
          | refine oA (fun F V' L'=>V4=V'∧(⟨γ10,67,oR Bx⟩ :: ⟨γ9,67,oR Lo⟩ :: B4:List Box)=L'∧F=[(1,.slice (some ⟨bb,off,none⟩) n c),(6,.pointer (some ⟨p,0,none⟩)),(8,.int .i64 ((m:Int) - 200)),(9,.pointer (some ⟨γ9,0,none⟩)),(10,.pointer (some ⟨γ10,0,none⟩)),(11,.int .i64 i),(12,.int .i64 (sumC (ctA a))),(14,.int .i64 cost),(17,.int .i64 o.f),(18,.int .i64 o.n)]) ?_ ?_
          | refine gc_meet2 (fun F V' L'=>V4=V'∧(⟨γ10,67,oR Bx⟩ :: ⟨γ9,67,oR Lo⟩ :: B4:List Box)=L'∧F=[(1,.slice (some ⟨bb,off,none⟩) n c),(6,.pointer (some ⟨p,0,none⟩)),(8,.int .i64 ((m:Int) - 200)),(9,.pointer (some ⟨γ9,0,none⟩)),(10,.pointer (some ⟨γ10,0,none⟩)),(11,.int .i64 i),(12,.int .i64 (sumC (ctA a))),(14,.int .i64 cost),(17,.int .i64 o.f),(18,.int .i64 o.n)]) ?_ ?_
        · by_cases h13:o.f=13
          · obtain⟨hkd,hlt13⟩:=hno h13
            have hkd:t.kind=1∨t.kind=3∨t.kind=4:=hkd
            repeat' (first|(refine aG ?_;first|(refine dA ?_;refine aI (cK one_3 rfl g04) ?_)|refine pu9 ?_)|refine bS ?_|(refine aJ rfl rfl rfl ?_ ?_<;>intro hq<;>try exact no9)|(refine aA rfl ?_ ?_<;>intro hq<;>try exact no9))
            all_goals first
              | exact no9
              | exact dO _ ⟨rfl,rfl,rfl⟩ bG sl9
          · repeat' (first|(refine aG ?_;first|(refine dA ?_;refine aI (cK one_3 rfl g04) ?_)|refine pu9 ?_)|refine bV ?_|(refine aJ rfl rfl rfl ?_ ?_<;>intro hq<;>try exact no9))
            all_goals first
              | exact no9
              | exact dO _ ⟨rfl,rfl,rfl⟩ bG sl9
        rintro F V5 L' ⟨rfl,rfl,rfl⟩
        by_cases hf0:o.f=0
        · have hR:=hok hf0
          have hft:=hR.fits
          rw [hcost] at hft
          repeat' (first|(refine aG ?_;first|(refine dA ?_;refine aI (cK one_3 rfl g04) ?_)|refine pu9 ?_)|refine bS ?_|(refine aA rfl ?_ ?_<;>intro hq<;>try exact no9))
          refine eK (fun F V' L'=>V4=V'∧(⟨γ10,67,oR (bxN o.c)⟩ :: ⟨γ9,67,oR (loN o.c)⟩ :: B4:List Box)=L'∧F=[(1,.slice (some ⟨bb,off,none⟩) n c),(6,.pointer (some ⟨p,0,none⟩)),(8,.int .i64 ((m:Int) - 200)),(9,.pointer (some ⟨γ9,0,none⟩)),(10,.pointer (some ⟨γ10,0,none⟩)),(11,.int .i64 i),(12,.int .i64 (sumC (ctA a))),(14,.int .i64 cost)]) ?_ ?_
          · refine cS ?_
            by_cases kq:t.kind=1
            · obtain⟨k,e1,e2,e3,e4⟩:=hR.k1 kq
              have e9:o.n.toNat=k:=by omega
              repeat' (first|(refine aG ?_;first|(refine bH ?_;refine aI (dM und_i5 siz_3 rfl rfl rfl (by omega) (by omega)) ?_)|(refine cY ?_;refine aP rfl siz_3 rfl rfl rfl rfl (by exact gL rfl) (cF.hereE splI (by rw [List.length_map];simp only [List.length_cons,List.length_nil];omega)) rfl ?_)|refine pu9 ?_)|refine bS ?_|(refine aA rfl ?_ ?_<;>intro hq<;>try exact no9))
              all_goals exact dO (L':=⟨γ10,67,oR (Bx.set o.n.toNat cost)⟩ :: ⟨γ9,67,oR (Lo)⟩ :: B4) _ ⟨rfl,by rw [e3,e4,hcost,e9,hLo,hBx],rfl⟩ bG sl9
            by_cases kq2:t.kind=2
            · obtain⟨k,e1,e2,e3,e4⟩:=hR.k2 kq2
              have e1:t.who=(k:Int):=e1
              have e9:t.who.toNat=k:=by omega
              repeat' (first|(refine aG ?_;first|(refine bH ?_;refine aI (dM und_i5 siz_3 rfl rfl rfl (by omega) (by omega)) ?_)|(refine dA ?_;refine aI (cK one_3 rfl g14) ?_)|(refine cY ?_;refine aP rfl siz_3 rfl rfl rfl rfl (by exact gL rfl) (cF.hereE splI (by rw [List.length_map];simp only [List.length_cons,List.length_nil];omega)) rfl ?_)|refine pu9 ?_)|refine bS ?_|(refine aA rfl ?_ ?_<;>intro hq<;>try exact no9))
              all_goals exact dO (L':=⟨γ10,67,oR (Bx.set t.who.toNat 0)⟩ :: ⟨γ9,67,oR (Lo)⟩ :: B4) _ ⟨rfl,by rw [e3,e4,e9,hLo,hBx],rfl⟩ bG sl9
            by_cases kq3:t.kind=3∨t.kind=4
            · obtain⟨k,e1,e2,e3,e4⟩:=hR.k3 kq3
              have e9:o.n.toNat=k:=by omega
              repeat' (first|(refine aG ?_;first|(refine bH ?_;refine aI (dM und_i5 siz_3 rfl rfl rfl (by omega) (by omega)) ?_)|(refine cY ?_;refine aP rfl siz_3 rfl rfl rfl rfl (by exact gL rfl) (cF.next _ _ _ _ _ _ (cF.hereE splI (by rw [List.length_map];simp only [List.length_cons,List.length_nil];omega))) rfl ?_)|refine pu9 ?_)|refine bS ?_|(refine aA rfl ?_ ?_<;>intro hq<;>try exact no9))
              all_goals first
                | exact no9
                | exact dO (L':=⟨γ10,67,oR (Bx)⟩ :: ⟨γ9,67,oR (Lo.set o.n.toNat cost)⟩ :: B4) _ ⟨rfl,by rw [e3,e4,hcost,e9,hLo,hBx],rfl⟩ bG sl9
            by_cases kq5:t.kind=5
            · obtain⟨k,e1,e2,e3,e4⟩:=hR.k5 kq5
              have e1:t.who=(k:Int):=e1
              have e9:t.who.toNat=k:=by omega
              repeat' (first|(refine aG ?_;first|(refine bH ?_;refine aI (dM und_i5 siz_3 rfl rfl rfl (by omega) (by omega)) ?_)|(refine dA ?_;refine aI (cK one_3 rfl g14) ?_)|(refine cY ?_;refine aP rfl siz_3 rfl rfl rfl rfl (by exact gL rfl) (cF.next _ _ _ _ _ _ (cF.hereE splI (by rw [List.length_map];simp only [List.length_cons,List.length_nil];omega))) rfl ?_)|refine pu9 ?_)|refine bS ?_|(refine aA rfl ?_ ?_<;>intro hq<;>try exact no9))
              all_goals first
                | exact no9
                | exact dO (L':=⟨γ10,67,oR (Bx)⟩ :: ⟨γ9,67,oR (Lo.set t.who.toNat 0)⟩ :: B4) _ ⟨rfl,by rw [e3,e4,e9,hLo,hBx],rfl⟩ bG sl9
            obtain⟨e3,e4⟩:=hR.kz (show ¬(1≤t.kind∧t.kind≤5) by omega)
            repeat' (first|(refine aG ?_;refine pu9 ?_)|refine bS ?_|(refine aA rfl ?_ ?_<;>intro hq<;>try exact no9))
            all_goals first
              | exact no9
              | exact dO (L':=⟨γ10,67,oR (Bx)⟩ :: ⟨γ9,67,oR (Lo)⟩ :: B4) _ ⟨rfl,by rw [e3,e4,hLo,hBx],rfl⟩ bG sl9
          rintro F V5 L' ⟨rfl,rfl,rfl⟩
          repeat' (first|(refine aG ?_;refine pu9 ?_)|refine bS ?_|(refine aA rfl ?_ ?_<;>intro hq<;>try exact no9))
          all_goals first
            | exact no9
            | refine aY _ (n - (i+1)) ⟨i+1,ra.1.a,ra.1.s,B4,vl9,by rw [q2],hB4,by rw [show 1+(i+1)=1+i+1 by omega];exact hin',q1,by omega,rfl,rfl⟩ (by omega) bG sl9
        · obtain⟨e8,_⟩:=hsame hf0
          repeat' (first|(refine aG ?_;refine pu9 ?_)|refine eT ?_|(refine aA rfl ?_ ?_<;>intro hq<;>try exact no9))
          all_goals refine aY _ (n - (i+1)) ⟨i+1,ra.1.a,ra.1.s,B4,vl9,by rw [q2,e8,hLo,hBx],hB4,by rw [show 1+(i+1)=1+i+1 by omega];exact hin',q1,by omega,rfl,rfl⟩ (by omega) bG sl9
    · repeat' (first|(refine aG ?_;first|(refine aC ?_;(first|refine aI (q_max rfl rfl rfl) ?_|refine aI (pC rfl rfl rfl) ?_))|refine pu9 ?_)|refine eT ?_|(refine aA rfl ?_ ?_<;>intro hq<;>try exact no9))
      all_goals
        (refine aR Tryz.results5 (aB rfl) ?_)
        rfl
  · (refine aN Tryz.func5 rfl Tryz.ntmps5 rfl ?_;intro w0)
    repeat' (first|(refine aG ?_;refine pu9 ?_)|refine bV ?_|(refine aJ rfl rfl rfl ?_ ?_<;>intro hq<;>try exact no9))
    all_goals
      (refine aR Tryz.results5 (aB rfl) ?_)
      rfl
end
section
open Go.ChangeShapes Go.WideShapes Go.ChangeAt Go.RowKit
open Go.Deep

section
variable {H : Type} {enc : TypeId × Value → H} {P : Program} {w : World} {base : Nat} {spare : Nat → Bool} {held : Bool}

theorem kF {x:Int} (h:(Lit.int .i64 x).wf=true):-9223372036854775808≤x∧x≤9223372036854775807:=by
  simp [Lit.wf,IntKind.min,IntKind.max,IntKind.signed,IntKind.bits] at h
  exact⟨by omega,by omega⟩

theorem ints_of_trod {t e:TypeId} {fuel:Nat} {v:Value} {x:DataW H×List MemPlace} (ht:P.underlying t=some (.slice e)) (he:P.underlying e=some (.int .i64)) (hc:P.cellsOf e=1)
    (h:DataW.trod enc P w base spare held fuel t [v]=some x):∃ A n c xs,v=.slice A n c∧jB w A n xs∧∀ z∈xs,-9223372036854775808≤z∧z≤9223372036854775807:=by
  rcases open_ints ht he hc h with ⟨hcs,_⟩|⟨a,len,cap,zs,hcs,_,hl,hm,hz,_,hcell,hwz⟩
  · obtain rfl:v=.slice none 0 0:=by simpa using hcs
    exact⟨none,0,0,[],rfl,jB.nil w,by simp⟩
  · obtain rfl:v=.slice (some a) len cap:=by simpa using hcs
    have hlz:len≤zs.length:=by rw [hz];split<;>omega
    refine⟨some a,len,cap,zs.take len,rfl,⟨by simp;omega,by omega,fun hn=>?_⟩,fun z hz'=>kF (hwz z (List.mem_of_mem_take hz'))⟩
    obtain⟨b,off,spot⟩:=a
    have hc0:=hcell 0 (by omega)
    have hs:spot=none:=by simpa [Addr.add] using World.cell?_spot hc0
    subst hs
    refine⟨b,off,rfl,fun j z hj=>?_⟩
    have hjl:j<len:=by
      rcases Nat.lt_or_ge j len with h|h
      · exact h
      · rw [List.getElem?_eq_none (by simp;omega)] at hj;cases hj
    rw [List.getElem?_take_of_lt hjl] at hj
    have hcj:=hcell j (by omega)
    rw [List.getD_eq_getElem?_getD,hj] at hcj
    have ha:(⟨b,off,none⟩:Addr).add j=⟨b,off+j,none⟩:=by unfold Addr.add;split<;>simp_all
    rw [ha] at hcj
    exact hcj

def iW {H:Type} (enc:TypeId×Value→H) (P:Program) (w:World) (base:Nat) (spare:Nat→Bool) (held:Bool) (fs:Array Field) (cs:List Value):Prop :=
  ∃ n,∀ (j:Nat) (f:Field),fs[j]?=some f→∃ y,DataW.trod enc P w base spare held n f.type ((cs.drop f.offset).take (P.cellsOf f.type))=some y

theorem mW {t:TypeId} {fs:Array Field} {fuel:Nat} {cs:List Value} {x:DataW H×List MemPlace} (hs:P.underlying t=some (.struct fs))
    (h:DataW.trod enc P w base spare held fuel t cs=some x):cs.length=P.cellsOf t∧iW enc P w base spare held fs cs:=by
  obtain⟨xs,n,_,_,hl,hxl,hg⟩:=DataW.trod_struct hs h
  refine⟨hl,n,fun j f hj=>?_⟩
  have hjl:j<xs.length:=by rw [hxl];exact(Array.getElem?_eq_some_iff.1 hj).1
  exact⟨xs[j],(hg j f hj).trans (List.getElem?_eq_getElem hjl)⟩

theorem iW.int {fs:Array Field} {cs:List Value} (h:iW enc P w base spare held fs cs) (j:Nat) {f:Field} (hj:fs[j]?=some f) {k:IntKind} (ht:P.underlying f.type=some (.int k)) (hc:P.cellsOf f.type=1) {v:Value} (hv:cs[f.offset]?=some v) :
    ∃ n,v=.int k n∧(Lit.int k n).wf=true:=by
  obtain⟨m,hm⟩:=h
  obtain⟨y,hy⟩:=hm j f hj
  obtain⟨n,he,_,hwf⟩:=DataW.trod_int ht hy
  rw [hc,nV (Lib.hid hv)] at he
  exact⟨n,by simpa using he,hwf⟩
theorem iW.bool {fs:Array Field} {cs:List Value} (h:iW enc P w base spare held fs cs) (j:Nat) {f:Field} (hj:fs[j]?=some f) (ht:P.underlying f.type=some .bool) (hc:P.cellsOf f.type=1) {v:Value} (hv:cs[f.offset]?=some v) :
    ∃ b,v=.bool b:=by
  obtain⟨m,hm⟩:=h
  obtain⟨y,hy⟩:=hm j f hj
  obtain⟨n,he,_⟩:=DataW.trod_bool ht hy
  rw [hc,nV (Lib.hid hv)] at he
  exact⟨n,by simpa using he⟩
theorem iW.string {fs:Array Field} {cs:List Value} (h:iW enc P w base spare held fs cs) (j:Nat) {f:Field} (hj:fs[j]?=some f) (ht:P.underlying f.type=some .string) (hc:P.cellsOf f.type=1) {v:Value} (hv:cs[f.offset]?=some v) :
    ∃ s,v=.string s∧s.size≤maxLen:=by
  obtain⟨m,hm⟩:=h
  obtain⟨y,hy⟩:=hm j f hj
  obtain⟨n,he,hx⟩:=DataW.trod_string ht hy
  rw [hc,nV (Lib.hid hv)] at he
  exact⟨n,by simpa using he,by simpa using hx.2⟩
theorem iW.ints {fs:Array Field} {cs:List Value} (h:iW enc P w base spare held fs cs) (j:Nat) {f:Field} (hj:fs[j]?=some f) {e:TypeId} (ht:P.underlying f.type=some (.slice e)) (he:P.underlying e=some (.int .i64)) (hc:P.cellsOf f.type=1) (hce:P.cellsOf e=1) {v:Value} (hv:cs[f.offset]?=some v) :
    ∃ A n c xs,v=.slice A n c∧jB w A n xs∧∀ z∈xs,-9223372036854775808≤z∧z≤9223372036854775807:=by
  obtain⟨m,hm⟩:=h
  obtain⟨y,hy⟩:=hm j f hj
  rw [hc,nV (Lib.hid hv)] at hy
  exact ints_of_trod ht he hce hy

theorem rO (hl:laidOutB P=true) {W W':World} (hb:Below W.heap.size W W'):∀ {ts:List TypeId} {vs:List Value} {ds:List (DataW H)} {ps:List MemPlace},(ts.all fun t=>P.readableRec t && decide (t<P.types.size))=true →
    DataW.TrodAll enc P W 0 (fun _=>true) true ts vs ds ps→DataW.TrodAll enc P W' 0 (fun b=>decide (b<W.heap.size)) true ts vs ds ps
  | [],[],[],_,_,h=>h
  | [],_ :: _,_,_,_,h=>h.elim
  | [],[],_ :: _,_,_,h=>h.elim
  | _ :: _,[],_,_,_,h=>h.elim
  | _ :: _,_ :: _,[],_,_,h=>h.elim
  | t :: ts,v :: vs,d :: ds,ps,hr,h=>by
    obtain⟨p,q,h1,h2,rfl⟩:=h
    simp only [List.all_cons,Bool.and_eq_true,decide_eq_true_eq] at hr
    have h1':=h1
    obtain⟨m,hm⟩:=h1'
    exact⟨p,q,Below.trod hl hr.1.1 hr.1.2 h1 hb (fun x hx=>DataW.trod_lt m _ _ _ hm x hx),rO hl hb (by simpa using hr.2) h2,rfl⟩
end
end
end Go.Proofs.YtejkmomfpidnbacGreat
