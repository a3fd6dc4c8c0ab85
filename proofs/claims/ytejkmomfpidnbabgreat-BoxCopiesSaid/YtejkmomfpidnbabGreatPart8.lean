/- Walks and plain laws, part 8: what functions compute, proved once each (BoxA, BoxC, BoxM, AttrE5, BoxS, BxP, BxM, BxO, BxU, CredE3, BxG). -/
import Derived.Test.YtejkmomfpidnbabGreatPart7
import Derived.Test.YtejkmomfpidnbabGreatPart6
import Derived.Test.YtejkmomfpidnbabGreatPart4
import Derived.Test.YtejkmomfpidnbabGreatPart2
set_option linter.unusedSimpArgs false
set_option linter.unusedVariables false
set_option maxRecDepth 100000
set_option maxHeartbeats 40000000
namespace Go.Proofs.YtejkmomfpidnbabGreat
open Go.RowKit
section
section
variable {P : Program} {B : Base} {N : Nat} {Q : Exit → Act → World → Prop} {k : List kI} {F : List (Nat × Value)} {V : aI} {L : List Box} {w : World}
variable {d : Option Tmp} {ty : TypeId} {pos : String} {af : Array Edge} {gd : Option (Nat × Bool)} {ops : Array Oper} {rest : List Oper}
theorem gc_swap {c:Code} {a b d:Box} {l:List Box} (h:GoC P B N c Q k F V (a :: d :: b :: l)):GoC P B N c Q k F V (a :: b :: d :: l):=gc_order sp9 h
theorem gw_callvB {dr:iI} (hdr:dr.loud=true) {f:FuncId} {fo:Operand} {args:List Operand} {ats:Array TypeId} {vs fs cs:List Value} {Bs:List Box} {R:Value→aI→List Box→Prop} {g:List Box→List Box} (he:kW P f) (hf:evF F fo=some (.func (.func f) fs.toArray cs.toArray)) (hv:evL F args=some vs) (hL:oJ L Bs g) (hd:okD N d=true) (hc:FnB P f (fs ++ vs ++ cs) V Bs R)
    (h:∀ v V' Bs',VLe V V'→R v V' Bs'→GoL P B N dr ops Q k rest (sJ F d v) V' (g Bs')):GoW P B N dr ops Q k ⟨d,.call ⟨.value fo,args.toArray,ats⟩,ty,pos,af,gd⟩ rest F V L:=jB hdr fun a w ha hs=>by
  obtain⟨X,Y,hX,hg⟩:=hL.h
  subst hX
  unfold Oper.wp
  rw [wJ he ha hf hv]
  have hsub:Bs.Sublist (X ++ (Bs ++ Y)):=(List.sublist_append_left Bs Y).trans (List.sublist_append_right X (Bs ++ Y))
  refine(hc w (hs.sub' hsub)).mono fun e w' ⟨v,V',Bs',he',hst,hR⟩=>?_
  subst he'
  have h1:=h v V' Bs' hst.v0 hR
  rw [hg] at h1
  exact gS hdr h1 _ _ (ha.put hd v) (hs.callB hst)
end
theorem repl_two {a b:Box} {L:List Box}:oJ (a :: b :: L) [a,b] (fun l=>l ++ L):=⟨[],L,rfl,fun _=>rfl⟩
theorem fit_light {h:Hd} {ks:PKs} (k:fitP h ks):eW h ks:=by
  obtain⟨_,_,_,_,h5,h6,h7,h8⟩:=k
  refine⟨?_,by omega,by omega,fun k hk=>by have:=h8 k hk;omega⟩
  unfold oU
  simp only [Bool.and_eq_true,decide_eq_true_eq,List.all_eq_true]
  exact⟨by have:=h5.1;omega,fun a ha=>by have:=h5.2 a ha;omega⟩
theorem bK.light {b:BX} (h:bK b):∀ x∈b.ls,cA eW x:=fun x hx=>(h.fit x hx).imp fun _ _=>fit_light
theorem UpR.off {r:PN×Int} {ev v:Value} {V:aI} {gs:List Nat} (hc:qX V gs) (h:UpR r ev v V):UpR r ev v (V.off gs):=by
  obtain⟨y,h1,h2,h3⟩:=h
  exact⟨y,h1,h2.off hc,h3⟩
theorem UpB_c {V:aI} {p:Nat} {b:BX} {I:BI} {L1:List Box} (hok:bK b) (hW:oS V b I L1) (Bo:Option Addr) (m e:Nat) (ss:List ByteArray) (hs:bZ V Bo m ss) (hme:m≤e) (hm:m≤100) :
    FnB Tryz.prog 152 [.slice I.K I.m I.e,lmV I.M,.slice Bo m e] V (⟨p,113,bxC I b⟩ :: L1) fun v V' Bs'=>Bs'=⟨p,113,bxC I b⟩ :: L1∧UpR (upP b.ls b.us b.gs ss) (bT (upP b.ls b.us b.gs ss).2) v V':=fun w hst=>by
  obtain⟨q,x0,xt,rest,hK,hx,hL1,hlen,hme2,hml,hm0⟩:=hW.open_ hok
  have hB:eO V p b (⟨p,113,bxC I b⟩ :: L1):=⟨I,L1,rfl,hW⟩
  have hm4:I.m≤4:=by rw [←hW.lens];exact hok.l4
  subst hL1
  have hlent:Lent [(q,(x0 :: xt).flatMap lnC)] (⟨p,113,bxC I b⟩ :: [⟨q,70,(x0 :: xt).flatMap lnC ++ rest⟩]):=by
    intro c hc
    rw [List.mem_singleton.1 hc]
    exact⟨_,_,List.mem_cons_of_mem _ List.mem_cons_self,List.prefix_append _ _⟩
  have hd:=hok.data hW
  have hcl:∀ c∈[(q,(x0 :: xt).flatMap lnC)],calmC c.2:=by
    intro c hc
    rw [List.mem_singleton.1 hc]
    exact sE (by rw [←hx];exact hd)
  have hq:aL (V.plus [(q,(x0 :: xt).flatMap lnC)]) q 0 ((x0 :: xt).flatMap lnC):=pZ hst.apart (by unfold jK;simp) (fun j=>by rw [kT,if_pos ⟨rfl,rfl⟩])
  have hN:dP (V.plus [(q,(x0 :: xt).flatMap lnC)]) I.K I.m I.xs:=by
    rw [hK,hx]
    refine dP.of ⟨?_,fun _=>⟨q,0,rfl,hq⟩⟩ (by rw [←hx];exact hW.len) (Nat.le_trans hme2 hml) (fun y hy=>(hW.ls y (by rw [hx];exact hy)).le lD)
    rw [kA lnC lG,←hx,hW.len]
  have hU:=Up_c (V.plus [(q,(x0 :: xt).flatMap lnC)]) I.K I.m I.e I.xs hN (by omega) (fun x hx9=>hok.light _ (by rw [←hW.eq];exact List.mem_map_of_mem (f:=LN.n) hx9)) I.M (hW.M.le lD) Bo m e ss (hs.le lD) hme hm
  rw [hW.eq,hW.us,hW.gs] at hU
  refine(Fn.lend hlent (fun _=>hU) w hst).mono fun e w' ⟨v,V',Bs',he,hst2,hB2,V3,g1,g2,g3,g4⟩=>?_
  exact⟨v,V',Bs',he,hst2,hB2,by rw [g2];exact g3.off (qX.of g4 hcl (by simp))⟩
def AlterC (f:FuncId) (cs:List Value) (p:Nat) (b:BX) (φ:Hd→Hd) (V:aI):Prop:=∀ V0,VLe V V0→∀ (I:BI),eV V0 I.A I.n b.c.xs→∀ (g:Nat) (x:LN),0≤x.h.mode∧x.h.mode≤4095→aX V0 x→FnB Tryz.prog f ([.pointer (some ⟨g,0,none⟩)] ++ cs) V0 [⟨g,70,lnC x⟩,⟨p,113,bxC I b⟩] fun v V' Bs'=>∃ y:LN,Bs'=[⟨g,70,lnC y⟩,⟨p,113,bxC I b⟩]∧y.n=.mk (φ x.h) x.ks∧aX V' y
theorem upK_bd9 {l:List PN} {us gs:List PR} {ss:List ByteArray} {u0:PN} (hl:∀ x∈l,cA eW x) (h0:cA eW u0):∀ i,(upK l us gs ss u0 i).2=0→cA (fB (80+i)) (upK l us gs ss u0 i).1
  | 0,_=>h0.imp fun _ _=>mD
  | i+1,h=>by
    have hprev:(upK l us gs ss u0 i).2=0:=by
      by_cases hp:(upK l us gs ss u0 i).2=0
      · exact hp
      · rw [upK,if_neg hp] at h;exact absurd h hp
    have ih:=upK_bd9 hl h0 i hprev
    rw [sM hprev] at h ⊢
    generalize (upK l us gs ss u0 i).1=u at *
    have hup:cA (fB (80+(i+1))) u:=ih.imp fun _ _=>iD (by omega)
    cases hq:bY l (ss.take (i+1)) with
    | nil=>rw [nO hq];exact hup
    | cons f r =>
      by_cases hf:f.2=0
      · rw [lS hq hf];exact hup
      · cases hm:cT true us gs (jT f.1) with
        | none=>rw [oK hq hf hm] at h;simp at h
        | some x =>
          by_cases hp:pF false x u (ss.take (i+1))=0
          · rw [lZ hq hf hm hp]
            have hlf:=fZ hl (ss.take (i+1)) f (by rw [hq];simp)
            have hlb:cA eW (jT f.1):=rQ (fun hd ks hh=>⟨hh.1,hh.2.1,by simp,by simp⟩) hlf
            have hlp:cA eW x:=pE (fun hd ks u g hh=>hh) hm hlb
            exact rX (hlp.imp fun _ _ hh=>iD (Nat.le_add_right 80 i) (mD hh)) hp ih
          · rw [lQ hq hf hm hp] at h;exact absurd h hp
theorem up_bd9 {l:List PN} {us gs:List PR} {ss:List ByteArray} (hl:∀ x∈l,cA eW x) (h0:cA eW (l.headD pnZ)) (hm:ss.length≤100) (h:(upP l us gs ss).2=0):cA (fB 200) (upP l us gs ss).1:=by
  unfold upP at h ⊢
  by_cases hw:bY l ss=[]
  · rw [if_pos hw] at h;simp at h
  · rw [if_neg hw] at h ⊢
    exact(upK_bd9 hl h0 ss.length h).imp fun _ _ hh=>iD (by omega) hh
def oY (h:Hd) (ks:PKs):Prop:=0≤h.mode∧h.mode≤4095
theorem edit_md {x:PN} {hd:Hd} {ks:PKs} {s:ByteArray} (hn:oY hd ks) (hk:∀ k∈ks,cA oY k.2) (hx:cA oY x):cA oY (.mk hd (gB false x ks s)):=by
  refine .mk hn fun k hk2=>?_
  rcases pI hk2 with h|h
  · exact hk k h
  · rw [h];exact hx
theorem pN_md {x:PN} (hx:cA oY x):∀ {l:List ByteArray} {n:PN},pF false x n l=0→cA oY n→cA oY (pN false x n l)
  | [],n,h,_=>by simp [pF] at h
  | [s],n,_,hm=>by
    rw [pN]
    exact edit_md hm.here (fun k hk=>hm.kid hk) hx
  | s :: t :: l,n,h,hm=>by
    obtain⟨hk,m,hm2,h3⟩:=vN.1 h
    rw [vD hm2]
    exact edit_md hm.here (fun k hk=>hm.kid hk) (pN_md hx h3 (hm.kid (lC hm2)))
theorem upK_md {l:List PN} {us gs:List PR} {ss:List ByteArray} {u0:PN} (hl:∀ x∈l,cA oY x) (h0:cA oY u0):∀ i,(upK l us gs ss u0 i).2=0→cA oY (upK l us gs ss u0 i).1
  | 0,_=>h0
  | i+1,h=>by
    have hprev:(upK l us gs ss u0 i).2=0:=by
      by_cases hp:(upK l us gs ss u0 i).2=0
      · exact hp
      · rw [upK,if_neg hp] at h;exact absurd h hp
    have hup:=upK_md hl h0 i hprev
    rw [sM hprev] at h ⊢
    generalize (upK l us gs ss u0 i).1=u at *
    cases hq:bY l (ss.take (i+1)) with
    | nil=>rw [nO hq];exact hup
    | cons f r =>
      by_cases hf:f.2=0
      · rw [lS hq hf];exact hup
      · cases hm:cT true us gs (jT f.1) with
        | none=>rw [oK hq hf hm] at h;simp at h
        | some x =>
          by_cases hp:pF false x u (ss.take (i+1))=0
          · rw [lZ hq hf hm hp]
            have hlf:=fZ hl (ss.take (i+1)) f (by rw [hq];simp)
            have hlb:cA oY (jT f.1):=rQ (fun hd ks hh=>hh) hlf
            exact pN_md (pE (fun hd ks u g hh=>hh) hm hlb) hp hup
          · rw [lQ hq hf hm hp] at h;exact absurd h hp
theorem up_md {l:List PN} {us gs:List PR} {ss:List ByteArray} (hl:∀ x∈l,cA oY x) (h0:cA oY (l.headD pnZ)) (h:(upP l us gs ss).2=0):cA oY (upP l us gs ss).1:=by
  unfold upP at h ⊢
  by_cases hw:bY l ss=[]
  · rw [if_pos hw] at h;simp at h
  · rw [if_neg hw] at h ⊢
    exact upK_md hl h0 ss.length h
theorem lT {h:Hd} {ks:PKs} (k:fB 200 h ks):dZ h ks:=⟨by have:=k.1;omega,by have:=k.2;omega⟩
theorem pQ {p:Hd→PKs→Prop}:∀ {l:List ByteArray} {n x:PN},cA p n→dN n l=some x→cA p x
  | [],n,x,h,hf=>by rw [dN] at hf;cases hf;exact h
  | s :: l,n,x,h,hf=>by
    rw [xJ] at hf
    split at hf
    · cases hl:dV n.ks s with
      | none=>rw [hl] at hf;cases hf
      | some m=>rw [hl] at hf;exact pQ (h.kid (lC hl)) hf
    · cases hf
theorem alter_up {b:BX} {ss:List ByteArray} {φ:Hd→Hd} (h:¬(upP b.ls b.us b.gs ss).2=0):fV b ss φ=(b,(upP b.ls b.us b.gs ss).2):=if_pos h
theorem alter_root {b:BX} {φ:Hd→Hd} (h:(upP b.ls b.us b.gs []).2=0):fV b [] φ=iZ b (.mk (φ (upP b.ls b.us b.gs []).1.h) (upP b.ls b.us b.gs []).1.ks):=by unfold fV;rw [if_neg (not_not_intro h),if_pos rfl]
theorem alter_put {b:BX} {ss:List ByteArray} {φ:Hd→Hd} {n:PN} (h:(upP b.ls b.us b.gs ss).2=0) (hs:¬ss=[]) (hn:PN.mk (φ ((dN (upP b.ls b.us b.gs ss).1 ss).getD pnZ).h) ((dN (upP b.ls b.us b.gs ss).1 ss).getD pnZ).ks=n):fV b ss φ=if ¬pF false n (upP b.ls b.us b.gs ss).1 ss=0 then (b,pF false n (upP b.ls b.us b.gs ss).1 ss) else iZ b (pN false n (upP b.ls b.us b.gs ss).1 ss):=by
  unfold fV;rw [if_neg (not_not_intro h),if_neg hs,hn]
attribute [local irreducible] AtQ GoC GoL GoW QO QP Fn RV bX aL VLe cG bT
theorem alter_c {f:FuncId} {cs:List Value} {φ:Hd→Hd} (he:kW Tryz.prog f) (V:aI) (p:Nat) (b:BX) (Bs:List Box) (hok:bK b) (h:eO V p b Bs) (hA:AlterC f cs p b φ V) (hφ:∀ h:Hd,h.attrs.length≤1000→(φ h).attrs.length≤1000) (Bo:Option Addr) (m e:Nat) (ss:List ByteArray) (hs:bZ V Bo m ss) (hme:m≤e) (hm:m≤100) :
    FnB Tryz.prog 148 [.pointer (some ⟨p,0,none⟩),.slice Bo m e,.func (.func f) #[] cs.toArray] V Bs (ChB p (fV b ss φ)):=by
  have sl:=hs.1.1
  obtain⟨I,L1,rfl,hW⟩:=h
  have hU:=fun V2 (hV2:VLe V V2)=>UpB_c (p:=p) hok (hW.le hV2) Bo m e ss (hs.le hV2) hme hm
  obtain⟨n0,t0,hls,hkd0⟩:=hok.root
  have hbd:=up_bd9 (us:=b.us) (gs:=b.gs) (ss:=ss) hok.light (by rw [hls];exact hok.light n0 (by rw [hls];simp)) (by omega)
  have hmds:∀ x∈b.ls,cA oY x:=fun x hx=>(hok.fit x hx).imp fun _ _ k=>k.2.1
  have hmd:=up_md (us:=b.us) (gs:=b.gs) (ss:=ss) hmds (by rw [hls];exact hmds n0 (by rw [hls];simp))
  generalize hup:upP b.ls b.us b.gs ss=up at *
  (refine bI Tryz.func148 rfl Tryz.ntmps148 rfl ?_;intro w0)
  repeat' (first|(refine aE ?_;refine pu9 ?_)|refine bV ?_|fail)
  refine dD (fun F V' L'=>∃ (γ7:Nat) (y:LN),VLe V V'∧aX V' y∧y.n=up.1∧⟨γ7,70,lnC y⟩ :: ⟨p,113,bxC I b⟩ :: L1=L'∧F=[(0,.pointer (some ⟨p,0,none⟩)),(1,.slice Bo m e),(2,.func (.func f) #[] cs.toArray),(7,.pointer (some ⟨γ7,0,none⟩)),(8,bT up.2)]) ?_ ?_
  · refine bM (id:=1) _ mixed (List.Sublist.refl _) ?_;refine gt9 0 ?_;refine gt9 1 ?_;refine gt9 2 ?_;refine gt9 3 ?_;refine gt9 4 ?_;refine gt9 5 ?_;refine gt9 6 ?_;refine gt9 7 ?_;refine gt9 8 ?_;(refine dF (i:=9) (j:=13) (by kernel_rfl) rfl rfl rfl rfl vl9 vl9 bD ?_ ?_<;>first|((refine aW rfl ⟨Tryz.call152⟩ rfl bF rfl (hU _ vl9) ?_;rintro v V2 B2 hV2 ⟨rfl,y,rfl,hyN,hyn⟩);refine gt9 10 ?_;refine gt9 11 ?_;refine gt9 12 ?_;refine aY (i:=13) rfl ?_;(refine bS rfl zer_70 rfl ?_;intro γ);refine aY (i:=14) rfl ?_;refine aO rfl siz_70 rfl rfl rfl rfl bG dC rfl ?_;refine gt9 15 ?_;refine aU (by kernel_rfl) vl9 vl9 bD ?_)|((refine bS rfl zer_70 rfl ?_;intro γ);refine aY (i:=9) rfl ?_;(refine aW rfl ⟨Tryz.call152⟩ rfl bF rfl (hU _ vl9) ?_;rintro v V2 B2 hV2 ⟨rfl,y,rfl,hyN,hyn⟩);refine gt9 10 ?_;refine gt9 11 ?_;refine gt9 12 ?_;refine aY (i:=14) rfl ?_;refine aO rfl siz_70 rfl rfl rfl rfl bG dC rfl ?_;refine gt9 15 ?_;refine aU (by kernel_rfl) vl9 vl9 bD ?_))
    all_goals exact bR _ ⟨_,y,hV2,hyN,hyn,rfl,rfl⟩ bH sp9
  · rintro F V2 L' ⟨γ7,y,hV2,hyN,hyn,rfl,rfl⟩
    have hWV:=hW.le hV2
    by_cases hu:up.2=0
    · have hub:=hbd hu
      have hum:=hmd hu
      by_cases hs0:ss=[]
      · subst hs0
        have e9:fV b [] φ=iZ b (.mk (φ y.n.h) y.n.ks):=by rw [alter_root (by rw [hup];exact hu),hup,hyn]
        rw [e9]
        have hG:=fun V3 (hV3:VLe V2 V3) (z:LN) (hz:aX V3 z)=>xW V3 p b _ hok ⟨I,L1,rfl,hWV.le hV3⟩ z hz
        have hF:=fun V3 (hV3:VLe V2 V3)=>hA V3 (hV2.trans hV3) I (hWV.xs.le hV3) γ7 y (show 0≤y.n.h.mode∧y.n.h.mode≤4095 by rw [hyn];exact hum.here) (hyN.le hV3)
        repeat' (first|(refine aE ?_;refine pu9 ?_)|refine gx9 ?_|refine dX [2,4] rfl ?_|(refine aA rfl ?_ ?_<;>intro hq<;>try exact no9))
        all_goals first
          | (exfalso;exact absurd hu (by assumption))
          | (exfalso;simp at sl;omega)
          | skip
        repeat' (first|(refine aE ?_;first|(refine aD ?_;(refine gw_callvB (fs:=[]) rfl he rfl rfl repl_two rfl (hF _ vl9) ?_;rintro v V3 B3 hV3 ⟨y3,rfl,hy3n,hy3N⟩;simp only [List.cons_append,List.nil_append]))|refine pu9 ?_)|refine gx9 ?_|refine cL (id:=5) ?_)
        have hG2:=hG _ vl9 y3 hy3N
        rw [show y3.n=.mk (φ y.n.h) y.n.ks from hy3n] at hG2
        repeat' (first|(refine aE ?_;first|(refine aD ?_;(refine aW rfl ⟨Tryz.call154⟩ rfl bF rfl (hG2) ?_;rintro v V4 B4 hV4 ⟨rfl,hB4⟩))|refine pu9 ?_)|refine bV ?_|fail)
        all_goals
          (refine bC Tryz.results148 (aB rfl) (List.Sublist.cons _ (List.Sublist.refl _)) ?_)
          exact⟨rfl,hB4⟩
      · have hbF:cA dZ ((dN up.1 ss).getD pnZ):=by
          cases hf:dN up.1 ss with
          | none=>exact .mk ⟨Nat.zero_le _,Nat.zero_le _⟩ (by simp)
          | some x=>exact pQ (hub.imp fun _ _=>lT) hf
        have hbH:((dN up.1 ss).getD pnZ).h.attrs.length≤1000:=by
          cases hf:dN up.1 ss with
          | none=>exact Nat.zero_le _
          | some x=>exact(pQ hub hf).here.1
        have hbM:0≤((dN up.1 ss).getD pnZ).h.mode∧((dN up.1 ss).getD pnZ).h.mode≤4095:=by
          cases hf:dN up.1 ss with
          | none=>exact⟨Int.le_refl _,by decide⟩
          | some x=>exact(pQ hum hf).here
        have e9:=alter_put (b:=b) (ss:=ss) (φ:=φ) (by rw [hup];exact hu) hs0 rfl
        rw [hup] at e9
        rw [e9]
        have hn1:cA dZ (PN.mk (φ ((dN up.1 ss).getD pnZ).h) ((dN up.1 ss).getD pnZ).ks):=by
          refine .mk ⟨?_,hbF.here.2⟩ (fun k hk=>hbF.kid hk)
          have:=hφ _ hbH
          omega
        have hFd:=fun V3 (hV3:VLe V2 V3)=>Find_c V3 y (hyN.le hV3) (by rw [hyn];exact hub.imp fun _ _=>lT) Bo m e ss (hs.le (hV2.trans hV3))
        rw [hyn] at hFd
        have hF:=fun V3 (hV3:VLe V2 V3) g (z:LN) (hzn:z.n=(dN up.1 ss).getD pnZ) (hz:aX V3 z)=>hA V3 (hV2.trans hV3) I (hWV.xs.le hV3) g z (show 0≤z.n.h.mode∧z.n.h.mode≤4095 by rw [hzn];exact hbM) hz
        generalize hnn:(PN.mk (φ ((dN up.1 ss).getD pnZ).h) ((dN up.1 ss).getD pnZ).ks)=n1 at *
        have hPut:∀ V5,VLe V2 V5→∀ z:LN,aX V5 z→z.n=n1→Fn Tryz.prog 159 [lnV y,.slice Bo m e,lnV z] V5 (qV false n1 up.1 ss):=fun V5 h5 z hz hzn=>by
          have h9:=Put_c V5 y (hyN.le h5) (by rw [hyn];exact hub.imp fun _ _=>gK (by omega)) Bo m e ss (hs.le (hV2.trans h5)) hme z hz (by rw [hzn];exact hn1)
          rw [hzn,hyn] at h9
          exact h9
        have hG:=fun V3 (hV3:VLe V2 V3) (z:LN) (hz:aX V3 z)=>xW V3 p b _ hok ⟨I,L1,rfl,hWV.le hV3⟩ z hz
        repeat' (first|(refine aE ?_;first|(refine aD ?_;(refine aM rfl ⟨Tryz.call158⟩ rfl rfl (hFd _ vl9) ?_;rintro v V3 hV3 ⟨z,rfl,hzN,hzn⟩))|refine st9 ?_|(refine al9 ?_;intro γ)|refine pu9 ?_)|refine gx9 ?_|refine dX [2,4,7] rfl ?_|(refine aA rfl ?_ ?_<;>intro hq<;>try exact no9))
        all_goals first
          | (exfalso;exact absurd hu (by assumption))
          | (exfalso;exact hs0 (List.eq_nil_of_length_eq_zero (by omega)))
          | skip
        refine gc_swap ?_
        repeat' (first|(refine aE ?_;first|(refine aD ?_;(refine gw_callvB (fs:=[]) rfl he rfl rfl repl_two rfl (hF _ vl9 _ z hzn hzN) ?_;rintro v V4 B4 hV4 ⟨y3,rfl,hy3n,hy3N⟩;simp only [List.cons_append,List.nil_append]))|refine pu9 ?_)|refine gx9 ?_|refine cL (id:=8) ?_)
        have hy3:y3.n=n1:=by
          rw [hy3n,←hnn,←hzn]
          rfl
        refine gc_swap ?_
        have hP:=hPut _ vl9 y3 hy3N hy3
        by_cases hpf:pF false n1 up.1 ss=0
        · rw [if_neg (not_not_intro hpf)]
          repeat' (first|(refine aE ?_;first|(refine aD ?_;(refine aM rfl ⟨Tryz.call159⟩ rfl rfl (hP) ?_;rintro v V5 hV5 ⟨x5,rfl,hx5N,hx5n⟩))|refine st9 ?_|refine pu9 ?_)|refine bV ?_|fail)
          rw [tS,if_pos hpf] at hx5n
          have e0:∀ l,l=lnC x5→spl (lnC y) 0 l=lnC x5:=fun l hl=>by rw [hl];exact gY rfl
          rw [e0 _ ?_]
          rotate_left
          · rfl
          have hG2:=hG _ vl9 x5 hx5N
          rw [hx5n] at hG2
          repeat' (first|(refine aE ?_;first|(refine aD ?_;(refine aW rfl ⟨Tryz.call154⟩ rfl bF rfl (hG2) ?_;rintro v V6 B6 hV6 ⟨rfl,hB6⟩))|refine pu9 ?_)|refine bV ?_|(refine aA rfl ?_ ?_<;>intro hq<;>try exact no9))
          all_goals first
            | (exfalso;exact absurd hpf (by assumption))
            | skip
          all_goals
            (refine bC Tryz.results148 (aB rfl) (List.Sublist.cons _ (List.Sublist.cons _ (List.Sublist.refl _))) ?_)
            exact⟨rfl,hB6⟩
        · rw [if_pos hpf]
          repeat' (first|(refine aE ?_;first|(refine aD ?_;(refine aM rfl ⟨Tryz.call159⟩ rfl rfl (hP) ?_;rintro v V5 hV5 ⟨x5,rfl,hx5N,hx5n⟩))|refine st9 ?_|refine pu9 ?_)|refine bV ?_|(refine aA rfl ?_ ?_<;>intro hq<;>try exact no9))
          all_goals first
            | (exfalso;exact hpf (by assumption))
            | skip
          all_goals
            (refine bC Tryz.results148 (aB rfl) (List.Sublist.cons _ (List.Sublist.cons _ (List.Sublist.refl _))) ?_)
            exact⟨rfl,I,_,rfl,hWV.le vl9⟩
    · rw [alter_up (by rw [hup];exact hu),hup]
      repeat' (first|(refine aE ?_;refine pu9 ?_)|refine bV ?_|(refine aA rfl ?_ ?_<;>intro hq<;>try exact no9))
      all_goals first
        | (exfalso;exact hu (by assumption))
        | skip
      all_goals
        (refine bC Tryz.results148 (aB rfl) (List.Sublist.cons _ (List.Sublist.refl _)) ?_)
        exact⟨rfl,I,_,rfl,hWV⟩
end
section
attribute [local irreducible] AtQ GoC GoL GoW QO QP Fn RV bX aL VLe cG bT
theorem mode1_c (V:aI) (p:Nat) (b:BX) (γ:Nat) (m:Int) (hγ:V ⟨γ,0,none⟩=some (.int .i64 m)):AlterC 162 [.pointer (some ⟨γ,0,none⟩)] p b (fun h=>{ h with mode:=m }) V:=by
  intro V0 hV I hI g x hmd hx
  have h0:=fA hV hγ
  obtain⟨ha,hca,hd,hck,es,hk,hks⟩:=hx.inv
  (refine bI Tryz.func162 rfl Tryz.ntmps162 rfl ?_;intro w0)
  repeat' (first|(refine aE ?_;first|refine st9 ?_|refine pu9 ?_)|refine bV ?_|fail)
  all_goals
    (first|refine nB Tryz.results162  (List.Sublist.refl _) ?_|refine nC Tryz.results162 (List.Sublist.refl _) ?_)
    exact⟨{ x with h:={ x.h with mode:=m } },rfl,rfl,.mk _ es ha hca hd hk.1 hck hks (fun e he=>(hk.2 e he).1) (fun e he=>(hk.2 e he).2)⟩
theorem set1_c (V:aI) (p:Nat) (b:BX) (γ:Nat) (A:Option Addr) (n c:Nat) (xs:List PA) (hγ:V ⟨γ,0,none⟩=some (.slice A n c)) (hA:eH V A n xs) (hnc:n≤c):AlterC 170 [.pointer (some ⟨γ,0,none⟩)] p b (fun h=>{ h with attrs:=xs }) V:=by
  intro V0 hV I hI g x hmd hx
  have h0:=fA hV hγ
  obtain⟨ha,hca,hd,hck,es,hk,hks⟩:=hx.inv
  (refine bI Tryz.func170 rfl Tryz.ntmps170 rfl ?_;intro w0)
  repeat' (first|(refine aE ?_;first|refine st9 ?_|refine pu9 ?_)|refine bV ?_|fail)
  all_goals
    (first|refine nB Tryz.results170  (List.Sublist.refl _) ?_|refine nC Tryz.results170 (List.Sublist.refl _) ?_)
    exact⟨{ x with h:={ x.h with attrs:=xs },A:=A,na:=n,ca:=c },rfl,rfl,.mk _ es (hA.le hV) hnc hd hk.1 hck hks (fun e he=>(hk.2 e he).1) (fun e he=>(hk.2 e he).2)⟩
theorem own1_c (V:aI) (p:Nat) (b:BX) (hd0:0≤b.c.d∧b.c.d≤15) (γ δ:Nat) (u g:Int) (h2:V ⟨γ,2,none⟩=some (.int .i64 u)) (h3:V ⟨γ,3,none⟩=some (.int .i64 g)) (hp:V ⟨δ,0,none⟩=some (.pointer (some ⟨p,0,none⟩))):AlterC 165 [.pointer (some ⟨γ,0,none⟩),.pointer (some ⟨δ,0,none⟩)] p b (fun h=>{ h with user:=u,group:=g,mode:=mK b.c.d h.mode }) V:=by
  intro V0 hV I hI q x hmd hx
  have h2':=fA hV h2
  have h3':=fA hV h3
  have hp':=fA hV hp
  obtain⟨ha,hca,hd,hck,es,hk,hks⟩:=hx.inv
  have hW:=fun V2=>Wipe_c V2 b.c.u b.c.g b.c.d I.A I.n I.k x.h.mode hmd.1 hmd.2 hd0.1 hd0.2
  (refine bI Tryz.func165 rfl Tryz.ntmps165 rfl ?_;intro w0)
  repeat' (first|refine gx9 ?_|fail)
  refine bM (id:=0) _ mixed (List.nil_sublist _) ?_;refine gt9 0 ?_;refine gt9 1 ?_;refine gt9 2 ?_;refine gt9 3 ?_;refine gt9 4 ?_;refine gt9 5 ?_;refine gt9 6 ?_;refine gt9 7 ?_;refine aY (i:=8) rfl ?_;refine aO rfl siz_3 rfl rfl rfl rfl bG dC rfl ?_;refine gt9 9 ?_;refine gt9 10 ?_;refine aY (i:=11) rfl ?_;refine aO rfl siz_3 rfl rfl rfl rfl bG dC rfl ?_;refine aU (by kernel_rfl) vl9 vl9 bD ?_
  all_goals repeat' (first|(refine sG ?_;(first|refine gA ?_|refine sF rfl ?_)))
  all_goals refine bM (id:=1) _ mixed (List.Sublist.cons _ (List.Sublist.refl _)) ?_;refine gt9 0 ?_;refine gt9 1 ?_;refine gt9 2 ?_;refine gt9 3 ?_;refine gt9 4 ?_;refine gt9 5 ?_;refine gt9 6 ?_;refine gt9 7 ?_;refine aY (i:=8) rfl ?_;(first|refine aR (bE one_3 rfl bB (by exact rfl)) ?_|refine aR (bE one_3 rfl bB (by assumption)) ?_|refine aR (cI one_3 rfl (by assumption)) ?_);refine aY (i:=9) rfl ?_;refine aN rfl (aG ⟨Tryz.call150⟩ rfl (hW _)) ?_;refine gt9 10 ?_;refine gt9 11 ?_;refine aY (i:=12) rfl ?_;refine aO rfl siz_3 rfl rfl rfl rfl bG dC rfl ?_;refine aU (by kernel_rfl) vl9 vl9 bD ?_
  all_goals repeat' (first|fail)
  all_goals
    (first|refine nB Tryz.results165  (List.Sublist.refl _) ?_|refine nC Tryz.results165 (List.Sublist.refl _) ?_)
    exact⟨{ x with h:={ x.h with user:=u,group:=g,mode:=mK b.c.d x.h.mode } },rfl,rfl,.mk _ es ha hca hd hk.1 hck hks (fun e he=>(hk.2 e he).1) (fun e he=>(hk.2 e he).2)⟩
theorem put1_c (V:aI) (p:Nat) (b:BX) (hd0:0≤b.c.d∧b.c.d≤15) (γ δ:Nat) (dt:ByteArray) (hdt:dt.size≤maxLen) (h4:V ⟨γ,4,none⟩=some (.string dt)) (hp:V ⟨δ,0,none⟩=some (.pointer (some ⟨p,0,none⟩))):AlterC 149 [.pointer (some ⟨γ,0,none⟩),.pointer (some ⟨δ,0,none⟩)] p b (fun h=>{ h with data:=dt,mode:=mK b.c.d h.mode }) V:=by
  intro V0 hV I hI q x hmd hx
  have h4':=fA hV h4
  have hp':=fA hV hp
  obtain⟨ha,hca,hd,hck,es,hk,hks⟩:=hx.inv
  have hW:=fun V2=>Wipe_c V2 b.c.u b.c.g b.c.d I.A I.n I.k x.h.mode hmd.1 hmd.2 hd0.1 hd0.2
  (refine bI Tryz.func149 rfl Tryz.ntmps149 rfl ?_;intro w0)
  repeat' (first|(refine aE ?_;first|refine st9 ?_|refine pu9 ?_)|refine bV ?_|fail)
  all_goals refine bM (id:=1) _ mixed (List.Sublist.cons _ (List.Sublist.refl _)) ?_;refine gt9 0 ?_;refine gt9 1 ?_;refine gt9 2 ?_;refine gt9 3 ?_;refine gt9 4 ?_;refine gt9 5 ?_;refine gt9 6 ?_;refine gt9 7 ?_;refine aY (i:=8) rfl ?_;(first|refine aR (bE one_3 rfl bB (by exact rfl)) ?_|refine aR (bE one_3 rfl bB (by assumption)) ?_|refine aR (cI one_3 rfl (by assumption)) ?_);refine aY (i:=9) rfl ?_;refine aN rfl (aG ⟨Tryz.call150⟩ rfl (hW _)) ?_;refine gt9 10 ?_;refine gt9 11 ?_;refine aY (i:=12) rfl ?_;refine aO rfl siz_3 rfl rfl rfl rfl bG dC rfl ?_;refine aU (by kernel_rfl) vl9 vl9 bD ?_
  all_goals repeat' (first|fail)
  all_goals
    (first|refine nB Tryz.results149  (List.Sublist.refl _) ?_|refine nC Tryz.results149 (List.Sublist.refl _) ?_)
    exact⟨{ x with h:={ x.h with data:=dt,mode:=mK b.c.d x.h.mode } },rfl,rfl,.mk _ es ha hca hdt hk.1 hck hks (fun e he=>(hk.2 e he).1) (fun e he=>(hk.2 e he).2)⟩
end
section
theorem fD (l:List UInt8):(aK l).length≤6:=by
  unfold aK
  split
  · rename_i h
    obtain⟨h1,h2⟩:=h
    unfold dY at h1
    rw [if_neg h2] at h1
    unfold baL
    rw [List.length_map]
    split at h1
    · simp at h1
    · split at h1
      · simp at h1
      · split at h1
        · simp at h1
        · omega
  · exact Nat.zero_le _
theorem oS.owned {V:aI} {p:Nat} {b:BX} {I:BI} {L1:List Box} (hok:bK b) (hW:oS V b I L1):∀ x∈jK (⟨p,113,bxC I b⟩ :: L1),∃ cs,bX (⟨p,113,bxC I b⟩ :: L1) x cs:=by
  obtain⟨q,x0,xt,rest,hK,hx,rfl,_⟩:=hW.open_ hok
  intro x hx
  simp [jK] at hx
  rcases hx with rfl|rfl
  · exact⟨_,yD⟩
  · exact⟨_,iE yD⟩
def nQ (b:BX) (l:List UInt8) (m:Int):BX×Int:=if m<0∨4095<m then (b,1) else if ¬cS b l=0 then (b,cS b l) else if nI b.c (aV b l).th=false then (b,10) else fV b (aK l) (fun h=>{ h with mode:=oI b.c.g b.c.d b.c.xs m (aV b l).th.group })
theorem aL.at0 {V:aI} {γ:Nat} {v:Value} (h:aL V γ 0 [v]):V ⟨γ,0,none⟩=some v:=h 0 v rfl
theorem tB {V:aI} {p:Nat} {b:BX} {Bs:List Box} (hok:bK b) (h:eO V p b Bs) (s:ByteArray) (hl:s.size≤1000000):FnB Tryz.prog 142 [.pointer (some ⟨p,0,none⟩),.string s] V Bs fun v V' Bs'=>Bs'=Bs∧oT b (aC s) v V' :=
  eO.read hok h (fun v V gs hc hR=>oT.off hc hR) fun V' I hV hB=>there_s V' p b I hok hB s hl
attribute [local irreducible] AtQ GoC GoL GoW QO QP Fn RV bX aL VLe cG bT
theorem mode_c (V:aI) (p:Nat) (b:BX) (Bs:List Box) (hok:bK b) (h:eO V p b Bs) (c:CL) (hc:c.path.size≤1000000):FnB Tryz.prog 72 [.pointer (some ⟨p,0,none⟩),clV c] V Bs (ChB p (nQ b (aC c.path) c.a)):=by
  obtain⟨I,L1,rfl,hW⟩:=h
  have hT:=fun V2 (hV2:VLe V V2)=>tB (V:=V2) (p:=p) hok ⟨I,L1,rfl,hW.le hV2⟩ c.path hc
  have hO:=fun V2=>Owns_c V2 b.c I.A I.n I.k hok.d
  have hth:=fH hok (aC c.path)
  unfold nQ
  by_cases hm:c.a<0∨4095<c.a
  · rw [if_pos hm]
    (refine bI Tryz.func72 rfl Tryz.ntmps72 rfl ?_;intro w0)
    repeat' (first|(refine aE ?_;first|(refine al9 ?_;intro γ)|refine pu9 ?_)|refine fX ?_|(refine aJ rfl rfl rfl ?_ ?_<;>intro hq<;>try exact no9)|refine dX [0,1,2] rfl ?_|(refine aA rfl ?_ ?_<;>intro hq<;>try exact no9))
    all_goals try exact no9
    all_goals
      (refine bC Tryz.results72 (aB rfl) (List.Sublist.cons _ (List.Sublist.refl _)) ?_)
      exact⟨dE 1 rfl,I,_,rfl,hW⟩
  · rw [if_neg hm]
    by_cases ht:cS b (aC c.path)=0
    · rw [if_neg (not_not_intro ht)]
      by_cases how:nI b.c (aV b (aC c.path)).th=false
      · rw [if_pos how]
        have hO9:=fun V2=>hO V2 (aV b (aC c.path)).th
        rw [how] at hO9
        (refine bI Tryz.func72 rfl Tryz.ntmps72 rfl ?_;intro w0)
        repeat' (first|(refine aE ?_;first|(refine aD ?_;(first|(refine aW rfl ⟨Tryz.call142⟩ rfl bF rfl (hT _ vl9) ?_;rintro v V2 B2 hV2 ⟨rfl,hR⟩;rcases hR with ⟨ht0,A,n,k,x,rfl,hs,hnk,hxN,hxn⟩|⟨ht0,A,n,k,x,lay,par,th,rfl⟩)|refine aN rfl (aG ⟨Tryz.call160⟩ rfl (hO9 _)) ?_))|(refine dG ?_;refine aO rfl siz_214 rfl rfl rfl rfl bG gG rfl ?_)|(refine al9 ?_;intro γ)|refine pu9 ?_)|refine fX ?_|(refine aJ rfl rfl rfl ?_ ?_<;>intro hq<;>try exact no9)|refine dX [0,1,3,4,7] rfl ?_|(refine aA rfl ?_ ?_<;>intro hq<;>try exact no9)|refine bN (id:=6) mixed (by kernel_rfl) ?_)
        all_goals first
          | exact no9
          | (exfalso;exact absurd ht ht0)
          | skip
        all_goals
          (refine bC Tryz.results72 (aB rfl) (List.Sublist.cons _ (List.Sublist.cons _ (List.Sublist.refl _))) ?_)
          exact⟨dE 10 rfl,I,_,rfl,hW.le vl9⟩
      · rw [if_neg how]
        have hO9:=fun V2=>hO V2 (aV b (aC c.path)).th
        rw [show nI b.c (aV b (aC c.path)).th=true by revert how;cases nI b.c (aV b (aC c.path)).th<;>simp] at hO9
        have hK:=fun V2 (hV2:VLe V V2)=>Keep_c V2 b.c.u b.c.g b.c.d I.A I.n I.k b.c.xs (hW.xs.le hV2) c.a (aV b (aC c.path)).th.group (by omega) (by omega) hok.d.1 hok.d.2
        generalize hkq:oI b.c.g b.c.d b.c.xs c.a (aV b (aC c.path)).th.group=kq at *
        have hown:=hW.owned (p:=p) hok
        have hAl:=fun V2 (hV2:VLe V V2) γ (hγ:V2 ⟨γ,0,none⟩=some (.int .i64 kq)) A n k (hs:bZ V2 A n (aK (aC c.path))) (hnk:n≤k)=>alter_c ⟨Tryz.call162⟩ V2 p b _ hok ⟨I,L1,rfl,hW.le hV2⟩ (mode1_c V2 p b γ kq hγ) (fun h hh=>hh) A n k _ hs hnk (by have:=fD (aC c.path);have:=hs.1.1;omega)
        (refine bI Tryz.func72 rfl Tryz.ntmps72 rfl ?_;intro w0)
        repeat' (first|(refine aE ?_;first|(refine aD ?_;(first|(refine aW rfl ⟨Tryz.call142⟩ rfl bF rfl (hT _ vl9) ?_;rintro v V2 B2 hV2 ⟨rfl,hR⟩;rcases hR with ⟨ht0,A,n,k,x,rfl,hs,hnk,hxN,hxn⟩|⟨ht0,A,n,k,x,lay,par,th,rfl⟩)|refine aN rfl (aG ⟨Tryz.call160⟩ rfl (hO9 _)) ?_))|(refine dG ?_;refine aO rfl siz_214 rfl rfl rfl rfl bG gG rfl ?_)|(refine al9 ?_;intro γ)|refine pu9 ?_)|refine fX ?_|(refine aJ rfl rfl rfl ?_ ?_<;>intro hq<;>try exact no9)|refine dX [0,1,3,4] rfl ?_|(refine aA rfl ?_ ?_<;>intro hq<;>try exact no9)|refine bN (id:=6) mixed (by kernel_rfl) ?_)
        all_goals first
          | exact no9
          | (exfalso;exact absurd ht ht0)
          | skip
        all_goals refine bM (id:=8) _ mixed (List.Sublist.refl _) ?_;refine gt9 0 ?_;refine gt9 1 ?_;refine gt9 2 ?_;refine gt9 3 ?_;refine gt9 4 ?_;refine gt9 5 ?_;refine gt9 6 ?_;refine gt9 7 ?_;refine gt9 8 ?_;(refine dF (i:=9) (j:=10) (by kernel_rfl) rfl rfl rfl rfl vl9 vl9 bD ?_ ?_<;>first|(refine aN rfl (aG ⟨Tryz.call161⟩ rfl (hK _ vl9)) ?_;refine aY (i:=10) rfl ?_;(refine bS rfl zer_3 rfl ?_;intro γ);refine aY (i:=11) rfl ?_;refine aO rfl siz_3 rfl rfl rfl rfl bG dC rfl ?_;refine aU (by kernel_rfl) vl9 vl9 bD ?_)|((refine bS rfl zer_3 rfl ?_;intro γ);refine aY (i:=9) rfl ?_;refine aN rfl (aG ⟨Tryz.call161⟩ rfl (hK _ vl9)) ?_;refine aY (i:=11) rfl ?_;refine aO rfl siz_3 rfl rfl rfl rfl bG dC rfl ?_;refine aU (by kernel_rfl) vl9 vl9 bD ?_))
        all_goals
          refine vK (gH.here _ _ _ _) ?_ (fun x hx=>let ⟨cs,h9⟩:=hown x hx;⟨cs,iE (iE h9)⟩)
          intro V3 hV3 hc3
          repeat' (first|(refine aE ?_;refine pu9 ?_)|refine bV ?_|fail)
          have hAl2:=hAl _ vl9 _ (aL.at0 hc3) _ _ _ (hs.le hV3) hnk
          refine aW rfl ⟨Tryz.call148⟩ rfl bF rfl hAl2 ?_
          rintro v V4 B4 hV4 ⟨rfl,hB4⟩
          repeat' (first|(refine aE ?_;refine pu9 ?_)|refine gx9 ?_|fail)
        all_goals
          (refine bC Tryz.results72 (aB rfl) (List.Sublist.cons _ (List.Sublist.cons _ (List.Sublist.refl _))) ?_)
          exact⟨rfl,hB4⟩
    · rw [if_pos ht]
      (refine bI Tryz.func72 rfl Tryz.ntmps72 rfl ?_;intro w0)
      repeat' (first|(refine aE ?_;first|(refine aD ?_;(refine aW rfl ⟨Tryz.call142⟩ rfl bF rfl (hT _ vl9) ?_;rintro v V2 B2 hV2 ⟨rfl,hR⟩;rcases hR with ⟨ht0,A,n,k,x,rfl,hs,hnk,hxN,hxn⟩|⟨ht0,A,n,k,x,lay,par,th,rfl⟩))|(refine dG ?_;refine aO rfl siz_214 rfl rfl rfl rfl bG gG rfl ?_)|(refine al9 ?_;intro γ)|refine pu9 ?_)|refine fX ?_|(refine aJ rfl rfl rfl ?_ ?_<;>intro hq<;>try exact no9)|refine dX [0,1,3,4,5] rfl ?_|(refine aA rfl ?_ ?_<;>intro hq<;>try exact no9))
      all_goals first
        | exact no9
        | (exfalso;exact absurd ht0 ht)
        | skip
      all_goals
        (refine bC Tryz.results72 (aB rfl) (List.Sublist.cons _ (List.Sublist.cons _ (List.Sublist.refl _))) ?_)
        exact⟨rfl,I,_,rfl,hW.le vl9⟩
end
section
theorem rStep_eq {nm vl:ByteArray} {s:RS} {a:PA} (h:a.n=nm):fQ nm vl s a=⟨s.out,a.v,true,s.laid⟩:=by unfold fQ;rw [if_pos h]
theorem rStep_ins {nm vl:ByteArray} {s:RS} {a:PA} (h:¬a.n=nm) (h2:s.laid=false) (h3:nm.toList<a.n.toList):fQ nm vl s a=⟨s.out ++ [⟨nm,vl⟩,a],s.old,s.there,true⟩:=by unfold fQ;rw [if_neg h,if_pos ⟨h2,h3⟩]
theorem rStep_add {nm vl:ByteArray} {s:RS} {a:PA} (h:¬a.n=nm) (h2:¬(s.laid=false∧nm.toList<a.n.toList)):fQ nm vl s a=⟨s.out ++ [a],s.old,s.there,s.laid⟩:=by unfold fQ;rw [if_neg h,if_neg h2]
theorem wK (nm vl:ByteArray):∀ (l:List PA) (s:RS),s.laid=true→(l.foldl (fQ nm vl) s).laid=true
  | [],s,h=>h
  | a :: l,s,h=>by
    rw [List.foldl_cons]
    refine wK nm vl l _ ?_
    unfold fQ
    (repeat' split)<;>simp_all
theorem rRun_laid {set:Bool} {nm vl:ByteArray} {xs:List PA} (h:(xs.foldl (fQ nm vl) ⟨[],⟨#[]⟩,false,!set⟩).laid=true):rRun set nm vl xs=xs.foldl (fQ nm vl) ⟨[],⟨#[]⟩,false,!set⟩:=by
  unfold rRun;simp only [];rw [if_neg (by rw [h];simp)]
theorem rRun_not {set:Bool} {nm vl:ByteArray} {xs:List PA} (h:(xs.foldl (fQ nm vl) ⟨[],⟨#[]⟩,false,!set⟩).laid=false):(rRun set nm vl xs).out=(xs.foldl (fQ nm vl) ⟨[],⟨#[]⟩,false,!set⟩).out ++ [⟨nm,vl⟩]:=by
  unfold rRun;simp only [];rw [if_pos h]
def Attr3 (f:Int) (zs:List PA) (v:Value) (V:aI):Prop :=
  (f=0∧∃ A c,v=.tuple #[.slice A zs.length c,.string ⟨#[]⟩,.int .i64 0]∧eH V A zs.length zs∧zs.length≤c)∨(¬f=0∧v=.tuple #[.slice none 0 0,.string ⟨#[]⟩,.int .i64 f])
theorem attr3_no {f:Int} {zs:List PA} {v:Value} {V:aI} (h:Attr3 f zs v V) (h0:¬f=0):v=.tuple #[.slice none 0 0,.string ⟨#[]⟩,.int .i64 f]:=by
  rcases h with ⟨h,_⟩|⟨_,h⟩
  · exact absurd h h0
  · exact h
theorem attr3_yes {f:Int} {zs:List PA} {v:Value} {V:aI} (h:Attr3 f zs v V) (h0:f=0):∃ A c,v=.tuple #[.slice A zs.length c,.string ⟨#[]⟩,.int .i64 0]∧eH V A zs.length zs∧zs.length≤c:=by
  rcases h with ⟨_,h⟩|⟨h,_⟩
  · exact h
  · exact absurd h0 h
theorem mB {f g:Int} {zs:List PA} {V:aI} (h:f=g) (h0:¬g=0):Attr3 f zs (.tuple #[.slice none 0 0,.string ⟨#[]⟩,.int .i64 g]) V:=by subst h;exact .inr ⟨h0,rfl⟩
noncomputable def Get3 (xs:List PA) (nm:ByteArray):Value:=.tuple #[.slice none 0 0,.string (if nF nm xs=true∧jL xs nm=0 then getA nm xs else ⟨#[]⟩),.int .i64 (jL xs nm)]
theorem get3_bad {xs:List PA} {nm:ByteArray} {f:Int} (h:jL xs nm=f) (h0:¬f=0):Value.tuple #[.slice none 0 0,.string ⟨#[]⟩,.int .i64 f]=Get3 xs nm:=by
  subst h;unfold Get3;rw [if_neg (fun e=>h0 e.2)]
theorem get3_ok {xs:List PA} {nm:ByteArray} (h:jL xs nm=0) (hh:nF nm xs=true):Value.tuple #[.slice none 0 0,.string (getA nm xs),.int .i64 0]=Get3 xs nm:=by
  unfold Get3;rw [if_pos ⟨hh,h⟩,h]
theorem dropA_len {nm:ByteArray} {xs:List PA} (hp:xs.Pairwise ltA) (hi:isA nm xs):(oF xs nm).length+1=xs.length∧atA nm xs<xs.length:=by
  obtain⟨a,ha,_⟩:=(wX hp).1 hi
  have hlt:atA nm xs<xs.length:=by
    rcases Nat.lt_or_ge (atA nm xs) xs.length with h|h
    · exact h
    · rw [List.getElem?_eq_none h] at ha;cases ha
  unfold oF
  exact⟨by simp;omega,hlt⟩
theorem xB {α β:Type} {f:β→α→β} {xs:List α} {k:Nat} {x:α} {b:β} (h:xs[k]?=some x):(xs.take (k+1)).foldl f b=f ((xs.take k).foldl f b) x:=by
  rw [List.take_add_one,h,List.foldl_append];rfl
attribute [local irreducible] AtQ GoC GoL GoW QO QP Fn RV bX aL VLe cG bT
theorem getR_no {xs:List PA} {nm:ByteArray} (h0:¬jL xs nm=0):GetR xs nm=.tuple #[.string ⟨#[]⟩,bT (jL xs nm)]:=by unfold GetR;rw [if_neg (fun e=>h0 e.2)]
theorem getR_yes {xs:List PA} {nm:ByteArray} (h0:jL xs nm=0) (hh:nF nm xs=true):GetR xs nm=.tuple #[.string (getA nm xs),bT 0]:=by unfold GetR;rw [if_pos ⟨hh,h0⟩,h0]
theorem getF_isA {xs:List PA} {nm:ByteArray} (h:jL xs nm=0):nF nm xs=true:=eP.2 (getF_zero h).2.2
theorem Drop_c (V:aI) (A:Option Addr) (n c:Nat) (xs:List PA) (nm:ByteArray) (h:eH V A n xs) (hcap:n≤c) (hm2:nm.size≤9223372036854775807):Fn Tryz.prog 168 [.slice A n c,.string nm] V (AttrRes (jL xs nm) (oF xs nm)):=by
  have hl:=h.1.1
  have hm:=h.1.max
  have hG:=Get_c V A n c xs nm h hm2
  by_cases h0:jL xs nm=0
  · have hh:=getF_isA h0
    obtain⟨r1,r2,r3⟩:=kB (getF_zero h0).1
    obtain⟨d1,d2⟩:=dropA_len r2 (eP.1 hh)
    rw [getR_yes h0 hh] at hG
    have hpl:=place_c V A n c xs nm h r2 (by omega)
    have hdr:=wR (k:=((atA nm xs:Int)+1).toNat) h (by omega) hcap
    (refine aH Tryz.func168 rfl Tryz.ntmps168 rfl ?_;intro w0)
    repeat' (first|(refine aE ?_;first|(refine aD ?_;(first|refine aN rfl (aG ⟨Tryz.call171⟩ rfl (hG)) ?_|refine aN rfl (aG ⟨Tryz.call238⟩ rfl (hpl)) ?_))|refine pu9 ?_)|refine cD ?_|(refine bM (id:=5) _ mixed (List.Sublist.refl _) ?_;refine gt9 0 ?_;refine gt9 1 ?_;refine fP 2 rfl rfl (cE und_67 siz_271 rfl rfl (by omega)) ?_;refine gt9 4 ?_;refine gt9 5 ?_;refine gt9 6 ?_;refine fP 7 rfl rfl (gM und_67 siz_271 rfl rfl (by omega)) ?_;refine aY (i:=3) rfl ?_;(refine aT rfl und_67 inf_271 rfl rfl rfl cU.nil dT (fW (xP (k:=atA nm xs) h (by omega))) bG (by omega) rfl rfl ?_;intro A1 c1 L1 hr1);refine aY (i:=8) rfl ?_;(refine aT rfl und_67 inf_271 rfl rfl rfl hr1 bF (fW hdr) bG (by omega) rfl rfl ?_;intro A3 c3 L3 hr3;have hcap3:=hr3.cap);refine gt9 9 ?_;refine gt9 10 ?_;refine aU (by kernel_rfl) vl9 vl9 bD ?_))
    refine eA hr3 bF ?_
    intro V2 hV2 hc3
    (refine bA Tryz.results168 (aB rfl) (aB rfl) ?_)
    have hcells:([] ++ (xs.take (atA nm xs)).flatMap paC ++ (xs.drop (((atA nm xs:Int)+1).toNat)).flatMap paC:List Value)=(oF xs nm).flatMap paC:=by rw [tn1,oF,List.flatMap_append];rfl
    have hN:0+atA nm xs+(n - (((atA nm xs:Int)+1).toNat))=(oF xs nm).length:=by omega
    have hM:eH V2 A3 _ (oF xs nm):=jR (hcells▸hc3) hN.symm (by omega) (fun a ha=>h.2 a ((vM xs nm).subset ha))
    exact .inl ⟨h0,A3,c3,by rw [←hN,dA],hN▸hM,hN▸hcap3⟩
  · rw [getR_no h0] at hG
    have hbd:=getF_bd xs nm
    (refine aH Tryz.func168 rfl Tryz.ntmps168 rfl ?_;intro w0)
    repeat' (first|(refine aE ?_;first|(refine aD ?_;refine aN rfl (aG ⟨Tryz.call171⟩ rfl (hG)) ?_)|refine pu9 ?_)|refine bV ?_|(refine aA rfl ?_ ?_<;>intro hq<;>try exact no9))
    all_goals (refine bA Tryz.results168 (aB rfl) (aB rfl) ?_)
    exact mE rfl h0
end
section
noncomputable def xU (xs:List PA) (nm vl:ByteArray) (drop:Bool):Int×List PA:=if drop=true then (jL xs nm,oF xs nm) else (rR xs nm vl,nK xs nm vl)
noncomputable def mN (b:BX) (l:List UInt8) (nm vl:ByteArray) (drop:Bool):BX×Int :=
  if dH nm=0 then (b,4) else if drop=false∧20<vl.size then (b,1) else if ¬cS b l=0 then (b,cS b l)
  else if ¬gE b (aV b l).th nm 2=0 then (b,gE b (aV b l).th nm 2)
  else if ¬(xU (aV b l).n.h.attrs nm vl drop).1=0 then (b,(xU (aV b l).n.h.attrs nm vl drop).1)
  else fV b (aK l) (fun h=>{ h with attrs:=(xU (aV b l).n.h.attrs nm vl drop).2 })
theorem attrF_few {xs:List PA} (h:eR xs=0):xs.length≤4:=by
  unfold eR at h
  split at h
  · simp at h
  · omega
theorem drop_few {xs:List PA} {nm:ByteArray} (h:jL xs nm=0):(oF xs nm).length≤1000:=by
  have h1:eR xs=0:=by
    unfold jL at h
    by_cases h2:eR xs=0
    · exact h2
    · rw [if_pos h2] at h;exact absurd h h2
  have:=attrF_few h1
  unfold oF
  rw [List.length_append,List.length_take,List.length_drop]
  omega
theorem set_few {xs:List PA} {nm vl:ByteArray} (h:rR xs nm vl=0):(nK xs nm vl).length≤1000:=by
  have h1:eR xs=0:=by
    unfold rR at h
    by_cases h2:eR xs=0
    · exact h2
    · rw [if_pos h2] at h;exact absurd h h2
  have:=attrF_few h1
  unfold nK
  rw [List.length_append,List.length_take,List.length_cons,List.length_drop]
  omega
theorem attrs_b {V:aI} {p:Nat} {b:BX} {Bs:List Box} (hok:bK b) (h:eO V p b Bs) (th:TH) (ht:0≤th.mode∧th.mode≤4095) (nm:ByteArray) (hm:nm.size≤9223372036854775807):FnB Tryz.prog 167 [.pointer (some ⟨p,0,none⟩),thV th,.string nm,.int .i64 2] V Bs fun v V' Bs'=>Bs'=Bs∧v=bT (gE b th nm 2) :=
  eO.read hok h (fun v V gs hc hR=>hR) fun V' I hV hB=>attrs_c V' p b I hok hB th ht nm hm 2 (.inr (.inl rfl))
attribute [local irreducible] AtQ GoC GoL GoW QO QP Fn RV bX aL VLe cG bT
theorem vJ (V:aI) (p:Nat) (b:BX) (Bs:List Box) (hok:bK b) (h:eO V p b Bs) (c:CL) (hc:c.path.size≤1000000) (hn:c.name.size≤9223372036854775807) (drop:Bool) (hx:dH c.name=0∨(drop=false∧20<c.data.size)∨¬cS b (aC c.path)=0∨¬gE b (aV b (aC c.path)).th c.name 2=0):FnB Tryz.prog 74 [.pointer (some ⟨p,0,none⟩),clV c,.bool drop] V Bs (ChB p (mN b (aC c.path) c.name c.data drop)):=by
  obtain⟨I,L1,rfl,hW⟩:=h
  have hT:=fun V2 (hV2:VLe V V2)=>tB (V:=V2) (p:=p) hok ⟨I,L1,rfl,hW.le hV2⟩ c.path hc
  have hth:=fH hok (aC c.path)
  have hC:=fun V2=>kQ V2 c.name hn
  have hAt:=fun V2 (hV2:VLe V V2)=>attrs_b (V:=V2) (p:=p) hok ⟨I,L1,rfl,hW.le hV2⟩ _ hth c.name hn
  unfold mN
  by_cases hm:dH c.name=0
  · rw [if_pos hm]
    (refine bI Tryz.func74 rfl Tryz.ntmps74 rfl ?_;intro w0)
    repeat' (first|(refine aE ?_;first|(refine aD ?_;refine aN rfl (aG ⟨Tryz.call166⟩ rfl (hC _)) ?_)|(refine al9 ?_;intro γ)|refine pu9 ?_)|refine gx9 ?_|refine dX [0,1,2] rfl ?_|(refine aA rfl ?_ ?_<;>intro hq<;>try exact no9))
    all_goals try exact no9
    all_goals
      (refine bC Tryz.results74 (aB rfl) (List.Sublist.cons _ (List.Sublist.refl _)) ?_)
      exact⟨dE 4 rfl,I,_,rfl,hW⟩
  · rw [if_neg hm]
    by_cases hd:drop=false∧20<c.data.size
    · rw [if_pos hd]
      obtain⟨rfl,hd2⟩:=hd
      (refine bI Tryz.func74 rfl Tryz.ntmps74 rfl ?_;intro w0)
      repeat' (first|(refine aE ?_;first|(refine aD ?_;refine aN rfl (aG ⟨Tryz.call166⟩ rfl (hC _)) ?_)|(refine al9 ?_;intro γ)|refine pu9 ?_)|refine gx9 ?_|refine dX [0,1,3,4] rfl ?_|(refine aA rfl ?_ ?_<;>intro hq<;>try exact no9))
      all_goals try exact no9
      all_goals
        (refine bC Tryz.results74 (aB rfl) (List.Sublist.cons _ (List.Sublist.refl _)) ?_)
        exact⟨dE 1 rfl,I,_,rfl,hW⟩
    · rw [if_neg hd]
      by_cases ht:cS b (aC c.path)=0
      · rw [if_neg (not_not_intro ht)]
        have ha:¬gE b (aV b (aC c.path)).th c.name 2=0:=by
          rcases hx with h|h|h|h
          · exact absurd h hm
          · exact absurd h hd
          · exact absurd ht h
          · exact h
        rw [if_pos ha]
        (refine bI Tryz.func74 rfl Tryz.ntmps74 rfl ?_;intro w0)
        repeat' (first|(refine aE ?_;first|(refine aD ?_;(first|refine aN rfl (aG ⟨Tryz.call166⟩ rfl (hC _)) ?_|(refine aW rfl ⟨Tryz.call142⟩ rfl bF rfl (hT _ vl9) ?_;rintro v V2 B2 hV2 ⟨rfl,hR⟩;rcases hR with ⟨ht0,A,n,k,x,rfl,hs,hnk,hxN,hxn⟩|⟨ht0,A,n,k,x,lay,par,th,rfl⟩)|(refine aW rfl ⟨Tryz.call167⟩ rfl bF rfl (hAt _ vl9) ?_;rintro v V3 B3 hV3 ⟨rfl,rfl⟩)))|(refine dG ?_;refine aO rfl siz_214 rfl rfl rfl rfl bG gG rfl ?_)|(refine al9 ?_;intro γ)|refine pu9 ?_)|refine fX ?_|(refine bU rfl rfl rfl ?_ ?_<;>intro hq)|refine dX [0,1,3,4,5,6,8,9,10] rfl ?_|(refine aA rfl ?_ ?_<;>intro hq<;>try exact no9))
        all_goals first
          | exact no9
          | (exfalso;exact absurd ht ht0)
          | (exfalso;exact ha (by assumption))
          | (exfalso;exact hd ⟨by simpa using ‹(!drop)=true›,by omega⟩)
          | skip
        all_goals
          (refine bC Tryz.results74 (aB rfl) (List.Sublist.cons _ (List.Sublist.cons _ (List.Sublist.refl _))) ?_)
          exact⟨rfl,I,_,rfl,hW.le vl9⟩
      · rw [if_pos ht]
        (refine bI Tryz.func74 rfl Tryz.ntmps74 rfl ?_;intro w0)
        repeat' (first|(refine aE ?_;first|(refine aD ?_;(first|refine aN rfl (aG ⟨Tryz.call166⟩ rfl (hC _)) ?_|(refine aW rfl ⟨Tryz.call142⟩ rfl bF rfl (hT _ vl9) ?_;rintro v V2 B2 hV2 ⟨rfl,hR⟩;rcases hR with ⟨ht0,A,n,k,x,rfl,hs,hnk,hxN,hxn⟩|⟨ht0,A,n,k,x,lay,par,th,rfl⟩)))|(refine dG ?_;refine aO rfl siz_214 rfl rfl rfl rfl bG gG rfl ?_)|(refine al9 ?_;intro γ)|refine pu9 ?_)|refine fX ?_|(refine bU rfl rfl rfl ?_ ?_<;>intro hq)|refine dX [0,1,3,4,5,6,7] rfl ?_|(refine aA rfl ?_ ?_<;>intro hq<;>try exact no9))
        all_goals first
          | exact no9
          | (exfalso;exact absurd ht0 ht)
          | (exfalso;exact hd ⟨by simpa using ‹(!drop)=true›,by omega⟩)
          | skip
        all_goals
          (refine bC Tryz.results74 (aB rfl) (List.Sublist.cons _ (List.Sublist.cons _ (List.Sublist.refl _))) ?_)
          exact⟨rfl,I,_,rfl,hW.le vl9⟩
theorem set_late (V:aI) (p:Nat) (b:BX) (Bs:List Box) (hok:bK b) (h:eO V p b Bs) (c:CL) (hc:c.path.size≤1000000) (hn:c.name.size≤9223372036854775807) (hdz:c.data.size≤maxLen) (drop:Bool) (hm:¬dH c.name=0) (hd:¬(drop=false∧20<c.data.size)) (ht:cS b (aC c.path)=0) (ha:gE b (aV b (aC c.path)).th c.name 2=0):FnB Tryz.prog 74 [.pointer (some ⟨p,0,none⟩),clV c,.bool drop] V Bs (ChB p (mN b (aC c.path) c.name c.data drop)):=by
  obtain⟨I,L1,rfl,hW⟩:=h
  have hT:=fun V2 (hV2:VLe V V2)=>tB (V:=V2) (p:=p) hok ⟨I,L1,rfl,hW.le hV2⟩ c.path hc
  have hth:=fH hok (aC c.path)
  have hC:=fun V2=>kQ V2 c.name hn
  have hAt:=fun V2 (hV2:VLe V V2)=>attrs_b (V:=V2) (p:=p) hok ⟨I,L1,rfl,hW.le hV2⟩ _ hth c.name hn
  rw [ha] at hAt
  have hDr:=fun V2 (x:LN) (hx:aX V2 x)=>Drop_c V2 x.A x.na x.ca x.h.attrs c.name hx.inv.1 hx.inv.2.1 hn
  have hSe:=fun V2 (x:LN) (hx:aX V2 x)=>Set_c V2 x.A x.na x.ca x.h.attrs c.name c.data hx.inv.1 hx.inv.2.1 hn hdz
  unfold mN
  rw [if_neg hm,if_neg hd,if_neg (not_not_intro ht),if_neg (not_not_intro ha)]
  have hown:=hW.owned (p:=p) hok
  have hAl:=fun V2 (hV2:VLe V V2) γ A q (xs:List PA) (hγ:V2 ⟨γ,0,none⟩=some (.slice A xs.length q)) (hA:eH V2 A xs.length xs) (hq:xs.length≤q) (hlen:xs.length≤1000) A' n k (hs:bZ V2 A' n (aK (aC c.path))) (hnk:n≤k)=>alter_c ⟨Tryz.call170⟩ V2 p b _ hok ⟨I,L1,rfl,hW.le hV2⟩ (set1_c V2 p b γ A _ q xs hγ hA hq) (fun h hh=>hlen) A' n k _ hs hnk (by have:=fD (aC c.path);have:=hs.1.1;omega)
  cases drop with
  | true =>
    (refine bI Tryz.func74 rfl Tryz.ntmps74 rfl ?_;intro w0)
    repeat' (first|(refine aE ?_;first|(refine aD ?_;(first|refine aN rfl (aG ⟨Tryz.call166⟩ rfl (hC _)) ?_|(refine aW rfl ⟨Tryz.call142⟩ rfl bF rfl (hT _ vl9) ?_;rintro v V2 B2 hV2 ⟨rfl,hR⟩;rcases hR with ⟨ht0,A,n,k,x,rfl,hs,hnk,hxN,hxn⟩|⟨ht0,A,n,k,x,lay,par,th,rfl⟩)|(refine aW rfl ⟨Tryz.call167⟩ rfl bF rfl (hAt _ vl9) ?_;rintro v V3 B3 hV3 ⟨rfl,rfl⟩)))|(refine dG ?_;refine aO rfl siz_214 rfl rfl rfl rfl bG gG rfl ?_)|(refine al9 ?_;intro γ)|refine pu9 ?_)|refine fX ?_|refine dX [0,1,3,5,6,8,9,11,12] rfl ?_|(refine aA rfl ?_ ?_<;>intro hq<;>try exact no9))
    all_goals first
      | exact no9
      | (exfalso;exact absurd ht ht0)
      | skip
    all_goals
      have hxh:(aV b (aC c.path)).n.h.attrs=x.h.attrs:=by rw [←hxn];rfl
      rw [hxh,show xU x.h.attrs c.name c.data true=(jL x.h.attrs c.name,oF x.h.attrs c.name) from if_pos rfl]
      repeat' (first|(refine aE ?_;first|(refine aD ?_;(refine aM rfl ⟨Tryz.call168⟩ rfl rfl (hDr _ x (hxN.le vl9)) ?_;rintro v V4 hV4 (⟨hf,A4,c4,rfl,hA4,hn4⟩|⟨hf,rfl⟩)))|refine st9 ?_|refine pu9 ?_)|refine fX ?_|refine dX [13,15,16] rfl ?_|(refine aA rfl ?_ ?_<;>intro hq<;>try exact no9))
    all_goals first
      | exact no9
      | (exfalso;exact hf (by assumption))
      | skip
    all_goals first
      | (rw [if_pos hf]
         (refine bC Tryz.results74 (aB rfl) (List.Sublist.cons _ (List.Sublist.cons _ (List.Sublist.cons _ (List.Sublist.refl _)))) ?_)
         exact⟨rfl,I,_,rfl,hW.le vl9⟩)
      | skip
    all_goals
      rw [if_neg (not_not_intro hf)]
      refine kO (gH.here _ _ _ _) ?_ (fun x hx=>let ⟨cs,h9⟩:=hown x hx;⟨cs,iE (iE h9)⟩)
      intro V5 hV5 hc5
      repeat' (first|(refine aE ?_;refine pu9 ?_)|refine bV ?_|fail)
      have hAl2:=hAl _ vl9 _ _ _ _ (aL.at0 hc5) (hA4.le hV5) hn4 (drop_few hf) _ _ _ (hs.le vl9) hnk
      refine aW rfl ⟨Tryz.call148⟩ rfl bF rfl hAl2 ?_
      rintro v V6 B6 hV6 ⟨rfl,hB6⟩
      repeat' (first|(refine aE ?_;refine pu9 ?_)|refine gx9 ?_|fail)
    all_goals
      (refine bC Tryz.results74 (aB rfl) (List.Sublist.cons _ (List.Sublist.cons _ (List.Sublist.refl _))) ?_)
      exact⟨rfl,hB6⟩
  | false =>
    have hd9:¬20<c.data.size:=fun h9=>hd ⟨rfl,h9⟩
    (refine bI Tryz.func74 rfl Tryz.ntmps74 rfl ?_;intro w0)
    repeat' (first|(refine aE ?_;first|(refine aD ?_;(first|refine aN rfl (aG ⟨Tryz.call166⟩ rfl (hC _)) ?_|(refine aW rfl ⟨Tryz.call142⟩ rfl bF rfl (hT _ vl9) ?_;rintro v V2 B2 hV2 ⟨rfl,hR⟩;rcases hR with ⟨ht0,A,n,k,x,rfl,hs,hnk,hxN,hxn⟩|⟨ht0,A,n,k,x,lay,par,th,rfl⟩)|(refine aW rfl ⟨Tryz.call167⟩ rfl bF rfl (hAt _ vl9) ?_;rintro v V3 B3 hV3 ⟨rfl,rfl⟩)))|(refine dG ?_;refine aO rfl siz_214 rfl rfl rfl rfl bG gG rfl ?_)|(refine al9 ?_;intro γ)|refine pu9 ?_)|refine fX ?_|refine dX [0,1,3,5,6,8,9,11,12] rfl ?_|(refine aA rfl ?_ ?_<;>intro hq<;>try exact no9))
    all_goals first
      | exact no9
      | (exfalso;exact absurd ht ht0)
      | skip
    all_goals
      have hxh:(aV b (aC c.path)).n.h.attrs=x.h.attrs:=by rw [←hxn];rfl
      rw [hxh,show xU x.h.attrs c.name c.data false=(rR x.h.attrs c.name c.data,nK x.h.attrs c.name c.data) from if_neg (by decide)]
      repeat' (first|(refine aE ?_;first|(refine aD ?_;(refine aM rfl ⟨Tryz.call169⟩ rfl rfl (hSe _ x (hxN.le vl9)) ?_;rintro v V4 hV4 (⟨hf,A4,c4,rfl,hA4,hn4⟩|⟨hf,rfl⟩)))|refine st9 ?_|refine pu9 ?_)|refine fX ?_|refine dX [14,15,16] rfl ?_|(refine aA rfl ?_ ?_<;>intro hq<;>try exact no9))
    all_goals first
      | exact no9
      | (exfalso;exact hf (by assumption))
      | skip
    all_goals first
      | (rw [if_pos hf]
         (refine bC Tryz.results74 (aB rfl) (List.Sublist.cons _ (List.Sublist.cons _ (List.Sublist.cons _ (List.Sublist.refl _)))) ?_)
         exact⟨rfl,I,_,rfl,hW.le vl9⟩)
      | skip
    all_goals
      rw [if_neg (not_not_intro hf)]
      refine kO (gH.here _ _ _ _) ?_ (fun x hx=>let ⟨cs,h9⟩:=hown x hx;⟨cs,iE (iE h9)⟩)
      intro V5 hV5 hc5
      repeat' (first|(refine aE ?_;refine pu9 ?_)|refine bV ?_|fail)
      have hAl2:=hAl _ vl9 _ _ _ _ (aL.at0 hc5) (hA4.le hV5) hn4 (set_few hf) _ _ _ (hs.le vl9) hnk
      refine aW rfl ⟨Tryz.call148⟩ rfl bF rfl hAl2 ?_
      rintro v V6 B6 hV6 ⟨rfl,hB6⟩
      repeat' (first|(refine aE ?_;refine pu9 ?_)|refine gx9 ?_|fail)
    all_goals
      (refine bC Tryz.results74 (aB rfl) (List.Sublist.cons _ (List.Sublist.cons _ (List.Sublist.refl _))) ?_)
      exact⟨rfl,hB6⟩
theorem set_c (V:aI) (p:Nat) (b:BX) (Bs:List Box) (hok:bK b) (h:eO V p b Bs) (c:CL) (hc:c.path.size≤1000000) (hn:c.name.size≤9223372036854775807) (hdz:c.data.size≤maxLen) (drop:Bool):FnB Tryz.prog 74 [.pointer (some ⟨p,0,none⟩),clV c,.bool drop] V Bs (ChB p (mN b (aC c.path) c.name c.data drop)):=by
  by_cases h1:dH c.name=0
  · exact vJ V p b Bs hok h c hc hn drop (.inl h1)
  · by_cases h2:drop=false∧20<c.data.size
    · exact vJ V p b Bs hok h c hc hn drop (.inr (.inl h2))
    · by_cases h3:cS b (aC c.path)=0
      · by_cases h4:gE b (aV b (aC c.path)).th c.name 2=0
        · exact set_late V p b Bs hok h c hc hn hdz drop h1 h2 h3 h4
        · exact vJ V p b Bs hok h c hc hn drop (.inr (.inr (.inr h4)))
      · exact vJ V p b Bs hok h c hc hn drop (.inr (.inr (.inl h3)))
end
section
theorem mode_or {m:Int} (h0:0≤m) (h1:m≤4095):bits .or .i64 m 1024=if m / 1024 % 2=1 then m else m+1024:=by
  have:=small (p:=fun d=>decide (bits .or .i64 d 1024=if d / 1024 % 2=1 then d else d+1024)) 4096 (by decide +kernel) m h0 (by omega)
  simpa using this
theorem cap1' {d:Int} (h0:0≤d) (h1:d≤15):bits .and .i64 d 1=1↔d % 2=1:=by
  have:=small (p:=fun d=>decide (bits .and .i64 d 1=1) == decide (d % 2=1)) 16 (by decide +kernel) d h0 (by omega)
  simpa using this
theorem kL {V:aI} {b o j:Nat} {cs:List Value} {v:Value} (h:aL V b o cs) (hj:cs[j]?=some v):V ⟨b,o+j,none⟩=some v:=h j v hj
theorem rL {V:aI} {b j:Nat} {cs:List Value} {v:Value} (h:aL V b 0 cs) (hj:cs[j]?=some v):V ⟨b,j,none⟩=some v:=by have:=h j v hj;rwa [Nat.zero_add] at this
section
variable {P : Program} {B : Base} {N : Nat} {Q : Exit → Act → World → Prop} {k : List kI} {F : List (Nat × Value)} {V : aI} {L : List Box}
theorem oV (h:AtQ P B N Q k .normal F V L):AtQ P B N Q k .normal F V L:=h
theorem eY (h:AtQ P B N Q k .ret F V L):AtQ P B N Q k .ret F V L:=h
end
def wU (u g:Int):Prop:=u < -1∨65535<u∨g < -1∨65535<g
instance (u g : Int) : Decidable (wU u g) := by unfold wU; infer_instance
def ownU (v t:Int):Int:=if v = -1 then t else v
def tP (b:BX) (t:TH) (u g:Int):Prop:=t.mapped=true∧(b.c.d % 2=1∨(u=t.user∧t.user=b.c.u∧(g=t.group∨b.c.g=g∨g∈b.c.xs)))
instance (b : BX) (t : TH) (u g : Int) : Decidable (tP b t u g) := by unfold tP; infer_instance
def idN (u g:Int):PN:=.mk { hZ with user:=u,group:=g } []
def uE (b:BX) (l:List UInt8) (u g:Int):BX×Int :=
  if ¬tP b (aV b l).th u g then (b,10) else match cT true b.us b.gs (idN u g) with
  | none=>(b,11)
  | some x=>fV b (aK l) fun h=>{ h with user:=x.h.user,group:=x.h.group,mode:=mK b.c.d h.mode }
def sZ (b:BX) (l:List UInt8) (u g:Int):BX×Int :=
  if wU u g then (b,1) else if ¬cS b l=0 then (b,cS b l) else if u = -1∧g = -1 then (b,0)
  else uE b l (ownU u (aV b l).th.user) (ownU g (aV b l).th.group)
def oP (b:BX) (par:TH) (kind mode:Int) (dt:ByteArray):Hd :=
  { kind:=kind,user:=b.c.u,group:=if par.mode / 1024 % 2=1 then par.group else b.c.g,opq:=false,attrs:=[],data:=dt,
    mode:=if kind=2∧par.mode / 1024 % 2=1 then bits .or .i64 (oI b.c.g b.c.d b.c.xs mode (if par.mode / 1024 % 2=1 then par.group else b.c.g)) 1024 else oI b.c.g b.c.d b.c.xs mode (if par.mode / 1024 % 2=1 then par.group else b.c.g) }
def wI (u:PN) (ss:List ByteArray):Bool:=match dN u ss with
  | none=>false
  | some x=>decide (x.h.kind=3)
def vZ (b:BX) (x u:PN) (ss:List ByteArray):BX×Int:=if ¬pF false x u ss=0 then (b,pF false x u ss) else iZ b (pN false x u ss)
def uK (b:BX) (ss:List ByteArray) (kind:Int) (x:PN):BX×Int :=
  if ¬(upP b.ls b.us b.gs (ss.take (ss.length - 1))).2=0 then (b,(upP b.ls b.us b.gs (ss.take (ss.length - 1))).2)
  else vZ b (.mk { x.h with opq:=decide (kind=2) && wI (upP b.ls b.us b.gs (ss.take (ss.length - 1))).1 ss } x.ks) (upP b.ls b.us b.gs (ss.take (ss.length - 1))).1 ss
def iQ (b:BX) (ss:List ByteArray) (par:TH) (kind mode:Int) (dt:ByteArray):BX×Int :=
  if iL b.c par 2=false then (b,9) else if par.mode / 1024 % 2=1∧par.mapped=false then (b,11)
  else match cT true b.us b.gs (.mk (oP b par kind mode dt) []) with
  | none=>(b,11)
  | some x=>uK b ss kind x
def pA (b:BX) (l:List UInt8):Int:=if ¬dY l=0 then dY l else (cC b (aK l)).2
def gJ (b:BX) (c:CL):BX×Int :=
  if c.a<0∨4095<c.a∨200<c.data.size then (b,1) else if c.path=⟨#[47]⟩ then (b,7) else if ¬pA b (aC c.path)=0 then (b,pA b (aC c.path))
  else if (aV b (aC c.path)).is=false then iQ b (aK (aC c.path)) (aV b (aC c.path)).par 1 c.a c.data
  else if (aV b (aC c.path)).th.dir=true then (b,7) else if iL b.c (aV b (aC c.path)).th 2=false then (b,9)
  else fV b (aK (aC c.path)) fun h=>{ h with data:=c.data,mode:=mK b.c.d h.mode }
def kJ (b:BX) (c:CL):BX×Int :=
  if c.a<0∨4095<c.a then (b,1) else if ¬pA b (aC c.path)=0 then (b,pA b (aC c.path))
  else if (aV b (aC c.path)).is=true then (b,6) else iQ b (aK (aC c.path)) (aV b (aC c.path)).par 2 c.a ⟨#[]⟩
noncomputable def rK (b:BX) (c:CL):TD×Int :=
  if dH c.name=0 then (tdZ,4) else if ¬cS b (aC c.path)=0 then (tdZ,cS b (aC c.path))
  else if ¬gE b (aV b (aC c.path)).th c.name 4=0 then (tdZ,gE b (aV b (aC c.path)).th c.name 4)
  else ({ tdZ with data:=if nF c.name (aV b (aC c.path)).n.h.attrs=true∧jL (aV b (aC c.path)).n.h.attrs c.name=0 then getA c.name (aV b (aC c.path)).n.h.attrs else ⟨#[]⟩ },jL (aV b (aC c.path)).n.h.attrs c.name)
def beC (b:BX) (u g:Int):CR:=⟨u,g,jV b.c.u b.c.d u,b.c.xs⟩
def beP (b:BX) (u g:Int):BX×Int :=
  if ¬mJ b.c.u b.c.g b.c.d b.c.xs u g=0 then (b,mJ b.c.u b.c.g b.c.d b.c.xs u g) else if cT true b.us b.gs (idN u g)=none then (b,11) else ({ b with c:=beC b u g },0)
def whiteN:PN:=.mk { hZ with kind:=3 } []
def iB (b:BX) (u:PN) (ss:List ByteArray):Int:=if fO b.ls ss=true then pF false whiteN u ss else pF true pnZ u ss
def mV (b:BX) (u:PN) (ss:List ByteArray):PN:=if fO b.ls ss=true then pN false whiteN u ss else pN true pnZ u ss
def gone2 (b:BX) (u:PN) (ss:List ByteArray):BX×Int:=if ¬iB b u ss=0 then (b,iB b u ss) else iZ b (mV b u ss)
def eL (b:BX) (s:ByteArray):BX×Int :=
  if s=⟨#[47]⟩ then (b,15) else if ¬cS b (aC s)=0 then (b,cS b (aC s))
  else if ¬eM b (aV b (aC s))=0 then (b,eM b (aV b (aC s)))
  else if ¬gQ (bY b.ls (aK (aC s)))=[] then (b,8)
  else if ¬(upP b.ls b.us b.gs ((aK (aC s)).take ((aK (aC s)).length - 1))).2=0 then (b,(upP b.ls b.us b.gs ((aK (aC s)).take ((aK (aC s)).length - 1))).2)
  else gone2 b (upP b.ls b.us b.gs ((aK (aC s)).take ((aK (aC s)).length - 1))).1 (aK (aC s))
end
section
abbrev kX (kind mode u g:Int) (o:Bool) (dt:ByteArray):LN:=⟨⟨kind,mode,u,g,o,[],dt⟩,none,0,0,none,0,0,[]⟩
theorem iR {V:aI} {kind mode u g:Int} {o:Bool} {dt:ByteArray} (h:dt.size≤maxLen):aX V (kX kind mode u g o dt):=aX.of (es:=[]) eH.nil (Nat.le_refl _) h (Nat.le_refl _) ⟨eT.nil,by simp⟩ rfl
theorem make_no {b:BX} {ss:List ByteArray} {par:TH} {kind mode:Int} {dt:ByteArray} (h:iL b.c par 2=false):iQ b ss par kind mode dt=(b,9):=if_pos h
theorem make_map {b:BX} {ss:List ByteArray} {par:TH} {kind mode:Int} {dt:ByteArray} (h:iL b.c par 2=true) (h2:par.mode / 1024 % 2=1∧par.mapped=false):iQ b ss par kind mode dt=(b,11):=by unfold iQ;rw [if_neg (by rw [h];decide),if_pos h2]
theorem make_un {b:BX} {ss:List ByteArray} {par:TH} {kind mode:Int} {dt:ByteArray} (h:iL b.c par 2=true) (h2:¬(par.mode / 1024 % 2=1∧par.mapped=false)) (h3:cT true b.us b.gs (.mk (oP b par kind mode dt) [])=none):iQ b ss par kind mode dt=(b,11):=by unfold iQ;rw [if_neg (by rw [h];decide),if_neg h2,h3]
theorem make_on {b:BX} {ss:List ByteArray} {par:TH} {kind mode:Int} {dt:ByteArray} {x:PN} (h:iL b.c par 2=true) (h2:¬(par.mode / 1024 % 2=1∧par.mapped=false)) (h3:cT true b.us b.gs (.mk (oP b par kind mode dt) [])=some x):iQ b ss par kind mode dt=uK b ss kind x:=by unfold iQ;rw [if_neg (by rw [h];decide),if_neg h2,h3]
theorem keep_bd {b d:Int} {xs:List Int} {m g:Int} (h:0≤m∧m≤4095):0≤oI b d xs m g∧oI b d xs m g≤4095:=by
  unfold oI
  split<;>omega
theorem node_opq {V:aI} {y:LN} {o:Bool} (h:aX V y):aX V { y with h:={ y.h with opq:=o } }:=by
  obtain⟨ha,hca,hd,hck,es,hk,hks⟩:=h.inv
  exact .mk _ es ha hca hd hk.1 hck hks (fun e he=>(hk.2 e he).1) (fun e he=>(hk.2 e he).2)
attribute [local irreducible] AtQ GoC GoL GoW QO QP Fn RV bX aL VLe cG bT
theorem make_c (V:aI) (p:Nat) (b:BX) (Bs:List Box) (hok:bK b) (h:eO V p b Bs) (Bo:Option Addr) (m e:Nat) (ss:List ByteArray) (hs:bZ V Bo m ss) (hme:m≤e) (hm:0<m∧m≤100) (x:LN) (lay:Int) (par th:TH) (hpm:0≤par.mode∧par.mode≤4095) (kind mode:Int) (hmd:0≤mode∧mode≤4095) (dt:ByteArray) (hdt:dt.size≤1000) :
    FnB Tryz.prog 147 [.pointer (some ⟨p,0,none⟩),.slice Bo m e,foV x lay par th,lnV (kX kind mode 0 0 false dt)] V Bs (ChB p (iQ b ss par kind mode dt)):=by
  have sl:=hs.1.1
  obtain⟨I,L1,rfl,hW⟩:=h
  have hd:=hok.d
  have hb:=mode_bit hpm.1 hpm.2
  have hMay:=fun V2 (hV2:VLe V V2)=>May_c V2 b.c I.A I.n I.k (hW.xs.le hV2) hd par hpm 2 (.inr (.inl rfl))
  generalize hmay:iL b.c par 2=my at *
  (refine bI Tryz.func147 rfl Tryz.ntmps147 rfl ?_;intro w0)
  repeat' (first|(refine aE ?_;first|(refine aD ?_;refine aN rfl (aG ⟨Tryz.call144⟩ rfl (hMay _ vl9)) ?_)|(refine al9 ?_;intro γ)|refine pu9 ?_)|refine bV ?_|(refine bP rfl ?_ ?_<;>intro hq)|refine bN (id:=1) mixed (by kernel_rfl) ?_)
  all_goals first
    | (refine eY ?_;(refine bC Tryz.results147 (aB rfl) (show List.Sublist (⟨p,113,bxC I b⟩ :: L1) _ from sl9) ?_)
       rw [make_no (by rw [hmay];simpa using hq)];exact⟨dE 9 rfl,I,_,rfl,hW.le vl9⟩)
    | skip
  obtain rfl:my=true:=by simpa using hq
  clear hMay
  refine bM (id:=3) _ mixed (List.Sublist.cons _ (List.Sublist.refl _)) ?_;refine gt9 0 ?_;refine gt9 1 ?_;refine gt9 2 ?_;refine gt9 3 ?_;refine gt9 4 ?_;refine gt9 5 ?_;refine gt9 6 ?_;refine gt9 7 ?_;refine gt9 8 ?_;refine gt9 9 ?_;refine gt9 10 ?_;refine aY (i:=11) rfl ?_;refine aO rfl siz_3 rfl rfl rfl rfl bG dC rfl ?_;refine gt9 12 ?_;refine aY (i:=13) rfl ?_;refine aO rfl siz_3 rfl rfl rfl rfl bG dC rfl ?_;refine aU (by kernel_rfl) vl9 vl9 bD ?_
  all_goals
    refine at_order (L':=⟨_,70,lnC (kX kind mode b.c.u b.c.g false dt)⟩ :: ⟨_,214,foC x lay par th⟩ :: ⟨p,113,bxC I b⟩ :: L1) sp9 ?_
  refine gA ?_;refine iK ?_;refine dD (fun F V' L'=>∃ (γ6 γ7:Nat) (gr:Int),V=V'∧(if par.mode / 1024 % 2=1 then par.group else b.c.g)=gr∧¬(par.mode / 1024 % 2=1∧par.mapped=false)∧⟨γ7,70,lnC (kX kind mode b.c.u gr false dt)⟩ :: ⟨γ6,214,foC x lay par th⟩ :: ⟨p,113,bxC I b⟩ :: L1=L'∧F=[(0,.pointer (some ⟨p,0,none⟩)),(1,.slice Bo m e),(6,.pointer (some ⟨γ6,0,none⟩)),(7,.pointer (some ⟨γ7,0,none⟩))]) ?_ ?_
  · repeat' (first|(refine aE ?_;first|(refine cX ?_;refine aR (q_and rfl rfl) ?_)|refine st9 ?_|refine pu9 ?_)|refine bV ?_|(refine aA rfl ?_ ?_<;>intro hq<;>try exact no9)|(refine bP rfl ?_ ?_<;>intro hq))
    all_goals first
      | (refine oV ?_;exact gZ _ ⟨_,_,b.c.g,rfl,if_neg (fun h9=>absurd (hb.2 h9) (by assumption)),fun h9=>absurd (hb.2 h9.1) (by assumption),rfl,rfl⟩ bH slc9)
      | (refine oV ?_;exact gZ _ ⟨_,_,par.group,rfl,if_pos (hb.1 (by assumption)),fun h9=>absurd hq (by rw [h9.2];decide),rfl,rfl⟩ bH slc9)
      | (refine eY ?_;(refine bC Tryz.results147 (aB rfl) (show List.Sublist (⟨p,113,bxC I b⟩ :: L1) _ from sl9) ?_)
         rw [make_map hmay ⟨hb.1 (by assumption),by simpa using hq⟩];exact⟨dE 11 rfl,I,_,rfl,hW.le vl9⟩)
  · rintro F V' L' ⟨γ6,γ7,gr,rfl,hgr,hnm,rfl,rfl⟩
    have hKe:=fun V2 (hV2:VLe V V2)=>Keep_c V2 b.c.u b.c.g b.c.d I.A I.n I.k b.c.xs (hW.xs.le hV2) mode gr hmd.1 hmd.2 hd.1 hd.2
    have hkb:=keep_bd (b:=b.c.g) (d:=b.c.d) (xs:=b.c.xs) (g:=gr) hmd
    have hMH:(oP b par kind mode dt).mode=if kind=2∧par.mode / 1024 % 2=1 then bits .or .i64 (oI b.c.g b.c.d b.c.xs mode gr) 1024 else oI b.c.g b.c.d b.c.xs mode gr:=by unfold oP;rw [hgr]
    generalize oI b.c.g b.c.d b.c.xs mode gr=kq at *
    repeat' (first|refine gx9 ?_|fail)
    refine dD (fun F V' L'=>V=V'∧⟨γ7,70,lnC (kX kind kq b.c.u gr false dt)⟩ :: ⟨γ6,214,foC x lay par th⟩ :: ⟨p,113,bxC I b⟩ :: L1=L'∧F=[(0,.pointer (some ⟨p,0,none⟩)),(1,.slice Bo m e),(6,.pointer (some ⟨γ6,0,none⟩)),(7,.pointer (some ⟨γ7,0,none⟩))]) ?_ ?_
    · refine bM (id:=8) _ mixed (List.Sublist.cons _ (List.Sublist.refl _)) ?_;refine gt9 0 ?_;refine gt9 1 ?_;refine gt9 2 ?_;refine gt9 3 ?_;refine gt9 4 ?_;refine gt9 6 ?_;(refine dF (i:=5) (j:=7) (by kernel_rfl) rfl rfl rfl rfl vl9 vl9 bD ?_ ?_<;>first|((first|refine aR (bE one_3 rfl bB (by exact rfl)) ?_|refine aR (bE one_3 rfl bB (by assumption)) ?_|refine aR (cI one_3 rfl (by assumption)) ?_);refine aY (i:=7) rfl ?_;(first|refine aR (bE one_3 rfl bB (by exact rfl)) ?_|refine aR (bE one_3 rfl bB (by assumption)) ?_|refine aR (cI one_3 rfl (by assumption)) ?_);refine aY (i:=8) rfl ?_;refine aN rfl (aG ⟨Tryz.call161⟩ rfl (hKe _ vl9)) ?_;refine gt9 9 ?_;refine aY (i:=10) rfl ?_;refine aO rfl siz_3 rfl rfl rfl rfl bG dC rfl ?_;refine aU (by kernel_rfl) vl9 vl9 bD ?_)|((first|refine aR (bE one_3 rfl bB (by exact rfl)) ?_|refine aR (bE one_3 rfl bB (by assumption)) ?_|refine aR (cI one_3 rfl (by assumption)) ?_);refine aY (i:=5) rfl ?_;(first|refine aR (bE one_3 rfl bB (by exact rfl)) ?_|refine aR (bE one_3 rfl bB (by assumption)) ?_|refine aR (cI one_3 rfl (by assumption)) ?_);refine aY (i:=8) rfl ?_;refine aN rfl (aG ⟨Tryz.call161⟩ rfl (hKe _ vl9)) ?_;refine gt9 9 ?_;refine aY (i:=10) rfl ?_;refine aO rfl siz_3 rfl rfl rfl rfl bG dC rfl ?_;refine aU (by kernel_rfl) vl9 vl9 bD ?_))
      all_goals exact bR _ ⟨rfl,rfl,rfl⟩ bH sp9
    rintro F V' L' ⟨rfl,rfl,rfl⟩
    refine gA ?_;refine iK ?_;refine dD (fun F V' L'=>∃ md:Int,V=V'∧(oP b par kind mode dt).mode=md∧⟨γ7,70,lnC (kX kind md b.c.u gr false dt)⟩ :: ⟨γ6,214,foC x lay par th⟩ :: ⟨p,113,bxC I b⟩ :: L1=L'∧F=[(0,.pointer (some ⟨p,0,none⟩)),(1,.slice Bo m e),(6,.pointer (some ⟨γ6,0,none⟩)),(7,.pointer (some ⟨γ7,0,none⟩))]) ?_ ?_
    · repeat' (first|(refine aE ?_;first|(refine cX ?_;(first|refine aR (q_and rfl rfl) ?_|refine aR (q_or rfl rfl) ?_))|refine st9 ?_|refine pu9 ?_)|refine cD ?_|(refine aJ rfl rfl rfl ?_ ?_<;>intro hq<;>try exact no9)|(refine aA rfl ?_ ?_<;>intro hq<;>try exact no9))
      all_goals
        first
          | rw [if_pos ⟨by assumption,hb.1 (by assumption)⟩] at hMH
          | rw [if_neg (by rintro ⟨h8,h9⟩;first|(exact absurd (hb.2 h9) (by assumption))|exact absurd h8 (by assumption))] at hMH
        exact gZ _ ⟨_,rfl,hMH,rfl,rfl⟩ bH slc9
    · rintro F V' L' ⟨md,rfl,hmd9,rfl,rfl⟩
      have hN:aX V (kX kind md b.c.u gr false dt):=iR (by unfold maxLen;omega)
      have hOut:=rW V I.M hW.M _ hN (.mk ⟨Nat.zero_le _,Nat.zero_le _⟩ (by simp))
      have hNn:(kX kind md b.c.u gr false dt).n=.mk (oP b par kind mode dt) []:=by rw [←hmd9];unfold oP;rw [hgr];rfl
      rw [hW.us,hW.gs,hNn] at hOut
      have hown:=hW.owned (p:=p) hok
      cases hmv:cT true b.us b.gs (.mk (oP b par kind mode dt) []) with
      | none =>
        rw [make_un hmay hnm hmv]
        rw [hmv] at hOut
        repeat' (first|refine gx9 ?_|fail)
        refine bM (id:=11) _ mixed (List.Sublist.refl _) ?_;refine gt9 0 ?_;refine gt9 1 ?_;refine gt9 2 ?_;refine gt9 3 ?_;refine gt9 4 ?_;(refine dF (i:=5) (j:=9) (by kernel_rfl) rfl rfl rfl rfl vl9 vl9 bD ?_ ?_<;>first|((refine aM rfl ⟨Tryz.call57⟩ rfl rfl (hOut) ?_;rintro v V3 hV3 ⟨y,rfl,hyN,hyn⟩);refine gt9 6 ?_;refine gt9 7 ?_;refine gt9 8 ?_;refine aY (i:=9) rfl ?_;(refine bS rfl zer_70 rfl ?_;intro γ);refine aY (i:=10) rfl ?_;refine aO rfl siz_70 rfl rfl rfl rfl bG dC rfl ?_;refine gt9 11 ?_;refine aU (by kernel_rfl) vl9 vl9 bD ?_)|((refine bS rfl zer_70 rfl ?_;intro γ);refine aY (i:=5) rfl ?_;(refine aM rfl ⟨Tryz.call57⟩ rfl rfl (hOut) ?_;rintro v V3 hV3 ⟨y,rfl,hyN,hyn⟩);refine gt9 6 ?_;refine gt9 7 ?_;refine gt9 8 ?_;refine aY (i:=10) rfl ?_;refine aO rfl siz_70 rfl rfl rfl rfl bG dC rfl ?_;refine gt9 11 ?_;refine aU (by kernel_rfl) vl9 vl9 bD ?_))
        all_goals repeat' (first|(refine aE ?_;refine pu9 ?_)|refine cD ?_|fail)
        all_goals first
          | (exfalso;exact absurd (show ¬movF none=0 by decide) (not_not_intro (by assumption)))
          | (refine eY ?_;(refine bC Tryz.results147 (aB rfl) (show List.Sublist (⟨p,113,bxC I b⟩ :: L1) _ from sl9) ?_)
             exact⟨rfl,I,_,rfl,hW.le vl9⟩)
      | some z =>
        rw [make_on hmay hnm hmv]
        rw [hmv] at hOut
        repeat' (first|refine gx9 ?_|fail)
        refine dD (fun F V' L'=>∃ (γ9:Nat) (y:LN),VLe V V'∧aX V' y∧y.n=z∧⟨γ9,70,lnC y⟩ :: ⟨γ7,70,lnC (kX kind md b.c.u gr false dt)⟩ :: ⟨p,113,bxC I b⟩ :: L1=L'∧F=[(0,.pointer (some ⟨p,0,none⟩)),(1,.slice Bo m e),(7,.pointer (some ⟨γ7,0,none⟩)),(9,.pointer (some ⟨γ9,0,none⟩)),(10,bT 0)]) ?_ ?_
        · refine bM (id:=11) _ mixed (List.Sublist.refl _) ?_;refine gt9 0 ?_;refine gt9 1 ?_;refine gt9 2 ?_;refine gt9 3 ?_;refine gt9 4 ?_;(refine dF (i:=5) (j:=9) (by kernel_rfl) rfl rfl rfl rfl vl9 vl9 bD ?_ ?_<;>first|((refine aM rfl ⟨Tryz.call57⟩ rfl rfl (hOut) ?_;rintro v V3 hV3 ⟨y,rfl,hyN,hyn⟩);refine gt9 6 ?_;refine gt9 7 ?_;refine gt9 8 ?_;refine aY (i:=9) rfl ?_;(refine bS rfl zer_70 rfl ?_;intro γ);refine aY (i:=10) rfl ?_;refine aO rfl siz_70 rfl rfl rfl rfl bG dC rfl ?_;refine gt9 11 ?_;refine aU (by kernel_rfl) vl9 vl9 bD ?_)|((refine bS rfl zer_70 rfl ?_;intro γ);refine aY (i:=5) rfl ?_;(refine aM rfl ⟨Tryz.call57⟩ rfl rfl (hOut) ?_;rintro v V3 hV3 ⟨y,rfl,hyN,hyn⟩);refine gt9 6 ?_;refine gt9 7 ?_;refine gt9 8 ?_;refine aY (i:=10) rfl ?_;refine aO rfl siz_70 rfl rfl rfl rfl bG dC rfl ?_;refine gt9 11 ?_;refine aU (by kernel_rfl) vl9 vl9 bD ?_))
          all_goals exact bR _ ⟨_,y,hV3,hyN,hyn,rfl,rfl⟩ bH sp9
        rintro F V3 L' ⟨γ9,y,hV3,hyN,hyn,rfl,rfl⟩
        have e9:(((m:Nat):Int) - 1).toNat=ss.length - 1:=by omega
        have hU:FnB Tryz.prog 152 [.slice I.K I.m I.e,lmV I.M,.slice Bo (((m:Nat):Int) - 1).toNat e] V3 (⟨p,113,bxC I b⟩ :: L1) fun v V' Bs'=>Bs'=⟨p,113,bxC I b⟩ :: L1∧UpR (upP b.ls b.us b.gs (ss.take (ss.length - 1))) (bT (upP b.ls b.us b.gs (ss.take (ss.length - 1))).2) v V':=by
          rw [e9]
          exact UpB_c (p:=p) hok (hW.le hV3) Bo _ e _ (jZ (hs.le hV3) (by omega)) (by omega) (by omega)
        obtain⟨n0,t0,hls,hkd0⟩:=hok.root
        have hbd:=up_bd9 (us:=b.us) (gs:=b.gs) (ss:=ss.take (ss.length - 1)) hok.light (by rw [hls];exact hok.light n0 (by rw [hls];simp)) (by rw [List.length_take];omega)
        have hm2:uK b ss kind z=if ¬(upP b.ls b.us b.gs (ss.take (ss.length - 1))).2=0 then (b,(upP b.ls b.us b.gs (ss.take (ss.length - 1))).2) else vZ b (.mk { z.h with opq:=decide (kind=2) && wI (upP b.ls b.us b.gs (ss.take (ss.length - 1))).1 ss } z.ks) (upP b.ls b.us b.gs (ss.take (ss.length - 1))).1 ss:=rfl
        rw [hm2]
        clear hm2 hOut
        generalize upP b.ls b.us b.gs (ss.take (ss.length - 1))=up at *
        repeat' (first|(refine aE ?_;refine pu9 ?_)|refine cD ?_|fail)
        all_goals first
          | (exfalso;exact absurd rfl (by assumption))
          | skip
        refine dD (fun F V' L'=>∃ (γ11:Nat) (y2:LN),VLe V3 V'∧aX V' y2∧y2.n=up.1∧⟨γ11,70,lnC y2⟩ :: ⟨γ9,70,lnC y⟩ :: ⟨γ7,70,lnC (kX kind md b.c.u gr false dt)⟩ :: ⟨p,113,bxC I b⟩ :: L1=L'∧F=[(0,.pointer (some ⟨p,0,none⟩)),(1,.slice Bo m e),(7,.pointer (some ⟨γ7,0,none⟩)),(9,.pointer (some ⟨γ9,0,none⟩)),(10,bT up.2),(11,.pointer (some ⟨γ11,0,none⟩))]) ?_ ?_
        · refine bM (id:=14) _ mixed (List.Sublist.refl _) ?_;refine gt9 0 ?_;refine gt9 1 ?_;refine gt9 2 ?_;refine gt9 3 ?_;refine gt9 4 ?_;refine gt9 5 ?_;refine gt9 6 ?_;refine gt9 7 ?_;refine gt9 8 ?_;refine gt9 9 ?_;refine gt9 10 ?_;refine gt9 11 ?_;refine fP 12 rfl rfl (dS und_47 siz_9 rfl rfl (by omega)) ?_;(refine dF (i:=13) (j:=17) (by kernel_rfl) rfl rfl rfl rfl vl9 vl9 bD ?_ ?_<;>first|((refine aW rfl ⟨Tryz.call152⟩ rfl bF rfl (hU) ?_;rintro v V4 B4 hV4 ⟨rfl,y2,rfl,hy2N,hy2n⟩);refine gt9 14 ?_;refine gt9 15 ?_;refine gt9 16 ?_;refine aY (i:=17) rfl ?_;(refine bS rfl zer_70 rfl ?_;intro γ);refine aY (i:=18) rfl ?_;refine aO rfl siz_70 rfl rfl rfl rfl bG dC rfl ?_;refine gt9 19 ?_;refine aU (by kernel_rfl) vl9 vl9 bD ?_)|((refine bS rfl zer_70 rfl ?_;intro γ);refine aY (i:=13) rfl ?_;(refine aW rfl ⟨Tryz.call152⟩ rfl bF rfl (hU) ?_;rintro v V4 B4 hV4 ⟨rfl,y2,rfl,hy2N,hy2n⟩);refine gt9 14 ?_;refine gt9 15 ?_;refine gt9 16 ?_;refine aY (i:=18) rfl ?_;refine aO rfl siz_70 rfl rfl rfl rfl bG dC rfl ?_;refine gt9 19 ?_;refine aU (by kernel_rfl) vl9 vl9 bD ?_))
          all_goals exact bR _ ⟨_,y2,hV4,hy2N,hy2n,rfl,rfl⟩ bH sp9
        rintro F V4 L' ⟨γ11,y2,hV4,hy2N,hy2n,rfl,rfl⟩
        by_cases hu:up.2=0
        · rw [if_neg (not_not_intro hu)]
          have hub:=hbd hu
          have hFd:=Find_c V4 y2 hy2N (by rw [hy2n];exact hub.imp fun _ _=>lT) Bo m e ss (hs.le (hV3.trans hV4))
          rw [hy2n] at hFd
          repeat' (first|(refine aE ?_;first|(refine aD ?_;(refine aM rfl ⟨Tryz.call158⟩ rfl rfl (hFd) ?_;rintro v V5 hV5 ⟨z2,rfl,hz2N,hz2n⟩))|refine st9 ?_|(refine al9 ?_;intro γ)|refine pu9 ?_)|refine gx9 ?_|refine dX [15,17] rfl ?_|(refine aA rfl ?_ ?_<;>intro hq<;>try exact no9))
          all_goals first
            | (exfalso;exact absurd hu (by assumption))
            | skip
          have hwh:wI up.1 ss=((dN up.1 ss).isSome && decide (z2.h.kind=3)):=by
            have hk9:z2.h.kind=((dN up.1 ss).getD pnZ).h.kind:=by rw [←hz2n];rfl
            rw [hk9];unfold wI
            cases dN up.1 ss<;>rfl
          rw [hwh]
          generalize (dN up.1 ss).isSome=is9 at *
          refine dD (fun F V' L'=>∃ oo:Bool,V5=V'∧(decide (kind=2) && (is9 && decide (z2.h.kind=3)))=oo∧⟨γ11,70,lnC y2⟩ :: ⟨γ9,70,lnC { y with h:={ y.h with opq:=oo } }⟩ :: ⟨p,113,bxC I b⟩ :: L1=L'∧F=[(0,.pointer (some ⟨p,0,none⟩)),(1,.slice Bo m e),(9,.pointer (some ⟨γ9,0,none⟩)),(11,.pointer (some ⟨γ11,0,none⟩))]) ?_ ?_
          · repeat' (first|(refine aE ?_;first|refine st9 ?_|refine pu9 ?_)|refine gx9 ?_|(refine aJ rfl rfl rfl ?_ ?_<;>intro hq<;>try exact no9)|(refine bU rfl rfl rfl ?_ ?_<;>intro hq)|refine cL (id:=18) ?_)
            all_goals first
              | (refine oV ?_;refine gZ _ ⟨false,rfl,?_,rfl,rfl⟩ bH slc9;simp_all;done)
              | (refine oV ?_;refine gZ _ ⟨decide (z2.h.kind=3),rfl,?_,rfl,rfl⟩ bH slc9;simp_all;done)
          rintro F V' L' ⟨oo,rfl,hoo,rfl,rfl⟩
          rw [hoo]
          have hyN5:aX V5 { y with h:={ y.h with opq:=oo } }:=node_opq (hyN.le vl9)
          have hyn5:(LN.n { y with h:={ y.h with opq:=oo } })=.mk { z.h with opq:=oo } z.ks:=by rw [←hyn];rfl
          have hzs:cA dZ (PN.mk { z.h with opq:=oo } z.ks):=by
            obtain⟨u9,g9,h9,_,_⟩:=vP hmv
            rw [h9]
            exact .mk ⟨Nat.zero_le _,Nat.zero_le _⟩ (by simp)
          have hP:=Put_c V5 y2 (hy2N.le vl9) (by rw [hy2n];exact hub.imp fun _ _=>gK (by omega)) Bo m e ss (hs.le vl9) hme _ hyN5 (by rw [hyn5];exact hzs)
          rw [hyn5,hy2n] at hP
          generalize (PN.mk { z.h with opq:=oo } z.ks)=n1 at *
          have hG:=fun V3 (hV3:VLe V V3) (z:LN) (hz:aX V3 z)=>xW V3 p b _ hok ⟨I,L1,rfl,hW.le hV3⟩ z hz
          repeat' (first|(refine aE ?_;first|(refine aD ?_;(refine aM rfl ⟨Tryz.call159⟩ rfl rfl (hP) ?_;rintro v V6 hV6 ⟨x5,rfl,hx5N,hx5n⟩))|refine st9 ?_|refine pu9 ?_)|refine gx9 ?_|refine cL (id:=19) ?_)
          have e0:∀ l,l=lnC x5→spl (lnC y2) 0 l=lnC x5:=fun l hl=>by rw [hl];exact gY rfl
          rw [e0 _ (by rfl)]
          unfold vZ
          by_cases hpf:pF false n1 up.1 ss=0
          · rw [if_neg (not_not_intro hpf)]
            rw [tS,if_pos hpf] at hx5n
            have hG2:=hG _ vl9 x5 hx5N
            rw [hx5n] at hG2
            repeat' (first|(refine aE ?_;first|(refine aD ?_;(refine aW rfl ⟨Tryz.call154⟩ rfl bF rfl (hG2) ?_;rintro v V7 B7 hV7 ⟨rfl,hB7⟩))|refine pu9 ?_)|refine bV ?_|(refine aA rfl ?_ ?_<;>intro hq<;>try exact no9))
            all_goals first
              | (exfalso;exact absurd hpf (by assumption))
              | (refine eY ?_;(refine bC Tryz.results147 (aB rfl) (List.Sublist.cons _ (List.Sublist.cons _ (List.Sublist.refl _))) ?_)
                 exact⟨rfl,hB7⟩)
          · rw [if_pos hpf]
            repeat' (first|(refine aE ?_;refine pu9 ?_)|refine bV ?_|(refine aA rfl ?_ ?_<;>intro hq<;>try exact no9))
            all_goals first
              | (exfalso;exact absurd (by assumption) hpf)
              | (refine eY ?_;(refine bC Tryz.results147 (aB rfl) (show List.Sublist (⟨p,113,bxC I b⟩ :: L1) _ from sl9) ?_)
                 exact⟨rfl,I,_,rfl,hW.le vl9⟩)
        · rw [if_pos hu]
          repeat' (first|(refine aE ?_;refine pu9 ?_)|refine bV ?_|(refine aA rfl ?_ ?_<;>intro hq<;>try exact no9))
          all_goals first
            | (exfalso;exact absurd hu (by assumption))
            | (exfalso;exact absurd (by assumption) hu)
            | (refine eY ?_;(refine bC Tryz.results147 (aB rfl) (show List.Sublist (⟨p,113,bxC I b⟩ :: L1) _ from sl9) ?_)
               exact⟨rfl,I,_,rfl,hW.le vl9⟩)
end
section
theorem own_off {b:BX} {l:List UInt8} {u g:Int} (h:wU u g):sZ b l u g=(b,1):=if_pos h
theorem own_no {b:BX} {l:List UInt8} {u g:Int} (h:¬wU u g) (h2:¬cS b l=0):sZ b l u g=(b,cS b l):=by unfold sZ;rw [if_neg h,if_pos h2]
theorem own_same {b:BX} {l:List UInt8} {u g:Int} (h:¬wU u g) (h2:cS b l=0) (h3:u = -1∧g = -1):sZ b l u g=(b,0):=by unfold sZ;rw [if_neg h,if_neg (not_not_intro h2),if_pos h3]
theorem own_on {b:BX} {l:List UInt8} {u g:Int} (h:¬wU u g) (h2:cS b l=0) (h3:¬(u = -1∧g = -1)):sZ b l u g=uE b l (ownU u (aV b l).th.user) (ownU g (aV b l).th.group):=by unfold sZ;rw [if_neg h,if_neg (not_not_intro h2),if_neg h3]
theorem own2_no {b:BX} {l:List UInt8} {u g:Int} (h:¬tP b (aV b l).th u g):uE b l u g=(b,10):=if_pos h
theorem own2_un {b:BX} {l:List UInt8} {u g:Int} (h:tP b (aV b l).th u g) (h2:cT true b.us b.gs (idN u g)=none):uE b l u g=(b,11):=by unfold uE;rw [if_neg (not_not_intro h),h2]
theorem own2_ok {b:BX} {l:List UInt8} {u g:Int} {x:PN} (h:tP b (aV b l).th u g) (h2:cT true b.us b.gs (idN u g)=some x):uE b l u g=fV b (aK l) fun h=>{ h with user:=x.h.user,group:=x.h.group,mode:=mK b.c.d h.mode }:=by unfold uE;rw [if_neg (not_not_intro h),h2]
abbrev newL9 (u g:Int):LN:=⟨⟨0,0,u,g,false,[],⟨#[]⟩⟩,none,0,0,none,0,0,[]⟩
theorem newL9_node {V:aI} {u g:Int}:aX V (newL9 u g):=aX.of (es:=[]) eH.nil (Nat.le_refl _) (Nat.zero_le _) (Nat.le_refl _) ⟨eT.nil,by simp⟩ rfl
theorem newL9_small {u g:Int}:cA dZ (newL9 u g).n:=.mk ⟨Nat.zero_le _,Nat.zero_le _⟩ (by simp)
attribute [local irreducible] AtQ GoC GoL GoW QO QP Fn RV bX aL VLe cG bT
theorem own_c (V:aI) (p:Nat) (b:BX) (Bs:List Box) (hok:bK b) (h:eO V p b Bs) (s:ByteArray) (hc:s.size≤1000000) (u g:Int):FnB Tryz.prog 73 [.pointer (some ⟨p,0,none⟩),.string s,.int .i64 u,.int .i64 g] V Bs (ChB p (sZ b (aC s) u g)):=by
  obtain⟨I,L1,rfl,hW⟩:=h
  have hT:=fun V2 (hV2:VLe V V2)=>tB (V:=V2) (p:=p) hok ⟨I,L1,rfl,hW.le hV2⟩ s hc
  have hCan:=fun V2=>Can_c V2 b.c.u b.c.g b.c.d 1 I.A I.n I.k
  have hHas:=fun V2 (hV2:VLe V V2) g=>Has_c V2 b.c.u b.c.g b.c.d g I.A I.n I.k b.c.xs (hW.xs.le hV2)
  have hcd:=cap1' hok.d.1 hok.d.2
  (refine bI Tryz.func73 rfl Tryz.ntmps73 rfl ?_;intro w0)
  repeat' (first|(refine aE ?_;first|(refine aD ?_;(refine aW rfl ⟨Tryz.call142⟩ rfl bF rfl (hT _ vl9) ?_;rintro v V2 B2 hV2 ⟨rfl,hR⟩;rcases hR with ⟨ht0,A,n,k,x,rfl,hs,hnk,hxN,hxn⟩|⟨ht0,A,n,k,x,lay,par,th,rfl⟩))|(refine dG ?_;refine aO rfl siz_214 rfl rfl rfl rfl bG gG rfl ?_)|(refine al9 ?_;intro γ)|refine pu9 ?_)|refine fX ?_|(refine aJ rfl rfl rfl ?_ ?_<;>intro hq<;>try exact no9)|refine dX [0,1,2,3,4,5] rfl ?_|(refine aA rfl ?_ ?_<;>intro hq<;>try exact no9))
  all_goals first
    | exact no9
    | (exfalso;exact absurd ht0 (by assumption))
    | (refine eY ?_;(refine bC Tryz.results73 (aB rfl) (show List.Sublist (⟨p,113,bxC I b⟩ :: L1) _ from sl9) ?_)
       first
       | (rw [own_off (by unfold wU;omega)];exact⟨dE 1 rfl,I,_,rfl,hW.le vl9⟩)
       | (rw [own_no (by unfold wU;omega) ht0];exact⟨rfl,I,_,rfl,hW.le vl9⟩))
    | skip
  have hnoff:¬wU u g:=by unfold wU;omega
  refine fC (fun F V' L'=>∃ (γ4 γ10:Nat),V2=V'∧¬(u = -1∧g = -1)∧⟨γ10,214,foC x (aV b (aC s)).lay (aV b (aC s)).par (aV b (aC s)).th⟩ :: ⟨γ4,37,[.pointer (some ⟨p,0,none⟩)]⟩ :: ⟨p,113,bxC I b⟩ :: L1=L'∧F=[(2,.int .i64 u),(3,.int .i64 g),(4,.pointer (some ⟨γ4,0,none⟩)),(9,.slice A n k),(10,.pointer (some ⟨γ10,0,none⟩))]) ?_ ?_
  · repeat' (first|(refine aE ?_;refine pu9 ?_)|refine fX ?_|(refine aJ rfl rfl rfl ?_ ?_<;>intro hq<;>try exact no9)|refine dX [6,7] rfl ?_|(refine aA rfl ?_ ?_<;>intro hq<;>try exact no9))
    all_goals first
      | exact no9
      | (refine eY ?_;(refine bC Tryz.results73 (aB rfl) (show List.Sublist (⟨p,113,bxC I b⟩ :: L1) _ from sl9) ?_)
         rw [own_same hnoff ht0 (by omega)];exact⟨dA.symm,I,_,rfl,hW.le vl9⟩)
      | (refine oV ?_;refine gZ _ ⟨_,_,rfl,?_,rfl,rfl⟩ bH sl9;omega)
  · rintro F V3 L' ⟨γ4,γ10,rfl,hbo,rfl,rfl⟩
    rw [own_on hnoff ht0 hbo]
    repeat' (first|(refine aE ?_;first|refine st9 ?_|(refine al9 ?_;intro γ)|refine pu9 ?_)|refine gx9 ?_|refine cL (id:=8) ?_)
    have hTM:=fH hok (aC s)
    generalize hth:(aV b (aC s)).th=th at *
    refine fC (fun F V' L'=>∃ (γ12:Nat) (uu:Int),V2=V'∧ownU u th.user=uu∧⟨γ12,212,[.bool th.dir,.int .i64 th.mode,.int .i64 th.user,.int .i64 th.group,.bool th.mapped]⟩ :: ⟨γ4,37,[.pointer (some ⟨p,0,none⟩)]⟩ :: ⟨p,113,bxC I b⟩ :: L1=L'∧F=[(2,.int .i64 uu),(3,.int .i64 g),(4,.pointer (some ⟨γ4,0,none⟩)),(9,.slice A n k),(12,.pointer (some ⟨γ12,0,none⟩))]) ?_ ?_
    · repeat' (first|(refine aE ?_;refine pu9 ?_)|refine gx9 ?_|refine dX [9,10] rfl ?_|(refine aA rfl ?_ ?_<;>intro hq<;>try exact no9))
      all_goals
        refine gZ _ ⟨_,_,rfl,?_,rfl,rfl⟩ bH slc9
        unfold ownU;split<;>first|rfl|exact no9
    · rintro F V3 L' ⟨γ12,uu,rfl,huu,rfl,rfl⟩
      rw [huu]
      repeat' (first|refine gx9 ?_|fail)
      refine fC (fun F V' L'=>∃ (gg:Int),V2=V'∧ownU g th.group=gg∧⟨γ12,212,[.bool th.dir,.int .i64 th.mode,.int .i64 th.user,.int .i64 th.group,.bool th.mapped]⟩ :: ⟨γ4,37,[.pointer (some ⟨p,0,none⟩)]⟩ :: ⟨p,113,bxC I b⟩ :: L1=L'∧F=[(2,.int .i64 uu),(3,.int .i64 gg),(4,.pointer (some ⟨γ4,0,none⟩)),(9,.slice A n k),(12,.pointer (some ⟨γ12,0,none⟩))]) ?_ ?_
      · repeat' (first|(refine aE ?_;refine pu9 ?_)|refine gx9 ?_|refine dX [11,12] rfl ?_|(refine aA rfl ?_ ?_<;>intro hq<;>try exact no9))
        all_goals
          refine gZ _ ⟨_,rfl,?_,rfl,rfl⟩ bH slc9
          unfold ownU;split<;>first|rfl|exact no9
      · rintro F V3 L' ⟨gg,rfl,hgg,rfl,rfl⟩
        rw [hgg]
        repeat' (first|(refine aE ?_;first|(refine aD ?_;refine aN rfl (aG ⟨Tryz.call163⟩ rfl (hCan _)) ?_)|refine pu9 ?_)|refine bV ?_|fail)
        refine dD (fun F V' L'=>∃ (bb:Bool),V2=V'∧decide (uu=th.user∧th.user=b.c.u∧(gg=th.group∨b.c.g=gg∨gg∈b.c.xs))=bb∧⟨γ12,212,[.bool th.dir,.int .i64 th.mode,.int .i64 th.user,.int .i64 th.group,.bool th.mapped]⟩ :: ⟨γ4,37,[.pointer (some ⟨p,0,none⟩)]⟩ :: ⟨p,113,bxC I b⟩ :: L1=L'∧F=[(2,.int .i64 uu),(3,.int .i64 gg),(4,.pointer (some ⟨γ4,0,none⟩)),(9,.slice A n k),(12,.pointer (some ⟨γ12,0,none⟩)),(13,.bool (decide (bits .and .i64 b.c.d 1=1))),(14,.bool bb)]) ?_ ?_
        · repeat' (first|(refine aE ?_;first|(refine aD ?_;refine aN rfl (aG ⟨Tryz.call164⟩ rfl (hHas _ vl9 _)) ?_)|refine pu9 ?_)|refine gx9 ?_|(refine aJ rfl rfl rfl ?_ ?_<;>intro hq<;>try exact no9)|refine bN (id:=14) mixed (by kernel_rfl) ?_)
          all_goals
            refine gZ _ ⟨_,rfl,?_,rfl,rfl⟩ bH slc9
            simp_all
        · rintro F V3 L' ⟨bb,rfl,hbb,rfl,rfl⟩
          have hOM:tP b th uu gg↔th.mapped=true∧(bits .and .i64 b.c.d 1=1∨bb=true):=by unfold tP;rw [hcd,←hbb,decide_eq_true_eq]
          refine gA ?_
          refine iK ?_
          refine dD (fun F V' L'=>V2=V'∧tP b th uu gg∧⟨γ4,37,[.pointer (some ⟨p,0,none⟩)]⟩ :: ⟨p,113,bxC I b⟩ :: L1=L'∧F=[(2,.int .i64 uu),(3,.int .i64 gg),(4,.pointer (some ⟨γ4,0,none⟩)),(9,.slice A n k)]) ?_ ?_
          · repeat' (first|(refine aE ?_;refine pu9 ?_)|refine fX ?_|(refine aJ rfl rfl rfl ?_ ?_<;>intro hq<;>try exact no9)|(refine bU rfl rfl rfl ?_ ?_<;>intro hq)|refine dX [15,16] rfl ?_|(refine bP rfl ?_ ?_<;>intro hq))
            all_goals first
              | (refine oV ?_;refine gZ _ ⟨rfl,?_,rfl,rfl⟩ bH slc9;rw [hOM];simp_all;done)
              | (refine eY ?_;(refine bC Tryz.results73 (aB rfl) (show List.Sublist (⟨p,113,bxC I b⟩ :: L1) _ from sl9) ?_)
                 rw [own2_no (by rw [hth,hOM];simp_all)]
                 exact⟨dE 10 rfl,I,_,rfl,hW.le vl9⟩)
          · rintro F V3 L' ⟨rfl,hom,rfl,rfl⟩
            have hN:aX V2 (newL9 uu gg):=newL9_node
            have hOut:=rW V2 I.M (hW.M.le hV2) _ hN newL9_small
            rw [hW.us,hW.gs,show (newL9 uu gg).n=idN uu gg from rfl] at hOut
            have hMF:∀ r,cT true b.us b.gs (idN uu gg)=r→cT true b.us b.gs (idN uu gg)=r:=fun _ h=>h
            have hown:=hW.owned (p:=p) hok
            cases hmv:cT true b.us b.gs (idN uu gg) with
            | none =>
              rw [hmv] at hOut
              repeat' (first|(refine aE ?_;first|(refine aD ?_;(refine aM rfl ⟨Tryz.call57⟩ rfl rfl (hOut) ?_;rintro v V3 hV3 ⟨y,rfl,hyN,hyn⟩))|refine st9 ?_|(refine al9 ?_;intro γ)|refine pu9 ?_)|refine cD ?_|fail)
              all_goals first
                | (exfalso;exact absurd (show ¬movF none=0 by decide) (not_not_intro (by assumption)))
                | (refine eY ?_;(refine bC Tryz.results73 (aB rfl) (show List.Sublist (⟨p,113,bxC I b⟩ :: L1) _ from sl9) ?_)
                   rw [own2_un (by rw [hth];exact hom) hmv]
                   exact⟨rfl,I,_,rfl,hW.le vl9⟩)
            | some z =>
              rw [hmv] at hOut
              rw [own2_ok (by rw [hth];exact hom) hmv]
              repeat' (first|(refine aE ?_;first|(refine aD ?_;(refine aM rfl ⟨Tryz.call57⟩ rfl rfl (hOut) ?_;rintro v V3 hV3 ⟨y,rfl,hyN,hyn⟩))|refine st9 ?_|(refine al9 ?_;intro γ)|refine pu9 ?_)|refine fX ?_|refine dX [17,18] rfl ?_)
              obtain rfl:y.n=z:=hyn
              all_goals first
                | (exfalso;exact absurd (show movF (some y.n)=0 from rfl) (by assumption))
                | skip
              refine kO (gH.here _ _ _ _) ?_ (fun x hx=>let ⟨cs,h9⟩:=hown x hx;⟨cs,iE h9⟩)
              intro V4 hV4 hc4
              refine kO (gH.here _ _ _ _) ?_ hown
              intro V5 hV5 hc5
              have h4:V5 ⟨γ4,0,none⟩=some (.pointer (some ⟨p,0,none⟩)):=rL (j:=0) hc5 rfl
              have hAl:=alter_c ⟨Tryz.call165⟩ V5 p b _ hok ⟨I,L1,rfl,hW.le vl9⟩ (own1_c V5 p b hok.d _ γ4 y.h.user y.h.group (rL (j:=2) (hc4.le hV5) rfl) (rL (j:=3) (hc4.le hV5) rfl) (rL (j:=0) hc5 rfl)) (fun h hh=>hh) A n k _ (hs.le vl9) hnk (by have:=fD (aC s);have:=hs.1.1;omega)
              repeat' (first|(refine aE ?_;first|(refine aD ?_;(refine aW rfl ⟨Tryz.call148⟩ rfl bF rfl (hAl) ?_;rintro v V6 B6 hV6 ⟨rfl,hB6⟩))|refine pu9 ?_)|refine bV ?_|fail)
              all_goals
                (refine bC Tryz.results73 (aB rfl) (List.Sublist.refl _) ?_)
                exact⟨rfl,hB6⟩
end
section
theorem to_b {V:aI} {p:Nat} {b:BX} {Bs:List Box} (hok:bK b) (h:eO V p b Bs) (A:Option Addr) (m e:Nat) (ss:List ByteArray) (hs:bZ V A m ss) (hme:m≤e):FnB Tryz.prog 146 [.pointer (some ⟨p,0,none⟩),.slice A m e] V Bs fun v V' Bs'=>Bs'=Bs∧ToR (cC b ss) v V' :=
  eO.read hok h (fun v V gs hc hR=>ToR.off hc hR) fun V' I hV hB=>to_c V' p b I hok hB A m e ss (hs.le hV) hme
theorem root_is {b:BX} (hok:bK b):(cC b []).1.is=true:=by
  obtain⟨n0,t,hl,hk⟩:=hok.root
  show (fF b [] thZ).is=true
  have hw:bY b.ls []=jE b.ls:=rfl
  rw [hl,iG hk] at hw
  rw [kG (by rw [hl];exact hw)]
theorem not_root {b:BX} (hok:bK b) {ss:List ByteArray} (h:(cC b ss).1.is=false):0<ss.length:=by
  cases ss with
  | nil=>rw [root_is hok] at h;cases h
  | cons s ss=>simp
theorem kH {b:BX} (hok:bK b) (ss:List ByteArray):∀ k,0≤(eN b ss k).1.par.mode∧(eN b ss k).1.par.mode≤4095
  | 0=>by
    show 0≤(fF b [] thZ).par.mode∧(fF b [] thZ).par.mode≤4095
    rw [look_par];exact⟨Int.le_refl _,by decide⟩
  | k+1=>by
    have ih:=kH hok ss k
    have i2:=pL hok ss k
    rw [eN]
    (repeat' split)<;>first|exact ih|(simp only [look_par];exact i2)
theorem vV {b:BX} {l:List UInt8} (h:¬dY l=0):pA b l=dY l:=if_pos h
theorem spotF_ok {b:BX} {l:List UInt8} (h:dY l=0):pA b l=(cC b (aK l)).2:=if_neg (not_not_intro h)
theorem nn {p:Prop} (h:¬¬p):p:=Classical.not_not.1 h
attribute [local irreducible] AtQ GoC GoL GoW QO QP Fn RV bX aL VLe cG bT
theorem put_c (V:aI) (p:Nat) (b:BX) (Bs:List Box) (hok:bK b) (h:eO V p b Bs) (c:CL) (hc:c.path.size≤1000000):FnB Tryz.prog 68 [.pointer (some ⟨p,0,none⟩),clV c] V Bs (ChB p (gJ b c)):=by
  obtain⟨I,L1,rfl,hW⟩:=h
  have hS:=fun V2=>yF V2 (aC c.path) (by show c.path.data.toList.length≤1000000;rw [Array.length_toList];exact hc)
  have e:(⟨(aC c.path).toArray⟩:ByteArray)=c.path:=fJ c.path
  rw [e] at hS
  have hT:=fun V2 (hV2:VLe V V2) A m e (hs:bZ V2 A m (aK (aC c.path))) (hme:m≤e)=>to_b (V:=V2) (p:=p) hok ⟨I,L1,rfl,hW.le hV2⟩ A m e _ hs hme
  have hpm:=kH hok (aK (aC c.path)) (aK (aC c.path)).length
  have hthm:=fH hok (aC c.path)
  have hnr:=not_root hok (ss:=aK (aC c.path))
  have hfew:=fD (aC c.path)
  have hown:=hW.owned (p:=p) hok
  have hP:¬(c.a<0∨4095<c.a∨200<c.data.size)→¬c.path=⟨#[47]⟩→dY (aC c.path)=0→gJ b c=if ¬(cC b (aK (aC c.path))).2=0 then (b,(cC b (aK (aC c.path))).2)
      else if (cC b (aK (aC c.path))).1.is=false then iQ b (aK (aC c.path)) (cC b (aK (aC c.path))).1.par 1 c.a c.data
      else if (cC b (aK (aC c.path))).1.th.dir=true then (b,7) else if iL b.c (cC b (aK (aC c.path))).1.th 2=false then (b,9)
      else fV b (aK (aC c.path)) fun h=>{ h with data:=c.data,mode:=mK b.c.d h.mode }:=fun h1 h2 h3=>by
    unfold gJ aV;rw [if_neg h1,if_neg h2,spotF_ok h3]
  have hM:=fun V2 (hV2:VLe V V2) A m e (hs:bZ V2 A m (aK (aC c.path))) (hme:m≤e) (hm:0<m∧m≤100) x lay th (hmd:0≤c.a∧c.a≤4095) (hdt:c.data.size≤1000)=>make_c V2 p b _ hok ⟨I,L1,rfl,hW.le hV2⟩ A m e _ hs hme hm x lay (cC b (aK (aC c.path))).1.par th hpm 1 c.a hmd c.data hdt
  have hMay:=fun V2 (hV2:VLe V V2)=>May_c V2 b.c I.A I.n I.k (hW.xs.le hV2) hok.d (cC b (aK (aC c.path))).1.th hthm 2 (.inr (.inl rfl))
  (refine bI Tryz.func68 rfl Tryz.ntmps68 rfl ?_;intro w0)
  repeat' (first|(refine aE ?_;first|(refine aD ?_;(refine aM rfl ⟨Tryz.call145⟩ rfl rfl (hS _) ?_;rintro v V1 hV1 ⟨A1,n1,c1,rfl,hS1,hc1⟩))|(refine al9 ?_;intro γ)|refine pu9 ?_)|refine fX ?_|(refine aJ rfl rfl rfl ?_ ?_<;>intro hq<;>try exact no9)|refine dX [0,1,2,3,4,5,6,7] rfl ?_|(refine aA rfl ?_ ?_<;>intro hq<;>try exact no9))
  all_goals first
    | exact no9
    | (refine eY ?_;(refine bC Tryz.results68 (aB rfl) (show List.Sublist (⟨p,113,bxC I b⟩ :: L1) _ from sl9) ?_)
       first
       | (rw [show gJ b c=(b,1) from if_pos (by omega)];exact⟨dE 1 rfl,I,_,rfl,hW.le vl9⟩)
       | (rw [show gJ b c=(b,7) by unfold gJ;rw [if_neg (by omega),if_pos (by assumption)]];exact⟨dE 7 rfl,I,_,rfl,hW.le vl9⟩)
       | (rw [show gJ b c=(b,dY (aC c.path)) by have e:=vV (b:=b) hq;unfold gJ;rw [if_neg (by omega),if_neg (by assumption),e,if_pos hq]];exact⟨rfl,I,_,rfl,hW.le vl9⟩))
    | skip
  rw [hP (by omega) (by assumption) (nn (by assumption))]
  clear hP
  have hn1:=hS1.1.1
  generalize cC b (aK (aC c.path))=sp at *
  obtain⟨⟨is,n,lay,th,par⟩,f⟩:=sp
  generalize hmay:iL b.c th 2=my at *
  repeat' (first|(refine aE ?_;first|(refine aD ?_;(first|(refine aW rfl ⟨Tryz.call146⟩ rfl bF rfl (hT _ vl9 _ _ _ hS1 hc1) ?_;rintro v V2 B2 hV2 ⟨rfl,(⟨h0,x,rfl,hxN,hxn⟩|⟨h0,rfl⟩)⟩)|refine aN rfl (aG ⟨Tryz.call144⟩ rfl (hMay _ vl9)) ?_))|(refine dG ?_;refine aO rfl siz_214 rfl rfl rfl rfl bG gG rfl ?_)|(refine al9 ?_;intro γ)|refine pu9 ?_)|refine fX ?_|refine dX [8,9,10,11,13,14,16] rfl ?_|(refine aA rfl ?_ ?_<;>intro hq<;>try exact no9)|(refine bP rfl ?_ ?_<;>intro hq)|refine bN (id:=15) mixed (by kernel_rfl) ?_)
  all_goals first
    | (exfalso;exact absurd h0 (by assumption))
    | (exfalso;exact absurd (by assumption) h0)
    | (refine eY ?_;(refine bC Tryz.results68 (aB rfl) (show List.Sublist (⟨p,113,bxC I b⟩ :: L1) _ from sl9) ?_)
       first
       | (rw [if_pos h0];exact⟨rfl,I,_,rfl,hW.le vl9⟩)
       | (rw [if_neg (not_not_intro h0),if_neg (by simp_all),if_pos (by assumption)];exact⟨dE 7 rfl,I,_,rfl,hW.le vl9⟩)
       | (rw [if_neg (not_not_intro h0),if_neg (by simp_all),if_neg (by simp_all),if_pos (by simpa using hq)];exact⟨dE 9 rfl,I,_,rfl,hW.le vl9⟩))
    | skip
  · have his:is=false:=by simpa using hq
    rw [if_neg (not_not_intro h0),if_pos his]
    have hpos:=hnr his
    have hM2:=hM V2 vl9 A1 n1 c1 (hS1.le vl9) hc1 (by omega) x lay th (by omega) (by omega)
    repeat' (first|(refine aE ?_;first|(refine aD ?_;(refine aW rfl ⟨Tryz.call147⟩ rfl bF rfl (hM2) ?_;rintro v V3 B3 hV3 ⟨rfl,hB3⟩))|refine pu9 ?_)|refine bV ?_|fail)
    all_goals
      (refine bC Tryz.results68 (aB rfl) (List.Sublist.cons _ (List.Sublist.cons _ (List.Sublist.cons _ (List.Sublist.refl _)))) ?_)
      exact⟨rfl,hB3⟩
  · rw [if_neg (not_not_intro h0),if_neg (by simp_all),if_neg (by simp_all),if_neg (by simp_all)]
    refine kO (gH.next _ _ _ _ _ (gH.here _ _ _ _)) ?_ (fun x hx=>let ⟨cs,h9⟩:=hown x hx;⟨cs,iE (iE h9)⟩)
    intro V4 hV4 hc4
    refine kO (gH.next _ _ _ _ _ (gH.here _ _ _ _)) ?_ (fun x hx=>let ⟨cs,h9⟩:=hown x hx;⟨cs,iE h9⟩)
    intro V5 hV5 hc5
    have h4:=aL.at0 hc5
    have hAl:=alter_c ⟨Tryz.call149⟩ V5 p b _ hok ⟨I,L1,rfl,hW.le vl9⟩ (put1_c V5 p b hok.d _ _ c.data (by unfold maxLen;omega) (rL (j:=4) (hc4.le hV5) rfl) h4) (fun h hh=>hh) A1 n1 c1 _ (hS1.le vl9) hc1 (by omega)
    repeat' (first|(refine aE ?_;first|(refine aD ?_;(refine aW rfl ⟨Tryz.call148⟩ rfl bF rfl (hAl) ?_;rintro v V6 B6 hV6 ⟨rfl,hB6⟩))|refine pu9 ?_)|refine bV ?_|fail)
    all_goals
      (refine bC Tryz.results68 (aB rfl) (List.Sublist.cons _ (List.Sublist.refl _)) ?_)
      exact⟨rfl,hB6⟩
theorem mkdir_c (V:aI) (p:Nat) (b:BX) (Bs:List Box) (hok:bK b) (h:eO V p b Bs) (c:CL) (hc:c.path.size≤1000000):FnB Tryz.prog 69 [.pointer (some ⟨p,0,none⟩),clV c] V Bs (ChB p (kJ b c)):=by
  obtain⟨I,L1,rfl,hW⟩:=h
  have hS:=fun V2=>yF V2 (aC c.path) (by show c.path.data.toList.length≤1000000;rw [Array.length_toList];exact hc)
  have e:(⟨(aC c.path).toArray⟩:ByteArray)=c.path:=fJ c.path
  rw [e] at hS
  have hT:=fun V2 (hV2:VLe V V2) A m e (hs:bZ V2 A m (aK (aC c.path))) (hme:m≤e)=>to_b (V:=V2) (p:=p) hok ⟨I,L1,rfl,hW.le hV2⟩ A m e _ hs hme
  have hpm:=kH hok (aK (aC c.path)) (aK (aC c.path)).length
  have hnr:=not_root hok (ss:=aK (aC c.path))
  have hfew:=fD (aC c.path)
  have hP:¬(c.a<0∨4095<c.a)→dY (aC c.path)=0→kJ b c=if ¬(cC b (aK (aC c.path))).2=0 then (b,(cC b (aK (aC c.path))).2)
      else if (cC b (aK (aC c.path))).1.is=true then (b,6) else iQ b (aK (aC c.path)) (cC b (aK (aC c.path))).1.par 2 c.a ⟨#[]⟩:=fun h1 h3=>by
    unfold kJ aV;rw [if_neg h1,spotF_ok h3]
  have hM:=fun V2 (hV2:VLe V V2) A m e (hs:bZ V2 A m (aK (aC c.path))) (hme:m≤e) (hm:0<m∧m≤100) x lay th (hmd:0≤c.a∧c.a≤4095)=>make_c V2 p b _ hok ⟨I,L1,rfl,hW.le hV2⟩ A m e _ hs hme hm x lay (cC b (aK (aC c.path))).1.par th hpm 2 c.a hmd ⟨#[]⟩ (Nat.zero_le _)
  (refine bI Tryz.func69 rfl Tryz.ntmps69 rfl ?_;intro w0)
  repeat' (first|(refine aE ?_;first|(refine aD ?_;(refine aM rfl ⟨Tryz.call145⟩ rfl rfl (hS _) ?_;rintro v V1 hV1 ⟨A1,n1,c1,rfl,hS1,hc1⟩))|(refine al9 ?_;intro γ)|refine pu9 ?_)|refine fX ?_|(refine aJ rfl rfl rfl ?_ ?_<;>intro hq<;>try exact no9)|refine dX [0,1,2,3,4,5] rfl ?_|(refine aA rfl ?_ ?_<;>intro hq<;>try exact no9))
  all_goals first
    | exact no9
    | (refine eY ?_;(refine bC Tryz.results69 (aB rfl) (show List.Sublist (⟨p,113,bxC I b⟩ :: L1) _ from sl9) ?_)
       first
       | (rw [show kJ b c=(b,1) from if_pos (by omega)];exact⟨dE 1 rfl,I,_,rfl,hW.le vl9⟩)
       | (rw [show kJ b c=(b,dY (aC c.path)) by have e:=vV (b:=b) hq;unfold kJ;rw [if_neg (by omega),e,if_pos hq]];exact⟨rfl,I,_,rfl,hW.le vl9⟩))
    | skip
  rw [hP (by omega) (nn (by assumption))]
  clear hP
  have hn1:=hS1.1.1
  generalize cC b (aK (aC c.path))=sp at *
  obtain⟨⟨is,n,lay,th,par⟩,f⟩:=sp
  repeat' (first|(refine aE ?_;first|(refine aD ?_;(refine aW rfl ⟨Tryz.call146⟩ rfl bF rfl (hT _ vl9 _ _ _ hS1 hc1) ?_;rintro v V2 B2 hV2 ⟨rfl,(⟨h0,x,rfl,hxN,hxn⟩|⟨h0,rfl⟩)⟩))|(refine dG ?_;refine aO rfl siz_214 rfl rfl rfl rfl bG gG rfl ?_)|(refine al9 ?_;intro γ)|refine pu9 ?_)|refine fX ?_|refine dX [6,7,8,9,10] rfl ?_|(refine aA rfl ?_ ?_<;>intro hq<;>try exact no9)|(refine bP rfl ?_ ?_<;>intro hq))
  all_goals first
    | (exfalso;exact absurd h0 (by assumption))
    | (exfalso;exact absurd (by assumption) h0)
    | (refine eY ?_;(refine bC Tryz.results69 (aB rfl) (show List.Sublist (⟨p,113,bxC I b⟩ :: L1) _ from sl9) ?_)
       first
       | (rw [if_pos h0];exact⟨rfl,I,_,rfl,hW.le vl9⟩)
       | (rw [if_neg (not_not_intro h0),if_pos (by assumption)];exact⟨dE 6 rfl,I,_,rfl,hW.le vl9⟩))
    | skip
  have his:is=false:=by simpa using hq
  rw [if_neg (not_not_intro h0),if_neg (by show ¬is=true;rw [his];decide)]
  have hpos:=hnr his
  have hM2:=hM V2 vl9 A1 n1 c1 (hS1.le vl9) hc1 (by omega) x lay th (by omega)
  repeat' (first|(refine aE ?_;first|(refine aD ?_;(refine aW rfl ⟨Tryz.call147⟩ rfl bF rfl (hM2) ?_;rintro v V3 B3 hV3 ⟨rfl,hB3⟩))|refine pu9 ?_)|refine bV ?_|fail)
  all_goals
    (refine bC Tryz.results69 (aB rfl) (List.Sublist.cons _ (List.Sublist.cons _ (List.Sublist.refl _))) ?_)
    exact⟨rfl,hB3⟩
end
section
attribute [local irreducible] AtQ GoC GoL GoW QO QP Fn RV bX aL VLe cG
def BecR (ev:Int→Value) (u g d:Int) (xs:List Int) (user group:Int) (n:Nat) (v:Value) (V:aI):Prop :=
  (mJ u g d xs user group=0∧∃ A c,v=.tuple #[mU user group A n c (jV u d user),ev 0]∧eV V A n xs) ∨
  (¬mJ u g d xs user group=0∧v=.tuple #[mU 0 0 none 0 0 0,ev (mJ u g d xs user group)])
theorem qT {V:aI} {A:Option Addr} {n:Nat} {xs:List Int} (hl:xs.length=n) (hm:n≤1000) (h:eU V 1 A (0+n) ([] ++ xs.map (.int .i64))):eV V A n xs:=by
  rw [Nat.zero_add,List.nil_append] at h
  exact⟨hl,by unfold maxLen;omega,h⟩

theorem Become_c (V:aI) (a b d:Int) (A:Option Addr) (n c:Nat) (xs:List Int) (h:eV V A n xs) (user group:Int) :
    Fn Tryz.prog 172 [mU a b A n c d,.int .i64 user,.int .i64 group] V (BecR bT a b d xs user group n):=by
  have hl:=h.1
  have hsrc:=h.2.2
  have hz1:∀ x,fR a b d xs=0→(decide (bits .and .i64 d 8=8)=decide (d / 8 % 2=1)):=fun _ hc=>cap_bit d (by have:=fI hc;omega) (by have:=fI hc;omega)
  by_cases hc:fR a b d xs=0
  · have hn:n≤4:=by have:=fI hc;omega
    have e2:bits .and .i64 d 8=8↔d / 8 % 2=1:=cap_bit' (by have:=fI hc;omega) (by have:=fI hc;omega)
    clear hz1
    (refine aH Tryz.func172 rfl Tryz.ntmps172 rfl ?_;intro w0)
    repeat' (first|(refine aE ?_;first|(refine aD ?_;(first|refine aN rfl (aG ⟨Tryz.call63⟩ rfl (Check_c _ _ _ _ _ _ _ xs h)) ?_|refine aN rfl (aG ⟨Tryz.call138⟩ rfl (id_c _ _)) ?_|refine aN rfl (aG ⟨Tryz.call164⟩ rfl (Has_c _ _ _ _ _ _ _ _ xs h)) ?_|refine aN rfl (aG ⟨Tryz.call163⟩ rfl (Can_c _ _ _ _ _ _ _ _)) ?_))|refine st9 ?_|(refine al9 ?_;intro γ)|refine pu9 ?_)|refine cD ?_|(refine aJ rfl rfl rfl ?_ ?_<;>intro hq<;>try exact no9)|(refine aA rfl ?_ ?_<;>intro hq<;>try exact no9)|(refine bM (id:=8) _ mixed (List.Sublist.refl _) ?_;refine gt9 0 ?_;refine gt9 1 ?_;refine gt9 2 ?_;refine gt9 3 ?_;refine gt9 5 ?_;refine gt9 6 ?_;(refine dF (i:=4) (j:=8) (by kernel_rfl) rfl rfl rfl rfl vl9 vl9 bD ?_ ?_<;>first|((refine aT rfl und_25 inf_3 rfl rfl rfl cU.nil dT (fW hsrc) bG (by omega) rfl rfl ?_;intro A' c' L1 hr);refine gt9 7 ?_;refine aY (i:=8) rfl ?_;(refine bS rfl zer_27 rfl ?_;intro γ);refine aY (i:=9) rfl ?_;refine aO rfl siz_27 rfl rfl rfl rfl bG dC rfl ?_;refine aU (by kernel_rfl) vl9 vl9 bD ?_)|((refine bS rfl zer_27 rfl ?_;intro γ);refine aY (i:=4) rfl ?_;(refine aT rfl und_25 inf_3 rfl rfl rfl cU.nil dT (fW hsrc) bG (by omega) rfl rfl ?_;intro A' c' L1 hr);refine gt9 7 ?_;refine aY (i:=9) rfl ?_;refine aO rfl siz_27 rfl rfl rfl rfl bG dC rfl ?_;refine aU (by kernel_rfl) vl9 vl9 bD ?_))))
    all_goals first
      | (refine eA hr bF ?_
         intro V2 hV2 hc2
         (refine bA Tryz.results172 (aS agg_27 rfl bB (by exact rfl)) (aB rfl) ?_)
         have e0:mJ a b d xs user group=0:=by
           rw [mJ,if_neg (by omega),if_neg (by omega),if_neg]
           rintro ⟨h1,h2⟩
           first|omega|(simp_all;done)
         have hi:=qT hl (by omega) hc2
         simp only [Nat.zero_add]
         first
           | (have e1:jV a d user=d:=by (rw [jV,if_neg (by omega)])
              exact .inl ⟨e0,A',c',by rw [e1];rfl,hi⟩)
           | (have e1:jV a d user=0:=by (rw [jV,if_pos (by omega)])
              exact .inl ⟨e0,A',c',by rw [e1];rfl,hi⟩))
      | ((refine bA Tryz.results172 (aS agg_27 rfl bB (by exact rfl)) (aB rfl) ?_)
         have e:mJ a b d xs user group=1:=by (rw [mJ,if_neg (by omega),if_pos (by omega)])
         exact .inr ⟨by omega,by rw [e];rfl⟩)
      | ((refine bA Tryz.results172 (aS agg_27 rfl bB (by exact rfl)) (aB rfl) ?_)
         have e:mJ a b d xs user group=10:=by
           rw [mJ,if_neg (by omega),if_neg (by omega),if_pos]
           refine⟨by omega,?_⟩
           first|(left;omega)|(right;assumption)
         exact .inr ⟨by omega,by rw [e];rfl⟩)
  · (refine aH Tryz.func172 rfl Tryz.ntmps172 rfl ?_;intro w0)
    repeat' (first|(refine aE ?_;first|(refine aD ?_;refine aN rfl (aG ⟨Tryz.call63⟩ rfl (Check_c _ _ _ _ _ _ _ xs h)) ?_)|refine st9 ?_|(refine al9 ?_;intro γ)|refine pu9 ?_)|refine bV ?_|(refine aA rfl ?_ ?_<;>intro hq<;>try exact no9))
    all_goals (refine bA Tryz.results172 (aS agg_27 rfl bB (by exact rfl)) (aB rfl) ?_)
    all_goals exact .inr ⟨by rw [mJ,if_pos hc];exact hc,by rw [mJ,if_pos hc];rfl⟩
end
section
theorem oS.read {f:FuncId} {args:List Value} {V:aI} {p:Nat} {b:BX} {I:BI} {L1:List Box} {R:Value→aI→Prop} (hok:bK b) (hW:oS V b I L1) (hR:∀ v V gs,qX V gs→R v V→R v (V.off gs)) (hc:∀ V',VLe V V'→dP V' I.K I.m I.xs→Fn Tryz.prog f args V' R) :
    FnB Tryz.prog f args V (⟨p,113,bxC I b⟩ :: L1) fun v V' Bs'=>Bs'=⟨p,113,bxC I b⟩ :: L1∧R v V':=fun w hst=>by
  obtain⟨q,x0,xt,rest,hK,hx,hL1,hlen,hme2,hml,hm0⟩:=hW.open_ hok
  subst hL1
  have hlent:Lent [(q,(x0 :: xt).flatMap lnC)] (⟨p,113,bxC I b⟩ :: [⟨q,70,(x0 :: xt).flatMap lnC ++ rest⟩]):=by
    intro c hc
    rw [List.mem_singleton.1 hc]
    exact⟨_,_,List.mem_cons_of_mem _ List.mem_cons_self,List.prefix_append _ _⟩
  have hd:=hok.data hW
  have hcl:∀ c∈[(q,(x0 :: xt).flatMap lnC)],calmC c.2:=by
    intro c hc
    rw [List.mem_singleton.1 hc]
    exact sE (by rw [←hx];exact hd)
  have hq:aL (V.plus [(q,(x0 :: xt).flatMap lnC)]) q 0 ((x0 :: xt).flatMap lnC):=pZ hst.apart (by unfold jK;simp) (fun j=>by rw [kT,if_pos ⟨rfl,rfl⟩])
  have hN:dP (V.plus [(q,(x0 :: xt).flatMap lnC)]) I.K I.m I.xs:=by
    rw [hK,hx]
    refine dP.of ⟨?_,fun _=>⟨q,0,rfl,hq⟩⟩ (by rw [←hx];exact hW.len) (Nat.le_trans hme2 hml) (fun y hy=>(hW.ls y (by rw [hx];exact hy)).le lD)
    rw [kA lnC lG,←hx,hW.len]
  refine(Fn.lend hlent (fun _=>hc _ lD hN) w hst).mono fun e w' ⟨v,V',Bs',he,hst2,hB2,V3,g1,g2,g3,g4⟩=>?_
  exact⟨v,V',Bs',he,hst2,hB2,by rw [g2];exact hR v V3 _ (qX.of g4 hcl (by simp)) g3⟩
theorem oS.m4 {V:aI} {b:BX} {I:BI} {L1:List Box} (hok:bK b) (hW:oS V b I L1):I.m≤4:=by rw [←hW.lens];exact hok.l4
theorem BelowB_c {V:aI} {p:Nat} {b:BX} {I:BI} {L1:List Box} (hok:bK b) (hW:oS V b I L1) (Bo:Option Addr) (m e:Nat) (ss:List ByteArray) (hs:bZ V Bo m ss) (hme:m≤e) :
    FnB Tryz.prog 156 [.slice I.K I.m I.e,.slice Bo m e] V (⟨p,113,bxC I b⟩ :: L1) fun v V' Bs'=>Bs'=⟨p,113,bxC I b⟩ :: L1∧v=.bool (fO b.ls ss) :=
  hW.read hok (fun v V gs _ h=>h) fun V' hV hN=>by
    have:=Below_c V' I.K I.m I.e I.xs hN (by have:=hW.m4 hok;omega) Bo m e ss (hs.le hV) hme
    rw [hW.eq] at this;exact this
theorem ListB_c {V:aI} {p:Nat} {b:BX} {I:BI} {L1:List Box} (hok:bK b) (hW:oS V b I L1) (Bo:Option Addr) (m e:Nat) (ss:List ByteArray) (hs:bZ V Bo m ss) :
    FnB Tryz.prog 143 [.slice I.K I.m I.e,.slice Bo m e] V (⟨p,113,bxC I b⟩ :: L1) fun v V' Bs'=>Bs'=⟨p,113,bxC I b⟩ :: L1∧∃ A c,v=.slice A (gQ (bY b.ls ss)).length c :=
  hW.read hok (fun v V gs _ h=>h) fun V' hV hN=>by
    have:=List_c V' I.K I.m I.e I.xs hN (by have:=hW.m4 hok;omega) Bo m e ss (hs.le hV) (by rw [hW.eq];exact rS hok ss)
    rw [hW.eq] at this
    exact this.mono fun v V2 _ ⟨A,n,c,h1,h2,_⟩=>⟨A,c,by rw [h1,h2.1.1]⟩
theorem takes_b {V:aI} {p:Nat} {b:BX} {Bs:List Box} (hok:bK b) (h:eO V p b Bs) (x:LN) (lay:Int) (s:SP) (hp:0≤s.par.mode∧s.par.mode≤4095) (ht:0≤s.th.mode∧s.th.mode≤4095):FnB Tryz.prog 151 [.pointer (some ⟨p,0,none⟩),foV x lay s.par s.th] V Bs fun v V' Bs'=>Bs'=Bs∧v=bT (eM b s) :=
  eO.read hok h (fun v V gs hc hR=>hR) fun V' I hV hB=>takes_c V' p b I hok hB x lay s hp ht
theorem attrs_b4 {V:aI} {p:Nat} {b:BX} {Bs:List Box} (hok:bK b) (h:eO V p b Bs) (th:TH) (ht:0≤th.mode∧th.mode≤4095) (nm:ByteArray) (hm:nm.size≤9223372036854775807):FnB Tryz.prog 167 [.pointer (some ⟨p,0,none⟩),thV th,.string nm,.int .i64 4] V Bs fun v V' Bs'=>Bs'=Bs∧v=bT (gE b th nm 4) :=
  eO.read hok h (fun v V gs hc hR=>hR) fun V' I hV hB=>attrs_c V' p b I hok hB th ht nm hm 4 (.inr (.inr rfl))
theorem gone_get {b:BX} {u:PN} {ss:List ByteArray} {v:Bool} (h:fO b.ls ss=v):iB b u ss=(if v=true then pF false whiteN u ss else pF true pnZ u ss)∧mV b u ss=(if v=true then pN false whiteN u ss else pN true pnZ u ss):=by subst h;exact⟨rfl,rfl⟩
theorem parts_ne (l:List UInt8):0<(parts l).length:=by
  cases l with
  | nil=>simp [parts]
  | cons c l =>
    rw [parts]
    split
    · simp
    · split<;>simp
theorem rF {l:List UInt8} (h:dY l=0) (h2:¬l=[47]):0<(aK l).length:=by
  unfold aK baL;rw [if_pos ⟨h,h2⟩,List.length_map];exact parts_ne _
theorem qP {b:BX} {l:List UInt8} (h:cS b l=0):dY l=0:=by
  unfold cS at h
  by_cases h2:dY l=0
  · exact h2
  · rw [if_pos h2] at h;exact absurd h h2
theorem rN {s:ByteArray} (h:¬s=⟨#[47]⟩):¬aC s=[47]:=fun e=>h (by rw [←fJ s,e];rfl)
theorem up_mid {b:BX} (hok:bK b) {ss:List ByteArray} (hm:ss.length≤100) (h:(upP b.ls b.us b.gs ss).2=0):cA (fB 200) (upP b.ls b.us b.gs ss).1:=by
  obtain⟨n0,t0,hls,hkd0⟩:=hok.root
  exact up_bd9 hok.light (by rw [hls];exact hok.light n0 (by rw [hls];simp)) hm h
theorem UpT_c {V:aI} {p:Nat} {b:BX} {I:BI} {L1:List Box} (hok:bK b) (hW:oS V b I L1) (Bo:Option Addr) (m e:Nat) (ss:List ByteArray) (hs:bZ V Bo m ss) (hme:m≤e) (hm:0<m∧m≤100) :
    FnB Tryz.prog 152 [.slice I.K I.m I.e,lmV I.M,.slice Bo (((m:Nat):Int) - 1).toNat e] V (⟨p,113,bxC I b⟩ :: L1) fun v V' Bs'=>Bs'=⟨p,113,bxC I b⟩ :: L1∧UpR (upP b.ls b.us b.gs (ss.take (ss.length - 1))) (bT (upP b.ls b.us b.gs (ss.take (ss.length - 1))).2) v V':=by
  have sl:=hs.1.1
  have e9:(((m:Nat):Int) - 1).toNat=ss.length - 1:=by omega
  rw [e9]
  exact UpB_c (p:=p) hok hW Bo _ e _ (jZ hs (by omega)) (by omega) (by omega)
attribute [local irreducible] AtQ GoC GoL GoW QO QP Fn RV bX aL VLe cG bT
theorem without_c (V:aI) (p:Nat) (b:BX) (I:BI) (L1:List Box) (hok:bK b) (hW:oS V b I L1) (y:LN) (hy:aX V y) (hmid:cA sX y.n) (Bo:Option Addr) (m e:Nat) (ss:List ByteArray) (hs:bZ V Bo m ss) (hme:m≤e) :
    FnB Tryz.prog 153 [.pointer (some ⟨p,0,none⟩),lnV y,.slice Bo m e] V (⟨p,113,bxC I b⟩ :: L1) fun v V' Bs'=>Bs'=⟨p,113,bxC I b⟩ :: L1∧∃ z:LN,v=.tuple #[lnV z,bT (iB b y.n ss)]∧aX V' z∧(iB b y.n ss=0→z.n=mV b y.n ss):=by
  have hB:=fun V2 (hV2:VLe V V2)=>BelowB_c (p:=p) hok (hW.le hV2) Bo m e ss (hs.le hV2) hme
  have hPu:=fun V2 (hV2:VLe V V2)=>Put_c V2 y (hy.le hV2) hmid Bo m e ss (hs.le hV2) hme (kX 3 0 0 0 false ⟨#[]⟩) (iR (Nat.zero_le _)) (.mk ⟨Nat.zero_le _,Nat.zero_le _⟩ (by simp))
  have hCu:=fun V2 (hV2:VLe V V2)=>Cut_tc V2 y (hy.le hV2) hmid Bo m e ss (hs.le hV2) hme
  rw [show (kX 3 0 0 0 false ⟨#[]⟩).n=whiteN from rfl] at hPu
  obtain⟨e1,e2⟩:=gone_get (b:=b) (u:=y.n) (ss:=ss) (v:=fO b.ls ss) rfl
  rw [e1,e2]
  clear e1 e2
  generalize fO b.ls ss=be at *
  (refine bI Tryz.func153 rfl Tryz.ntmps153 rfl ?_;intro w0)
  repeat' (first|(refine aE ?_;first|(refine aD ?_;(first|(refine aW rfl ⟨Tryz.call156⟩ rfl bF rfl (hB _ vl9) ?_;rintro v V2 B2 hV2 ⟨rfl,rfl⟩)|(refine aM rfl ⟨Tryz.call159⟩ rfl rfl (hPu _ vl9) ?_;rintro v V3 hV3 ⟨z,rfl,hzN,hzn⟩)|(refine aM rfl ⟨Tryz.call233⟩ rfl rfl (hCu _ vl9) ?_;rintro v V3 hV3 ⟨z,rfl,hzN,hzn⟩)))|refine st9 ?_|(refine al9 ?_;intro γ)|refine pu9 ?_)|refine bV ?_|(refine bP rfl ?_ ?_<;>intro hq))
  all_goals subst hq
  all_goals first
    | (refine eY ?_;(refine dB Tryz.results153 (aS agg_70 rfl bB (by exact rfl)) (aB rfl) (show List.Sublist (⟨p,113,bxC I b⟩ :: L1) _ from sl9) ?_)
       refine⟨rfl,z,rfl,hzN,fun h9=>?_⟩
       rw [if_pos rfl] at h9
       rw [if_pos rfl,hzn,tS,if_pos h9])
    | (refine eY ?_;(refine dB Tryz.results153 (aS agg_70 rfl bB (by exact rfl)) (aB rfl) (show List.Sublist (⟨p,113,bxC I b⟩ :: L1) _ from sl9) ?_)
       refine⟨rfl,z,rfl,hzN,fun h9=>?_⟩
       rw [if_neg (by decide)] at h9
       rw [if_neg (by decide),hzn,tS,if_pos h9])
theorem get_c (V:aI) (p:Nat) (b:BX) (Bs:List Box) (hok:bK b) (h:eO V p b Bs) (c:CL) (hc:c.path.size≤1000000) (hn:c.name.size≤9223372036854775807):FnB Tryz.prog 75 [.pointer (some ⟨p,0,none⟩),clV c] V Bs fun v V' Bs'=>Bs'=Bs∧kS (rK b c) (bT (rK b c).2) v V':=by
  obtain⟨I,L1,rfl,hW⟩:=h
  have hT:=fun V2 (hV2:VLe V V2)=>tB (V:=V2) (p:=p) hok ⟨I,L1,rfl,hW.le hV2⟩ c.path hc
  have hth:=fH hok (aC c.path)
  have hC:=fun V2=>kQ V2 c.name hn
  have hAt:=fun V2 (hV2:VLe V V2)=>attrs_b4 (V:=V2) (p:=p) hok ⟨I,L1,rfl,hW.le hV2⟩ _ hth c.name hn
  (refine bI Tryz.func75 rfl Tryz.ntmps75 rfl ?_;intro w0)
  repeat' (first|(refine aE ?_;first|(refine aD ?_;(first|refine aN rfl (aG ⟨Tryz.call166⟩ rfl (hC _)) ?_|(refine aW rfl ⟨Tryz.call142⟩ rfl bF rfl (hT _ vl9) ?_;rintro v V2 B2 hV2 ⟨rfl,hR⟩;rcases hR with ⟨ht0,A,n,k,x,rfl,hs,hnk,hxN,hxn⟩|⟨ht0,A,n,k,x,lay,par,th,rfl⟩)|(refine aW rfl ⟨Tryz.call167⟩ rfl bF rfl (hAt _ vl9) ?_;rintro v V3 B3 hV3 ⟨rfl,rfl⟩)))|(refine dG ?_;refine aO rfl siz_214 rfl rfl rfl rfl bG gG rfl ?_)|refine st9 ?_|(refine al9 ?_;intro γ)|refine pu9 ?_)|refine fX ?_|refine dX [0,1,2,3,4,5,6,7,8] rfl ?_|(refine aA rfl ?_ ?_<;>intro hq<;>try exact no9))
  all_goals first
    | (exfalso;exact absurd ht0 (by assumption))
    | (refine eY ?_;(refine dB Tryz.results75 (aS agg_49 rfl bB (by exact rfl)) (aB rfl) (show List.Sublist (⟨p,113,bxC I b⟩ :: L1) _ from sl9) ?_)
       refine⟨rfl,?_⟩
       first
       | (rw [show rK b c=(tdZ,4) from if_pos (by assumption)];exact kS.no (by decide))
       | (rw [show rK b c=(tdZ,cS b (aC c.path)) by unfold rK;rw [if_neg (by assumption),if_pos ht0]];exact kS.zero)
       | (rw [show rK b c=(tdZ,gE b (aV b (aC c.path)).th c.name 4) by unfold rK;rw [if_neg (by assumption),if_neg (not_not_intro ht0),if_pos (by assumption)]];exact kS.zero))
    | skip
  have hG:=fun V9 (hV9:VLe V2 V9)=>Get_c V9 x.A x.na x.ca x.h.attrs c.name (hxN.le hV9).inv.1 hn
  have hxh:(aV b (aC c.path)).n.h.attrs=x.h.attrs:=by rw [←hxn];rfl
  rw [show rK b c=({ tdZ with data:=if nF c.name x.h.attrs=true∧jL x.h.attrs c.name=0 then getA c.name x.h.attrs else ⟨#[]⟩ },jL x.h.attrs c.name) by
    unfold rK;rw [if_neg (by assumption),if_neg (not_not_intro ht0),if_neg (by assumption),hxh]]
  unfold GetR at hG
  generalize jL x.h.attrs c.name=gf at *
  generalize (if nF c.name x.h.attrs=true∧gf=0 then getA c.name x.h.attrs else ⟨#[]⟩)=gd at *
  repeat' (first|(refine aE ?_;first|(refine aD ?_;refine aN rfl (aG ⟨Tryz.call171⟩ rfl (hG _ vl9)) ?_)|refine st9 ?_|refine pu9 ?_)|refine bV ?_|fail)
  all_goals
    (refine dB Tryz.results75 (aS agg_49 rfl bB (by exact rfl)) (aB rfl) (show List.Sublist (⟨p,113,bxC I b⟩ :: L1) _ from sl9) ?_)
    exact⟨rfl,none,0,0,rfl,bZ.nil,Nat.le_refl _⟩
theorem beOk {b:BX} (hok:bK b) {u g:Int} (h:mJ b.c.u b.c.g b.c.d b.c.xs u g=0):bK { b with c:=beC b u g }:=by
  have hc:=hok.c
  have hz:=fI hc
  unfold mJ at h
  rw [if_neg (not_not_intro hc)] at h
  split at h
  · omega
  · rename_i h1
    refine⟨?_,hok.q,hok.l1,hok.l4,hok.up,hok.lo⟩
    show fR u g (jV b.c.u b.c.d u) b.c.xs=0
    have hd:0≤jV b.c.u b.c.d u∧jV b.c.u b.c.d u≤15:=by unfold jV;split<;>omega
    rw [credF_of (by omega) (by omega) hd hz.2.2.2.1]
    rw [credF_of (by omega) (by omega) (by omega) hz.2.2.2.1] at hc
    exact hc
theorem be_c (V:aI) (p:Nat) (b:BX) (Bs:List Box) (hok:bK b) (h:eO V p b Bs) (u g:Int):FnB Tryz.prog 76 [.pointer (some ⟨p,0,none⟩),.int .i64 u,.int .i64 g] V Bs (ChB p (beP b u g)):=by
  obtain⟨I,L1,rfl,hW⟩:=h
  have hBe:=fun V2 (hV2:VLe V V2)=>Become_c V2 b.c.u b.c.g b.c.d I.A I.n I.k b.c.xs (hW.xs.le hV2) u g
  have hOut:=fun V2 (hV2:VLe V V2)=>rW V2 I.M (hW.M.le hV2) _ (newL9_node (u:=u) (g:=g)) newL9_small
  rw [hW.us,hW.gs,show (newL9 u g).n=idN u g from rfl] at hOut
  (refine bI Tryz.func76 rfl Tryz.ntmps76 rfl ?_;intro w0)
  repeat' (first|(refine aE ?_;first|(refine aD ?_;(first|(refine aM rfl ⟨Tryz.call172⟩ rfl rfl (hBe _ vl9) ?_;rintro v V1 hV1 (⟨h0,A1,c1,rfl,hI1⟩|⟨h0,rfl⟩))|(refine aM rfl ⟨Tryz.call57⟩ rfl rfl (hOut _ vl9) ?_;rintro v V2 hV2 ⟨y,rfl,hyN,hyn⟩)))|refine st9 ?_|(refine al9 ?_;intro γ)|refine pu9 ?_)|refine fX ?_|refine dX [0,1,2,3,4,5,6] rfl ?_|(refine aA rfl ?_ ?_<;>intro hq<;>try exact no9))
  all_goals first
    | (exfalso;exact absurd rfl (by assumption))
    | (exfalso;exact absurd (by assumption) h0)
    | (refine eY ?_;(refine bC Tryz.results76 (aB rfl) (show List.Sublist (⟨p,113,bxC I b⟩ :: L1) _ from sl9) ?_)
       first
       | (rw [show beP b u g=(b,mJ b.c.u b.c.g b.c.d b.c.xs u g) from if_pos h0];exact⟨rfl,I,_,rfl,hW.le vl9⟩)
       | (rw [show beP b u g=(b,11) by
            unfold beP
            rw [if_neg (not_not_intro h0),if_pos]
            cases hm:cT true b.us b.gs (idN u g) with
            | none=>rfl
            | some z=>rw [hm] at hq;exact absurd rfl hq]
          have hm9:movF (cT true b.us b.gs (idN u g))=11:=by
            unfold movF at hq ⊢
            split
            · rename_i h8;rw [if_pos h8] at hq;exact absurd rfl hq
            · rfl
          exact⟨by rw [hm9];rfl,I,_,rfl,hW.le vl9⟩))
    | skip
  have hms:¬cT true b.us b.gs (idN u g)=none:=fun h9=>by
    rw [h9] at hq
    exact hq (by decide)
  rw [show beP b u g=({ b with c:=beC b u g },0) by unfold beP;rw [if_neg (not_not_intro h0),if_neg hms]]
  repeat' (first|(refine aE ?_;first|refine st9 ?_|refine pu9 ?_)|refine bV ?_|fail)
  all_goals
    (refine bC Tryz.results76 (aB rfl) (show List.Sublist (⟨p,113,bxC { I with A:=A1,k:=c1 } { b with c:=beC b u g }⟩ :: L1) _ from sl9) ?_)
    have hW2:=hW.le (hV1.trans hV2)
    exact⟨dA.symm,{ I with A:=A1,k:=c1 },L1,rfl,hW2.M,hW2.us,hW2.gs,hI1.le hV2,trivial,hW2.row,hW2.ls,hW2.len,hW2.eq⟩
theorem remove_c (V:aI) (p:Nat) (b:BX) (Bs:List Box) (hok:bK b) (h:eO V p b Bs) (s:ByteArray) (hc:s.size≤1000000):FnB Tryz.prog 70 [.pointer (some ⟨p,0,none⟩),.string s] V Bs (ChB p (eL b s)):=by
  obtain⟨I,L1,rfl,hW⟩:=h
  have hT:=fun V2 (hV2:VLe V V2)=>tB (V:=V2) (p:=p) hok ⟨I,L1,rfl,hW.le hV2⟩ s hc
  have hth:=fH hok (aC s)
  have hpm:=kH hok (aK (aC s)) (aK (aC s)).length
  have hTk:=fun V2 (hV2:VLe V V2) x=>takes_b (V:=V2) (p:=p) hok ⟨I,L1,rfl,hW.le hV2⟩ x (aV b (aC s)).lay (aV b (aC s)) hpm hth
  have hLi:=fun V2 (hV2:VLe V V2) A m e hs=>ListB_c (p:=p) hok (hW.le hV2) A m e (aK (aC s)) hs
  have hll:=pJ (bY b.ls (aK (aC s)))
  have hfew:=fD (aC s)
  (refine bI Tryz.func70 rfl Tryz.ntmps70 rfl ?_;intro w0)
  repeat' (first|(refine aE ?_;first|(refine aD ?_;(first|(refine aW rfl ⟨Tryz.call142⟩ rfl bF rfl (hT _ vl9) ?_;rintro v V2 B2 hV2 ⟨rfl,hR⟩;rcases hR with ⟨ht0,A,n,k,x,rfl,hs,hnk,hxN,hxn⟩|⟨ht0,A,n,k,x,lay,par,th,rfl⟩)|(refine aW rfl ⟨Tryz.call151⟩ rfl bF rfl (hTk _ vl9 x) ?_;rintro v V3 B3 hV3 ⟨rfl,rfl⟩)|(refine aW rfl ⟨Tryz.call143⟩ rfl bF rfl (hLi _ vl9 _ _ _ (hs.le vl9)) ?_;rintro v V4 B4 hV4 ⟨rfl,A4,c4,rfl⟩)))|(refine dG ?_;refine aO rfl siz_214 rfl rfl rfl rfl bG gG rfl ?_)|(refine al9 ?_;intro γ)|refine pu9 ?_)|refine cD ?_|(refine aA rfl ?_ ?_<;>intro hq<;>try exact no9))
  all_goals first
    | (exfalso;exact absurd ht0 (by assumption))
    | (exfalso;exact absurd (by assumption) ht0)
    | (refine eY ?_;(refine bC Tryz.results70 (aB rfl) (show List.Sublist (⟨p,113,bxC I b⟩ :: L1) _ from sl9) ?_)
       first
       | (rw [show eL b s=(b,15) from if_pos (by assumption)];exact⟨dE 15 rfl,I,_,rfl,hW.le vl9⟩)
       | (rw [show eL b s=(b,cS b (aC s)) by unfold eL;rw [if_neg (by assumption),if_pos ht0]];exact⟨rfl,I,_,rfl,hW.le vl9⟩)
       | (rw [show eL b s=(b,eM b (aV b (aC s))) by unfold eL;rw [if_neg (by assumption),if_neg (not_not_intro ht0),if_pos (by assumption)]];exact⟨rfl,I,_,rfl,hW.le vl9⟩)
       | (rw [show eL b s=(b,8) by unfold eL;rw [if_neg (by assumption),if_neg (not_not_intro ht0),if_neg (by assumption),if_pos (fun h9=>by rw [h9] at hq;exact absurd hq (by decide))]];exact⟨dE 8 rfl,I,_,rfl,hW.le vl9⟩))
    | skip
  have hpos:=rF (qP ht0) (rN (by assumption))
  have hn:=hs.1.1
  have hU:=UpT_c (p:=p) hok (hW.le (show VLe V V4 from vl9)) A n k _ (hs.le vl9) hnk (by omega)
  have hmid:=up_mid hok (ss:=(aK (aC s)).take ((aK (aC s)).length - 1)) (by rw [List.length_take];omega)
  rw [show eL b s=if ¬(upP b.ls b.us b.gs ((aK (aC s)).take ((aK (aC s)).length - 1))).2=0 then (b,(upP b.ls b.us b.gs ((aK (aC s)).take ((aK (aC s)).length - 1))).2)
      else gone2 b (upP b.ls b.us b.gs ((aK (aC s)).take ((aK (aC s)).length - 1))).1 (aK (aC s)) by
    unfold eL;rw [if_neg (by assumption),if_neg (not_not_intro ht0),if_neg (by assumption),if_neg (not_not_intro (List.eq_nil_of_length_eq_zero (by omega)))]]
  generalize upP b.ls b.us b.gs ((aK (aC s)).take ((aK (aC s)).length - 1))=up at *
  refine dD (fun F V' L'=>∃ (γ8:Nat) (y2:LN),VLe V4 V'∧aX V' y2∧y2.n=up.1∧⟨γ8,70,lnC y2⟩ :: ⟨p,113,bxC I b⟩ :: L1=L'∧F=[(0,.pointer (some ⟨p,0,none⟩)),(5,.slice A n k),(7,bT up.2),(8,.pointer (some ⟨γ8,0,none⟩))]) ?_ ?_
  · refine bM (id:=11) _ mixed (List.Sublist.refl _) ?_;refine gt9 0 ?_;refine gt9 1 ?_;refine gt9 2 ?_;refine gt9 3 ?_;refine gt9 4 ?_;refine gt9 5 ?_;refine gt9 6 ?_;refine gt9 7 ?_;refine gt9 8 ?_;refine gt9 9 ?_;refine gt9 10 ?_;refine gt9 11 ?_;refine fP 12 rfl rfl (dS und_47 siz_9 rfl rfl (by omega)) ?_;(refine dF (i:=13) (j:=17) (by kernel_rfl) rfl rfl rfl rfl vl9 vl9 bD ?_ ?_<;>first|((refine aW rfl ⟨Tryz.call152⟩ rfl bF rfl (hU) ?_;rintro v V5 B5 hV5 ⟨rfl,y2,rfl,hy2N,hy2n⟩);refine gt9 14 ?_;refine gt9 15 ?_;refine gt9 16 ?_;refine aY (i:=17) rfl ?_;(refine bS rfl zer_70 rfl ?_;intro γ);refine aY (i:=18) rfl ?_;refine aO rfl siz_70 rfl rfl rfl rfl bG dC rfl ?_;refine gt9 19 ?_;refine aU (by kernel_rfl) vl9 vl9 bD ?_)|((refine bS rfl zer_70 rfl ?_;intro γ);refine aY (i:=13) rfl ?_;(refine aW rfl ⟨Tryz.call152⟩ rfl bF rfl (hU) ?_;rintro v V5 B5 hV5 ⟨rfl,y2,rfl,hy2N,hy2n⟩);refine gt9 14 ?_;refine gt9 15 ?_;refine gt9 16 ?_;refine aY (i:=18) rfl ?_;refine aO rfl siz_70 rfl rfl rfl rfl bG dC rfl ?_;refine gt9 19 ?_;refine aU (by kernel_rfl) vl9 vl9 bD ?_))
    all_goals exact bR _ ⟨_,y2,hV5,hy2N,hy2n,rfl,rfl⟩ bH sp9
  rintro F V5 L' ⟨γ8,y2,hV5,hy2N,hy2n,rfl,rfl⟩
  by_cases hu:up.2=0
  · rw [if_neg (not_not_intro hu)]
    have hub:=hmid hu
    have hWo:=fun V6 (hV6:VLe V5 V6)=>without_c V6 p b I L1 hok (hW.le (show VLe V V6 from ((hV2.trans hV3).trans hV4).trans (hV5.trans hV6))) y2 (hy2N.le hV6) (by rw [hy2n];exact hub.imp fun _ _=>gK (by omega)) A n k _ (hs.le ((hV3.trans hV4).trans (hV5.trans hV6))) hnk
    rw [hy2n] at hWo
    have hG:=fun V3 (hV3:VLe V V3) (z:LN) (hz:aX V3 z)=>xW V3 p b _ hok ⟨I,L1,rfl,hW.le hV3⟩ z hz
    repeat' (first|(refine aE ?_;first|(refine aD ?_;(refine aW rfl ⟨Tryz.call153⟩ rfl bF rfl (hWo _ vl9) ?_;rintro v V6 B6 hV6 ⟨rfl,z,rfl,hzN,hzn⟩))|refine st9 ?_|refine pu9 ?_)|refine gx9 ?_|refine dX [12,14] rfl ?_|(refine aA rfl ?_ ?_<;>intro hq<;>try exact no9))
    all_goals first
      | (exfalso;exact absurd hu (by assumption))
      | skip
    have e0:∀ l,l=lnC z→spl (lnC y2) 0 l=lnC z:=fun l hl=>by rw [hl];exact gY rfl
    rw [e0 _ (by rfl)]
    unfold gone2
    by_cases hpf:iB b up.1 (aK (aC s))=0
    · rw [if_neg (not_not_intro hpf)]
      have hG2:=hG V6 vl9 z hzN
      rw [hzn hpf] at hG2
      repeat' (first|(refine aE ?_;first|(refine aD ?_;(refine aW rfl ⟨Tryz.call154⟩ rfl bF rfl (hG2) ?_;rintro v V7 B7 hV7 ⟨rfl,hB7⟩))|refine pu9 ?_)|refine bV ?_|(refine aA rfl ?_ ?_<;>intro hq<;>try exact no9))
      all_goals first
        | (exfalso;exact absurd hpf (by assumption))
        | (refine eY ?_;(refine bC Tryz.results70 (aB rfl) (List.Sublist.cons _ (List.Sublist.refl _)) ?_)
           exact⟨rfl,hB7⟩)
    · rw [if_pos hpf]
      repeat' (first|(refine aE ?_;refine pu9 ?_)|refine bV ?_|(refine aA rfl ?_ ?_<;>intro hq<;>try exact no9))
      all_goals first
        | (exfalso;exact absurd (by assumption) hpf)
        | (refine eY ?_;(refine bC Tryz.results70 (aB rfl) (show List.Sublist (⟨p,113,bxC I b⟩ :: L1) _ from sl9) ?_)
           exact⟨rfl,I,_,rfl,hW.le vl9⟩)
  · rw [if_pos hu]
    repeat' (first|(refine aE ?_;refine pu9 ?_)|refine bV ?_|(refine aA rfl ?_ ?_<;>intro hq<;>try exact no9))
    all_goals first
      | (exfalso;exact absurd (by assumption) hu)
      | (refine eY ?_;(refine bC Tryz.results70 (aB rfl) (show List.Sublist (⟨p,113,bxC I b⟩ :: L1) _ from sl9) ?_)
         exact⟨rfl,I,_,rfl,hW.le vl9⟩)
end
end Go.Proofs.YtejkmomfpidnbabGreat
