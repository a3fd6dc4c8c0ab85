/- Walks and plain laws, part 7: what functions compute, proved once each (BxP, BxM, BxO, BxU, CredE3, BxG, BxH, BxQ, BxV, BxN). -/
import Derived.Test.YtejkmomfpidnbacGreatPart6
import Derived.Test.YtejkmomfpidnbacGreatPart3
import Derived.Test.YtejkmomfpidnbacGreatPart5
import Derived.Test.YtejkmomfpidnbacGreatPart4
import Derived.Test.YtejkmomfpidnbacGreatPart2
set_option linter.unusedSimpArgs false
set_option linter.unusedVariables false
set_option maxRecDepth 100000
set_option maxHeartbeats 40000000
namespace Go.Proofs.YtejkmomfpidnbacGreat
open Go.RowKit
section
theorem cap1' {d:Int} (h0:0≤d) (h1:d≤15):bits .and .i64 d 1=1↔d % 2=1:=by
  have:=small (p:=fun d=>decide (bits .and .i64 d 1=1) == decide (d % 2=1)) 16 (by decide +kernel) d h0 (by omega)
  simpa using this
theorem gM {V:aE} {b o j:Nat} {cs:List Value} {v:Value} (h:aD V b o cs) (hj:cs[j]?=some v):V ⟨b,o+j,none⟩=some v:=h j v hj
theorem sR {V:aE} {b j:Nat} {cs:List Value} {v:Value} (h:aD V b 0 cs) (hj:cs[j]?=some v):V ⟨b,j,none⟩=some v:=by have:=h j v hj;rwa [Nat.zero_add] at this
section
variable {P : Program} {B : Base} {N : Nat} {Q : Exit → Act → World → Prop} {k : List kC} {F : List (Nat × Value)} {V : aE} {L : List Box}
theorem xG (h:AtQ P B N Q k .normal F V L):AtQ P B N Q k .normal F V L:=h
theorem kP (h:AtQ P B N Q k .ret F V L):AtQ P B N Q k .ret F V L:=h
end
def offU (u g:Int):Prop:=u < -1∨65535<u∨g < -1∨65535<g
instance (u g : Int) : Decidable (offU u g) := by unfold offU; infer_instance
def ownU (v t:Int):Int:=if v = -1 then t else v
def ownM (b:BX) (t:TH) (u g:Int):Prop:=t.mapped=true∧(b.c.d % 2=1∨(u=t.user∧t.user=b.c.u∧(g=t.group∨b.c.g=g∨g∈b.c.xs)))
instance (b : BX) (t : TH) (u g : Int) : Decidable (ownM b t u g) := by unfold ownM; infer_instance
def idN (u g:Int):PN:=.mk { hZ with user:=u,group:=g } []
def own2 (b:BX) (l:List UInt8) (u g:Int):BX×Int :=
  if ¬ownM b (bE b l).th u g then (b,10) else match dK true b.us b.gs (idN u g) with
  | none=>(b,11)
  | some x=>jL b (aQ l) fun h=>{ h with user:=x.h.user,group:=x.h.group,mode:=uT b.c.d h.mode }
def xF (b:BX) (l:List UInt8) (u g:Int):BX×Int :=
  if offU u g then (b,1) else if ¬dH b l=0 then (b,dH b l) else if u = -1∧g = -1 then (b,0)
  else own2 b l (ownU u (bE b l).th.user) (ownU g (bE b l).th.group)
def uJ (b:BX) (par:TH) (kind mode:Int) (dt:ByteArray):Hd :=
  { kind:=kind,user:=b.c.u,group:=if par.mode / 1024 % 2=1 then par.group else b.c.g,opq:=false,attrs:=[],data:=dt,
    mode:=if kind=2∧par.mode / 1024 % 2=1 then bits .or .i64 (uL b.c.g b.c.d b.c.xs mode (if par.mode / 1024 % 2=1 then par.group else b.c.g)) 1024 else uL b.c.g b.c.d b.c.xs mode (if par.mode / 1024 % 2=1 then par.group else b.c.g) }
def whiteP (u:PN) (ss:List ByteArray):Bool:=match eP u ss with
  | none=>false
  | some x=>decide (x.h.kind=3)
def putG (b:BX) (x u:PN) (ss:List ByteArray):BX×Int:=if ¬pF false x u ss=0 then (b,pF false x u ss) else kJ b (pN false x u ss)
def make2 (b:BX) (ss:List ByteArray) (kind:Int) (x:PN):BX×Int :=
  if ¬(upP b.ls b.us b.gs (ss.take (ss.length - 1))).2=0 then (b,(upP b.ls b.us b.gs (ss.take (ss.length - 1))).2)
  else putG b (.mk { x.h with opq:=decide (kind=2) && whiteP (upP b.ls b.us b.gs (ss.take (ss.length - 1))).1 ss } x.ks) (upP b.ls b.us b.gs (ss.take (ss.length - 1))).1 ss
def mY (b:BX) (ss:List ByteArray) (par:TH) (kind mode:Int) (dt:ByteArray):BX×Int :=
  if oS b.c par 2=false then (b,9) else if par.mode / 1024 % 2=1∧par.mapped=false then (b,11)
  else match dK true b.us b.gs (.mk (uJ b par kind mode dt) []) with
  | none=>(b,11)
  | some x=>make2 b ss kind x
def uN (b:BX) (l:List UInt8):Int:=if ¬eI l=0 then eI l else (dJ b (aQ l)).2
def pD (b:BX) (c:CL):BX×Int :=
  if c.a<0∨4095<c.a∨200<c.data.size then (b,1) else if c.path=⟨#[47]⟩ then (b,7) else if ¬uN b (aH c.path)=0 then (b,uN b (aH c.path))
  else if (bE b (aH c.path)).is=false then mY b (aQ (aH c.path)) (bE b (aH c.path)).par 1 c.a c.data
  else if (bE b (aH c.path)).th.dir=true then (b,7) else if oS b.c (bE b (aH c.path)).th 2=false then (b,9)
  else jL b (aQ (aH c.path)) fun h=>{ h with data:=c.data,mode:=uT b.c.d h.mode }
def nB (b:BX) (c:CL):BX×Int :=
  if c.a<0∨4095<c.a then (b,1) else if ¬uN b (aH c.path)=0 then (b,uN b (aH c.path))
  else if (bE b (aH c.path)).is=true then (b,6) else mY b (aQ (aH c.path)) (bE b (aH c.path)).par 2 c.a ⟨#[]⟩
noncomputable def tI (b:BX) (c:CL):TD×Int :=
  if eV c.name=0 then (tdZ,4) else if ¬dH b (aH c.path)=0 then (tdZ,dH b (aH c.path))
  else if ¬jG b (bE b (aH c.path)).th c.name 4=0 then (tdZ,jG b (bE b (aH c.path)).th c.name 4)
  else ({ tdZ with data:=if tN c.name (bE b (aH c.path)).n.h.attrs=true∧mN (bE b (aH c.path)).n.h.attrs c.name=0 then getA c.name (bE b (aH c.path)).n.h.attrs else ⟨#[]⟩ },mN (bE b (aH c.path)).n.h.attrs c.name)
def beC (b:BX) (u g:Int):CR:=⟨u,g,nW b.c.u b.c.d u,b.c.xs⟩
def beP (b:BX) (u g:Int):BX×Int :=
  if ¬uC b.c.u b.c.g b.c.d b.c.xs u g=0 then (b,uC b.c.u b.c.g b.c.d b.c.xs u g) else if dK true b.us b.gs (idN u g)=none then (b,11) else ({ b with c:=beC b u g },0)
def whiteN:PN:=.mk { hZ with kind:=3 } []
def lF (b:BX) (u:PN) (ss:List ByteArray):Int:=if kR b.ls ss=true then pF false whiteN u ss else pF true pnZ u ss
def tG (b:BX) (u:PN) (ss:List ByteArray):PN:=if kR b.ls ss=true then pN false whiteN u ss else pN true pnZ u ss
def gone2 (b:BX) (u:PN) (ss:List ByteArray):BX×Int:=if ¬lF b u ss=0 then (b,lF b u ss) else kJ b (tG b u ss)
def iH (b:BX) (s:ByteArray):BX×Int :=
  if s=⟨#[47]⟩ then (b,15) else if ¬dH b (aH s)=0 then (b,dH b (aH s))
  else if ¬gH b (bE b (aH s))=0 then (b,gH b (bE b (aH s)))
  else if ¬lC (dT b.ls (aQ (aH s)))=[] then (b,8)
  else if ¬(upP b.ls b.us b.gs ((aQ (aH s)).take ((aQ (aH s)).length - 1))).2=0 then (b,(upP b.ls b.us b.gs ((aQ (aH s)).take ((aQ (aH s)).length - 1))).2)
  else gone2 b (upP b.ls b.us b.gs ((aQ (aH s)).take ((aQ (aH s)).length - 1))).1 (aQ (aH s))
end
section
abbrev newL (kind mode u g:Int) (o:Bool) (dt:ByteArray):LN:=⟨⟨kind,mode,u,g,o,[],dt⟩,none,0,0,none,0,0,[]⟩
theorem newL_node {V:aE} {kind mode u g:Int} {o:Bool} {dt:ByteArray} (h:dt.size≤maxLen):aT V (newL kind mode u g o dt):=aT.of (es:=[]) fD.nil (Nat.le_refl _) h (Nat.le_refl _) ⟨fB.nil,by simp⟩ rfl
theorem make_no {b:BX} {ss:List ByteArray} {par:TH} {kind mode:Int} {dt:ByteArray} (h:oS b.c par 2=false):mY b ss par kind mode dt=(b,9):=if_pos h
theorem make_map {b:BX} {ss:List ByteArray} {par:TH} {kind mode:Int} {dt:ByteArray} (h:oS b.c par 2=true) (h2:par.mode / 1024 % 2=1∧par.mapped=false):mY b ss par kind mode dt=(b,11):=by unfold mY;rw [if_neg (by rw [h];decide),if_pos h2]
theorem make_un {b:BX} {ss:List ByteArray} {par:TH} {kind mode:Int} {dt:ByteArray} (h:oS b.c par 2=true) (h2:¬(par.mode / 1024 % 2=1∧par.mapped=false)) (h3:dK true b.us b.gs (.mk (uJ b par kind mode dt) [])=none):mY b ss par kind mode dt=(b,11):=by unfold mY;rw [if_neg (by rw [h];decide),if_neg h2,h3]
theorem make_on {b:BX} {ss:List ByteArray} {par:TH} {kind mode:Int} {dt:ByteArray} {x:PN} (h:oS b.c par 2=true) (h2:¬(par.mode / 1024 % 2=1∧par.mapped=false)) (h3:dK true b.us b.gs (.mk (uJ b par kind mode dt) [])=some x):mY b ss par kind mode dt=make2 b ss kind x:=by unfold mY;rw [if_neg (by rw [h];decide),if_neg h2,h3]
theorem keep_bd {b d:Int} {xs:List Int} {m g:Int} (h:0≤m∧m≤4095):0≤uL b d xs m g∧uL b d xs m g≤4095:=by
  unfold uL
  split<;>omega
theorem node_opq {V:aE} {y:LN} {o:Bool} (h:aT V y):aT V { y with h:={ y.h with opq:=o } }:=by
  obtain⟨ha,hca,hd,hck,es,hk,hks⟩:=h.inv
  exact .mk _ es ha hca hd hk.1 hck hks (fun e he=>(hk.2 e he).1) (fun e he=>(hk.2 e he).2)
attribute [local irreducible] AtQ GoC GoL GoW QO QP Fn RV bF aD VLe bU bA
theorem make_c (V:aE) (p:Nat) (b:BX) (Bs:List Box) (hok:bI b) (h:fE V p b Bs) (Bo:Option Addr) (m e:Nat) (ss:List ByteArray) (hs:cV V Bo m ss) (hme:m≤e) (hm:0<m∧m≤100) (x:LN) (lay:Int) (par th:TH) (hpm:0≤par.mode∧par.mode≤4095) (kind mode:Int) (hmd:0≤mode∧mode≤4095) (dt:ByteArray) (hdt:dt.size≤1000) :
    FnB Tryz.prog 90 [.pointer (some ⟨p,0,none⟩),.slice Bo m e,foV x lay par th,lnV (newL kind mode 0 0 false dt)] V Bs (ChB p (mY b ss par kind mode dt)):=by
  have sl:=hs.1.1
  obtain⟨I,L1,rfl,hW⟩:=h
  have hd:=hok.d
  have hb:=mode_bit hpm.1 hpm.2
  have hMay:=fun V2 (hV2:VLe V V2)=>May_c V2 b.c I.A I.n I.k (hW.xs.le hV2) hd par hpm 2 (.inr (.inl rfl))
  generalize hmay:oS b.c par 2=my at *
  (refine aL Tryz.func90 rfl Tryz.ntmps90 rfl ?_;intro w0)
  repeat' (first|(refine aG ?_;first|(refine aC ?_;refine aO rfl (aK ⟨Tryz.call87⟩ rfl (hMay _ vl9)) ?_)|(refine al9 ?_;intro γ)|refine pu9 ?_)|refine bS ?_|(refine bY rfl ?_ ?_<;>intro hq)|refine cO (id:=1) mixed (by kernel_rfl) ?_)
  all_goals first
    | (refine kP ?_;(refine aV Tryz.results90 (aB rfl) (show List.Sublist (⟨p,90,bxC I b⟩ :: L1) _ from sl9) ?_)
       rw [make_no (by rw [hmay];simpa using hq)];exact⟨cP 9 rfl,I,_,rfl,hW.le vl9⟩)
    | skip
  obtain rfl:my=true:=by simpa using hq
  clear hMay
  refine bT (id:=3) _ mixed (List.Sublist.cons _ (List.Sublist.refl _)) ?_;refine gt9 0 ?_;refine gt9 1 ?_;refine gt9 2 ?_;refine gt9 3 ?_;refine gt9 4 ?_;refine gt9 5 ?_;refine gt9 6 ?_;refine gt9 7 ?_;refine gt9 8 ?_;refine gt9 9 ?_;refine gt9 10 ?_;refine bM (i:=11) rfl ?_;refine aP rfl siz_3 rfl rfl rfl rfl cI fU rfl ?_;refine gt9 12 ?_;refine bM (i:=13) rfl ?_;refine aP rfl siz_3 rfl rfl rfl rfl cI fU rfl ?_;refine bC (by kernel_rfl) vl9 vl9 cC ?_
  all_goals
    refine at_order (L':=⟨_,50,lnC (newL kind mode b.c.u b.c.g false dt)⟩ :: ⟨_,152,foC x lay par th⟩ :: ⟨p,90,bxC I b⟩ :: L1) sp9 ?_
  refine jJ ?_;refine jO ?_;refine eK (fun F V' L'=>∃ (γ6 γ7:Nat) (gr:Int),V=V'∧(if par.mode / 1024 % 2=1 then par.group else b.c.g)=gr∧¬(par.mode / 1024 % 2=1∧par.mapped=false)∧⟨γ7,50,lnC (newL kind mode b.c.u gr false dt)⟩ :: ⟨γ6,152,foC x lay par th⟩ :: ⟨p,90,bxC I b⟩ :: L1=L'∧F=[(0,.pointer (some ⟨p,0,none⟩)),(1,.slice Bo m e),(6,.pointer (some ⟨γ6,0,none⟩)),(7,.pointer (some ⟨γ7,0,none⟩))]) ?_ ?_
  · repeat' (first|(refine aG ?_;first|(refine bK ?_;refine aI (q_and rfl rfl) ?_)|refine st9 ?_|refine pu9 ?_)|refine bS ?_|(refine aA rfl ?_ ?_<;>intro hq<;>try exact no9)|(refine bY rfl ?_ ?_<;>intro hq))
    all_goals first
      | (refine xG ?_;exact dO _ ⟨_,_,b.c.g,rfl,if_neg (fun h9=>absurd (hb.2 h9) (by assumption)),fun h9=>absurd (hb.2 h9.1) (by assumption),rfl,rfl⟩ bG slc9)
      | (refine xG ?_;exact dO _ ⟨_,_,par.group,rfl,if_pos (hb.1 (by assumption)),fun h9=>absurd hq (by rw [h9.2];decide),rfl,rfl⟩ bG slc9)
      | (refine kP ?_;(refine aV Tryz.results90 (aB rfl) (show List.Sublist (⟨p,90,bxC I b⟩ :: L1) _ from sl9) ?_)
         rw [make_map hmay ⟨hb.1 (by assumption),by simpa using hq⟩];exact⟨cP 11 rfl,I,_,rfl,hW.le vl9⟩)
  · rintro F V' L' ⟨γ6,γ7,gr,rfl,hgr,hnm,rfl,rfl⟩
    have hKe:=fun V2 (hV2:VLe V V2)=>Keep_c V2 b.c.u b.c.g b.c.d I.A I.n I.k b.c.xs (hW.xs.le hV2) mode gr hmd.1 hmd.2 hd.1 hd.2
    have hkb:=keep_bd (b:=b.c.g) (d:=b.c.d) (xs:=b.c.xs) (g:=gr) hmd
    have hMH:(uJ b par kind mode dt).mode=if kind=2∧par.mode / 1024 % 2=1 then bits .or .i64 (uL b.c.g b.c.d b.c.xs mode gr) 1024 else uL b.c.g b.c.d b.c.xs mode gr:=by unfold uJ;rw [hgr]
    generalize uL b.c.g b.c.d b.c.xs mode gr=kq at *
    repeat' (first|refine gx9 ?_|fail)
    refine eK (fun F V' L'=>V=V'∧⟨γ7,50,lnC (newL kind kq b.c.u gr false dt)⟩ :: ⟨γ6,152,foC x lay par th⟩ :: ⟨p,90,bxC I b⟩ :: L1=L'∧F=[(0,.pointer (some ⟨p,0,none⟩)),(1,.slice Bo m e),(6,.pointer (some ⟨γ6,0,none⟩)),(7,.pointer (some ⟨γ7,0,none⟩))]) ?_ ?_
    · refine bT (id:=8) _ mixed (List.Sublist.cons _ (List.Sublist.refl _)) ?_;refine gt9 0 ?_;refine gt9 1 ?_;refine gt9 2 ?_;refine gt9 3 ?_;refine gt9 4 ?_;refine gt9 6 ?_;(refine iC (i:=5) (j:=7) (by kernel_rfl) rfl rfl rfl rfl vl9 vl9 cC ?_ ?_<;>first|((first|refine aI (aX one_3 rfl bN (by exact rfl)) ?_|refine aI (aX one_3 rfl bN (by assumption)) ?_|refine aI (cK one_3 rfl (by assumption)) ?_);refine bM (i:=7) rfl ?_;(first|refine aI (aX one_3 rfl bN (by exact rfl)) ?_|refine aI (aX one_3 rfl bN (by assumption)) ?_|refine aI (cK one_3 rfl (by assumption)) ?_);refine bM (i:=8) rfl ?_;refine aO rfl (aK ⟨Tryz.call103⟩ rfl (hKe _ vl9)) ?_;refine gt9 9 ?_;refine bM (i:=10) rfl ?_;refine aP rfl siz_3 rfl rfl rfl rfl cI fU rfl ?_;refine bC (by kernel_rfl) vl9 vl9 cC ?_)|((first|refine aI (aX one_3 rfl bN (by exact rfl)) ?_|refine aI (aX one_3 rfl bN (by assumption)) ?_|refine aI (cK one_3 rfl (by assumption)) ?_);refine bM (i:=5) rfl ?_;(first|refine aI (aX one_3 rfl bN (by exact rfl)) ?_|refine aI (aX one_3 rfl bN (by assumption)) ?_|refine aI (cK one_3 rfl (by assumption)) ?_);refine bM (i:=8) rfl ?_;refine aO rfl (aK ⟨Tryz.call103⟩ rfl (hKe _ vl9)) ?_;refine gt9 9 ?_;refine bM (i:=10) rfl ?_;refine aP rfl siz_3 rfl rfl rfl rfl cI fU rfl ?_;refine bC (by kernel_rfl) vl9 vl9 cC ?_))
      all_goals exact fP _ ⟨rfl,rfl,rfl⟩ bG sp9
    rintro F V' L' ⟨rfl,rfl,rfl⟩
    refine jJ ?_;refine jO ?_;refine eK (fun F V' L'=>∃ md:Int,V=V'∧(uJ b par kind mode dt).mode=md∧⟨γ7,50,lnC (newL kind md b.c.u gr false dt)⟩ :: ⟨γ6,152,foC x lay par th⟩ :: ⟨p,90,bxC I b⟩ :: L1=L'∧F=[(0,.pointer (some ⟨p,0,none⟩)),(1,.slice Bo m e),(6,.pointer (some ⟨γ6,0,none⟩)),(7,.pointer (some ⟨γ7,0,none⟩))]) ?_ ?_
    · repeat' (first|(refine aG ?_;first|(refine bK ?_;(first|refine aI (q_and rfl rfl) ?_|refine aI (q_or rfl rfl) ?_))|refine st9 ?_|refine pu9 ?_)|refine bV ?_|(refine aJ rfl rfl rfl ?_ ?_<;>intro hq<;>try exact no9)|(refine aA rfl ?_ ?_<;>intro hq<;>try exact no9))
      all_goals
        first
          | rw [if_pos ⟨by assumption,hb.1 (by assumption)⟩] at hMH
          | rw [if_neg (by rintro ⟨h8,h9⟩;first|(exact absurd (hb.2 h9) (by assumption))|exact absurd h8 (by assumption))] at hMH
        exact dO _ ⟨_,rfl,hMH,rfl,rfl⟩ bG slc9
    · rintro F V' L' ⟨md,rfl,hmd9,rfl,rfl⟩
      have hN:aT V (newL kind md b.c.u gr false dt):=newL_node (by unfold maxLen;omega)
      have hOut:=tF V I.M hW.M _ hN (.mk ⟨Nat.zero_le _,Nat.zero_le _⟩ (by simp))
      have hNn:(newL kind md b.c.u gr false dt).n=.mk (uJ b par kind mode dt) []:=by rw [←hmd9];unfold uJ;rw [hgr];rfl
      rw [hW.us,hW.gs,hNn] at hOut
      have hown:=hW.owned (p:=p) hok
      cases hmv:dK true b.us b.gs (.mk (uJ b par kind mode dt) []) with
      | none =>
        rw [make_un hmay hnm hmv]
        rw [hmv] at hOut
        repeat' (first|refine gx9 ?_|fail)
        refine bT (id:=11) _ mixed (List.Sublist.refl _) ?_;refine gt9 0 ?_;refine gt9 1 ?_;refine gt9 2 ?_;refine gt9 3 ?_;refine gt9 4 ?_;(refine iC (i:=5) (j:=9) (by kernel_rfl) rfl rfl rfl rfl vl9 vl9 cC ?_ ?_<;>first|((refine aS rfl ⟨Tryz.call38⟩ rfl rfl (hOut) ?_;rintro v V3 hV3 ⟨y,rfl,hyN,hyn⟩);refine gt9 6 ?_;refine gt9 7 ?_;refine gt9 8 ?_;refine bM (i:=9) rfl ?_;(refine eN rfl zer_50 rfl ?_;intro γ);refine bM (i:=10) rfl ?_;refine aP rfl siz_50 rfl rfl rfl rfl cI fU rfl ?_;refine gt9 11 ?_;refine bC (by kernel_rfl) vl9 vl9 cC ?_)|((refine eN rfl zer_50 rfl ?_;intro γ);refine bM (i:=5) rfl ?_;(refine aS rfl ⟨Tryz.call38⟩ rfl rfl (hOut) ?_;rintro v V3 hV3 ⟨y,rfl,hyN,hyn⟩);refine gt9 6 ?_;refine gt9 7 ?_;refine gt9 8 ?_;refine bM (i:=10) rfl ?_;refine aP rfl siz_50 rfl rfl rfl rfl cI fU rfl ?_;refine gt9 11 ?_;refine bC (by kernel_rfl) vl9 vl9 cC ?_))
        all_goals repeat' (first|(refine aG ?_;refine pu9 ?_)|refine bV ?_|fail)
        all_goals first
          | (exfalso;exact absurd (show ¬movF none=0 by decide) (not_not_intro (by assumption)))
          | (refine kP ?_;(refine aV Tryz.results90 (aB rfl) (show List.Sublist (⟨p,90,bxC I b⟩ :: L1) _ from sl9) ?_)
             exact⟨rfl,I,_,rfl,hW.le vl9⟩)
      | some z =>
        rw [make_on hmay hnm hmv]
        rw [hmv] at hOut
        repeat' (first|refine gx9 ?_|fail)
        refine eK (fun F V' L'=>∃ (γ9:Nat) (y:LN),VLe V V'∧aT V' y∧y.n=z∧⟨γ9,50,lnC y⟩ :: ⟨γ7,50,lnC (newL kind md b.c.u gr false dt)⟩ :: ⟨p,90,bxC I b⟩ :: L1=L'∧F=[(0,.pointer (some ⟨p,0,none⟩)),(1,.slice Bo m e),(7,.pointer (some ⟨γ7,0,none⟩)),(9,.pointer (some ⟨γ9,0,none⟩)),(10,bA 0)]) ?_ ?_
        · refine bT (id:=11) _ mixed (List.Sublist.refl _) ?_;refine gt9 0 ?_;refine gt9 1 ?_;refine gt9 2 ?_;refine gt9 3 ?_;refine gt9 4 ?_;(refine iC (i:=5) (j:=9) (by kernel_rfl) rfl rfl rfl rfl vl9 vl9 cC ?_ ?_<;>first|((refine aS rfl ⟨Tryz.call38⟩ rfl rfl (hOut) ?_;rintro v V3 hV3 ⟨y,rfl,hyN,hyn⟩);refine gt9 6 ?_;refine gt9 7 ?_;refine gt9 8 ?_;refine bM (i:=9) rfl ?_;(refine eN rfl zer_50 rfl ?_;intro γ);refine bM (i:=10) rfl ?_;refine aP rfl siz_50 rfl rfl rfl rfl cI fU rfl ?_;refine gt9 11 ?_;refine bC (by kernel_rfl) vl9 vl9 cC ?_)|((refine eN rfl zer_50 rfl ?_;intro γ);refine bM (i:=5) rfl ?_;(refine aS rfl ⟨Tryz.call38⟩ rfl rfl (hOut) ?_;rintro v V3 hV3 ⟨y,rfl,hyN,hyn⟩);refine gt9 6 ?_;refine gt9 7 ?_;refine gt9 8 ?_;refine bM (i:=10) rfl ?_;refine aP rfl siz_50 rfl rfl rfl rfl cI fU rfl ?_;refine gt9 11 ?_;refine bC (by kernel_rfl) vl9 vl9 cC ?_))
          all_goals exact fP _ ⟨_,y,hV3,hyN,hyn,rfl,rfl⟩ bG sp9
        rintro F V3 L' ⟨γ9,y,hV3,hyN,hyn,rfl,rfl⟩
        have e9:(((m:Nat):Int) - 1).toNat=ss.length - 1:=by omega
        have hU:FnB Tryz.prog 95 [.slice I.K I.m I.e,lmV I.M,.slice Bo (((m:Nat):Int) - 1).toNat e] V3 (⟨p,90,bxC I b⟩ :: L1) fun v V' Bs'=>Bs'=⟨p,90,bxC I b⟩ :: L1∧UpR (upP b.ls b.us b.gs (ss.take (ss.length - 1))) (bA (upP b.ls b.us b.gs (ss.take (ss.length - 1))).2) v V':=by
          rw [e9]
          exact UpB_c (p:=p) hok (hW.le hV3) Bo _ e _ (uH (hs.le hV3) (by omega)) (by omega) (by omega)
        obtain⟨n0,t0,hls,hkd0⟩:=hok.root
        have hbd:=up_bd9 (us:=b.us) (gs:=b.gs) (ss:=ss.take (ss.length - 1)) hok.light (by rw [hls];exact hok.light n0 (by rw [hls];simp)) (by rw [List.length_take];omega)
        have hm2:make2 b ss kind z=if ¬(upP b.ls b.us b.gs (ss.take (ss.length - 1))).2=0 then (b,(upP b.ls b.us b.gs (ss.take (ss.length - 1))).2) else putG b (.mk { z.h with opq:=decide (kind=2) && whiteP (upP b.ls b.us b.gs (ss.take (ss.length - 1))).1 ss } z.ks) (upP b.ls b.us b.gs (ss.take (ss.length - 1))).1 ss:=rfl
        rw [hm2]
        clear hm2 hOut
        generalize upP b.ls b.us b.gs (ss.take (ss.length - 1))=up at *
        repeat' (first|(refine aG ?_;refine pu9 ?_)|refine bV ?_|fail)
        all_goals first
          | (exfalso;exact absurd rfl (by assumption))
          | skip
        refine eK (fun F V' L'=>∃ (γ11:Nat) (y2:LN),VLe V3 V'∧aT V' y2∧y2.n=up.1∧⟨γ11,50,lnC y2⟩ :: ⟨γ9,50,lnC y⟩ :: ⟨γ7,50,lnC (newL kind md b.c.u gr false dt)⟩ :: ⟨p,90,bxC I b⟩ :: L1=L'∧F=[(0,.pointer (some ⟨p,0,none⟩)),(1,.slice Bo m e),(7,.pointer (some ⟨γ7,0,none⟩)),(9,.pointer (some ⟨γ9,0,none⟩)),(10,bA up.2),(11,.pointer (some ⟨γ11,0,none⟩))]) ?_ ?_
        · refine bT (id:=14) _ mixed (List.Sublist.refl _) ?_;refine gt9 0 ?_;refine gt9 1 ?_;refine gt9 2 ?_;refine gt9 3 ?_;refine gt9 4 ?_;refine gt9 5 ?_;refine gt9 6 ?_;refine gt9 7 ?_;refine gt9 8 ?_;refine gt9 9 ?_;refine gt9 10 ?_;refine gt9 11 ?_;refine gO 12 rfl rfl (gQ und_40 siz_9 rfl rfl (by omega)) ?_;(refine iC (i:=13) (j:=17) (by kernel_rfl) rfl rfl rfl rfl vl9 vl9 cC ?_ ?_<;>first|((refine aM rfl ⟨Tryz.call95⟩ rfl bD rfl (hU) ?_;rintro v V4 B4 hV4 ⟨rfl,y2,rfl,hy2N,hy2n⟩);refine gt9 14 ?_;refine gt9 15 ?_;refine gt9 16 ?_;refine bM (i:=17) rfl ?_;(refine eN rfl zer_50 rfl ?_;intro γ);refine bM (i:=18) rfl ?_;refine aP rfl siz_50 rfl rfl rfl rfl cI fU rfl ?_;refine gt9 19 ?_;refine bC (by kernel_rfl) vl9 vl9 cC ?_)|((refine eN rfl zer_50 rfl ?_;intro γ);refine bM (i:=13) rfl ?_;(refine aM rfl ⟨Tryz.call95⟩ rfl bD rfl (hU) ?_;rintro v V4 B4 hV4 ⟨rfl,y2,rfl,hy2N,hy2n⟩);refine gt9 14 ?_;refine gt9 15 ?_;refine gt9 16 ?_;refine bM (i:=18) rfl ?_;refine aP rfl siz_50 rfl rfl rfl rfl cI fU rfl ?_;refine gt9 19 ?_;refine bC (by kernel_rfl) vl9 vl9 cC ?_))
          all_goals exact fP _ ⟨_,y2,hV4,hy2N,hy2n,rfl,rfl⟩ bG sp9
        rintro F V4 L' ⟨γ11,y2,hV4,hy2N,hy2n,rfl,rfl⟩
        by_cases hu:up.2=0
        · rw [if_neg (not_not_intro hu)]
          have hub:=hbd hu
          have hFd:=Find_c V4 y2 hy2N (by rw [hy2n];exact hub.imp fun _ _=>oB) Bo m e ss (hs.le (hV3.trans hV4))
          rw [hy2n] at hFd
          repeat' (first|(refine aG ?_;first|(refine aC ?_;(refine aS rfl ⟨Tryz.call100⟩ rfl rfl (hFd) ?_;rintro v V5 hV5 ⟨z2,rfl,hz2N,hz2n⟩))|refine st9 ?_|(refine al9 ?_;intro γ)|refine pu9 ?_)|refine gx9 ?_|refine iR [15,17] rfl ?_|(refine aA rfl ?_ ?_<;>intro hq<;>try exact no9))
          all_goals first
            | (exfalso;exact absurd hu (by assumption))
            | skip
          have hwh:whiteP up.1 ss=((eP up.1 ss).isSome && decide (z2.h.kind=3)):=by
            have hk9:z2.h.kind=((eP up.1 ss).getD pnZ).h.kind:=by rw [←hz2n];rfl
            rw [hk9];unfold whiteP
            cases eP up.1 ss<;>rfl
          rw [hwh]
          generalize (eP up.1 ss).isSome=is9 at *
          refine eK (fun F V' L'=>∃ oo:Bool,V5=V'∧(decide (kind=2) && (is9 && decide (z2.h.kind=3)))=oo∧⟨γ11,50,lnC y2⟩ :: ⟨γ9,50,lnC { y with h:={ y.h with opq:=oo } }⟩ :: ⟨p,90,bxC I b⟩ :: L1=L'∧F=[(0,.pointer (some ⟨p,0,none⟩)),(1,.slice Bo m e),(9,.pointer (some ⟨γ9,0,none⟩)),(11,.pointer (some ⟨γ11,0,none⟩))]) ?_ ?_
          · repeat' (first|(refine aG ?_;first|refine st9 ?_|refine pu9 ?_)|refine gx9 ?_|(refine aJ rfl rfl rfl ?_ ?_<;>intro hq<;>try exact no9)|(refine cN rfl rfl rfl ?_ ?_<;>intro hq)|refine dW (id:=18) ?_)
            all_goals first
              | (refine xG ?_;refine dO _ ⟨false,rfl,?_,rfl,rfl⟩ bG slc9;simp_all;done)
              | (refine xG ?_;refine dO _ ⟨decide (z2.h.kind=3),rfl,?_,rfl,rfl⟩ bG slc9;simp_all;done)
          rintro F V' L' ⟨oo,rfl,hoo,rfl,rfl⟩
          rw [hoo]
          have hyN5:aT V5 { y with h:={ y.h with opq:=oo } }:=node_opq (hyN.le vl9)
          have hyn5:(LN.n { y with h:={ y.h with opq:=oo } })=.mk { z.h with opq:=oo } z.ks:=by rw [←hyn];rfl
          have hzs:cH eR (PN.mk { z.h with opq:=oo } z.ks):=by
            obtain⟨u9,g9,h9,_,_⟩:=moved_inv hmv
            rw [h9]
            exact .mk ⟨Nat.zero_le _,Nat.zero_le _⟩ (by simp)
          have hP:=Put_c V5 y2 (hy2N.le vl9) (by rw [hy2n];exact hub.imp fun _ _=>mG (by omega)) Bo m e ss (hs.le vl9) hme _ hyN5 (by rw [hyn5];exact hzs)
          rw [hyn5,hy2n] at hP
          generalize (PN.mk { z.h with opq:=oo } z.ks)=n1 at *
          have hG:=fun V3 (hV3:VLe V V3) (z:LN) (hz:aT V3 z)=>grows_c V3 p b _ hok ⟨I,L1,rfl,hW.le hV3⟩ z hz
          repeat' (first|(refine aG ?_;first|(refine aC ?_;(refine aS rfl ⟨Tryz.call101⟩ rfl rfl (hP) ?_;rintro v V6 hV6 ⟨x5,rfl,hx5N,hx5n⟩))|refine st9 ?_|refine pu9 ?_)|refine gx9 ?_|refine dW (id:=19) ?_)
          have e0:∀ l,l=lnC x5→spl (lnC y2) 0 l=lnC x5:=fun l hl=>by rw [hl];exact nI rfl
          rw [e0 _ (by rfl)]
          unfold putG
          by_cases hpf:pF false n1 up.1 ss=0
          · rw [if_neg (not_not_intro hpf)]
            rw [putP,if_pos hpf] at hx5n
            have hG2:=hG _ vl9 x5 hx5N
            rw [hx5n] at hG2
            repeat' (first|(refine aG ?_;first|(refine aC ?_;(refine aM rfl ⟨Tryz.call97⟩ rfl bD rfl (hG2) ?_;rintro v V7 B7 hV7 ⟨rfl,hB7⟩))|refine pu9 ?_)|refine bS ?_|(refine aA rfl ?_ ?_<;>intro hq<;>try exact no9))
            all_goals first
              | (exfalso;exact absurd hpf (by assumption))
              | (refine kP ?_;(refine aV Tryz.results90 (aB rfl) (List.Sublist.cons _ (List.Sublist.cons _ (List.Sublist.refl _))) ?_)
                 exact⟨rfl,hB7⟩)
          · rw [if_pos hpf]
            repeat' (first|(refine aG ?_;refine pu9 ?_)|refine bS ?_|(refine aA rfl ?_ ?_<;>intro hq<;>try exact no9))
            all_goals first
              | (exfalso;exact absurd (by assumption) hpf)
              | (refine kP ?_;(refine aV Tryz.results90 (aB rfl) (show List.Sublist (⟨p,90,bxC I b⟩ :: L1) _ from sl9) ?_)
                 exact⟨rfl,I,_,rfl,hW.le vl9⟩)
        · rw [if_pos hu]
          repeat' (first|(refine aG ?_;refine pu9 ?_)|refine bS ?_|(refine aA rfl ?_ ?_<;>intro hq<;>try exact no9))
          all_goals first
            | (exfalso;exact absurd hu (by assumption))
            | (exfalso;exact absurd (by assumption) hu)
            | (refine kP ?_;(refine aV Tryz.results90 (aB rfl) (show List.Sublist (⟨p,90,bxC I b⟩ :: L1) _ from sl9) ?_)
               exact⟨rfl,I,_,rfl,hW.le vl9⟩)
end
section
theorem own_off {b:BX} {l:List UInt8} {u g:Int} (h:offU u g):xF b l u g=(b,1):=if_pos h
theorem own_no {b:BX} {l:List UInt8} {u g:Int} (h:¬offU u g) (h2:¬dH b l=0):xF b l u g=(b,dH b l):=by unfold xF;rw [if_neg h,if_pos h2]
theorem own_same {b:BX} {l:List UInt8} {u g:Int} (h:¬offU u g) (h2:dH b l=0) (h3:u = -1∧g = -1):xF b l u g=(b,0):=by unfold xF;rw [if_neg h,if_neg (not_not_intro h2),if_pos h3]
theorem own_on {b:BX} {l:List UInt8} {u g:Int} (h:¬offU u g) (h2:dH b l=0) (h3:¬(u = -1∧g = -1)):xF b l u g=own2 b l (ownU u (bE b l).th.user) (ownU g (bE b l).th.group):=by unfold xF;rw [if_neg h,if_neg (not_not_intro h2),if_neg h3]
theorem own2_no {b:BX} {l:List UInt8} {u g:Int} (h:¬ownM b (bE b l).th u g):own2 b l u g=(b,10):=if_pos h
theorem own2_un {b:BX} {l:List UInt8} {u g:Int} (h:ownM b (bE b l).th u g) (h2:dK true b.us b.gs (idN u g)=none):own2 b l u g=(b,11):=by unfold own2;rw [if_neg (not_not_intro h),h2]
theorem own2_ok {b:BX} {l:List UInt8} {u g:Int} {x:PN} (h:ownM b (bE b l).th u g) (h2:dK true b.us b.gs (idN u g)=some x):own2 b l u g=jL b (aQ l) fun h=>{ h with user:=x.h.user,group:=x.h.group,mode:=uT b.c.d h.mode }:=by unfold own2;rw [if_neg (not_not_intro h),h2]
abbrev newL9 (u g:Int):LN:=⟨⟨0,0,u,g,false,[],⟨#[]⟩⟩,none,0,0,none,0,0,[]⟩
theorem newL9_node {V:aE} {u g:Int}:aT V (newL9 u g):=aT.of (es:=[]) fD.nil (Nat.le_refl _) (Nat.zero_le _) (Nat.le_refl _) ⟨fB.nil,by simp⟩ rfl
theorem newL9_small {u g:Int}:cH eR (newL9 u g).n:=.mk ⟨Nat.zero_le _,Nat.zero_le _⟩ (by simp)
attribute [local irreducible] AtQ GoC GoL GoW QO QP Fn RV bF aD VLe bU bA
theorem own_c (V:aE) (p:Nat) (b:BX) (Bs:List Box) (hok:bI b) (h:fE V p b Bs) (s:ByteArray) (hc:s.size≤1000000) (u g:Int):FnB Tryz.prog 46 [.pointer (some ⟨p,0,none⟩),.string s,.int .i64 u,.int .i64 g] V Bs (ChB p (xF b (aH s) u g)):=by
  obtain⟨I,L1,rfl,hW⟩:=h
  have hT:=fun V2 (hV2:VLe V V2)=>tV (V:=V2) (p:=p) hok ⟨I,L1,rfl,hW.le hV2⟩ s hc
  have hCan:=fun V2=>Can_c V2 b.c.u b.c.g b.c.d 1 I.A I.n I.k
  have hHas:=fun V2 (hV2:VLe V V2) g=>Has_c V2 b.c.u b.c.g b.c.d g I.A I.n I.k b.c.xs (hW.xs.le hV2)
  have hcd:=cap1' hok.d.1 hok.d.2
  (refine aL Tryz.func46 rfl Tryz.ntmps46 rfl ?_;intro w0)
  repeat' (first|(refine aG ?_;first|(refine aC ?_;(refine aM rfl ⟨Tryz.call85⟩ rfl bD rfl (hT _ vl9) ?_;rintro v V2 B2 hV2 ⟨rfl,hR⟩;rcases hR with ⟨ht0,A,n,k,x,rfl,hs,hnk,hxN,hxn⟩|⟨ht0,A,n,k,x,lay,par,th,rfl⟩))|(refine cY ?_;refine aP rfl siz_152 rfl rfl rfl rfl cI lP rfl ?_)|(refine al9 ?_;intro γ)|refine pu9 ?_)|refine nO ?_|(refine aJ rfl rfl rfl ?_ ?_<;>intro hq<;>try exact no9)|refine iR [0,1,2,3,4,5] rfl ?_|(refine aA rfl ?_ ?_<;>intro hq<;>try exact no9))
  all_goals first
    | exact no9
    | (exfalso;exact absurd ht0 (by assumption))
    | (refine kP ?_;(refine aV Tryz.results46 (aB rfl) (show List.Sublist (⟨p,90,bxC I b⟩ :: L1) _ from sl9) ?_)
       first
       | (rw [own_off (by unfold offU;omega)];exact⟨cP 1 rfl,I,_,rfl,hW.le vl9⟩)
       | (rw [own_no (by unfold offU;omega) ht0];exact⟨rfl,I,_,rfl,hW.le vl9⟩))
    | skip
  have hnoff:¬offU u g:=by unfold offU;omega
  refine oA (fun F V' L'=>∃ (γ4 γ10:Nat),V2=V'∧¬(u = -1∧g = -1)∧⟨γ10,152,foC x (bE b (aH s)).lay (bE b (aH s)).par (bE b (aH s)).th⟩ :: ⟨γ4,35,[.pointer (some ⟨p,0,none⟩)]⟩ :: ⟨p,90,bxC I b⟩ :: L1=L'∧F=[(2,.int .i64 u),(3,.int .i64 g),(4,.pointer (some ⟨γ4,0,none⟩)),(9,.slice A n k),(10,.pointer (some ⟨γ10,0,none⟩))]) ?_ ?_
  · repeat' (first|(refine aG ?_;refine pu9 ?_)|refine nO ?_|(refine aJ rfl rfl rfl ?_ ?_<;>intro hq<;>try exact no9)|refine iR [6,7] rfl ?_|(refine aA rfl ?_ ?_<;>intro hq<;>try exact no9))
    all_goals first
      | exact no9
      | (refine kP ?_;(refine aV Tryz.results46 (aB rfl) (show List.Sublist (⟨p,90,bxC I b⟩ :: L1) _ from sl9) ?_)
         rw [own_same hnoff ht0 (by omega)];exact⟨bO.symm,I,_,rfl,hW.le vl9⟩)
      | (refine xG ?_;refine dO _ ⟨_,_,rfl,?_,rfl,rfl⟩ bG sl9;omega)
  · rintro F V3 L' ⟨γ4,γ10,rfl,hbo,rfl,rfl⟩
    rw [own_on hnoff ht0 hbo]
    repeat' (first|(refine aG ?_;first|refine st9 ?_|(refine al9 ?_;intro γ)|refine pu9 ?_)|refine gx9 ?_|refine dW (id:=8) ?_)
    have hTM:=iU hok (aH s)
    generalize hth:(bE b (aH s)).th=th at *
    refine oA (fun F V' L'=>∃ (γ12:Nat) (uu:Int),V2=V'∧ownU u th.user=uu∧⟨γ12,150,[.bool th.dir,.int .i64 th.mode,.int .i64 th.user,.int .i64 th.group,.bool th.mapped]⟩ :: ⟨γ4,35,[.pointer (some ⟨p,0,none⟩)]⟩ :: ⟨p,90,bxC I b⟩ :: L1=L'∧F=[(2,.int .i64 uu),(3,.int .i64 g),(4,.pointer (some ⟨γ4,0,none⟩)),(9,.slice A n k),(12,.pointer (some ⟨γ12,0,none⟩))]) ?_ ?_
    · repeat' (first|(refine aG ?_;refine pu9 ?_)|refine gx9 ?_|refine iR [9,10] rfl ?_|(refine aA rfl ?_ ?_<;>intro hq<;>try exact no9))
      all_goals
        refine dO _ ⟨_,_,rfl,?_,rfl,rfl⟩ bG slc9
        unfold ownU;split<;>first|rfl|exact no9
    · rintro F V3 L' ⟨γ12,uu,rfl,huu,rfl,rfl⟩
      rw [huu]
      repeat' (first|refine gx9 ?_|fail)
      refine oA (fun F V' L'=>∃ (gg:Int),V2=V'∧ownU g th.group=gg∧⟨γ12,150,[.bool th.dir,.int .i64 th.mode,.int .i64 th.user,.int .i64 th.group,.bool th.mapped]⟩ :: ⟨γ4,35,[.pointer (some ⟨p,0,none⟩)]⟩ :: ⟨p,90,bxC I b⟩ :: L1=L'∧F=[(2,.int .i64 uu),(3,.int .i64 gg),(4,.pointer (some ⟨γ4,0,none⟩)),(9,.slice A n k),(12,.pointer (some ⟨γ12,0,none⟩))]) ?_ ?_
      · repeat' (first|(refine aG ?_;refine pu9 ?_)|refine gx9 ?_|refine iR [11,12] rfl ?_|(refine aA rfl ?_ ?_<;>intro hq<;>try exact no9))
        all_goals
          refine dO _ ⟨_,rfl,?_,rfl,rfl⟩ bG slc9
          unfold ownU;split<;>first|rfl|exact no9
      · rintro F V3 L' ⟨gg,rfl,hgg,rfl,rfl⟩
        rw [hgg]
        repeat' (first|(refine aG ?_;first|(refine aC ?_;refine aO rfl (aK ⟨Tryz.call105⟩ rfl (hCan _)) ?_)|refine pu9 ?_)|refine bS ?_|fail)
        refine eK (fun F V' L'=>∃ (bb:Bool),V2=V'∧decide (uu=th.user∧th.user=b.c.u∧(gg=th.group∨b.c.g=gg∨gg∈b.c.xs))=bb∧⟨γ12,150,[.bool th.dir,.int .i64 th.mode,.int .i64 th.user,.int .i64 th.group,.bool th.mapped]⟩ :: ⟨γ4,35,[.pointer (some ⟨p,0,none⟩)]⟩ :: ⟨p,90,bxC I b⟩ :: L1=L'∧F=[(2,.int .i64 uu),(3,.int .i64 gg),(4,.pointer (some ⟨γ4,0,none⟩)),(9,.slice A n k),(12,.pointer (some ⟨γ12,0,none⟩)),(13,.bool (decide (bits .and .i64 b.c.d 1=1))),(14,.bool bb)]) ?_ ?_
        · repeat' (first|(refine aG ?_;first|(refine aC ?_;refine aO rfl (aK ⟨Tryz.call106⟩ rfl (hHas _ vl9 _)) ?_)|refine pu9 ?_)|refine gx9 ?_|(refine aJ rfl rfl rfl ?_ ?_<;>intro hq<;>try exact no9)|refine cO (id:=14) mixed (by kernel_rfl) ?_)
          all_goals
            refine dO _ ⟨_,rfl,?_,rfl,rfl⟩ bG slc9
            simp_all
        · rintro F V3 L' ⟨bb,rfl,hbb,rfl,rfl⟩
          have hOM:ownM b th uu gg↔th.mapped=true∧(bits .and .i64 b.c.d 1=1∨bb=true):=by unfold ownM;rw [hcd,←hbb,decide_eq_true_eq]
          refine jJ ?_
          refine jO ?_
          refine eK (fun F V' L'=>V2=V'∧ownM b th uu gg∧⟨γ4,35,[.pointer (some ⟨p,0,none⟩)]⟩ :: ⟨p,90,bxC I b⟩ :: L1=L'∧F=[(2,.int .i64 uu),(3,.int .i64 gg),(4,.pointer (some ⟨γ4,0,none⟩)),(9,.slice A n k)]) ?_ ?_
          · repeat' (first|(refine aG ?_;refine pu9 ?_)|refine nO ?_|(refine aJ rfl rfl rfl ?_ ?_<;>intro hq<;>try exact no9)|(refine cN rfl rfl rfl ?_ ?_<;>intro hq)|refine iR [15,16] rfl ?_|(refine bY rfl ?_ ?_<;>intro hq))
            all_goals first
              | (refine xG ?_;refine dO _ ⟨rfl,?_,rfl,rfl⟩ bG slc9;rw [hOM];simp_all;done)
              | (refine kP ?_;(refine aV Tryz.results46 (aB rfl) (show List.Sublist (⟨p,90,bxC I b⟩ :: L1) _ from sl9) ?_)
                 rw [own2_no (by rw [hth,hOM];simp_all)]
                 exact⟨cP 10 rfl,I,_,rfl,hW.le vl9⟩)
          · rintro F V3 L' ⟨rfl,hom,rfl,rfl⟩
            have hN:aT V2 (newL9 uu gg):=newL9_node
            have hOut:=tF V2 I.M (hW.M.le hV2) _ hN newL9_small
            rw [hW.us,hW.gs,show (newL9 uu gg).n=idN uu gg from rfl] at hOut
            have hMF:∀ r,dK true b.us b.gs (idN uu gg)=r→dK true b.us b.gs (idN uu gg)=r:=fun _ h=>h
            have hown:=hW.owned (p:=p) hok
            cases hmv:dK true b.us b.gs (idN uu gg) with
            | none =>
              rw [hmv] at hOut
              repeat' (first|(refine aG ?_;first|(refine aC ?_;(refine aS rfl ⟨Tryz.call38⟩ rfl rfl (hOut) ?_;rintro v V3 hV3 ⟨y,rfl,hyN,hyn⟩))|refine st9 ?_|(refine al9 ?_;intro γ)|refine pu9 ?_)|refine bV ?_|fail)
              all_goals first
                | (exfalso;exact absurd (show ¬movF none=0 by decide) (not_not_intro (by assumption)))
                | (refine kP ?_;(refine aV Tryz.results46 (aB rfl) (show List.Sublist (⟨p,90,bxC I b⟩ :: L1) _ from sl9) ?_)
                   rw [own2_un (by rw [hth];exact hom) hmv]
                   exact⟨rfl,I,_,rfl,hW.le vl9⟩)
            | some z =>
              rw [hmv] at hOut
              rw [own2_ok (by rw [hth];exact hom) hmv]
              repeat' (first|(refine aG ?_;first|(refine aC ?_;(refine aS rfl ⟨Tryz.call38⟩ rfl rfl (hOut) ?_;rintro v V3 hV3 ⟨y,rfl,hyN,hyn⟩))|refine st9 ?_|(refine al9 ?_;intro γ)|refine pu9 ?_)|refine nO ?_|refine iR [17,18] rfl ?_)
              obtain rfl:y.n=z:=hyn
              all_goals first
                | (exfalso;exact absurd (show movF (some y.n)=0 from rfl) (by assumption))
                | skip
              refine nK (gB.here _ _ _ _) ?_ (fun x hx=>let ⟨cs,h9⟩:=hown x hx;⟨cs,cG h9⟩)
              intro V4 hV4 hc4
              refine nK (gB.here _ _ _ _) ?_ hown
              intro V5 hV5 hc5
              have h4:V5 ⟨γ4,0,none⟩=some (.pointer (some ⟨p,0,none⟩)):=sR (j:=0) hc5 rfl
              have hAl:=alter_c ⟨Tryz.call107⟩ V5 p b _ hok ⟨I,L1,rfl,hW.le vl9⟩ (own1_c V5 p b hok.d _ γ4 y.h.user y.h.group (sR (j:=2) (hc4.le hV5) rfl) (sR (j:=3) (hc4.le hV5) rfl) (sR (j:=0) hc5 rfl)) (fun h hh=>hh) A n k _ (hs.le vl9) hnk (by have:=mJ (aH s);have:=hs.1.1;omega)
              repeat' (first|(refine aG ?_;first|(refine aC ?_;(refine aM rfl ⟨Tryz.call91⟩ rfl bD rfl (hAl) ?_;rintro v V6 B6 hV6 ⟨rfl,hB6⟩))|refine pu9 ?_)|refine bS ?_|fail)
              all_goals
                (refine aV Tryz.results46 (aB rfl) (List.Sublist.refl _) ?_)
                exact⟨rfl,hB6⟩
end
section
theorem to_b {V:aE} {p:Nat} {b:BX} {Bs:List Box} (hok:bI b) (h:fE V p b Bs) (A:Option Addr) (m e:Nat) (ss:List ByteArray) (hs:cV V A m ss) (hme:m≤e):FnB Tryz.prog 89 [.pointer (some ⟨p,0,none⟩),.slice A m e] V Bs fun v V' Bs'=>Bs'=Bs∧ToR (dJ b ss) v V' :=
  fE.read hok h (fun v V gs hc hR=>ToR.off hc hR) fun V' I hV hB=>to_c V' p b I hok hB A m e ss (hs.le hV) hme
theorem root_is {b:BX} (hok:bI b):(dJ b []).1.is=true:=by
  obtain⟨n0,t,hl,hk⟩:=hok.root
  show (gZ b [] thZ).is=true
  have hw:dT b.ls []=mZ b.ls:=rfl
  rw [hl,yD hk] at hw
  rw [lR (by rw [hl];exact hw)]
theorem not_root {b:BX} (hok:bI b) {ss:List ByteArray} (h:(dJ b ss).1.is=false):0<ss.length:=by
  cases ss with
  | nil=>rw [root_is hok] at h;cases h
  | cons s ss=>simp
theorem rX {b:BX} (hok:bI b) (ss:List ByteArray):∀ k,0≤(fF b ss k).1.par.mode∧(fF b ss k).1.par.mode≤4095
  | 0=>by
    show 0≤(gZ b [] thZ).par.mode∧(gZ b [] thZ).par.mode≤4095
    rw [look_par];exact⟨Int.le_refl _,by decide⟩
  | k+1=>by
    have ih:=rX hok ss k
    have i2:=wT hok ss k
    rw [fF]
    (repeat' split)<;>first|exact ih|(simp only [look_par];exact i2)
theorem spotF_bad {b:BX} {l:List UInt8} (h:¬eI l=0):uN b l=eI l:=if_pos h
theorem spotF_ok {b:BX} {l:List UInt8} (h:eI l=0):uN b l=(dJ b (aQ l)).2:=if_neg (not_not_intro h)
theorem nn {p:Prop} (h:¬¬p):p:=Classical.not_not.1 h
attribute [local irreducible] AtQ GoC GoL GoW QO QP Fn RV bF aD VLe bU bA
theorem put_c (V:aE) (p:Nat) (b:BX) (Bs:List Box) (hok:bI b) (h:fE V p b Bs) (c:CL) (hc:c.path.size≤1000000):FnB Tryz.prog 41 [.pointer (some ⟨p,0,none⟩),clV c] V Bs (ChB p (pD b c)):=by
  obtain⟨I,L1,rfl,hW⟩:=h
  have hS:=fun V2=>Split_c V2 (aH c.path) (by show c.path.data.toList.length≤1000000;rw [Array.length_toList];exact hc)
  have e:(⟨(aH c.path).toArray⟩:ByteArray)=c.path:=kH c.path
  rw [e] at hS
  have hT:=fun V2 (hV2:VLe V V2) A m e (hs:cV V2 A m (aQ (aH c.path))) (hme:m≤e)=>to_b (V:=V2) (p:=p) hok ⟨I,L1,rfl,hW.le hV2⟩ A m e _ hs hme
  have hpm:=rX hok (aQ (aH c.path)) (aQ (aH c.path)).length
  have hthm:=iU hok (aH c.path)
  have hnr:=not_root hok (ss:=aQ (aH c.path))
  have hfew:=mJ (aH c.path)
  have hown:=hW.owned (p:=p) hok
  have hP:¬(c.a<0∨4095<c.a∨200<c.data.size)→¬c.path=⟨#[47]⟩→eI (aH c.path)=0→pD b c=if ¬(dJ b (aQ (aH c.path))).2=0 then (b,(dJ b (aQ (aH c.path))).2)
      else if (dJ b (aQ (aH c.path))).1.is=false then mY b (aQ (aH c.path)) (dJ b (aQ (aH c.path))).1.par 1 c.a c.data
      else if (dJ b (aQ (aH c.path))).1.th.dir=true then (b,7) else if oS b.c (dJ b (aQ (aH c.path))).1.th 2=false then (b,9)
      else jL b (aQ (aH c.path)) fun h=>{ h with data:=c.data,mode:=uT b.c.d h.mode }:=fun h1 h2 h3=>by
    unfold pD bE;rw [if_neg h1,if_neg h2,spotF_ok h3]
  have hM:=fun V2 (hV2:VLe V V2) A m e (hs:cV V2 A m (aQ (aH c.path))) (hme:m≤e) (hm:0<m∧m≤100) x lay th (hmd:0≤c.a∧c.a≤4095) (hdt:c.data.size≤1000)=>make_c V2 p b _ hok ⟨I,L1,rfl,hW.le hV2⟩ A m e _ hs hme hm x lay (dJ b (aQ (aH c.path))).1.par th hpm 1 c.a hmd c.data hdt
  have hMay:=fun V2 (hV2:VLe V V2)=>May_c V2 b.c I.A I.n I.k (hW.xs.le hV2) hok.d (dJ b (aQ (aH c.path))).1.th hthm 2 (.inr (.inl rfl))
  (refine aL Tryz.func41 rfl Tryz.ntmps41 rfl ?_;intro w0)
  repeat' (first|(refine aG ?_;first|(refine aC ?_;(refine aS rfl ⟨Tryz.call88⟩ rfl rfl (hS _) ?_;rintro v V1 hV1 ⟨A1,n1,c1,rfl,hS1,hc1⟩))|(refine al9 ?_;intro γ)|refine pu9 ?_)|refine nO ?_|(refine aJ rfl rfl rfl ?_ ?_<;>intro hq<;>try exact no9)|refine iR [0,1,2,3,4,5,6,7] rfl ?_|(refine aA rfl ?_ ?_<;>intro hq<;>try exact no9))
  all_goals first
    | exact no9
    | (refine kP ?_;(refine aV Tryz.results41 (aB rfl) (show List.Sublist (⟨p,90,bxC I b⟩ :: L1) _ from sl9) ?_)
       first
       | (rw [show pD b c=(b,1) from if_pos (by omega)];exact⟨cP 1 rfl,I,_,rfl,hW.le vl9⟩)
       | (rw [show pD b c=(b,7) by unfold pD;rw [if_neg (by omega),if_pos (by assumption)]];exact⟨cP 7 rfl,I,_,rfl,hW.le vl9⟩)
       | (rw [show pD b c=(b,eI (aH c.path)) by have e:=spotF_bad (b:=b) hq;unfold pD;rw [if_neg (by omega),if_neg (by assumption),e,if_pos hq]];exact⟨rfl,I,_,rfl,hW.le vl9⟩))
    | skip
  rw [hP (by omega) (by assumption) (nn (by assumption))]
  clear hP
  have hn1:=hS1.1.1
  generalize dJ b (aQ (aH c.path))=sp at *
  obtain⟨⟨is,n,lay,th,par⟩,f⟩:=sp
  generalize hmay:oS b.c th 2=my at *
  repeat' (first|(refine aG ?_;first|(refine aC ?_;(first|(refine aM rfl ⟨Tryz.call89⟩ rfl bD rfl (hT _ vl9 _ _ _ hS1 hc1) ?_;rintro v V2 B2 hV2 ⟨rfl,(⟨h0,x,rfl,hxN,hxn⟩|⟨h0,rfl⟩)⟩)|refine aO rfl (aK ⟨Tryz.call87⟩ rfl (hMay _ vl9)) ?_))|(refine cY ?_;refine aP rfl siz_152 rfl rfl rfl rfl cI lP rfl ?_)|(refine al9 ?_;intro γ)|refine pu9 ?_)|refine nO ?_|refine iR [8,9,10,11,13,14,16] rfl ?_|(refine aA rfl ?_ ?_<;>intro hq<;>try exact no9)|(refine bY rfl ?_ ?_<;>intro hq)|refine cO (id:=15) mixed (by kernel_rfl) ?_)
  all_goals first
    | (exfalso;exact absurd h0 (by assumption))
    | (exfalso;exact absurd (by assumption) h0)
    | (refine kP ?_;(refine aV Tryz.results41 (aB rfl) (show List.Sublist (⟨p,90,bxC I b⟩ :: L1) _ from sl9) ?_)
       first
       | (rw [if_pos h0];exact⟨rfl,I,_,rfl,hW.le vl9⟩)
       | (rw [if_neg (not_not_intro h0),if_neg (by simp_all),if_pos (by assumption)];exact⟨cP 7 rfl,I,_,rfl,hW.le vl9⟩)
       | (rw [if_neg (not_not_intro h0),if_neg (by simp_all),if_neg (by simp_all),if_pos (by simpa using hq)];exact⟨cP 9 rfl,I,_,rfl,hW.le vl9⟩))
    | skip
  · have his:is=false:=by simpa using hq
    rw [if_neg (not_not_intro h0),if_pos his]
    have hpos:=hnr his
    have hM2:=hM V2 vl9 A1 n1 c1 (hS1.le vl9) hc1 (by omega) x lay th (by omega) (by omega)
    repeat' (first|(refine aG ?_;first|(refine aC ?_;(refine aM rfl ⟨Tryz.call90⟩ rfl bD rfl (hM2) ?_;rintro v V3 B3 hV3 ⟨rfl,hB3⟩))|refine pu9 ?_)|refine bS ?_|fail)
    all_goals
      (refine aV Tryz.results41 (aB rfl) (List.Sublist.cons _ (List.Sublist.cons _ (List.Sublist.cons _ (List.Sublist.refl _)))) ?_)
      exact⟨rfl,hB3⟩
  · rw [if_neg (not_not_intro h0),if_neg (by simp_all),if_neg (by simp_all),if_neg (by simp_all)]
    refine nK (gB.next _ _ _ _ _ (gB.here _ _ _ _)) ?_ (fun x hx=>let ⟨cs,h9⟩:=hown x hx;⟨cs,cG (cG h9)⟩)
    intro V4 hV4 hc4
    refine nK (gB.next _ _ _ _ _ (gB.here _ _ _ _)) ?_ (fun x hx=>let ⟨cs,h9⟩:=hown x hx;⟨cs,cG h9⟩)
    intro V5 hV5 hc5
    have h4:=aD.at0 hc5
    have hAl:=alter_c ⟨Tryz.call92⟩ V5 p b _ hok ⟨I,L1,rfl,hW.le vl9⟩ (put1_c V5 p b hok.d _ _ c.data (by unfold maxLen;omega) (sR (j:=4) (hc4.le hV5) rfl) h4) (fun h hh=>hh) A1 n1 c1 _ (hS1.le vl9) hc1 (by omega)
    repeat' (first|(refine aG ?_;first|(refine aC ?_;(refine aM rfl ⟨Tryz.call91⟩ rfl bD rfl (hAl) ?_;rintro v V6 B6 hV6 ⟨rfl,hB6⟩))|refine pu9 ?_)|refine bS ?_|fail)
    all_goals
      (refine aV Tryz.results41 (aB rfl) (List.Sublist.cons _ (List.Sublist.refl _)) ?_)
      exact⟨rfl,hB6⟩
theorem mkdir_c (V:aE) (p:Nat) (b:BX) (Bs:List Box) (hok:bI b) (h:fE V p b Bs) (c:CL) (hc:c.path.size≤1000000):FnB Tryz.prog 42 [.pointer (some ⟨p,0,none⟩),clV c] V Bs (ChB p (nB b c)):=by
  obtain⟨I,L1,rfl,hW⟩:=h
  have hS:=fun V2=>Split_c V2 (aH c.path) (by show c.path.data.toList.length≤1000000;rw [Array.length_toList];exact hc)
  have e:(⟨(aH c.path).toArray⟩:ByteArray)=c.path:=kH c.path
  rw [e] at hS
  have hT:=fun V2 (hV2:VLe V V2) A m e (hs:cV V2 A m (aQ (aH c.path))) (hme:m≤e)=>to_b (V:=V2) (p:=p) hok ⟨I,L1,rfl,hW.le hV2⟩ A m e _ hs hme
  have hpm:=rX hok (aQ (aH c.path)) (aQ (aH c.path)).length
  have hnr:=not_root hok (ss:=aQ (aH c.path))
  have hfew:=mJ (aH c.path)
  have hP:¬(c.a<0∨4095<c.a)→eI (aH c.path)=0→nB b c=if ¬(dJ b (aQ (aH c.path))).2=0 then (b,(dJ b (aQ (aH c.path))).2)
      else if (dJ b (aQ (aH c.path))).1.is=true then (b,6) else mY b (aQ (aH c.path)) (dJ b (aQ (aH c.path))).1.par 2 c.a ⟨#[]⟩:=fun h1 h3=>by
    unfold nB bE;rw [if_neg h1,spotF_ok h3]
  have hM:=fun V2 (hV2:VLe V V2) A m e (hs:cV V2 A m (aQ (aH c.path))) (hme:m≤e) (hm:0<m∧m≤100) x lay th (hmd:0≤c.a∧c.a≤4095)=>make_c V2 p b _ hok ⟨I,L1,rfl,hW.le hV2⟩ A m e _ hs hme hm x lay (dJ b (aQ (aH c.path))).1.par th hpm 2 c.a hmd ⟨#[]⟩ (Nat.zero_le _)
  (refine aL Tryz.func42 rfl Tryz.ntmps42 rfl ?_;intro w0)
  repeat' (first|(refine aG ?_;first|(refine aC ?_;(refine aS rfl ⟨Tryz.call88⟩ rfl rfl (hS _) ?_;rintro v V1 hV1 ⟨A1,n1,c1,rfl,hS1,hc1⟩))|(refine al9 ?_;intro γ)|refine pu9 ?_)|refine nO ?_|(refine aJ rfl rfl rfl ?_ ?_<;>intro hq<;>try exact no9)|refine iR [0,1,2,3,4,5] rfl ?_|(refine aA rfl ?_ ?_<;>intro hq<;>try exact no9))
  all_goals first
    | exact no9
    | (refine kP ?_;(refine aV Tryz.results42 (aB rfl) (show List.Sublist (⟨p,90,bxC I b⟩ :: L1) _ from sl9) ?_)
       first
       | (rw [show nB b c=(b,1) from if_pos (by omega)];exact⟨cP 1 rfl,I,_,rfl,hW.le vl9⟩)
       | (rw [show nB b c=(b,eI (aH c.path)) by have e:=spotF_bad (b:=b) hq;unfold nB;rw [if_neg (by omega),e,if_pos hq]];exact⟨rfl,I,_,rfl,hW.le vl9⟩))
    | skip
  rw [hP (by omega) (nn (by assumption))]
  clear hP
  have hn1:=hS1.1.1
  generalize dJ b (aQ (aH c.path))=sp at *
  obtain⟨⟨is,n,lay,th,par⟩,f⟩:=sp
  repeat' (first|(refine aG ?_;first|(refine aC ?_;(refine aM rfl ⟨Tryz.call89⟩ rfl bD rfl (hT _ vl9 _ _ _ hS1 hc1) ?_;rintro v V2 B2 hV2 ⟨rfl,(⟨h0,x,rfl,hxN,hxn⟩|⟨h0,rfl⟩)⟩))|(refine cY ?_;refine aP rfl siz_152 rfl rfl rfl rfl cI lP rfl ?_)|(refine al9 ?_;intro γ)|refine pu9 ?_)|refine nO ?_|refine iR [6,7,8,9,10] rfl ?_|(refine aA rfl ?_ ?_<;>intro hq<;>try exact no9)|(refine bY rfl ?_ ?_<;>intro hq))
  all_goals first
    | (exfalso;exact absurd h0 (by assumption))
    | (exfalso;exact absurd (by assumption) h0)
    | (refine kP ?_;(refine aV Tryz.results42 (aB rfl) (show List.Sublist (⟨p,90,bxC I b⟩ :: L1) _ from sl9) ?_)
       first
       | (rw [if_pos h0];exact⟨rfl,I,_,rfl,hW.le vl9⟩)
       | (rw [if_neg (not_not_intro h0),if_pos (by assumption)];exact⟨cP 6 rfl,I,_,rfl,hW.le vl9⟩))
    | skip
  have his:is=false:=by simpa using hq
  rw [if_neg (not_not_intro h0),if_neg (by show ¬is=true;rw [his];decide)]
  have hpos:=hnr his
  have hM2:=hM V2 vl9 A1 n1 c1 (hS1.le vl9) hc1 (by omega) x lay th (by omega)
  repeat' (first|(refine aG ?_;first|(refine aC ?_;(refine aM rfl ⟨Tryz.call90⟩ rfl bD rfl (hM2) ?_;rintro v V3 B3 hV3 ⟨rfl,hB3⟩))|refine pu9 ?_)|refine bS ?_|fail)
  all_goals
    (refine aV Tryz.results42 (aB rfl) (List.Sublist.cons _ (List.Sublist.cons _ (List.Sublist.refl _))) ?_)
    exact⟨rfl,hB3⟩
end
section
attribute [local irreducible] AtQ GoC GoL GoW QO QP Fn RV bF aD VLe bU
def BecR (ev:Int→Value) (u g d:Int) (xs:List Int) (user group:Int) (n:Nat) (v:Value) (V:aE):Prop :=
  (uC u g d xs user group=0∧∃ A c,v=.tuple #[uK user group A n c (nW u d user),ev 0]∧eD V A n xs) ∨
  (¬uC u g d xs user group=0∧v=.tuple #[uK 0 0 none 0 0 0,ev (uC u g d xs user group)])
theorem rJ {V:aE} {A:Option Addr} {n:Nat} {xs:List Int} (hl:xs.length=n) (hm:n≤1000) (h:fH V 1 A (0+n) ([] ++ xs.map (.int .i64))):eD V A n xs:=by
  rw [Nat.zero_add,List.nil_append] at h
  exact⟨hl,by unfold maxLen;omega,h⟩

theorem Become_c (V:aE) (a b d:Int) (A:Option Addr) (n c:Nat) (xs:List Int) (h:eD V A n xs) (user group:Int) :
    Fn Tryz.prog 114 [uK a b A n c d,.int .i64 user,.int .i64 group] V (BecR bA a b d xs user group n):=by
  have hl:=h.1
  have hsrc:=h.2.2
  have hz1:∀ x,kZ a b d xs=0→(decide (bits .and .i64 d 8=8)=decide (d / 8 % 2=1)):=fun _ hc=>cap_bit d (by have:=eW hc;omega) (by have:=eW hc;omega)
  by_cases hc:kZ a b d xs=0
  · have hn:n≤4:=by have:=eW hc;omega
    have e2:bits .and .i64 d 8=8↔d / 8 % 2=1:=cap_bit' (by have:=eW hc;omega) (by have:=eW hc;omega)
    clear hz1
    (refine aN Tryz.func114 rfl Tryz.ntmps114 rfl ?_;intro w0)
    repeat' (first|(refine aG ?_;first|(refine aC ?_;(first|refine aO rfl (aK ⟨Tryz.call58⟩ rfl (Check_c _ _ _ _ _ _ _ xs h)) ?_|refine aO rfl (aK ⟨Tryz.call124⟩ rfl (id_c _ _)) ?_|refine aO rfl (aK ⟨Tryz.call106⟩ rfl (Has_c _ _ _ _ _ _ _ _ xs h)) ?_|refine aO rfl (aK ⟨Tryz.call105⟩ rfl (Can_c _ _ _ _ _ _ _ _)) ?_))|refine st9 ?_|(refine al9 ?_;intro γ)|refine pu9 ?_)|refine bV ?_|(refine aJ rfl rfl rfl ?_ ?_<;>intro hq<;>try exact no9)|(refine aA rfl ?_ ?_<;>intro hq<;>try exact no9)|(refine bT (id:=8) _ mixed (List.Sublist.refl _) ?_;refine gt9 0 ?_;refine gt9 1 ?_;refine gt9 2 ?_;refine gt9 3 ?_;refine gt9 5 ?_;refine gt9 6 ?_;(refine iC (i:=4) (j:=8) (by kernel_rfl) rfl rfl rfl rfl vl9 vl9 cC ?_ ?_<;>first|((refine bQ rfl und_25 inf_3 rfl rfl rfl cX.nil eL (nE hsrc) cI (by omega) rfl rfl ?_;intro A' c' L1 hr);refine gt9 7 ?_;refine bM (i:=8) rfl ?_;(refine eN rfl zer_27 rfl ?_;intro γ);refine bM (i:=9) rfl ?_;refine aP rfl siz_27 rfl rfl rfl rfl cI fU rfl ?_;refine bC (by kernel_rfl) vl9 vl9 cC ?_)|((refine eN rfl zer_27 rfl ?_;intro γ);refine bM (i:=4) rfl ?_;(refine bQ rfl und_25 inf_3 rfl rfl rfl cX.nil eL (nE hsrc) cI (by omega) rfl rfl ?_;intro A' c' L1 hr);refine gt9 7 ?_;refine bM (i:=9) rfl ?_;refine aP rfl siz_27 rfl rfl rfl rfl cI fU rfl ?_;refine bC (by kernel_rfl) vl9 vl9 cC ?_))))
    all_goals first
      | (refine iJ hr bD ?_
         intro V2 hV2 hc2
         (refine bL Tryz.results114 (aU agg_27 rfl bN (by exact rfl)) (aB rfl) ?_)
         have e0:uC a b d xs user group=0:=by
           rw [uC,if_neg (by omega),if_neg (by omega),if_neg]
           rintro ⟨h1,h2⟩
           first|omega|(simp_all;done)
         have hi:=rJ hl (by omega) hc2
         simp only [Nat.zero_add]
         first
           | (have e1:nW a d user=d:=by (rw [nW,if_neg (by omega)])
              exact .inl ⟨e0,A',c',by rw [e1];rfl,hi⟩)
           | (have e1:nW a d user=0:=by (rw [nW,if_pos (by omega)])
              exact .inl ⟨e0,A',c',by rw [e1];rfl,hi⟩))
      | ((refine bL Tryz.results114 (aU agg_27 rfl bN (by exact rfl)) (aB rfl) ?_)
         have e:uC a b d xs user group=1:=by (rw [uC,if_neg (by omega),if_pos (by omega)])
         exact .inr ⟨by omega,by rw [e];rfl⟩)
      | ((refine bL Tryz.results114 (aU agg_27 rfl bN (by exact rfl)) (aB rfl) ?_)
         have e:uC a b d xs user group=10:=by
           rw [uC,if_neg (by omega),if_neg (by omega),if_pos]
           refine⟨by omega,?_⟩
           first|(left;omega)|(right;assumption)
         exact .inr ⟨by omega,by rw [e];rfl⟩)
  · (refine aN Tryz.func114 rfl Tryz.ntmps114 rfl ?_;intro w0)
    repeat' (first|(refine aG ?_;first|(refine aC ?_;refine aO rfl (aK ⟨Tryz.call58⟩ rfl (Check_c _ _ _ _ _ _ _ xs h)) ?_)|refine st9 ?_|(refine al9 ?_;intro γ)|refine pu9 ?_)|refine bS ?_|(refine aA rfl ?_ ?_<;>intro hq<;>try exact no9))
    all_goals (refine bL Tryz.results114 (aU agg_27 rfl bN (by exact rfl)) (aB rfl) ?_)
    all_goals exact .inr ⟨by rw [uC,if_pos hc];exact hc,by rw [uC,if_pos hc];rfl⟩
end
section
theorem qR.read {f:FuncId} {args:List Value} {V:aE} {p:Nat} {b:BX} {I:BI} {L1:List Box} {R:Value→aE→Prop} (hok:bI b) (hW:qR V b I L1) (hR:∀ v V gs,yJ V gs→R v V→R v (V.off gs)) (hc:∀ V',VLe V V'→fN V' I.K I.m I.xs→Fn Tryz.prog f args V' R) :
    FnB Tryz.prog f args V (⟨p,90,bxC I b⟩ :: L1) fun v V' Bs'=>Bs'=⟨p,90,bxC I b⟩ :: L1∧R v V':=fun w hst=>by
  obtain⟨q,x0,xt,rest,hK,hx,hL1,hlen,hme2,hml,hm0⟩:=hW.open_ hok
  subst hL1
  have hlent:Lent [(q,(x0 :: xt).flatMap lnC)] (⟨p,90,bxC I b⟩ :: [⟨q,50,(x0 :: xt).flatMap lnC ++ rest⟩]):=by
    intro c hc
    rw [List.mem_singleton.1 hc]
    exact⟨_,_,List.mem_cons_of_mem _ List.mem_cons_self,List.prefix_append _ _⟩
  have hd:=hok.data hW
  have hcl:∀ c∈[(q,(x0 :: xt).flatMap lnC)],calmC c.2:=by
    intro c hc
    rw [List.mem_singleton.1 hc]
    exact tX (by rw [←hx];exact hd)
  have hq:aD (V.plus [(q,(x0 :: xt).flatMap lnC)]) q 0 ((x0 :: xt).flatMap lnC):=tL hst.apart (by unfold iG;simp) (fun j=>by rw [lX,if_pos ⟨rfl,rfl⟩])
  have hN:fN (V.plus [(q,(x0 :: xt).flatMap lnC)]) I.K I.m I.xs:=by
    rw [hK,hx]
    refine fN.of ⟨?_,fun _=>⟨q,0,rfl,hq⟩⟩ (by rw [←hx];exact hW.len) (Nat.le_trans hme2 hml) (fun y hy=>(hW.ls y (by rw [hx];exact hy)).le nU)
    rw [eU lnC uV,←hx,hW.len]
  refine(Fn.lend hlent (fun _=>hc _ nU hN) w hst).mono fun e w' ⟨v,V',Bs',he,hst2,hB2,V3,g1,g2,g3,g4⟩=>?_
  exact⟨v,V',Bs',he,hst2,hB2,by rw [g2];exact hR v V3 _ (yJ.of g4 hcl (by simp)) g3⟩
theorem qR.m4 {V:aE} {b:BX} {I:BI} {L1:List Box} (hok:bI b) (hW:qR V b I L1):I.m≤4:=by rw [←hW.lens];exact hok.l4
theorem BelowB_c {V:aE} {p:Nat} {b:BX} {I:BI} {L1:List Box} (hok:bI b) (hW:qR V b I L1) (Bo:Option Addr) (m e:Nat) (ss:List ByteArray) (hs:cV V Bo m ss) (hme:m≤e) :
    FnB Tryz.prog 50 [.slice I.K I.m I.e,.slice Bo m e] V (⟨p,90,bxC I b⟩ :: L1) fun v V' Bs'=>Bs'=⟨p,90,bxC I b⟩ :: L1∧v=.bool (kR b.ls ss) :=
  hW.read hok (fun v V gs _ h=>h) fun V' hV hN=>by
    have:=Below_c V' I.K I.m I.e I.xs hN (by have:=hW.m4 hok;omega) Bo m e ss (hs.le hV) hme
    rw [hW.eq] at this;exact this
theorem ListB_c {V:aE} {p:Nat} {b:BX} {I:BI} {L1:List Box} (hok:bI b) (hW:qR V b I L1) (Bo:Option Addr) (m e:Nat) (ss:List ByteArray) (hs:cV V Bo m ss) :
    FnB Tryz.prog 86 [.slice I.K I.m I.e,.slice Bo m e] V (⟨p,90,bxC I b⟩ :: L1) fun v V' Bs'=>Bs'=⟨p,90,bxC I b⟩ :: L1∧∃ A c,v=.slice A (lC (dT b.ls ss)).length c :=
  hW.read hok (fun v V gs _ h=>h) fun V' hV hN=>by
    have:=List_c V' I.K I.m I.e I.xs hN (by have:=hW.m4 hok;omega) Bo m e ss (hs.le hV) (by rw [hW.eq];exact box_names hok ss)
    rw [hW.eq] at this
    exact this.mono fun v V2 _ ⟨A,n,c,h1,h2,_⟩=>⟨A,c,by rw [h1,h2.1.1]⟩
theorem takes_b {V:aE} {p:Nat} {b:BX} {Bs:List Box} (hok:bI b) (h:fE V p b Bs) (x:LN) (lay:Int) (s:SP) (hp:0≤s.par.mode∧s.par.mode≤4095) (ht:0≤s.th.mode∧s.th.mode≤4095):FnB Tryz.prog 94 [.pointer (some ⟨p,0,none⟩),foV x lay s.par s.th] V Bs fun v V' Bs'=>Bs'=Bs∧v=bA (gH b s) :=
  fE.read hok h (fun v V gs hc hR=>hR) fun V' I hV hB=>takes_c V' p b I hok hB x lay s hp ht
theorem attrs_b4 {V:aE} {p:Nat} {b:BX} {Bs:List Box} (hok:bI b) (h:fE V p b Bs) (th:TH) (ht:0≤th.mode∧th.mode≤4095) (nm:ByteArray) (hm:nm.size≤9223372036854775807):FnB Tryz.prog 109 [.pointer (some ⟨p,0,none⟩),thV th,.string nm,.int .i64 4] V Bs fun v V' Bs'=>Bs'=Bs∧v=bA (jG b th nm 4) :=
  fE.read hok h (fun v V gs hc hR=>hR) fun V' I hV hB=>attrs_c V' p b I hok hB th ht nm hm 4 (.inr (.inr rfl))
theorem gone_get {b:BX} {u:PN} {ss:List ByteArray} {v:Bool} (h:kR b.ls ss=v):lF b u ss=(if v=true then pF false whiteN u ss else pF true pnZ u ss)∧tG b u ss=(if v=true then pN false whiteN u ss else pN true pnZ u ss):=by subst h;exact⟨rfl,rfl⟩
theorem parts_ne (l:List UInt8):0<(parts l).length:=by
  cases l with
  | nil=>simp [parts]
  | cons c l =>
    rw [parts]
    split
    · simp
    · split<;>simp
theorem pathN_ne {l:List UInt8} (h:eI l=0) (h2:¬l=[47]):0<(aQ l).length:=by
  unfold aQ baL;rw [if_pos ⟨h,h2⟩,List.length_map];exact parts_ne _
theorem there_pathF {b:BX} {l:List UInt8} (h:dH b l=0):eI l=0:=by
  unfold dH at h
  by_cases h2:eI l=0
  · exact h2
  · rw [if_pos h2] at h;exact absurd h h2
theorem slash_ne {s:ByteArray} (h:¬s=⟨#[47]⟩):¬aH s=[47]:=fun e=>h (by rw [←kH s,e];rfl)
theorem up_mid {b:BX} (hok:bI b) {ss:List ByteArray} (hm:ss.length≤100) (h:(upP b.ls b.us b.gs ss).2=0):cH (fV 200) (upP b.ls b.us b.gs ss).1:=by
  obtain⟨n0,t0,hls,hkd0⟩:=hok.root
  exact up_bd9 hok.light (by rw [hls];exact hok.light n0 (by rw [hls];simp)) hm h
theorem UpT_c {V:aE} {p:Nat} {b:BX} {I:BI} {L1:List Box} (hok:bI b) (hW:qR V b I L1) (Bo:Option Addr) (m e:Nat) (ss:List ByteArray) (hs:cV V Bo m ss) (hme:m≤e) (hm:0<m∧m≤100) :
    FnB Tryz.prog 95 [.slice I.K I.m I.e,lmV I.M,.slice Bo (((m:Nat):Int) - 1).toNat e] V (⟨p,90,bxC I b⟩ :: L1) fun v V' Bs'=>Bs'=⟨p,90,bxC I b⟩ :: L1∧UpR (upP b.ls b.us b.gs (ss.take (ss.length - 1))) (bA (upP b.ls b.us b.gs (ss.take (ss.length - 1))).2) v V':=by
  have sl:=hs.1.1
  have e9:(((m:Nat):Int) - 1).toNat=ss.length - 1:=by omega
  rw [e9]
  exact UpB_c (p:=p) hok hW Bo _ e _ (uH hs (by omega)) (by omega) (by omega)
attribute [local irreducible] AtQ GoC GoL GoW QO QP Fn RV bF aD VLe bU bA
theorem without_c (V:aE) (p:Nat) (b:BX) (I:BI) (L1:List Box) (hok:bI b) (hW:qR V b I L1) (y:LN) (hy:aT V y) (hmid:cH midP y.n) (Bo:Option Addr) (m e:Nat) (ss:List ByteArray) (hs:cV V Bo m ss) (hme:m≤e) :
    FnB Tryz.prog 96 [.pointer (some ⟨p,0,none⟩),lnV y,.slice Bo m e] V (⟨p,90,bxC I b⟩ :: L1) fun v V' Bs'=>Bs'=⟨p,90,bxC I b⟩ :: L1∧∃ z:LN,v=.tuple #[lnV z,bA (lF b y.n ss)]∧aT V' z∧(lF b y.n ss=0→z.n=tG b y.n ss):=by
  have hB:=fun V2 (hV2:VLe V V2)=>BelowB_c (p:=p) hok (hW.le hV2) Bo m e ss (hs.le hV2) hme
  have hPu:=fun V2 (hV2:VLe V V2)=>Put_c V2 y (hy.le hV2) hmid Bo m e ss (hs.le hV2) hme (newL 3 0 0 0 false ⟨#[]⟩) (newL_node (Nat.zero_le _)) (.mk ⟨Nat.zero_le _,Nat.zero_le _⟩ (by simp))
  have hCu:=fun V2 (hV2:VLe V V2)=>Cut_tc V2 y (hy.le hV2) hmid Bo m e ss (hs.le hV2) hme
  rw [show (newL 3 0 0 0 false ⟨#[]⟩).n=whiteN from rfl] at hPu
  obtain⟨e1,e2⟩:=gone_get (b:=b) (u:=y.n) (ss:=ss) (v:=kR b.ls ss) rfl
  rw [e1,e2]
  clear e1 e2
  generalize kR b.ls ss=be at *
  (refine aL Tryz.func96 rfl Tryz.ntmps96 rfl ?_;intro w0)
  repeat' (first|(refine aG ?_;first|(refine aC ?_;(first|(refine aM rfl ⟨Tryz.call50⟩ rfl bD rfl (hB _ vl9) ?_;rintro v V2 B2 hV2 ⟨rfl,rfl⟩)|(refine aS rfl ⟨Tryz.call101⟩ rfl rfl (hPu _ vl9) ?_;rintro v V3 hV3 ⟨z,rfl,hzN,hzn⟩)|(refine aS rfl ⟨Tryz.call152⟩ rfl rfl (hCu _ vl9) ?_;rintro v V3 hV3 ⟨z,rfl,hzN,hzn⟩)))|refine st9 ?_|(refine al9 ?_;intro γ)|refine pu9 ?_)|refine bS ?_|(refine bY rfl ?_ ?_<;>intro hq))
  all_goals subst hq
  all_goals first
    | (refine kP ?_;(refine bJ Tryz.results96 (aU agg_50 rfl bN (by exact rfl)) (aB rfl) (show List.Sublist (⟨p,90,bxC I b⟩ :: L1) _ from sl9) ?_)
       refine⟨rfl,z,rfl,hzN,fun h9=>?_⟩
       rw [if_pos rfl] at h9
       rw [if_pos rfl,hzn,putP,if_pos h9])
    | (refine kP ?_;(refine bJ Tryz.results96 (aU agg_50 rfl bN (by exact rfl)) (aB rfl) (show List.Sublist (⟨p,90,bxC I b⟩ :: L1) _ from sl9) ?_)
       refine⟨rfl,z,rfl,hzN,fun h9=>?_⟩
       rw [if_neg (by decide)] at h9
       rw [if_neg (by decide),hzn,putP,if_pos h9])
theorem get_c (V:aE) (p:Nat) (b:BX) (Bs:List Box) (hok:bI b) (h:fE V p b Bs) (c:CL) (hc:c.path.size≤1000000) (hn:c.name.size≤9223372036854775807):FnB Tryz.prog 48 [.pointer (some ⟨p,0,none⟩),clV c] V Bs fun v V' Bs'=>Bs'=Bs∧gJ (tI b c) (bA (tI b c).2) v V':=by
  obtain⟨I,L1,rfl,hW⟩:=h
  have hT:=fun V2 (hV2:VLe V V2)=>tV (V:=V2) (p:=p) hok ⟨I,L1,rfl,hW.le hV2⟩ c.path hc
  have hth:=iU hok (aH c.path)
  have hC:=fun V2=>kV V2 c.name hn
  have hAt:=fun V2 (hV2:VLe V V2)=>attrs_b4 (V:=V2) (p:=p) hok ⟨I,L1,rfl,hW.le hV2⟩ _ hth c.name hn
  (refine aL Tryz.func48 rfl Tryz.ntmps48 rfl ?_;intro w0)
  repeat' (first|(refine aG ?_;first|(refine aC ?_;(first|refine aO rfl (aK ⟨Tryz.call108⟩ rfl (hC _)) ?_|(refine aM rfl ⟨Tryz.call85⟩ rfl bD rfl (hT _ vl9) ?_;rintro v V2 B2 hV2 ⟨rfl,hR⟩;rcases hR with ⟨ht0,A,n,k,x,rfl,hs,hnk,hxN,hxn⟩|⟨ht0,A,n,k,x,lay,par,th,rfl⟩)|(refine aM rfl ⟨Tryz.call109⟩ rfl bD rfl (hAt _ vl9) ?_;rintro v V3 B3 hV3 ⟨rfl,rfl⟩)))|(refine cY ?_;refine aP rfl siz_152 rfl rfl rfl rfl cI lP rfl ?_)|refine st9 ?_|(refine al9 ?_;intro γ)|refine pu9 ?_)|refine nO ?_|refine iR [0,1,2,3,4,5,6,7,8] rfl ?_|(refine aA rfl ?_ ?_<;>intro hq<;>try exact no9))
  all_goals first
    | (exfalso;exact absurd ht0 (by assumption))
    | (refine kP ?_;(refine bJ Tryz.results48 (aU agg_42 rfl bN (by exact rfl)) (aB rfl) (show List.Sublist (⟨p,90,bxC I b⟩ :: L1) _ from sl9) ?_)
       refine⟨rfl,?_⟩
       first
       | (rw [show tI b c=(tdZ,4) from if_pos (by assumption)];exact gJ.no (by decide))
       | (rw [show tI b c=(tdZ,dH b (aH c.path)) by unfold tI;rw [if_neg (by assumption),if_pos ht0]];exact gJ.zero)
       | (rw [show tI b c=(tdZ,jG b (bE b (aH c.path)).th c.name 4) by unfold tI;rw [if_neg (by assumption),if_neg (not_not_intro ht0),if_pos (by assumption)]];exact gJ.zero))
    | skip
  have hG:=fun V9 (hV9:VLe V2 V9)=>Get_c V9 x.A x.na x.ca x.h.attrs c.name (hxN.le hV9).inv.1 hn
  have hxh:(bE b (aH c.path)).n.h.attrs=x.h.attrs:=by rw [←hxn];rfl
  rw [show tI b c=({ tdZ with data:=if tN c.name x.h.attrs=true∧mN x.h.attrs c.name=0 then getA c.name x.h.attrs else ⟨#[]⟩ },mN x.h.attrs c.name) by
    unfold tI;rw [if_neg (by assumption),if_neg (not_not_intro ht0),if_neg (by assumption),hxh]]
  unfold GetR at hG
  generalize mN x.h.attrs c.name=gf at *
  generalize (if tN c.name x.h.attrs=true∧gf=0 then getA c.name x.h.attrs else ⟨#[]⟩)=gd at *
  repeat' (first|(refine aG ?_;first|(refine aC ?_;refine aO rfl (aK ⟨Tryz.call113⟩ rfl (hG _ vl9)) ?_)|refine st9 ?_|refine pu9 ?_)|refine bS ?_|fail)
  all_goals
    (refine bJ Tryz.results48 (aU agg_42 rfl bN (by exact rfl)) (aB rfl) (show List.Sublist (⟨p,90,bxC I b⟩ :: L1) _ from sl9) ?_)
    exact⟨rfl,none,0,0,rfl,cV.nil,Nat.le_refl _⟩
theorem beOk {b:BX} (hok:bI b) {u g:Int} (h:uC b.c.u b.c.g b.c.d b.c.xs u g=0):bI { b with c:=beC b u g }:=by
  have hc:=hok.c
  have hz:=eW hc
  unfold uC at h
  rw [if_neg (not_not_intro hc)] at h
  split at h
  · omega
  · rename_i h1
    refine⟨?_,hok.q,hok.l1,hok.l4,hok.up,hok.lo⟩
    show kZ u g (nW b.c.u b.c.d u) b.c.xs=0
    have hd:0≤nW b.c.u b.c.d u∧nW b.c.u b.c.d u≤15:=by unfold nW;split<;>omega
    rw [credF_of (by omega) (by omega) hd hz.2.2.2.1]
    rw [credF_of (by omega) (by omega) (by omega) hz.2.2.2.1] at hc
    exact hc
theorem be_c (V:aE) (p:Nat) (b:BX) (Bs:List Box) (hok:bI b) (h:fE V p b Bs) (u g:Int):FnB Tryz.prog 49 [.pointer (some ⟨p,0,none⟩),.int .i64 u,.int .i64 g] V Bs (ChB p (beP b u g)):=by
  obtain⟨I,L1,rfl,hW⟩:=h
  have hBe:=fun V2 (hV2:VLe V V2)=>Become_c V2 b.c.u b.c.g b.c.d I.A I.n I.k b.c.xs (hW.xs.le hV2) u g
  have hOut:=fun V2 (hV2:VLe V V2)=>tF V2 I.M (hW.M.le hV2) _ (newL9_node (u:=u) (g:=g)) newL9_small
  rw [hW.us,hW.gs,show (newL9 u g).n=idN u g from rfl] at hOut
  (refine aL Tryz.func49 rfl Tryz.ntmps49 rfl ?_;intro w0)
  repeat' (first|(refine aG ?_;first|(refine aC ?_;(first|(refine aS rfl ⟨Tryz.call114⟩ rfl rfl (hBe _ vl9) ?_;rintro v V1 hV1 (⟨h0,A1,c1,rfl,hI1⟩|⟨h0,rfl⟩))|(refine aS rfl ⟨Tryz.call38⟩ rfl rfl (hOut _ vl9) ?_;rintro v V2 hV2 ⟨y,rfl,hyN,hyn⟩)))|refine st9 ?_|(refine al9 ?_;intro γ)|refine pu9 ?_)|refine nO ?_|refine iR [0,1,2,3,4,5,6] rfl ?_|(refine aA rfl ?_ ?_<;>intro hq<;>try exact no9))
  all_goals first
    | (exfalso;exact absurd rfl (by assumption))
    | (exfalso;exact absurd (by assumption) h0)
    | (refine kP ?_;(refine aV Tryz.results49 (aB rfl) (show List.Sublist (⟨p,90,bxC I b⟩ :: L1) _ from sl9) ?_)
       first
       | (rw [show beP b u g=(b,uC b.c.u b.c.g b.c.d b.c.xs u g) from if_pos h0];exact⟨rfl,I,_,rfl,hW.le vl9⟩)
       | (rw [show beP b u g=(b,11) by
            unfold beP
            rw [if_neg (not_not_intro h0),if_pos]
            cases hm:dK true b.us b.gs (idN u g) with
            | none=>rfl
            | some z=>rw [hm] at hq;exact absurd rfl hq]
          have hm9:movF (dK true b.us b.gs (idN u g))=11:=by
            unfold movF at hq ⊢
            split
            · rename_i h8;rw [if_pos h8] at hq;exact absurd rfl hq
            · rfl
          exact⟨by rw [hm9];rfl,I,_,rfl,hW.le vl9⟩))
    | skip
  have hms:¬dK true b.us b.gs (idN u g)=none:=fun h9=>by
    rw [h9] at hq
    exact hq (by decide)
  rw [show beP b u g=({ b with c:=beC b u g },0) by unfold beP;rw [if_neg (not_not_intro h0),if_neg hms]]
  repeat' (first|(refine aG ?_;first|refine st9 ?_|refine pu9 ?_)|refine bS ?_|fail)
  all_goals
    (refine aV Tryz.results49 (aB rfl) (show List.Sublist (⟨p,90,bxC { I with A:=A1,k:=c1 } { b with c:=beC b u g }⟩ :: L1) _ from sl9) ?_)
    have hW2:=hW.le (hV1.trans hV2)
    exact⟨bO.symm,{ I with A:=A1,k:=c1 },L1,rfl,hW2.M,hW2.us,hW2.gs,hI1.le hV2,trivial,hW2.row,hW2.ls,hW2.len,hW2.eq⟩
theorem remove_c (V:aE) (p:Nat) (b:BX) (Bs:List Box) (hok:bI b) (h:fE V p b Bs) (s:ByteArray) (hc:s.size≤1000000):FnB Tryz.prog 43 [.pointer (some ⟨p,0,none⟩),.string s] V Bs (ChB p (iH b s)):=by
  obtain⟨I,L1,rfl,hW⟩:=h
  have hT:=fun V2 (hV2:VLe V V2)=>tV (V:=V2) (p:=p) hok ⟨I,L1,rfl,hW.le hV2⟩ s hc
  have hth:=iU hok (aH s)
  have hpm:=rX hok (aQ (aH s)) (aQ (aH s)).length
  have hTk:=fun V2 (hV2:VLe V V2) x=>takes_b (V:=V2) (p:=p) hok ⟨I,L1,rfl,hW.le hV2⟩ x (bE b (aH s)).lay (bE b (aH s)) hpm hth
  have hLi:=fun V2 (hV2:VLe V V2) A m e hs=>ListB_c (p:=p) hok (hW.le hV2) A m e (aQ (aH s)) hs
  have hll:=listP_len (dT b.ls (aQ (aH s)))
  have hfew:=mJ (aH s)
  (refine aL Tryz.func43 rfl Tryz.ntmps43 rfl ?_;intro w0)
  repeat' (first|(refine aG ?_;first|(refine aC ?_;(first|(refine aM rfl ⟨Tryz.call85⟩ rfl bD rfl (hT _ vl9) ?_;rintro v V2 B2 hV2 ⟨rfl,hR⟩;rcases hR with ⟨ht0,A,n,k,x,rfl,hs,hnk,hxN,hxn⟩|⟨ht0,A,n,k,x,lay,par,th,rfl⟩)|(refine aM rfl ⟨Tryz.call94⟩ rfl bD rfl (hTk _ vl9 x) ?_;rintro v V3 B3 hV3 ⟨rfl,rfl⟩)|(refine aM rfl ⟨Tryz.call86⟩ rfl bD rfl (hLi _ vl9 _ _ _ (hs.le vl9)) ?_;rintro v V4 B4 hV4 ⟨rfl,A4,c4,rfl⟩)))|(refine cY ?_;refine aP rfl siz_152 rfl rfl rfl rfl cI lP rfl ?_)|(refine al9 ?_;intro γ)|refine pu9 ?_)|refine bV ?_|(refine aA rfl ?_ ?_<;>intro hq<;>try exact no9))
  all_goals first
    | (exfalso;exact absurd ht0 (by assumption))
    | (exfalso;exact absurd (by assumption) ht0)
    | (refine kP ?_;(refine aV Tryz.results43 (aB rfl) (show List.Sublist (⟨p,90,bxC I b⟩ :: L1) _ from sl9) ?_)
       first
       | (rw [show iH b s=(b,15) from if_pos (by assumption)];exact⟨cP 15 rfl,I,_,rfl,hW.le vl9⟩)
       | (rw [show iH b s=(b,dH b (aH s)) by unfold iH;rw [if_neg (by assumption),if_pos ht0]];exact⟨rfl,I,_,rfl,hW.le vl9⟩)
       | (rw [show iH b s=(b,gH b (bE b (aH s))) by unfold iH;rw [if_neg (by assumption),if_neg (not_not_intro ht0),if_pos (by assumption)]];exact⟨rfl,I,_,rfl,hW.le vl9⟩)
       | (rw [show iH b s=(b,8) by unfold iH;rw [if_neg (by assumption),if_neg (not_not_intro ht0),if_neg (by assumption),if_pos (fun h9=>by rw [h9] at hq;exact absurd hq (by decide))]];exact⟨cP 8 rfl,I,_,rfl,hW.le vl9⟩))
    | skip
  have hpos:=pathN_ne (there_pathF ht0) (slash_ne (by assumption))
  have hn:=hs.1.1
  have hU:=UpT_c (p:=p) hok (hW.le (show VLe V V4 from vl9)) A n k _ (hs.le vl9) hnk (by omega)
  have hmid:=up_mid hok (ss:=(aQ (aH s)).take ((aQ (aH s)).length - 1)) (by rw [List.length_take];omega)
  rw [show iH b s=if ¬(upP b.ls b.us b.gs ((aQ (aH s)).take ((aQ (aH s)).length - 1))).2=0 then (b,(upP b.ls b.us b.gs ((aQ (aH s)).take ((aQ (aH s)).length - 1))).2)
      else gone2 b (upP b.ls b.us b.gs ((aQ (aH s)).take ((aQ (aH s)).length - 1))).1 (aQ (aH s)) by
    unfold iH;rw [if_neg (by assumption),if_neg (not_not_intro ht0),if_neg (by assumption),if_neg (not_not_intro (List.eq_nil_of_length_eq_zero (by omega)))]]
  generalize upP b.ls b.us b.gs ((aQ (aH s)).take ((aQ (aH s)).length - 1))=up at *
  refine eK (fun F V' L'=>∃ (γ8:Nat) (y2:LN),VLe V4 V'∧aT V' y2∧y2.n=up.1∧⟨γ8,50,lnC y2⟩ :: ⟨p,90,bxC I b⟩ :: L1=L'∧F=[(0,.pointer (some ⟨p,0,none⟩)),(5,.slice A n k),(7,bA up.2),(8,.pointer (some ⟨γ8,0,none⟩))]) ?_ ?_
  · refine bT (id:=11) _ mixed (List.Sublist.refl _) ?_;refine gt9 0 ?_;refine gt9 1 ?_;refine gt9 2 ?_;refine gt9 3 ?_;refine gt9 4 ?_;refine gt9 5 ?_;refine gt9 6 ?_;refine gt9 7 ?_;refine gt9 8 ?_;refine gt9 9 ?_;refine gt9 10 ?_;refine gt9 11 ?_;refine gO 12 rfl rfl (gQ und_40 siz_9 rfl rfl (by omega)) ?_;(refine iC (i:=13) (j:=17) (by kernel_rfl) rfl rfl rfl rfl vl9 vl9 cC ?_ ?_<;>first|((refine aM rfl ⟨Tryz.call95⟩ rfl bD rfl (hU) ?_;rintro v V5 B5 hV5 ⟨rfl,y2,rfl,hy2N,hy2n⟩);refine gt9 14 ?_;refine gt9 15 ?_;refine gt9 16 ?_;refine bM (i:=17) rfl ?_;(refine eN rfl zer_50 rfl ?_;intro γ);refine bM (i:=18) rfl ?_;refine aP rfl siz_50 rfl rfl rfl rfl cI fU rfl ?_;refine gt9 19 ?_;refine bC (by kernel_rfl) vl9 vl9 cC ?_)|((refine eN rfl zer_50 rfl ?_;intro γ);refine bM (i:=13) rfl ?_;(refine aM rfl ⟨Tryz.call95⟩ rfl bD rfl (hU) ?_;rintro v V5 B5 hV5 ⟨rfl,y2,rfl,hy2N,hy2n⟩);refine gt9 14 ?_;refine gt9 15 ?_;refine gt9 16 ?_;refine bM (i:=18) rfl ?_;refine aP rfl siz_50 rfl rfl rfl rfl cI fU rfl ?_;refine gt9 19 ?_;refine bC (by kernel_rfl) vl9 vl9 cC ?_))
    all_goals exact fP _ ⟨_,y2,hV5,hy2N,hy2n,rfl,rfl⟩ bG sp9
  rintro F V5 L' ⟨γ8,y2,hV5,hy2N,hy2n,rfl,rfl⟩
  by_cases hu:up.2=0
  · rw [if_neg (not_not_intro hu)]
    have hub:=hmid hu
    have hWo:=fun V6 (hV6:VLe V5 V6)=>without_c V6 p b I L1 hok (hW.le (show VLe V V6 from ((hV2.trans hV3).trans hV4).trans (hV5.trans hV6))) y2 (hy2N.le hV6) (by rw [hy2n];exact hub.imp fun _ _=>mG (by omega)) A n k _ (hs.le ((hV3.trans hV4).trans (hV5.trans hV6))) hnk
    rw [hy2n] at hWo
    have hG:=fun V3 (hV3:VLe V V3) (z:LN) (hz:aT V3 z)=>grows_c V3 p b _ hok ⟨I,L1,rfl,hW.le hV3⟩ z hz
    repeat' (first|(refine aG ?_;first|(refine aC ?_;(refine aM rfl ⟨Tryz.call96⟩ rfl bD rfl (hWo _ vl9) ?_;rintro v V6 B6 hV6 ⟨rfl,z,rfl,hzN,hzn⟩))|refine st9 ?_|refine pu9 ?_)|refine gx9 ?_|refine iR [12,14] rfl ?_|(refine aA rfl ?_ ?_<;>intro hq<;>try exact no9))
    all_goals first
      | (exfalso;exact absurd hu (by assumption))
      | skip
    have e0:∀ l,l=lnC z→spl (lnC y2) 0 l=lnC z:=fun l hl=>by rw [hl];exact nI rfl
    rw [e0 _ (by rfl)]
    unfold gone2
    by_cases hpf:lF b up.1 (aQ (aH s))=0
    · rw [if_neg (not_not_intro hpf)]
      have hG2:=hG V6 vl9 z hzN
      rw [hzn hpf] at hG2
      repeat' (first|(refine aG ?_;first|(refine aC ?_;(refine aM rfl ⟨Tryz.call97⟩ rfl bD rfl (hG2) ?_;rintro v V7 B7 hV7 ⟨rfl,hB7⟩))|refine pu9 ?_)|refine bS ?_|(refine aA rfl ?_ ?_<;>intro hq<;>try exact no9))
      all_goals first
        | (exfalso;exact absurd hpf (by assumption))
        | (refine kP ?_;(refine aV Tryz.results43 (aB rfl) (List.Sublist.cons _ (List.Sublist.refl _)) ?_)
           exact⟨rfl,hB7⟩)
    · rw [if_pos hpf]
      repeat' (first|(refine aG ?_;refine pu9 ?_)|refine bS ?_|(refine aA rfl ?_ ?_<;>intro hq<;>try exact no9))
      all_goals first
        | (exfalso;exact absurd (by assumption) hpf)
        | (refine kP ?_;(refine aV Tryz.results43 (aB rfl) (show List.Sublist (⟨p,90,bxC I b⟩ :: L1) _ from sl9) ?_)
           exact⟨rfl,I,_,rfl,hW.le vl9⟩)
  · rw [if_pos hu]
    repeat' (first|(refine aG ?_;refine pu9 ?_)|refine bS ?_|(refine aA rfl ?_ ?_<;>intro hq<;>try exact no9))
    all_goals first
      | (exfalso;exact absurd (by assumption) hu)
      | (refine kP ?_;(refine aV Tryz.results43 (aB rfl) (show List.Sublist (⟨p,90,bxC I b⟩ :: L1) _ from sl9) ?_)
         exact⟨rfl,I,_,rfl,hW.le vl9⟩)
end
section
mutual
def nA:PN→Nat
  | .mk _ ks=>iQ ks
termination_by n=>SizeOf.sizeOf n
def iQ:PKs→Nat
  | []=>0
  | (_,n) :: ks=>max (nA n+1) (iQ ks)
termination_by ks=>SizeOf.sizeOf ks
end
theorem heightK_app:∀ (l m:PKs),iQ (l ++ m)=max (iQ l) (iQ m)
  | [],m=>by rw [List.nil_append,iQ];omega
  | (nm,n) :: l,m=>by rw [List.cons_append,iQ,iQ,heightK_app l m];omega
theorem heightK_take {ks:PKs} {k:Nat} {e:ByteArray×PN} (h:ks[k]?=some e):iQ (ks.take (k+1))=max (iQ (ks.take k)) (nA e.2+1):=by
  obtain⟨a,b⟩:=e
  rw [List.take_add_one,h,heightK_app];simp [iQ]
theorem heightP_eq (n:PN):nA n=iQ n.ks:=by
  obtain⟨h,ks⟩:=n
  rw [nA];rfl
theorem heightK_le {d:Nat}:∀ {ks:PKs},(∀ k∈ks,nA k.2≤d)→iQ ks≤d+1
  | [],_=>by rw [iQ];omega
  | (nm,n) :: ks,h=>by
    rw [iQ]
    have h1:=h (nm,n) (by simp)
    have h2:=heightK_le (ks:=ks) fun k hk=>h k (by simp [hk])
    simp only at h1
    omega
theorem vR:∀ {d:Nat} {n:PN},Deep d n→nA n≤d
  | 0,_,h=>h.zero.elim
  | d+1,n,h=>by
    rw [heightP_eq]
    exact heightK_le fun k hk=>vR (h.kid k hk)
mutual
theorem countF_dp9 (upper:Bool):∀ (deep so:Nat) (n:PN),(cE upper deep so n).2=0→Deep (7 - deep) n
  | deep,so,.mk h ks,h0=>by
    rw [cE] at h0
    split at h0
    · simp at h0
    · rename_i h1
      split at h0
      · rename_i h2;exact absurd h0 h2
      · obtain⟨e,he⟩:∃ e,7 - deep=e+1:=⟨6 - deep,by omega⟩
        rw [he]
        refine .mk fun k hk=>?_
        have:=countK_dp9 upper deep (so+1) none ks h0 k hk
        rwa [show 7 - (deep+1)=e by omega] at this
theorem countK_dp9 (upper:Bool):∀ (deep so:Nat) (prev:Option ByteArray) (ks:PKs),(dQ upper deep so prev ks).2=0→∀ k∈ks,Deep (7 - (deep+1)) k.2
  | deep,so,prev,[],h0=>by simp
  | deep,so,prev,(nm,n) :: ks,h0=>by
    rw [dQ] at h0
    split at h0
    · simp at h0
    · split at h0
      · simp at h0
      · split at h0
        · rename_i h3;exact absurd h0 h3
        · rename_i h3
          intro k hk
          rcases List.mem_cons.1 hk with rfl|hk
          · exact countF_dp9 upper (deep+1) so n (Decidable.not_not.1 h3)
          · exact countK_dp9 upper deep _ _ ks h0 k hk
end
theorem tree_deep {u:Bool} {n:PN} (h:dD u n=0):Deep 7 n:=by
  unfold dD at h
  split at h
  · omega
  · exact countF_dp9 u 0 0 n h
theorem stepP_deep' {d:Nat} {r:List PF} {s:ByteArray} (h:∀ f∈r,Deep d f.1):∀ f∈eJ r s,Deep d f.1:=by
  cases d with
  | zero =>
    cases r with
    | nil=>intro f hf;exact absurd hf (by unfold eJ;simp [dV])
    | cons f r=>exact(h f (by simp)).zero.elim
  | succ d=>exact fun f hf=>(stepP_deep h f hf).up _ (by omega)
theorem walkP_deep {d:Nat} {l:List PN} (h:∀ x∈l,Deep d x) (ss:List ByteArray):∀ f∈dT l ss,Deep d f.1:=by
  have key:∀ (ss:List ByteArray) (a:List PF),(∀ f∈a,Deep d f.1)→∀ f∈ss.foldl eJ a,Deep d f.1:=fun ss=>by
    induction ss with
    | nil=>intro a ha;exact ha
    | cons s ss ih=>intro a ha;exact ih _ (stepP_deep' ha)
  exact key ss _ fun f hf=>h _ (vG (lM hf))
theorem height_max (a b:Nat):(max (a:Int) (1+(b:Int)))=((max a (b+1):Nat):Int):=by omega
attribute [local irreducible] AtQ GoC GoL GoW QO QP Fn RV bF aD VLe bU bA
theorem height_c:∀ (d:Nat),d≤1000→∀ (V:aE) (x:LN),aT V x→Deep d x.n→Fn Tryz.prog 99 [lnV x] V fun v _=>v=.int .i64 (nA x.n:Int):=by
  intro d
  induction d with
  | zero=>intro _ V x hx hd;exact hd.zero.elim
  | succ d ih =>
    intro hdl V x hx hd
    obtain⟨ha,hca,hdt,hck,es,hk,hks⟩:=hx.inv
    have hl:=hk.len
    have hm:=hk.max
    have hz:x.ks.length=x.nk:=by rw [hks,List.length_map,hl]
    have hdk:∀ e∈es,Deep d e.x.n:=fun e he=>hd.kid (kz e) (by show kz e∈x.ks;rw [hks];exact List.mem_map_of_mem he)
    (refine aN Tryz.func99 rfl Tryz.ntmps99 rfl ?_;intro w0)
    repeat' (first|(refine aG ?_;first|(refine aC ?_;refine aI (q_max rfl rfl rfl) ?_)|(refine al9 ?_;intro γ)|refine pu9 ?_)|refine cM ?_|fail)
    refine bZ (fun F V2 L' m=>∃ k:Nat,VLe V V2∧[]=L'∧k≤x.nk∧m=x.nk - k∧F=[(3,.int .i64 (iQ (x.ks.take k):Int)),(7,.slice x.K x.nk x.ck),(8,.int .i64 (x.nk:Int)),(9,.int .i64 (k:Int))]) (m:=x.nk) ⟨0,VLe.refl _,rfl,Nat.zero_le _,by omega,by rw [List.take_zero,iQ]⟩ bG rfl (List.nil_sublist _) ?_
    rintro F V2 L' m ⟨k,hV2,rfl,hkn,rfl,rfl⟩
    by_cases hlt:k<x.nk
    · obtain⟨b1,o1,e,hK1,he,hem,hc,c0,c1,hms,hne⟩:=(hk.le hV2).at_ hlt
      have hke:x.ks[k]?=some (kz e):=by rw [hks,List.getElem?_map,he];rfl
      have ht:=heightK_take hke
      have hh:=ih (by omega) V2 e.x hne (hdk e hem)
      have hb:=vR (hdk e hem)
      repeat' (first|(refine aG ?_;first|(refine aC ?_;(first|refine aI (q_max rfl rfl rfl) ?_|refine aO rfl (aK ⟨Tryz.call99⟩ rfl (hh)) ?_))|refine st9 ?_|(refine al9 ?_;intro γ)|refine pu9 ?_)|refine cM ?_|(refine aA rfl ?_ ?_<;>intro hq<;>try exact no9))
      all_goals
        refine aY _ (x.nk - (k+1)) ⟨k+1,vl9,rfl,by omega,rfl,by rw [ht,show (kz e).2=e.x.n from rfl,←height_max]⟩ (by omega) bG (List.nil_sublist _)
    · obtain rfl:k=x.nk:=by omega
      repeat' (first|(refine aG ?_;refine pu9 ?_)|refine eT ?_|(refine aA rfl ?_ ?_<;>intro hq<;>try exact no9))
      all_goals
        (refine aR Tryz.results99 (aB rfl) ?_)
        rw [heightP_eq,show x.n.ks=x.ks from rfl,List.take_of_length_le (by omega)]
end
section
theorem cH.and {p q:Hd→PKs→Prop} {n:PN} (h:cH p n) (k:cH q n):cH (fun hd ks=>p hd ks∧q hd ks) n:=by
  induction h with
  | mk h1 h2 ih =>
    cases k with
    | mk k1 k2=>exact .mk ⟨h1,k1⟩ fun x hx=>ih x hx (k2 x hx)
theorem upK_bdB {B:Nat} {l:List PN} {us gs:List PR} {ss:List ByteArray} {u0:PN} (hl:∀ x∈l,cH (fV B) x) (h0:cH (fV B) u0):∀ i,(upK l us gs ss u0 i).2=0→cH (fV (B+i)) (upK l us gs ss u0 i).1
  | 0,_=>h0
  | i+1,h=>by
    have hprev:(upK l us gs ss u0 i).2=0:=by
      by_cases hp:(upK l us gs ss u0 i).2=0
      · exact hp
      · rw [upK,if_neg hp] at h;exact absurd h hp
    have ih:=upK_bdB hl h0 i hprev
    rw [upK_on hprev] at h ⊢
    generalize (upK l us gs ss u0 i).1=u at *
    have hup:cH (fV (B+(i+1))) u:=ih.imp fun _ _=>kN (by omega)
    cases hq:dT l (ss.take (i+1)) with
    | nil=>rw [qJ hq];exact hup
    | cons f r =>
      by_cases hf:f.2=0
      · rw [sA hq hf];exact hup
      · cases hm:dK true us gs (oM f.1) with
        | none=>rw [vZ hq hf hm] at h;simp at h
        | some x =>
          by_cases hp:pF false x u (ss.take (i+1))=0
          · rw [rZ hq hf hm hp]
            have hlf:=kE hl (ss.take (i+1)) f (by rw [hq];simp)
            have hlb:cH (fV B) (oM f.1):=uS (fun hd ks hh=>⟨hh.1,Nat.zero_le _⟩) hlf
            have hlp:cH (fV B) x:=sT (fun hd ks u g hh=>hh) hm hlb
            exact vH (hlp.imp fun _ _ hh=>kN (Nat.le_add_right B i) hh) hp ih
          · rw [sM hq hf hm hp] at h;exact absurd h hp
def litQ (h:Hd) (ks:PKs):Prop:=oT h.attrs=true∧h.data.size≤300∧∀ k∈ks,k.1.size≤60
theorem edit_lit {x:PN} {hd:Hd} {ks:PKs} {s:ByteArray} (hs:s.size≤60) (hn:litQ hd ks) (hk:∀ k∈ks,cH litQ k.2) (hx:cH litQ x):cH litQ (.mk hd (nF false x ks s)):=by
  refine .mk ⟨hn.1,hn.2.1,fun k hk2=>?_⟩ fun k hk2=>?_
  · rcases pO hk2 with h|h
    · exact hn.2.2 k h
    · rw [h];exact hs
  · rcases pO hk2 with h|h
    · exact hk k h
    · rw [h];exact hx
theorem pN_lit {x:PN} (hx:cH litQ x):∀ {l:List ByteArray} {n:PN},(∀ s∈l,s.size≤60)→pF false x n l=0→cH litQ n→cH litQ (pN false x n l)
  | [],n,_,h,_=>by simp [pF] at h
  | [s],n,hs,_,hm=>by
    rw [pN]
    exact edit_lit (hs s (by simp)) hm.here (fun k hk=>hm.kid hk) hx
  | s :: t :: l,n,hs,h,hm=>by
    obtain⟨hk,m,hm2,h3⟩:=pF_cons.1 h
    rw [pN_cons hm2]
    exact edit_lit (hs s (by simp)) hm.here (fun k hk=>hm.kid hk) (pN_lit hx (fun y hy=>hs y (List.mem_cons_of_mem _ hy)) h3 (hm.kid (lJ hm2)))
theorem upK_lit {l:List PN} {us gs:List PR} {ss:List ByteArray} {u0:PN} (hs:∀ s∈ss,s.size≤60) (hl:∀ x∈l,cH litQ x) (h0:cH litQ u0):∀ i,(upK l us gs ss u0 i).2=0→cH litQ (upK l us gs ss u0 i).1
  | 0,_=>h0
  | i+1,h=>by
    have hprev:(upK l us gs ss u0 i).2=0:=by
      by_cases hp:(upK l us gs ss u0 i).2=0
      · exact hp
      · rw [upK,if_neg hp] at h;exact absurd h hp
    have hup:=upK_lit hs hl h0 i hprev
    rw [upK_on hprev] at h ⊢
    generalize (upK l us gs ss u0 i).1=u at *
    cases hq:dT l (ss.take (i+1)) with
    | nil=>rw [qJ hq];exact hup
    | cons f r =>
      by_cases hf:f.2=0
      · rw [sA hq hf];exact hup
      · cases hm:dK true us gs (oM f.1) with
        | none=>rw [vZ hq hf hm] at h;simp at h
        | some x =>
          by_cases hp:pF false x u (ss.take (i+1))=0
          · rw [rZ hq hf hm hp]
            have hlf:=kE hl (ss.take (i+1)) f (by rw [hq];simp)
            have hlb:cH litQ (oM f.1):=uS (fun hd ks hh=>⟨hh.1,hh.2.1,by simp⟩) hlf
            exact pN_lit (sT (fun hd ks u g hh=>hh) hm hlb) (fun s h9=>hs s (List.mem_of_mem_take h9)) hp hup
          · rw [sM hq hf hm hp] at h;exact absurd h hp
theorem fit_lit {h:Hd} {ks:PKs} (k:fitP h ks):litQ h ks:=by
  have h1:=fit_light k
  exact⟨h1.1,h1.2.1,h1.2.2.2⟩
theorem fit_bound {h:Hd} {ks:PKs} (k:fitP h ks):fV 60 h ks:=by
  obtain⟨_,_,_,_,h5,_,h7,_⟩:=k
  exact⟨by have:=h5.1;omega,by omega⟩
theorem up_light {b:BX} (hok:bI b) {ss:List ByteArray} (hs:∀ s∈ss,s.size≤60) (hm:ss.length≤20) (h:(upP b.ls b.us b.gs ss).2=0):cH jK (upP b.ls b.us b.gs ss).1:=by
  obtain⟨n0,t0,hls,_⟩:=hok.root
  have hf:=hok.fit
  have hn0:n0∈b.ls:=by rw [hls];simp
  have e0:b.ls.headD pnZ=n0:=by rw [hls];rfl
  unfold upP at h ⊢
  by_cases hw:dT b.ls ss=[]
  · rw [if_pos hw] at h;simp at h
  · rw [if_neg hw] at h ⊢
    rw [e0] at h ⊢
    have h1:=upK_bdB (B:=60) (fun x hx=>(hf x hx).imp fun _ _=>fit_bound) ((hf n0 hn0).imp fun _ _=>fit_bound) ss.length h
    have h2:=upK_lit hs (fun x hx=>(hf x hx).imp fun _ _=>fit_lit) ((hf n0 hn0).imp fun _ _=>fit_lit) ss.length h
    exact(h1.and h2).imp fun hd ks ⟨k1,k2⟩=>⟨k2.1,k2.2.1,by have:=k1.2;omega,k2.2.2⟩
theorem pathN_size {l:List UInt8}:∀ s∈aQ l,s.size≤60:=fun s hs=>by
  unfold aQ at hs
  split at hs
  · rename_i hc
    obtain⟨h1,h2⟩:=hc
    unfold eI at h1
    rw [if_neg h2] at h1
    split at h1
    · omega
    · split at h1
      · omega
      · rename_i h3
        have h3:=Decidable.not_not.1 h3
        obtain⟨q,hq,rfl⟩:=List.mem_map.1 hs
        have:=List.all_eq_true.1 h3 q hq
        have h9:=name_len (s:=⟨q.toArray⟩) (by rw [Lib.toList_data];exact this)
        omega
  · cases hs
def move4 (b:BX) (dir:Bool) (n u:PN) (ss other:List ByteArray):BX×Int :=
  if ¬lF b u ss=0 then (b,lF b u ss) else putG b (.mk { n.h with opq:=dir && kR b.ls other } n.ks) (tG b u ss) other
def move3 (b:BX) (dir:Bool) (ss other:List ByteArray):BX×Int :=
  if ¬(upP b.ls b.us b.gs ss).2=0 then (b,(upP b.ls b.us b.gs ss).2)
  else if ¬(upP ((upP b.ls b.us b.gs ss).1 :: b.ls.tail) b.us b.gs (other.take (other.length - 1))).2=0 then (b,(upP ((upP b.ls b.us b.gs ss).1 :: b.ls.tail) b.us b.gs (other.take (other.length - 1))).2)
  else move4 b dir ((eP (upP b.ls b.us b.gs ss).1 ss).getD pnZ) (upP ((upP b.ls b.us b.gs ss).1 :: b.ls.tail) b.us b.gs (other.take (other.length - 1))).1 ss other
def move2 (b:BX) (at_ to:SP) (ss other:List ByteArray):BX×Int :=
  if to.is=true∧(at_.th.dir=true∨to.th.dir=true) then (b,6)
  else if to.is=true∧¬gH b to=0 then (b,gH b to)
  else if at_.th.dir=true∧(0<at_.lay∨(at_.n.h.opq=false∧kR b.ls ss=true)) then (b,14)
  else if 6<other.length+nA at_.n then (b,2)
  else move3 b at_.th.dir ss other
def xK (b:BX) (p q:ByteArray):BX×Int :=
  if p=⟨#[47]⟩∨q=⟨#[47]⟩ then (b,15)
  else if ¬eI (aH p)=0 then (b,eI (aH p)) else if ¬eI (aH q)=0 then (b,eI (aH q))
  else if ¬dH b (aH p)=0 then (b,dH b (aH p))
  else if ¬gH b (bE b (aH p))=0 then (b,gH b (bE b (aH p)))
  else if ¬(dJ b (aQ (aH q))).2=0 then (b,(dJ b (aQ (aH q))).2)
  else if p=q then (b,0)
  else if rS (aQ (aH p)) (aQ (aH q))=true then (b,3)
  else if oS b.c (bE b (aH q)).par 2=false then (b,9)
  else move2 b (bE b (aH p)) (bE b (aH q)) (aQ (aH p)) (aQ (aH q))
section
variable {B : Base} {V : aE} {L : List Box}
theorem src_od {sz m g o:Nat} {cs news:List Value} (ho:bF L g cs) (hl:news.length=m * sz) (hc:∀ j u,news[j]?=some u→cs[o+j]?=some u):bU B V L sz (some ⟨g,o,none⟩) m news:=fun w hs =>
  ⟨hl,fun _=>⟨g,o,rfl,fun j u hj=>by rw [hs.cell ho];exact hc j u hj⟩⟩
theorem src_lower {q m e:Nat} {x0:LN} {xt:List LN} {rest:List Value} (ho:bF L q ((x0 :: xt).flatMap lnC ++ rest)) (hm:(x0 :: xt).length=m) (hme:m≤e):bU B V L 8 (pX (some ⟨q,0,none⟩) e 1 8) (m - 1) (xt.flatMap lnC):=by
  have hl:(xt.flatMap lnC).length=(m - 1) * 8:=by rw [eU lnC uV,←hm];rfl
  unfold pX
  split
  · rename_i h1
    intro w hs
    exact⟨hl,fun h9=>absurd h9 (by omega)⟩
  · show bU B V L 8 (some ((⟨q,0,none⟩:Addr).add (1 * 8))) _ _
    rw [iT]
    refine src_od ho hl fun j u hj=>?_
    rw [show (x0 :: xt).flatMap lnC=lnC x0 ++ xt.flatMap lnC from rfl,List.append_assoc,show 0+1 * 8+j=(lnC x0).length+j by rw [uV],List.getElem?_append_right (by omega),Nat.add_sub_cancel_left,List.getElem?_append_left (List.getElem?_eq_some_iff.1 hj).1]
    exact hj
theorem src_lower9 {A:Option Addr} {q m e:Nat} {x0:LN} {xt:List LN} {rest:List Value} (hA:A=pX (some ⟨q,0,none⟩) e 1 8) (ho:bF L q ((x0 :: xt).flatMap lnC ++ rest)) (hm:(x0 :: xt).length=m) (hme:m≤e):bU B V L 8 A (m - 1) (xt.flatMap lnC):=by
  rw [hA];exact src_lower ho hm hme
end
end
section
theorem nb {b:Bool} (h:(!b)=true):b=false:=by simpa using h
theorem nbf {b:Bool} (h:(!b)=false):¬b=false:=by simpa using h
theorem nf {b:Bool} (h:b=false):¬b=true:=by rw [h];decide
theorem nor2 {p q:Prop} (h:¬p) (k:¬q):¬(p∨q):=fun h9=>h9.elim h k
theorem look_deep {b:BX} (hok:bI b) (ss:List ByteArray) (par:TH):Deep 7 (gZ b ss par).n:=by
  cases hw:dT b.ls ss with
  | nil=>rw [xB hw];exact .mk (by simp)
  | cons f t =>
    rw [lR hw]
    exact walkP_deep (fun x hx=>by obtain⟨u,hu⟩:=hok.tree x hx;exact tree_deep hu) ss f (by rw [hw];simp)
theorem spot_deep {b:BX} (hok:bI b) (ss:List ByteArray):∀ k,Deep 7 (fF b ss k).1.n
  | 0=>look_deep hok _ _
  | k+1=>by
    have ih:=spot_deep hok ss k
    rw [fF]
    (repeat' split)<;>first|exact ih|exact look_deep hok _ _
theorem cut_bound {x:PN}:∀ {l:List ByteArray} {n:PN},cH (fV 200) n→pF true x n l=0→cH midP (pN true x n l)
  | [],n,_,h=>by simp [pF] at h
  | [s],n,hm,_=>by
    rw [pN]
    have h0:=hm.here
    refine .mk ⟨by have:=h0.1;omega,by have:=edit_len (cut:=true) (x:=x) (ks:=n.ks) (s:=s);have:=h0.2;omega⟩ fun k hk=>?_
    have hk2:k∈n.ks:=by
      unfold nF at hk
      rw [if_pos rfl,List.append_nil] at hk
      rcases List.mem_append.1 hk with h|h
      · exact List.mem_of_mem_take h
      · exact List.mem_of_mem_drop h
    exact(hm.kid hk2).imp fun _ _=>mG (by omega)
  | s :: t :: l,n,hm,h=>by
    obtain⟨hk,m,hm2,h3⟩:=pF_cons.1 h
    rw [pN_cons hm2]
    have h0:=hm.here
    refine .mk ⟨by have:=h0.1;omega,by have:=edit_len (cut:=false) (x:=pN true x m (t :: l)) (ks:=n.ks) (s:=s);have:=h0.2;omega⟩ fun k hk=>?_
    rcases pO hk with h9|h9
    · exact(hm.kid h9).imp fun _ _=>mG (by omega)
    · rw [h9];exact cut_bound (hm.kid (lJ hm2)) h3
theorem gone_mid {b:BX} {u:PN} {ss:List ByteArray} (h:cH (fV 200) u) (hf:lF b u ss=0):cH midP (tG b u ss):=by
  unfold lF at hf
  unfold tG
  split
  · rename_i hb
    rw [if_pos hb] at hf
    exact(vH (.mk ⟨Nat.zero_le _,Nat.zero_le _⟩ (by simp)) hf h).imp fun _ _=>mG (by omega)
  · rename_i hb
    rw [if_neg hb] at hf
    exact cut_bound h hf
attribute [local irreducible] AtQ GoC GoL GoW QO QP Fn RV bF aD VLe bU bA
theorem move_c (V:aE) (p:Nat) (b:BX) (Bs:List Box) (hok:bI b) (h:fE V p b Bs) (s t:ByteArray) (hs:s.size≤1000000) (ht:t.size≤1000000):FnB Tryz.prog 44 [.pointer (some ⟨p,0,none⟩),.string s,.string t] V Bs (ChB p (xK b s t)):=by
  obtain⟨I,L1,rfl,hW⟩:=h
  have hSp:=fun V2=>Split_c V2 (aH s) (by show s.data.toList.length≤1000000;rw [Array.length_toList];exact hs)
  rw [show (⟨(aH s).toArray⟩:ByteArray)=s from kH s] at hSp
  have hSq:=fun V2=>Split_c V2 (aH t) (by show t.data.toList.length≤1000000;rw [Array.length_toList];exact ht)
  rw [show (⟨(aH t).toArray⟩:ByteArray)=t from kH t] at hSq
  have hT:=fun V2 (hV2:VLe V V2)=>tV (V:=V2) (p:=p) hok ⟨I,L1,rfl,hW.le hV2⟩ s hs
  have hTo:=fun V2 (hV2:VLe V V2) A m e (hs:cV V2 A m (aQ (aH t))) (hme:m≤e)=>to_b (V:=V2) (p:=p) hok ⟨I,L1,rfl,hW.le hV2⟩ A m e _ hs hme
  have hm1:=iU hok (aH s)
  have hm2:=rX hok (aQ (aH s)) (aQ (aH s)).length
  have hm3:=iU hok (aH t)
  have hm4:=rX hok (aQ (aH t)) (aQ (aH t)).length
  have hTk:=fun V2 (hV2:VLe V V2) x=>takes_b (V:=V2) (p:=p) hok ⟨I,L1,rfl,hW.le hV2⟩ x (bE b (aH s)).lay (bE b (aH s)) hm2 hm1
  have hTk2:=fun V2 (hV2:VLe V V2) x=>takes_b (V:=V2) (p:=p) hok ⟨I,L1,rfl,hW.le hV2⟩ x (dJ b (aQ (aH t))).1.lay (dJ b (aQ (aH t))).1 hm4 hm3
  have hMay:=fun V2 (hV2:VLe V V2)=>May_c V2 b.c I.A I.n I.k (hW.xs.le hV2) hok.d (dJ b (aQ (aH t))).1.par hm4 2 (.inr (.inl rfl))
  have hf1:=mJ (aH s)
  have hf2:=mJ (aH t)
  have hMM:xK b s t=if s=⟨#[47]⟩∨t=⟨#[47]⟩ then (b,15)
      else if ¬eI (aH s)=0 then (b,eI (aH s)) else if ¬eI (aH t)=0 then (b,eI (aH t))
      else if ¬dH b (aH s)=0 then (b,dH b (aH s))
      else if ¬gH b (bE b (aH s))=0 then (b,gH b (bE b (aH s)))
      else if ¬(dJ b (aQ (aH t))).2=0 then (b,(dJ b (aQ (aH t))).2)
      else if s=t then (b,0)
      else if rS (aQ (aH s)) (aQ (aH t))=true then (b,3)
      else if oS b.c (dJ b (aQ (aH t))).1.par 2=false then (b,9)
      else move2 b (bE b (aH s)) (dJ b (aQ (aH t))).1 (aQ (aH s)) (aQ (aH t)):=rfl
  generalize hmay:oS b.c (dJ b (aQ (aH t))).1.par 2=my at *
  generalize hunder:rS (aQ (aH s)) (aQ (aH t))=un at *
  (refine aL Tryz.func44 rfl Tryz.ntmps44 rfl ?_;intro w0)
  repeat' (first|(refine aG ?_;first|(refine aC ?_;(first|(refine aS rfl ⟨Tryz.call88⟩ rfl rfl (hSp _) ?_;rintro v V1 hV1 ⟨A1,n1,c1,rfl,hS1,hc1⟩)|(refine aS rfl ⟨Tryz.call88⟩ rfl rfl (hSq _) ?_;rintro v V2 hV2 ⟨A2,n2,c2,rfl,hS2,hc2'⟩)|(refine aM rfl ⟨Tryz.call85⟩ rfl bD rfl (hT _ vl9) ?_;rintro v V3 B3 hV3 ⟨rfl,hR⟩;rcases hR with ⟨ht0,A,n,k,x,rfl,hs3,hnk,hxN,hxn⟩|⟨ht0,A,n,k,x,lay,par,th,rfl⟩)|(refine aM rfl ⟨Tryz.call94⟩ rfl bD rfl (hTk _ vl9 x) ?_;rintro v V4 B4 hV4 ⟨rfl,rfl⟩)|(refine aM rfl ⟨Tryz.call89⟩ rfl bD rfl (hTo _ vl9 _ _ _ (hS2.le vl9) hc2') ?_;rintro v V5 B5 hV5 ⟨rfl,(⟨h0,x2,rfl,hx2N,hx2n⟩|⟨h0,rfl⟩)⟩)|refine aO rfl (aK ⟨Tryz.call98⟩ rfl ((Under_c _ _ _ _ _ _ _ _ _ (hs3.le vl9) (hS2.le vl9)).mono fun v V' _ h9=>h9.trans (congrArg Value.bool hunder))) ?_|refine aO rfl (aK ⟨Tryz.call87⟩ rfl (hMay _ vl9)) ?_))|(refine cY ?_;refine aP rfl siz_152 rfl rfl rfl rfl cI lP rfl ?_)|(refine al9 ?_;intro γ)|refine pu9 ?_)|refine nO ?_|(refine aJ rfl rfl rfl ?_ ?_<;>intro hq<;>try exact no9)|refine iR [0,1,2,3,4,5,6,7,8,9,10,11,12,13,14,15,16,17,18,19,20,21,23] rfl ?_|(refine aA rfl ?_ ?_<;>intro hq<;>try exact no9)|(refine bY rfl ?_ ?_<;>intro hq)|refine cO (id:=22) mixed (by kernel_rfl) ?_)
  all_goals first
    | (exfalso;exact absurd ht0 (by assumption))
    | (exfalso;exact absurd (by assumption) ht0)
    | (exfalso;exact absurd h0 (by assumption))
    | (exfalso;exact absurd (by assumption) h0)
    | (rw [hMM];(refine kP ?_;(refine aV Tryz.results44 (aB rfl) (show List.Sublist (⟨p,90,bxC I b⟩ :: L1) _ from sl9) ?_);(repeat (first|rw [if_pos (by first|assumption|exact nb (by assumption)|exact .inl (by assumption)|exact .inr (by assumption))]|rw [if_neg (by first|assumption|exact not_not_intro (by assumption)|exact nf (by assumption)|exact nbf (by assumption)|exact nor2 (by assumption) (by assumption))]));first|exact⟨rfl,I,_,rfl,hW.le vl9⟩|exact⟨cP _ rfl,I,_,rfl,hW.le vl9⟩|exact⟨bO.symm,I,_,rfl,hW.le vl9⟩))
    | skip
  rw [hMM]
  (repeat (first|rw [if_pos (by first|assumption|exact nb (by assumption)|exact .inl (by assumption)|exact .inr (by assumption))]|rw [if_neg (by first|assumption|exact not_not_intro (by assumption)|exact nf (by assumption)|exact nbf (by assumption)|exact nor2 (by assumption) (by assumption))]))
  have hSA:∀ X,bE b (aH s)=X→Deep 7 X.n:=fun X hX=>by rw [←hX];exact spot_deep hok _ _
  have hpos1:=pathN_ne (there_pathF ht0) (slash_ne (s:=s) (by assumption))
  have hpos2:=pathN_ne (l:=aH t) (nn (by assumption)) (slash_ne (s:=t) (by assumption))
  have hsz1:∀ s9∈aQ (aH s),s9.size≤60:=pathN_size
  have hown:=hW.owned (p:=p) hok
  clear hSp hSq hT hTo hTk hMay hm1 hm2 hm3 hm4 hMM hmay hunder
  generalize hsa:bE b (aH s)=sa at *
  generalize (dJ b (aQ (aH t))).1=sb at *
  have hde:Deep 7 sa.n:=hSA sa rfl
  clear hSA
  have hM2:move2 b sa sb (aQ (aH s)) (aQ (aH t))=if sb.is=true∧(sa.th.dir=true∨sb.th.dir=true) then (b,6)
      else if sb.is=true∧¬gH b sb=0 then (b,gH b sb)
      else if sa.th.dir=true∧(0<sa.lay∨(sa.n.h.opq=false∧kR b.ls (aQ (aH s))=true)) then (b,14)
      else if 6<(aQ (aH t)).length+nA sa.n then (b,2)
      else move3 b sa.th.dir (aQ (aH s)) (aQ (aH t)):=rfl
  refine oA (fun F V' L'=>∃ (γ11:Nat),VLe V5 V'∧¬(sb.is=true∧(sa.th.dir=true∨sb.th.dir=true))∧¬(sb.is=true∧¬gH b sb=0)∧⟨γ11,152,foC x sa.lay sa.par sa.th⟩ :: ⟨p,90,bxC I b⟩ :: L1=L'∧F=[(0,.pointer (some ⟨p,0,none⟩)),(9,.slice A2 n2 c2),(10,.slice A n k),(11,.pointer (some ⟨γ11,0,none⟩))]) ?_ ?_
  · repeat' (first|(refine aG ?_;first|(refine aC ?_;(refine aM rfl ⟨Tryz.call94⟩ rfl bD rfl (hTk2 _ vl9 x2) ?_;rintro v V6 B6 hV6 ⟨rfl,rfl⟩))|refine pu9 ?_)|refine nO ?_|(refine cN rfl rfl rfl ?_ ?_<;>intro hq)|refine iR [24,25,26,27,28,29] rfl ?_|(refine aA rfl ?_ ?_<;>intro hq<;>try exact no9)|(refine bY rfl ?_ ?_<;>intro hq))
    all_goals first
      | (refine xG ?_;refine dO _ ⟨_,vl9,?_,?_,rfl,rfl⟩ bG slc9
         · first
           | exact fun h9=>nf (by assumption) h9.1
           | exact fun h9=>h9.2.elim (nf (by assumption)) (nf (by assumption))
         · first
           | exact fun h9=>nf (by assumption) h9.1
           | exact fun h9=>absurd h9.2 (by assumption))
      | (rw [hM2]
         (refine aV Tryz.results44 (aB rfl) (show List.Sublist (⟨p,90,bxC I b⟩ :: L1) _ from sl9) ?_)
         first
         | (rw [if_pos ⟨by assumption,by first|exact .inl (by assumption)|exact .inr (by assumption)⟩];exact⟨cP _ rfl,I,_,rfl,hW.le vl9⟩)
         | (rw [if_neg (fun h9=>h9.2.elim (nf (by assumption)) (nf (by assumption))),if_pos ⟨by assumption,by assumption⟩];exact⟨rfl,I,_,rfl,hW.le vl9⟩))
  rintro F V6 L' ⟨γ11,hV6,hc1,hc2,rfl,rfl⟩
  rw [hM2,if_neg hc1,if_neg hc2]
  clear hM2 hTk2
  have hop:sa.n.h.opq=x.h.opq:=by rw [←hxn];rfl
  rw [hop]
  have hBe:=fun V2 (hV2:VLe V V2) A m e hs hme=>BelowB_c (p:=p) hok (hW.le hV2) A m e (aQ (aH s)) hs hme
  have hBe2:=fun V2 (hV2:VLe V V2) A m e hs hme=>BelowB_c (p:=p) hok (hW.le hV2) A m e (aQ (aH t)) hs hme
  generalize kR b.ls (aQ (aH s))=be at *
  have hVV6:VLe V V6:=((((hV1.trans hV2).trans hV3).trans hV4).trans hV5).trans hV6
  have hs6:=hs3.le ((hV4.trans hV5).trans hV6)
  have ht6:=hS2.le (((hV3.trans hV4).trans hV5).trans hV6)
  have hx6:=hxN.le ((hV4.trans hV5).trans hV6)
  repeat' (first|(refine aG ?_;first|refine st9 ?_|(refine al9 ?_;intro γ)|refine pu9 ?_)|refine gx9 ?_|refine dW (id:=30) ?_)
  refine oA (fun F V' L'=>∃ (γ14:Nat),VLe V6 V'∧¬(sa.th.dir=true∧(0<sa.lay∨(x.h.opq=false∧be=true)))∧⟨γ14,50,lnC x⟩ :: ⟨γ11,152,foC x sa.lay sa.par sa.th⟩ :: ⟨p,90,bxC I b⟩ :: L1=L'∧F=[(0,.pointer (some ⟨p,0,none⟩)),(9,.slice A2 n2 c2),(10,.slice A n k),(11,.pointer (some ⟨γ11,0,none⟩)),(14,.pointer (some ⟨γ14,0,none⟩))]) ?_ ?_
  · repeat' (first|(refine aG ?_;first|(refine aC ?_;(refine aM rfl ⟨Tryz.call50⟩ rfl bD rfl (hBe _ vl9 _ _ _ (hs6.le vl9) hnk) ?_;rintro v V7 B7 hV7 ⟨rfl,rfl⟩))|refine pu9 ?_)|refine nO ?_|(refine aJ rfl rfl rfl ?_ ?_<;>intro hq<;>try exact no9)|(refine cN rfl rfl rfl ?_ ?_<;>intro hq)|refine iR [31,32] rfl ?_|(refine bY rfl ?_ ?_<;>intro hq))
    all_goals first
      | (refine xG ?_;refine dO _ ⟨_,vl9,?_,rfl,rfl⟩ bG slc9
         first
         | exact fun h9=>nf (by assumption) h9.1
         | exact fun h9=>h9.2.elim (by assumption) fun h8=>nf (by assumption) h8.2
         | exact fun h9=>h9.2.elim (by assumption) fun h8=>absurd h8.1 (by simpa using hq))
      | (refine kP ?_;(refine aV Tryz.results44 (aB rfl) (show List.Sublist (⟨p,90,bxC I b⟩ :: L1) _ from sl9) ?_)
         rw [if_pos (by first|exact⟨by assumption,.inl (by assumption)⟩|exact⟨by assumption,.inr ⟨nb (by assumption),by assumption⟩⟩)]
         exact⟨cP _ rfl,I,_,rfl,hW.le vl9⟩)
  rintro F V7 L' ⟨γ14,hV7,hc3,rfl,rfl⟩
  rw [if_neg hc3]
  have hhx:nA sa.n=nA x.n:=by rw [hxn]
  have hdx:Deep 7 x.n:=by rw [hxn];exact hde
  have hHe:=height_c 7 (by omega) V7 x (hx6.le hV7) hdx
  have hhb:=vR hdx
  have hn1:=hs3.1.1
  have hn2:=hS2.1.1
  rw [hhx]
  repeat' (first|(refine aG ?_;first|(refine aC ?_;refine aO rfl (aK ⟨Tryz.call99⟩ rfl (hHe)) ?_)|refine pu9 ?_)|refine bS ?_|(refine aA rfl ?_ ?_<;>intro hq<;>try exact no9))
  all_goals first
    | (refine kP ?_;(refine aV Tryz.results44 (aB rfl) (show List.Sublist (⟨p,90,bxC I b⟩ :: L1) _ from sl9) ?_)
       rw [if_pos (by omega)];exact⟨cP 2 rfl,I,_,rfl,hW.le vl9⟩)
    | skip
  rw [if_neg (by omega)]
  clear hHe hBe
  have hVV7:=hVV6.trans hV7
  have hU:=UpB_c (p:=p) hok (hW.le hVV7) A n k _ (hs6.le hV7) hnk (by omega)
  have hli:=up_light hok hsz1 (by omega)
  have hub:=up_mid hok (ss:=aQ (aH s)) (by omega)
  have hM3:move3 b sa.th.dir (aQ (aH s)) (aQ (aH t))=if ¬(upP b.ls b.us b.gs (aQ (aH s))).2=0 then (b,(upP b.ls b.us b.gs (aQ (aH s))).2)
      else if ¬(upP ((upP b.ls b.us b.gs (aQ (aH s))).1 :: b.ls.tail) b.us b.gs ((aQ (aH t)).take ((aQ (aH t)).length - 1))).2=0 then (b,(upP ((upP b.ls b.us b.gs (aQ (aH s))).1 :: b.ls.tail) b.us b.gs ((aQ (aH t)).take ((aQ (aH t)).length - 1))).2)
      else move4 b sa.th.dir ((eP (upP b.ls b.us b.gs (aQ (aH s))).1 (aQ (aH s))).getD pnZ) (upP ((upP b.ls b.us b.gs (aQ (aH s))).1 :: b.ls.tail) b.us b.gs ((aQ (aH t)).take ((aQ (aH t)).length - 1))).1 (aQ (aH s)) (aQ (aH t)):=rfl
  rw [hM3]
  clear hM3
  generalize upP b.ls b.us b.gs (aQ (aH s))=up at *
  refine eK (fun F V' L'=>∃ (γ15:Nat) (y:LN),VLe V7 V'∧aT V' y∧y.n=up.1∧⟨γ15,50,lnC y⟩ :: ⟨γ14,50,lnC x⟩ :: ⟨γ11,152,foC x sa.lay sa.par sa.th⟩ :: ⟨p,90,bxC I b⟩ :: L1=L'∧F=[(0,.pointer (some ⟨p,0,none⟩)),(8,bA up.2),(9,.slice A2 n2 c2),(10,.slice A n k),(11,.pointer (some ⟨γ11,0,none⟩)),(14,.pointer (some ⟨γ14,0,none⟩)),(15,.pointer (some ⟨γ15,0,none⟩))]) ?_ ?_
  · refine bT (id:=35) _ mixed (List.Sublist.refl _) ?_;refine gt9 0 ?_;refine gt9 1 ?_;refine gt9 2 ?_;refine gt9 3 ?_;refine gt9 4 ?_;refine gt9 5 ?_;refine gt9 6 ?_;refine gt9 7 ?_;refine gt9 8 ?_;(refine iC (i:=9) (j:=13) (by kernel_rfl) rfl rfl rfl rfl vl9 vl9 cC ?_ ?_<;>first|((refine aM rfl ⟨Tryz.call95⟩ rfl bD rfl (hU) ?_;rintro v V8 B8 hV8 ⟨rfl,y,rfl,hyN,hyn⟩);refine gt9 10 ?_;refine gt9 11 ?_;refine gt9 12 ?_;refine bM (i:=13) rfl ?_;(refine eN rfl zer_50 rfl ?_;intro γ);refine bM (i:=14) rfl ?_;refine aP rfl siz_50 rfl rfl rfl rfl cI fU rfl ?_;refine gt9 15 ?_;refine bC (by kernel_rfl) vl9 vl9 cC ?_)|((refine eN rfl zer_50 rfl ?_;intro γ);refine bM (i:=9) rfl ?_;(refine aM rfl ⟨Tryz.call95⟩ rfl bD rfl (hU) ?_;rintro v V8 B8 hV8 ⟨rfl,y,rfl,hyN,hyn⟩);refine gt9 10 ?_;refine gt9 11 ?_;refine gt9 12 ?_;refine bM (i:=14) rfl ?_;refine aP rfl siz_50 rfl rfl rfl rfl cI fU rfl ?_;refine gt9 15 ?_;refine bC (by kernel_rfl) vl9 vl9 cC ?_))
    all_goals exact fP _ ⟨_,y,hV8,hyN,hyn,rfl,rfl⟩ bG sp9
  rintro F V8 L' ⟨γ15,y,hV8,hyN,hyn,rfl,rfl⟩
  by_cases hu:up.2=0
  rotate_left
  · rw [if_pos hu]
    repeat' (first|(refine aG ?_;refine pu9 ?_)|refine bS ?_|(refine aA rfl ?_ ?_<;>intro hq<;>try exact no9))
    all_goals first
      | (exfalso;exact absurd (by assumption) hu)
      | (refine kP ?_;(refine aV Tryz.results44 (aB rfl) (show List.Sublist (⟨p,90,bxC I b⟩ :: L1) _ from sl9) ?_)
         exact⟨rfl,I,_,rfl,hW.le vl9⟩)
  rw [if_neg (not_not_intro hu)]
  have hli:=hli hu
  have hub:=hub hu
  have hVV8:=hVV7.trans hV8
  have hs8:=hs6.le (hV7.trans hV8)
  have ht8:=ht6.le (hV7.trans hV8)
  have hFd:=Find_c V8 y hyN (by rw [hyn];exact hub.imp fun _ _=>oB) A n k _ hs8
  rw [hyn] at hFd
  repeat' (first|(refine aG ?_;first|(refine aC ?_;(refine aS rfl ⟨Tryz.call100⟩ rfl rfl (hFd) ?_;rintro v V9 hV9 ⟨z,rfl,hzN,hzn⟩))|refine st9 ?_|refine pu9 ?_)|refine bS ?_|(refine aA rfl ?_ ?_<;>intro hq<;>try exact no9))
  all_goals first
    | (exfalso;exact absurd hu (by assumption))
    | skip
  have e0:∀ l,l=lnC z→spl (lnC x) 0 l=lnC z:=fun l hl=>by rw [hl];exact nI rfl
  rw [e0 _ (by rfl)]
  clear e0
  rw [←hzn]
  have hfz:cH eR z.n:=by
    rw [hzn]
    cases hf:eP up.1 (aQ (aH s)) with
    | none=>exact .mk ⟨Nat.zero_le _,Nat.zero_le _⟩ (by simp)
    | some w=>exact uY (hub.imp fun _ _=>oB) hf
  obtain⟨q,x0,xt,rest,hK,hx,hL1,hlen,hme,hml,hm0⟩:=hW.open_ hok
  subst hL1
  have hxl:(x0 :: xt).length=I.m:=by rw [←hx];exact hW.len
  have hVV9:=hVV8.trans hV9
  have him4:=hW.m4 hok
  have hoxt:=ones_ln xt
  have hIK:pX I.K I.e (Int.toNat 1) 8=pX (some ⟨q,0,none⟩) I.e 1 8:=by rw [hK];rfl
  refine eK (fun F V' L'=>∃ (A3:Option Addr) (n3 c3:Nat),fN V' A3 n3 (y :: xt)∧VLe V9 V'∧⟨γ15,50,lnC y⟩ :: ⟨γ14,50,lnC z⟩ :: ⟨γ11,152,foC x sa.lay sa.par sa.th⟩ :: ⟨p,90,bxC I b⟩ :: [⟨q,50,(x0 :: xt).flatMap lnC ++ rest⟩]=L'∧F=[(0,.pointer (some ⟨p,0,none⟩)),(9,.slice A2 n2 c2),(10,.slice A n k),(11,.pointer (some ⟨γ11,0,none⟩)),(14,.pointer (some ⟨γ14,0,none⟩)),(15,.pointer (some ⟨γ15,0,none⟩)),(16,.slice A3 n3 c3)]) ?_ ?_
  · refine bT (id:=39) _ mixed (List.Sublist.refl _) ?_;refine gt9 0 ?_;refine gt9 2 ?_;refine gt9 3 ?_;refine gt9 4 ?_;refine gt9 5 ?_;refine gO 6 rfl rfl (iV und_30 siz_50 rfl rfl (by omega)) ?_;refine bM (i:=1) rfl ?_;(refine aZ rfl und_30 siz_50 zec_50 rfl rfl rfl rfl rfl rfl rfl ?_;intro γ);refine bM (i:=7) rfl ?_;(refine bQ rfl und_30 inf_50 rfl rfl rfl (cX.close (f:=lnC) (xs:=[y]) (rest:=[]) uV rfl rfl (Nat.le_refl _) (by unfold maxLen;omega)) bD (src_lower9 hIK bN hxl hme) cI (by omega) rfl rfl ?_;intro A3 c3 L3 hr3);refine gt9 8 ?_;refine bC (by kernel_rfl) vl9 vl9 cC ?_
    all_goals
      refine iJ hr3 bD ?_ (by intro x9 hx9;obtain⟨cs9,h9⟩:=hown x9 hx9;exact⟨cs9,by repeat (first|exact h9|apply cG|apply eM)⟩)
      intro V10 hV10 hc10
      exact fP _ ⟨A3,_,c3,fN.of (xs:=y :: xt) (by rw [List.flatMap_cons];simpa using hc10) (by have h9:xt.length+1=I.m:=hxl;show xt.length+1=1+(I.m - 1);omega) (by show 1+(I.m - 1)≤maxLen;unfold maxLen;omega) (by
        intro w hw
        rcases List.mem_cons.1 hw with rfl|hw
        · exact hyN.le (hV9.trans hV10)
        · exact(hW.ls w (by rw [hx];exact List.mem_cons_of_mem _ hw)).le (hVV9.trans hV10)),hV10,rfl,rfl⟩ bG sp9
  rintro F V10 L' ⟨A3,n3,c3,hN3,hV10,rfl,rfl⟩
  have hl3:=hN3.1.1
  have hVV10:=hVV9.trans hV10
  have htl:(y :: xt).map LN.n=up.1 :: b.ls.tail:=by
    rw [List.map_cons,hyn,←hW.eq,hx];rfl
  have hli2:∀ w∈y :: xt,cH jK w.n:=fun w hw=>by
    rcases List.mem_cons.1 hw with rfl|hw
    · rw [hyn];exact hli
    · exact hok.light _ (by rw [←hW.eq,hx];exact List.mem_map_of_mem (f:=LN.n) (List.mem_cons_of_mem _ hw))
  have ht10:=ht8.le (hV9.trans hV10)
  have hs10:=hs8.le (hV9.trans hV10)
  have e9:(((n2:Nat):Int) - 1).toNat=(aQ (aH t)).length - 1:=by omega
  have hU2:=Up_c V10 A3 n3 c3 (y :: xt) hN3 (by rw [←hl3];show xt.length+1≤1000;have h9:xt.length+1=I.m:=hxl;omega) hli2 I.M (hW.M.le hVV10) A2 (((n2:Nat):Int) - 1).toNat c2 ((aQ (aH t)).take ((aQ (aH t)).length - 1)) (by rw [e9];exact uH ht10 (by omega)) (by omega) (by omega)
  rw [htl,hW.us,hW.gs] at hU2
  have hub2:(upP (up.1 :: b.ls.tail) b.us b.gs ((aQ (aH t)).take ((aQ (aH t)).length - 1))).2=0→cH (fV 200) (upP (up.1 :: b.ls.tail) b.us b.gs ((aQ (aH t)).take ((aQ (aH t)).length - 1))).1:=fun h9 =>
    up_bd9 (by rw [←htl];intro w hw;obtain⟨w2,hw2,rfl⟩:=List.mem_map.1 hw;exact hli2 w2 hw2) hli (by rw [List.length_take];omega) h9
  generalize upP (up.1 :: b.ls.tail) b.us b.gs ((aQ (aH t)).take ((aQ (aH t)).length - 1))=up2 at *
  repeat' (first|refine gx9 ?_|fail)
  refine eK (fun F V' L'=>∃ (y2:LN),VLe V10 V'∧aT V' y2∧y2.n=up2.1∧⟨γ15,50,lnC y2⟩ :: ⟨γ14,50,lnC z⟩ :: ⟨γ11,152,foC x sa.lay sa.par sa.th⟩ :: ⟨p,90,bxC I b⟩ :: [⟨q,50,(x0 :: xt).flatMap lnC ++ rest⟩]=L'∧F=[(0,.pointer (some ⟨p,0,none⟩)),(8,bA up2.2),(9,.slice A2 n2 c2),(10,.slice A n k),(11,.pointer (some ⟨γ11,0,none⟩)),(14,.pointer (some ⟨γ14,0,none⟩)),(15,.pointer (some ⟨γ15,0,none⟩))]) ?_ ?_
  · refine bT (id:=40) _ mixed (List.Sublist.cons _ (List.Sublist.refl _)) ?_;refine gt9 0 ?_;refine gt9 1 ?_;refine gt9 2 ?_;refine gt9 3 ?_;refine gt9 4 ?_;refine gt9 5 ?_;refine gt9 6 ?_;refine gt9 7 ?_;refine gt9 8 ?_;refine gO 9 rfl rfl (gQ und_40 siz_9 rfl rfl (by omega)) ?_;refine bM (i:=10) rfl ?_;(refine aS rfl ⟨Tryz.call95⟩ rfl rfl (hU2) ?_;rintro v V11 hV11 ⟨y2,rfl,hy2N,hy2n⟩);refine gt9 11 ?_;refine gt9 12 ?_;refine gt9 13 ?_;refine bM (i:=14) rfl ?_;refine aP rfl siz_50 rfl rfl rfl rfl cI fU rfl ?_;refine gt9 15 ?_;refine bC (by kernel_rfl) vl9 vl9 cC ?_
    all_goals exact fP _ ⟨y2,hV11,hy2N,hy2n,rfl,rfl⟩ bG sp9
  rintro F V11 L' ⟨y2,hV11,hy2N,hy2n,rfl,rfl⟩
  have hVV11:=hVV10.trans hV11
  by_cases hu2:up2.2=0
  rotate_left
  · rw [if_pos hu2]
    repeat' (first|(refine aG ?_;refine pu9 ?_)|refine bS ?_|(refine aA rfl ?_ ?_<;>intro hq<;>try exact no9))
    all_goals first
      | (exfalso;exact absurd (by assumption) hu2)
      | (refine kP ?_;(refine aV Tryz.results44 (aB rfl) (List.Sublist.cons _ (List.Sublist.cons _ (List.Sublist.cons _ (List.Sublist.refl _)))) ?_)
         exact⟨rfl,I,_,rfl,hW.le hVV11⟩)
  rw [if_neg (not_not_intro hu2)]
  have hub2:=hub2 hu2
  have ht11:=ht10.le hV11
  have hs11:=hs10.le hV11
  have hz11:=hzN.le (hV10.trans hV11)
  have hM4:move4 b sa.th.dir z.n up2.1 (aQ (aH s)) (aQ (aH t))=if ¬lF b up2.1 (aQ (aH s))=0 then (b,lF b up2.1 (aQ (aH s))) else putG b (.mk { z.n.h with opq:=sa.th.dir && kR b.ls (aQ (aH t)) } z.n.ks) (tG b up2.1 (aQ (aH s))) (aQ (aH t)):=rfl
  rw [hM4]
  clear hM4 hU2 hU hFd
  have hWo:=fun V6 (hV6:VLe V11 V6)=>without_c V6 p b I _ hok (hW.le (hVV11.trans hV6)) y2 (hy2N.le hV6) (by rw [hy2n];exact hub2.imp fun _ _=>mG (by omega)) A n k _ (hs11.le hV6) hnk
  rw [hy2n] at hWo
  have hgm:∀ g9,tG b up2.1 (aQ (aH s))=g9→lF b up2.1 (aQ (aH s))=0→cH midP g9:=fun g9 h9 h8=>by rw [←h9];exact gone_mid hub2 h8
  generalize tG b up2.1 (aQ (aH s))=gn at *
  generalize lF b up2.1 (aQ (aH s))=gf at *
  have hgm:=hgm gn rfl
  have hBe3:=fun V2 (hV2:VLe V11 V2)=>hBe2 V2 (hVV11.trans hV2) A2 n2 c2 (ht11.le hV2) hc2'
  clear hBe2
  generalize kR b.ls (aQ (aH t))=be2 at *
  have hG:=fun V3 (hV3:VLe V11 V3) (w:LN) (hw:aT V3 w)=>grows_c V3 p b _ hok ⟨I,_,rfl,hW.le (hVV11.trans hV3)⟩ w hw
  repeat' (first|(refine aG ?_;refine pu9 ?_)|refine gx9 ?_|refine dW (id:=41) ?_|(refine aA rfl ?_ ?_<;>intro hq<;>try exact no9))
  all_goals first
    | (exfalso;exact absurd hu2 (by assumption))
    | skip
  refine eK (fun F V' L'=>∃ (oo:Bool),VLe V11 V'∧(sa.th.dir && be2)=oo∧⟨γ15,50,lnC y2⟩ :: ⟨γ14,50,lnC { z with h:={ z.h with opq:=oo } }⟩ :: ⟨p,90,bxC I b⟩ :: [⟨q,50,(x0 :: xt).flatMap lnC ++ rest⟩]=L'∧F=[(0,.pointer (some ⟨p,0,none⟩)),(9,.slice A2 n2 c2),(10,.slice A n k),(14,.pointer (some ⟨γ14,0,none⟩)),(15,.pointer (some ⟨γ15,0,none⟩))]) ?_ ?_
  · repeat' (first|(refine aG ?_;first|(refine aC ?_;(refine aM rfl ⟨Tryz.call50⟩ rfl bD rfl (hBe3 _ vl9) ?_;rintro v V12 B12 hV12 ⟨rfl,rfl⟩))|refine st9 ?_|refine pu9 ?_)|refine gx9 ?_|(refine cN rfl rfl rfl ?_ ?_<;>intro hq)|refine dW (id:=43) ?_)
    all_goals first
      | (refine xG ?_;refine dO _ ⟨false,vl9,?_,rfl,rfl⟩ bG slc9;rw [show sa.th.dir=false by assumption];rfl)
      | (refine xG ?_;refine dO _ ⟨be2,vl9,?_,rfl,rfl⟩ bG slc9;rw [show sa.th.dir=true by assumption];rfl)
  rintro F V12 L' ⟨oo,hV12,hoo,rfl,rfl⟩
  rw [hoo]
  have hzo:aT V12 { z with h:={ z.h with opq:=oo } }:=node_opq (hz11.le hV12)
  have hzon:(LN.n { z with h:={ z.h with opq:=oo } })=.mk { z.n.h with opq:=oo } z.n.ks:=rfl
  have hzos:cH eR (PN.mk { z.n.h with opq:=oo } z.n.ks):=.mk hfz.here fun k hk=>hfz.kid hk
  repeat' (first|(refine aG ?_;first|(refine aC ?_;(refine aM rfl ⟨Tryz.call96⟩ rfl bD rfl (hWo _ vl9) ?_;rintro v V13 B13 hV13 ⟨rfl,y3,rfl,hy3N,hy3n⟩))|refine st9 ?_|refine pu9 ?_)|refine gx9 ?_|refine dW (id:=44) ?_)
  have e0:∀ l,l=lnC y3→spl (lnC y2) 0 l=lnC y3:=fun l hl=>by rw [hl];exact nI rfl
  rw [e0 _ (by rfl)]
  clear e0 hWo
  have hPu:=fun h8:gf=0=>Put_c V13 y3 hy3N (by rw [hy3n h8];exact hgm h8) A2 n2 c2 _ (ht11.le (hV12.trans hV13)) hc2' _ (hzo.le hV13) (by rw [hzon];exact hzos)
  rw [hzon] at hPu
  generalize (PN.mk { z.n.h with opq:=oo } z.n.ks)=n1 at *
  by_cases hgf:gf=0
  rotate_left
  · rw [if_pos hgf]
    repeat' (first|(refine aG ?_;refine pu9 ?_)|refine gx9 ?_|refine iR [45,46] rfl ?_|(refine aA rfl ?_ ?_<;>intro hq<;>try exact no9))
    all_goals first
      | (exfalso;exact absurd (by assumption) hgf)
      | (refine kP ?_;(refine aV Tryz.results44 (aB rfl) (List.Sublist.cons _ (List.Sublist.cons _ (List.Sublist.refl _))) ?_)
         exact⟨rfl,I,_,rfl,hW.le (hVV11.trans (hV12.trans hV13))⟩)
  rw [if_neg (not_not_intro hgf)]
  have hPu:=hPu hgf
  rw [hy3n hgf] at hPu
  unfold putG
  repeat' (first|(refine aG ?_;first|(refine aC ?_;(refine aS rfl ⟨Tryz.call101⟩ rfl rfl (hPu) ?_;rintro v V14 hV14 ⟨x5,rfl,hx5N,hx5n⟩))|refine st9 ?_|refine pu9 ?_)|refine gx9 ?_|refine iR [45,47] rfl ?_|(refine aA rfl ?_ ?_<;>intro hq<;>try exact no9))
  all_goals first
    | (exfalso;exact absurd hgf (by assumption))
    | skip
  have e0:∀ l,l=lnC x5→spl (lnC y3) 0 l=lnC x5:=fun l hl=>by rw [hl];exact nI rfl
  rw [e0 _ (by rfl)]
  by_cases hpf:pF false n1 gn (aQ (aH t))=0
  · rw [if_neg (not_not_intro hpf)]
    rw [putP,if_pos hpf] at hx5n
    have hG2:=hG V14 vl9 x5 hx5N
    rw [hx5n] at hG2
    repeat' (first|(refine aG ?_;first|(refine aC ?_;(refine aM rfl ⟨Tryz.call97⟩ rfl bD rfl (hG2) ?_;rintro v V15 B15 hV15 ⟨rfl,hB15⟩))|refine pu9 ?_)|refine bS ?_|(refine aA rfl ?_ ?_<;>intro hq<;>try exact no9))
    all_goals first
      | (exfalso;exact absurd hpf (by assumption))
      | (refine kP ?_;(refine aV Tryz.results44 (aB rfl) (List.Sublist.cons _ (List.Sublist.cons _ (List.Sublist.refl _))) ?_)
         exact⟨rfl,hB15⟩)
  · rw [if_pos hpf]
    repeat' (first|(refine aG ?_;refine pu9 ?_)|refine bS ?_|(refine aA rfl ?_ ?_<;>intro hq<;>try exact no9))
    all_goals first
      | (exfalso;exact absurd (by assumption) hpf)
      | (refine kP ?_;(refine aV Tryz.results44 (aB rfl) (List.Sublist.cons _ (List.Sublist.cons _ (List.Sublist.refl _))) ?_)
         exact⟨rfl,I,_,rfl,hW.le (hVV11.trans (hV12.trans (hV13.trans hV14)))⟩)
end
section
def chT (r:BX×Int):BX×(TD×Int):=(r.1,tdZ,r.2)
noncomputable def doP (b:BX) (c:CL):BX×(TD×Int) :=
  if 1≤c.op∧c.op≤3 then (b,mS b c) else if c.op=4 then chT (pD b c) else if c.op=5 then chT (nB b c)
  else if c.op=6 then chT (iH b c.path) else if c.op=7 then chT (xK b c.path c.other) else if c.op=8 then chT (rI b (aH c.path) c.a)
  else if c.op=9 then chT (xF b (aH c.path) c.a c.b) else if c.op=10 then chT (oY b (aH c.path) c.name c.data false)
  else if c.op=11 then chT (oY b (aH c.path) c.name c.data true) else if c.op=12 then (b,tI b c) else if c.op=13 then chT (beP b c.a c.b)
  else if c.op=14 then (b,{ tdZ with size:=bB (b.ls.headD pnZ) },0) else (b,tdZ,3)
theorem list_pos {b:BX} (hok:bI b) (ss:List ByteArray):∀ s∈lC (dT b.ls ss),0<s.size:=fun s hs=>by
  have h1:=(wH.1 hs).1
  obtain⟨f,hf,hk⟩:=List.mem_flatMap.1 h1
  have hk2:s∈f.1.ks.map Prod.fst:=hk
  obtain⟨k,hk3,rfl⟩:=List.mem_map.1 hk2
  have h9:∀ k∈f.1.ks,fS k.1.toList=true:=(kE hok.names ss f hf).here
  exact name_pos (h9 _ hk3)
theorem look_pos {b:BX} (hok:bI b) (c:CL):∀ s∈(mS b c).1.names,0<s.size:=by
  unfold mS
  split
  · simp [tdZ]
  · split
    · simp
    · split
      · simp [tdZ]
      · split
        · simp [tdZ]
        · exact list_pos hok _
theorem gJ.off {r:TD×Int} {ev v:Value} {V:aE} {gs:List Nat} (hc:yJ V gs) (hp:∀ s∈r.1.names,0<s.size) (h:gJ r ev v V):gJ r ev v (V.off gs):=by
  obtain⟨A,n,c,h1,h2,h3⟩:=h
  exact⟨A,n,c,h1,h2.off hc hp,h3⟩
theorem look_b {V:aE} {p:Nat} {b:BX} {Bs:List Box} (hok:bI b) (h:fE V p b Bs) (c:CL) (hc:c.path.size≤1000000):FnB Tryz.prog 40 [.pointer (some ⟨p,0,none⟩),clV c] V Bs fun v V' Bs'=>Bs'=Bs∧gJ (mS b c) (bA (mS b c).2) v V' :=
  fE.read hok h (fun v V gs hc hR=>gJ.off hc (look_pos hok c) hR) fun V' I hV hB=>look_c V' p b I hok hB c hc
def DoR (p:Nat) (r:BX×(TD×Int)) (v:Value) (V':aE) (Bs':List Box):Prop:=gJ r.2 (bA r.2.2) v V'∧fE V' p r.1 Bs'
theorem DoR.ch {p:Nat} {r:BX×Int} {v:Value} {V':aE} {Bs':List Box} (hB:fE V' p r.1 Bs') (hv:v=.tuple #[tdV tdZ none 0 0,bA r.2]):DoR p (chT r) v V' Bs':=⟨by rw [hv];exact gJ.zero,hB⟩
def yI (c:CL):Prop:=c.path.size≤1000000∧c.other.size≤1000000∧c.name.size≤1000000∧c.data.size≤1000000
attribute [local irreducible] AtQ GoC GoL GoW QO QP Fn RV bF aD VLe bU bA
theorem Do_4 (V:aE) (p:Nat) (b:BX) (Bs:List Box) (hok:bI b) (h:fE V p b Bs) (c:CL) (hc:yI c) (ho:c.op=4):FnB Tryz.prog 13 [.pointer (some ⟨p,0,none⟩),clV c] V Bs (DoR p (doP b c)):=by
  have hC:=put_c V p b Bs hok h c hc.1
  have e:doP b c=chT (pD b c):=by unfold doP;(repeat (first|rw [if_pos (by omega)]|rw [if_neg (by omega)]))
  rw [e]
  clear e
  (refine aL Tryz.func13 rfl Tryz.ntmps13 rfl ?_;intro w0)
  repeat' (first|(refine aG ?_;first|(refine aC ?_;(refine aM rfl ⟨Tryz.call41⟩ rfl bD rfl (hC) ?_;rintro v V2 B2 hV2 ⟨rfl,hB2⟩))|refine st9 ?_|(refine al9 ?_;intro γ)|refine pu9 ?_)|refine cM ?_|(refine aA rfl ?_ ?_<;>intro hq<;>try exact no9))
  all_goals
    (refine bJ Tryz.results13 (aU agg_42 rfl bN (by exact rfl)) (aB rfl) (List.Sublist.cons _ (List.Sublist.cons _ (List.Sublist.refl _))) ?_)
    exact DoR.ch hB2 rfl
theorem Do_5 (V:aE) (p:Nat) (b:BX) (Bs:List Box) (hok:bI b) (h:fE V p b Bs) (c:CL) (hc:yI c) (ho:c.op=5):FnB Tryz.prog 13 [.pointer (some ⟨p,0,none⟩),clV c] V Bs (DoR p (doP b c)):=by
  have hC:=mkdir_c V p b Bs hok h c hc.1
  have e:doP b c=chT (nB b c):=by unfold doP;(repeat (first|rw [if_pos (by omega)]|rw [if_neg (by omega)]))
  rw [e]
  clear e
  (refine aL Tryz.func13 rfl Tryz.ntmps13 rfl ?_;intro w0)
  repeat' (first|(refine aG ?_;first|(refine aC ?_;(refine aM rfl ⟨Tryz.call42⟩ rfl bD rfl (hC) ?_;rintro v V2 B2 hV2 ⟨rfl,hB2⟩))|refine st9 ?_|(refine al9 ?_;intro γ)|refine pu9 ?_)|refine cM ?_|(refine aA rfl ?_ ?_<;>intro hq<;>try exact no9))
  all_goals
    (refine bJ Tryz.results13 (aU agg_42 rfl bN (by exact rfl)) (aB rfl) (List.Sublist.cons _ (List.Sublist.cons _ (List.Sublist.refl _))) ?_)
    exact DoR.ch hB2 rfl
theorem Do_6 (V:aE) (p:Nat) (b:BX) (Bs:List Box) (hok:bI b) (h:fE V p b Bs) (c:CL) (hc:yI c) (ho:c.op=6):FnB Tryz.prog 13 [.pointer (some ⟨p,0,none⟩),clV c] V Bs (DoR p (doP b c)):=by
  have hC:=remove_c V p b Bs hok h c.path hc.1
  have e:doP b c=chT (iH b c.path):=by unfold doP;(repeat (first|rw [if_pos (by omega)]|rw [if_neg (by omega)]))
  rw [e]
  clear e
  (refine aL Tryz.func13 rfl Tryz.ntmps13 rfl ?_;intro w0)
  repeat' (first|(refine aG ?_;first|(refine aC ?_;(refine aM rfl ⟨Tryz.call43⟩ rfl bD rfl (hC) ?_;rintro v V2 B2 hV2 ⟨rfl,hB2⟩))|refine st9 ?_|(refine al9 ?_;intro γ)|refine pu9 ?_)|refine cM ?_|(refine aA rfl ?_ ?_<;>intro hq<;>try exact no9))
  all_goals
    (refine bJ Tryz.results13 (aU agg_42 rfl bN (by exact rfl)) (aB rfl) (List.Sublist.cons _ (List.Sublist.cons _ (List.Sublist.refl _))) ?_)
    exact DoR.ch hB2 rfl
theorem Do_7 (V:aE) (p:Nat) (b:BX) (Bs:List Box) (hok:bI b) (h:fE V p b Bs) (c:CL) (hc:yI c) (ho:c.op=7):FnB Tryz.prog 13 [.pointer (some ⟨p,0,none⟩),clV c] V Bs (DoR p (doP b c)):=by
  have hC:=move_c V p b Bs hok h c.path c.other hc.1 hc.2.1
  have e:doP b c=chT (xK b c.path c.other):=by unfold doP;(repeat (first|rw [if_pos (by omega)]|rw [if_neg (by omega)]))
  rw [e]
  clear e
  (refine aL Tryz.func13 rfl Tryz.ntmps13 rfl ?_;intro w0)
  repeat' (first|(refine aG ?_;first|(refine aC ?_;(refine aM rfl ⟨Tryz.call44⟩ rfl bD rfl (hC) ?_;rintro v V2 B2 hV2 ⟨rfl,hB2⟩))|refine st9 ?_|(refine al9 ?_;intro γ)|refine pu9 ?_)|refine cM ?_|(refine aA rfl ?_ ?_<;>intro hq<;>try exact no9))
  all_goals
    (refine bJ Tryz.results13 (aU agg_42 rfl bN (by exact rfl)) (aB rfl) (List.Sublist.cons _ (List.Sublist.cons _ (List.Sublist.refl _))) ?_)
    exact DoR.ch hB2 rfl
theorem Do_8 (V:aE) (p:Nat) (b:BX) (Bs:List Box) (hok:bI b) (h:fE V p b Bs) (c:CL) (hc:yI c) (ho:c.op=8):FnB Tryz.prog 13 [.pointer (some ⟨p,0,none⟩),clV c] V Bs (DoR p (doP b c)):=by
  have hC:=mode_c V p b Bs hok h c hc.1
  have e:doP b c=chT (rI b (aH c.path) c.a):=by unfold doP;(repeat (first|rw [if_pos (by omega)]|rw [if_neg (by omega)]))
  rw [e]
  clear e
  (refine aL Tryz.func13 rfl Tryz.ntmps13 rfl ?_;intro w0)
  repeat' (first|(refine aG ?_;first|(refine aC ?_;(refine aM rfl ⟨Tryz.call45⟩ rfl bD rfl (hC) ?_;rintro v V2 B2 hV2 ⟨rfl,hB2⟩))|refine st9 ?_|(refine al9 ?_;intro γ)|refine pu9 ?_)|refine cM ?_|(refine aA rfl ?_ ?_<;>intro hq<;>try exact no9))
  all_goals
    (refine bJ Tryz.results13 (aU agg_42 rfl bN (by exact rfl)) (aB rfl) (List.Sublist.cons _ (List.Sublist.cons _ (List.Sublist.refl _))) ?_)
    exact DoR.ch hB2 rfl
theorem Do_9 (V:aE) (p:Nat) (b:BX) (Bs:List Box) (hok:bI b) (h:fE V p b Bs) (c:CL) (hc:yI c) (ho:c.op=9):FnB Tryz.prog 13 [.pointer (some ⟨p,0,none⟩),clV c] V Bs (DoR p (doP b c)):=by
  have hC:=own_c V p b Bs hok h c.path hc.1 c.a c.b
  have e:doP b c=chT (xF b (aH c.path) c.a c.b):=by unfold doP;(repeat (first|rw [if_pos (by omega)]|rw [if_neg (by omega)]))
  rw [e]
  clear e
  (refine aL Tryz.func13 rfl Tryz.ntmps13 rfl ?_;intro w0)
  repeat' (first|(refine aG ?_;first|(refine aC ?_;(refine aM rfl ⟨Tryz.call46⟩ rfl bD rfl (hC) ?_;rintro v V2 B2 hV2 ⟨rfl,hB2⟩))|refine st9 ?_|(refine al9 ?_;intro γ)|refine pu9 ?_)|refine cM ?_|(refine aA rfl ?_ ?_<;>intro hq<;>try exact no9))
  all_goals
    (refine bJ Tryz.results13 (aU agg_42 rfl bN (by exact rfl)) (aB rfl) (List.Sublist.cons _ (List.Sublist.cons _ (List.Sublist.refl _))) ?_)
    exact DoR.ch hB2 rfl
theorem Do_10 (V:aE) (p:Nat) (b:BX) (Bs:List Box) (hok:bI b) (h:fE V p b Bs) (c:CL) (hc:yI c) (ho:c.op=10):FnB Tryz.prog 13 [.pointer (some ⟨p,0,none⟩),clV c] V Bs (DoR p (doP b c)):=by
  have hC:=set_c V p b Bs hok h c hc.1 (by have:=hc.2.2.1;omega) (by have:=hc.2.2.2;unfold maxLen;omega) false
  have e:doP b c=chT (oY b (aH c.path) c.name c.data false):=by unfold doP;(repeat (first|rw [if_pos (by omega)]|rw [if_neg (by omega)]))
  rw [e]
  clear e
  (refine aL Tryz.func13 rfl Tryz.ntmps13 rfl ?_;intro w0)
  repeat' (first|(refine aG ?_;first|(refine aC ?_;(refine aM rfl ⟨Tryz.call47⟩ rfl bD rfl (hC) ?_;rintro v V2 B2 hV2 ⟨rfl,hB2⟩))|refine st9 ?_|(refine al9 ?_;intro γ)|refine pu9 ?_)|refine cM ?_|(refine aA rfl ?_ ?_<;>intro hq<;>try exact no9))
  all_goals
    (refine bJ Tryz.results13 (aU agg_42 rfl bN (by exact rfl)) (aB rfl) (List.Sublist.cons _ (List.Sublist.cons _ (List.Sublist.refl _))) ?_)
    exact DoR.ch hB2 rfl
theorem Do_11 (V:aE) (p:Nat) (b:BX) (Bs:List Box) (hok:bI b) (h:fE V p b Bs) (c:CL) (hc:yI c) (ho:c.op=11):FnB Tryz.prog 13 [.pointer (some ⟨p,0,none⟩),clV c] V Bs (DoR p (doP b c)):=by
  have hC:=set_c V p b Bs hok h c hc.1 (by have:=hc.2.2.1;omega) (by have:=hc.2.2.2;unfold maxLen;omega) true
  have e:doP b c=chT (oY b (aH c.path) c.name c.data true):=by unfold doP;(repeat (first|rw [if_pos (by omega)]|rw [if_neg (by omega)]))
  rw [e]
  clear e
  (refine aL Tryz.func13 rfl Tryz.ntmps13 rfl ?_;intro w0)
  repeat' (first|(refine aG ?_;first|(refine aC ?_;(refine aM rfl ⟨Tryz.call47⟩ rfl bD rfl (hC) ?_;rintro v V2 B2 hV2 ⟨rfl,hB2⟩))|refine st9 ?_|(refine al9 ?_;intro γ)|refine pu9 ?_)|refine cM ?_|(refine aA rfl ?_ ?_<;>intro hq<;>try exact no9))
  all_goals
    (refine bJ Tryz.results13 (aU agg_42 rfl bN (by exact rfl)) (aB rfl) (List.Sublist.cons _ (List.Sublist.cons _ (List.Sublist.refl _))) ?_)
    exact DoR.ch hB2 rfl
theorem Do_13 (V:aE) (p:Nat) (b:BX) (Bs:List Box) (hok:bI b) (h:fE V p b Bs) (c:CL) (hc:yI c) (ho:c.op=13):FnB Tryz.prog 13 [.pointer (some ⟨p,0,none⟩),clV c] V Bs (DoR p (doP b c)):=by
  have hC:=be_c V p b Bs hok h c.a c.b
  have e:doP b c=chT (beP b c.a c.b):=by unfold doP;(repeat (first|rw [if_pos (by omega)]|rw [if_neg (by omega)]))
  rw [e]
  clear e
  (refine aL Tryz.func13 rfl Tryz.ntmps13 rfl ?_;intro w0)
  repeat' (first|(refine aG ?_;first|(refine aC ?_;(refine aM rfl ⟨Tryz.call49⟩ rfl bD rfl (hC) ?_;rintro v V2 B2 hV2 ⟨rfl,hB2⟩))|refine st9 ?_|(refine al9 ?_;intro γ)|refine pu9 ?_)|refine cM ?_|(refine aA rfl ?_ ?_<;>intro hq<;>try exact no9))
  all_goals
    (refine bJ Tryz.results13 (aU agg_42 rfl bN (by exact rfl)) (aB rfl) (List.Sublist.cons _ (List.Sublist.cons _ (List.Sublist.refl _))) ?_)
    exact DoR.ch hB2 rfl
theorem Do_look (V:aE) (p:Nat) (b:BX) (Bs:List Box) (hok:bI b) (h:fE V p b Bs) (c:CL) (hc:yI c) (ho:1≤c.op∧c.op≤3):FnB Tryz.prog 13 [.pointer (some ⟨p,0,none⟩),clV c] V Bs (DoR p (doP b c)):=by
  have hC:=look_b hok h c hc.1
  have e:doP b c=(b,mS b c):=by unfold doP;(repeat (first|rw [if_pos (by omega)]|rw [if_neg (by omega)]))
  rw [e]
  clear e
  (refine aL Tryz.func13 rfl Tryz.ntmps13 rfl ?_;intro w0)
  repeat' (first|(refine aG ?_;first|(refine aC ?_;(refine aM rfl ⟨Tryz.call40⟩ rfl bD rfl (hC) ?_;rintro v V2 B2 hV2 ⟨rfl,A2,n2,c2,rfl,hS2,hn2⟩))|refine st9 ?_|(refine al9 ?_;intro γ)|refine pu9 ?_)|refine cM ?_|(refine aA rfl ?_ ?_<;>intro hq<;>try exact no9))
  all_goals
    (refine bJ Tryz.results13 (aU agg_42 rfl bN (by exact rfl)) (aB rfl) (List.Sublist.cons _ (List.Sublist.cons _ (List.Sublist.refl _))) ?_)
    exact⟨⟨A2,n2,c2,rfl,hS2,hn2⟩,h.le vl9⟩
theorem Do_get (V:aE) (p:Nat) (b:BX) (Bs:List Box) (hok:bI b) (h:fE V p b Bs) (c:CL) (hc:yI c) (ho:c.op=12):FnB Tryz.prog 13 [.pointer (some ⟨p,0,none⟩),clV c] V Bs (DoR p (doP b c)):=by
  have hC:=get_c V p b Bs hok h c hc.1 (by have:=hc.2.2.1;omega)
  have e:doP b c=(b,tI b c):=by unfold doP;(repeat (first|rw [if_pos (by omega)]|rw [if_neg (by omega)]))
  rw [e]
  clear e
  (refine aL Tryz.func13 rfl Tryz.ntmps13 rfl ?_;intro w0)
  repeat' (first|(refine aG ?_;first|(refine aC ?_;(refine aM rfl ⟨Tryz.call48⟩ rfl bD rfl (hC) ?_;rintro v V2 B2 hV2 ⟨rfl,A2,n2,c2,rfl,hS2,hn2⟩))|refine st9 ?_|(refine al9 ?_;intro γ)|refine pu9 ?_)|refine cM ?_|(refine aA rfl ?_ ?_<;>intro hq<;>try exact no9))
  all_goals
    (refine bJ Tryz.results13 (aU agg_42 rfl bN (by exact rfl)) (aB rfl) (List.Sublist.cons _ (List.Sublist.cons _ (List.Sublist.refl _))) ?_)
    exact⟨⟨A2,n2,c2,rfl,hS2,hn2⟩,h.le vl9⟩
theorem Do_charge (V:aE) (p:Nat) (b:BX) (Bs:List Box) (hok:bI b) (h:fE V p b Bs) (c:CL) (ho:c.op=14):FnB Tryz.prog 13 [.pointer (some ⟨p,0,none⟩),clV c] V Bs (DoR p (doP b c)):=by
  have e:doP b c=(b,{ tdZ with size:=bB (b.ls.headD pnZ) },0):=by unfold doP;(repeat (first|rw [if_pos (by omega)]|rw [if_neg (by omega)]))
  rw [e]
  clear e
  have h0:=h
  obtain⟨I,L1,rfl,hW⟩:=h
  obtain⟨q,x0,xt,rest,hK,hx,hL1,hlen,hme,hml,hm0⟩:=hW.open_ hok
  have hx0:aT V x0:=hW.ls x0 (by rw [hx];simp)
  have hhd:b.ls.headD pnZ=x0.n:=by rw [←hW.eq,hx];rfl
  have hBl:=sY V x0 hx0
  rw [hhd]
  subst hL1
  (refine aL Tryz.func13 rfl Tryz.ntmps13 rfl ?_;intro w0)
  repeat' (first|(refine aG ?_;first|(refine aC ?_;refine aO rfl (aK ⟨Tryz.call17⟩ rfl (hBl)) ?_)|(refine bH ?_;refine aI (dG (k:=0) und_30 siz_50 rfl hK rfl hm0) ?_)|refine st9 ?_|(refine al9 ?_;intro γ)|refine pu9 ?_)|refine cM ?_|(refine aA rfl ?_ ?_<;>intro hq<;>try exact no9))
  all_goals
    (refine bJ Tryz.results13 (aU agg_42 rfl bN (by exact rfl)) (aB rfl) (List.Sublist.cons _ (List.Sublist.cons _ (List.Sublist.refl _))) ?_)
    exact⟨⟨none,0,0,by rw [bO];rfl,cV.nil,Nat.le_refl _⟩,h0.le vl9⟩
theorem Do_none (V:aE) (p:Nat) (b:BX) (Bs:List Box) (hok:bI b) (h:fE V p b Bs) (c:CL) (ho:c.op<1∨14<c.op):FnB Tryz.prog 13 [.pointer (some ⟨p,0,none⟩),clV c] V Bs (DoR p (doP b c)):=by
  have e:doP b c=(b,tdZ,3):=by unfold doP;(repeat (first|rw [if_pos (by omega)]|rw [if_neg (by omega)]))
  rw [e]
  clear e
  (refine aL Tryz.func13 rfl Tryz.ntmps13 rfl ?_;intro w0)
  repeat' (first|(refine aG ?_;first|refine st9 ?_|(refine al9 ?_;intro γ)|refine pu9 ?_)|refine cM ?_|(refine aA rfl ?_ ?_<;>intro hq<;>try exact no9))
  all_goals
    (refine bJ Tryz.results13 (aU agg_42 rfl bN (by exact rfl)) (aB rfl) (List.Sublist.cons _ (List.Sublist.cons _ (List.Sublist.refl _))) ?_)
    exact⟨⟨none,0,0,by show _=Value.tuple #[_,bA 3];rw [bW (by decide)];rfl,cV.nil,Nat.le_refl _⟩,h.le vl9⟩
theorem Do_c (V:aE) (p:Nat) (b:BX) (Bs:List Box) (hok:bI b) (h:fE V p b Bs) (c:CL) (hc:yI c):FnB Tryz.prog 13 [.pointer (some ⟨p,0,none⟩),clV c] V Bs (DoR p (doP b c)):=by
  by_cases h0:c.op<1∨14<c.op
  · exact Do_none V p b Bs hok h c h0
  by_cases h1:1≤c.op∧c.op≤3
  · exact Do_look V p b Bs hok h c hc h1
  by_cases h4:c.op=4
  · exact Do_4 V p b Bs hok h c hc h4
  by_cases h5:c.op=5
  · exact Do_5 V p b Bs hok h c hc h5
  by_cases h6:c.op=6
  · exact Do_6 V p b Bs hok h c hc h6
  by_cases h7:c.op=7
  · exact Do_7 V p b Bs hok h c hc h7
  by_cases h8:c.op=8
  · exact Do_8 V p b Bs hok h c hc h8
  by_cases h9:c.op=9
  · exact Do_9 V p b Bs hok h c hc h9
  by_cases h10:c.op=10
  · exact Do_10 V p b Bs hok h c hc h10
  by_cases h11:c.op=11
  · exact Do_11 V p b Bs hok h c hc h11
  by_cases h13:c.op=13
  · exact Do_13 V p b Bs hok h c hc h13
  by_cases h12:c.op=12
  · exact Do_get V p b Bs hok h c hc h12
  exact Do_charge V p b Bs hok h c (by omega)
end
end Go.Proofs.YtejkmomfpidnbacGreat
