/- Walks and plain laws, part 7: what functions compute, proved once each (BoxE, BoxE2, Lend, LendN, Nodes, BoxG, BoxA, BoxC, BoxM, AttrE5, BoxS, BxP). -/
import Derived.Test.YtejkmomfpidnbabGreatPart6
import Derived.Test.YtejkmomfpidnbabGreatPart5
import Derived.Test.YtejkmomfpidnbabGreatPart1
import Derived.Test.YtejkmomfpidnbabGreatPart2
import Derived.Test.YtejkmomfpidnbabGreatPart3
import Derived.Test.YtejkmomfpidnbabGreatPart4
set_option linter.unusedSimpArgs false
set_option linter.unusedVariables false
set_option maxRecDepth 100000
set_option maxHeartbeats 40000000
namespace Go.Proofs.YtejkmomfpidnbabGreat
open Go.RowKit
section
structure BI where
  M:LM
  A:Option Addr
  n:Nat
  k:Nat
  K:Option Addr
  m:Nat
  e:Nat
  xs:List LN
abbrev mC (M:LM):List Value:=[.slice M.A M.n M.c,.slice M.B M.m M.e]
abbrev crC (c:CR) (A:Option Addr) (n k:Nat):List Value:=[.int .i64 c.u,.int .i64 c.g,.slice A n k,.int .i64 c.d]
abbrev bxC (I:BI) (b:BX):List Value:=[.slice I.M.A I.M.n I.M.c,.slice I.M.B I.M.m I.M.e,.int .i64 b.c.u,.int .i64 b.c.g,.slice I.A I.n I.k,.int .i64 b.c.d,.int .i64 b.q,.slice I.K I.m I.e]
structure BoxI (V:aD) (b:BX) (I:BI):Prop where
  M:nC V I.M
  us:I.M.us=b.us
  gs:I.M.gs=b.gs
  xs:eM V I.A I.n b.c.xs
  nk:True
  ls:dR V I.K I.m I.xs
  le:I.m≤I.e
  eq:I.xs.map LN.n=b.ls
theorem BoxI.len {V:aD} {b:BX} {I:BI} (h:BoxI V b I):b.ls.length=I.m:=by rw [←h.eq,List.length_map];exact h.ls.1.1
theorem BoxI.up {V V':aD} {b:BX} {I:BI} (h:BoxI V b I) (hv:VLe V V'):BoxI V' b I:=⟨h.M.le hv,h.us,h.gs,h.xs.le hv,h.nk,h.ls.le hv,h.le,h.eq⟩
def pP (V:aD) (p:Nat) (b:BX) (I:BI):Prop:=aG V p 0 (bxC I b)∧BoxI V b I
theorem pP.le {V V':aD} {p:Nat} {b:BX} {I:BI} (h:pP V p b I) (hv:VLe V V'):pP V' p b I:=⟨h.1.le hv,h.2.up hv⟩
theorem cells_sub {V:aD} {g o:Nat} {xs:List Value} (h:aG V g o xs) (a n:Nat) {ys:List Value} (hy:(xs.drop a).take n=ys):aG V g (o+a) ys:=fun j v hj=>by
  subst hy
  rw [List.getElem?_take] at hj
  split at hj
  · rw [List.getElem?_drop] at hj
    have:=h (a+j) v hj
    rw [show o+a+j=o+(a+j) by omega];exact this
  · cases hj
theorem pP.parts {V:aD} {p:Nat} {b:BX} {I:BI} (h:pP V p b I):aG V p (0+0) (mC I.M)∧aG V p (0+2) (crC b.c I.A I.n I.k)∧V ⟨p,0+6,none⟩=some (.int .i64 b.q)∧V ⟨p,0+7,none⟩=some (.slice I.K I.m I.e) :=
  ⟨cells_sub h.1 0 2 rfl,cells_sub h.1 2 4 rfl,h.1 6 _ rfl,h.1 7 _ rfl⟩
structure bI (b:BX):Prop where
  c:eT b.c.u b.c.g b.c.d b.c.xs=0
  q:1≤b.q∧b.q≤64
  l1:0<b.ls.length
  l4:b.ls.length≤4
  up:∀ x,b.ls[0]?=some x→cP true x=0
  lo:∀ j x,0<j→b.ls[j]?=some x→cP false x=0
theorem bI.tree {b:BX} (h:bI b):∀ x∈b.ls,∃ u,cP u x=0:=fun x hx=>by
  obtain⟨j,hj,rfl⟩:=List.getElem_of_mem hx
  rcases Nat.eq_zero_or_pos j with rfl|h0
  · exact⟨true,h.up _ (List.getElem?_eq_getElem hj)⟩
  · exact⟨false,h.lo j _ h0 (List.getElem?_eq_getElem hj)⟩
theorem fit_small {h:Hd} {ks:PKs} (k:uO h ks):eA h ks:=by
  obtain⟨_,_,_,_,h5,_,h7,_⟩:=k
  exact⟨by have:=h5.1;omega,by omega⟩
theorem bI.fit {b:BX} (h:bI b):∀ x∈b.ls,cB uO x:=fun x hx=>by
  obtain⟨u,hu⟩:=h.tree x hx
  exact(kP hu).1
theorem bI.small {b:BX} (h:bI b):∀ x∈b.ls,cB eA x:=fun x hx=>(h.fit x hx).imp fun _ _=>fit_small
theorem bI.smallL {V:aD} {b:BX} {I:BI} (h:bI b) (hI:BoxI V b I):∀ x∈I.xs,cB eA x.n:=fun x hx=>h.small _ (by rw [←hI.eq];exact List.mem_map_of_mem (f:=LN.n) hx)
theorem bI.names {b:BX} (h:bI b):∀ x∈b.ls,cB nmP x:=fun x hx=>by
  obtain⟨u,hu⟩:=h.tree x hx
  exact tree_names hu
theorem bI.d {b:BX} (h:bI b):0≤b.c.d∧b.c.d≤15:=(eY h.c).2.2.1
theorem bI.root {b:BX} (h:bI b):∃ n0 t,b.ls=n0 :: t∧n0.h.kind=2:=by
  cases hl:b.ls with
  | nil=>have:=h.l1;rw [hl] at this;simp at this
  | cons n0 t=>exact⟨n0,t,rfl,(sT.1 (h.up n0 (by rw [hl];rfl))).1⟩
theorem n_hd' {y:LN} {p:PN} (h:y.n=p):y.h=p.h:=by rw [←h];rfl
section
variable {B : Base} {N : Nat} {F : List (Nat × Value)} {V : aD} {L : List Box}
variable {d : Option Tmp} {ty : TypeId} {pos : String} {af : Array Edge} {gd : Option (Nat × Bool)}
theorem xE {x0 x1 x3:Operand} {a1 a2 a3 a4 a5 a6 a7 a8 c1 c2 c3 c4 c5:Value} {n:Int} (h0:evF F x0=some (.agg #[a1,a2,a3,a4,a5,a6,a7,a8])) (h1:evF F x1=some (.int .i64 n)) (h3:evF F x3=some (.agg #[c1,c2,c3,c4,c5])) :
    QP Tryz.prog B N V L ⟨d,.build 214 #[(0,x0),(1,x1),(3,x3)],ty,pos,af,gd⟩ F (.agg #[a1,a2,a3,a4,a5,a6,a7,a8,.int .i64 n,.bool false,.int .i64 0,.int .i64 0,.int .i64 0,.bool false,c1,c2,c3,c4,c5]) :=
  q_build (ps:=[(0,x0),(1,x1),(3,x3)]) (vs:=[(0,.agg #[a1,a2,a3,a4,a5,a6,a7,a8]),(1,.int .i64 n),(3,.agg #[c1,c2,c3,c4,c5])]) (us:=[a1,a2,a3,a4,a5,a6,a7,a8,.int .i64 n,.bool false,.int .i64 0,.int .i64 0,.int .i64 0,.bool false,c1,c2,c3,c4,c5]) bld_214 (by simp [evP,h0,h1,h3]) (by kernel_rfl)
end
abbrev foC (x:LN) (lay:Int) (par th:TH):List Value:=[.int .i64 x.h.kind,.int .i64 x.h.mode,.int .i64 x.h.user,.int .i64 x.h.group,.bool x.h.opq,.slice x.A x.na x.ca,.string x.h.data,.slice x.K x.nk x.ck,.int .i64 lay,.bool par.dir,.int .i64 par.mode,.int .i64 par.user,.int .i64 par.group,.bool par.mapped,.bool th.dir,.int .i64 th.mode,.int .i64 th.user,.int .i64 th.group,.bool th.mapped]
abbrev foV (x:LN) (lay:Int) (par th:TH):Value:=.agg (foC x lay par th).toArray
def FoundR (s:SP) (v:Value) (V':aD):Prop:=∃ x:LN,v=.tuple #[foV x s.lay s.par s.th,.bool s.is]∧aT V' x∧x.n=s.n
theorem uB {b:BX} {ss:List ByteArray} {par:TH} (h:cR b.ls ss=[]):fQ b ss par=⟨false,pnZ,0,sS true b.us b.gs hZ,par⟩:=by unfold fQ;rw [h]
theorem kI {b:BX} {ss:List ByteArray} {par:TH} {f:PF} {t:List PF} (h:cR b.ls ss=f :: t):fQ b ss par=⟨true,f.1,f.2,sS (decide (f.2=0)) b.us b.gs f.1.h,par⟩:=by unfold fQ;rw [h]
attribute [local irreducible] AtQ GoC GoL GoW QO QP Fn RV bL aG VLe bR bK
theorem seen_c (V:aD) (p:Nat) (b:BX) (I:BI) (hok:bI b) (h:pP V p b I) (B:Option Addr) (m e:Nat) (ss:List ByteArray) (hs:cL V B m ss):Fn Tryz.prog 230 [.pointer (some ⟨p,0,none⟩),.slice B m e] V (FoundR (fQ b ss thZ)):=by
  obtain⟨hcM,hcC,hcq,hcl⟩:=h.parts
  have hI:=h.2
  have hm4:I.m≤4:=by rw [←hI.len];exact hok.l4
  have hL:=LookM_c V I.K I.m I.e I.xs hI.ls (by omega) (hok.smallL hI) B m e ss hs
  rw [hI.eq] at hL
  have hS:=fun V' (hV:VLe V V') (x:LN) (hx:aT V' x) (u:Bool) (h0:Hd) (hh:x.h=h0) (th:TH) (ht:sS u b.us b.gs h0=th)=>(by
    have h9:=Seen_c V' I.M (hI.M.le hV) x hx u
    rw [hI.us,hI.gs,hh] at h9
    have e:seenV u b.us b.gs h0=thV th:=by rw [←ht];rfl
    rw [e] at h9
    exact h9:Fn Tryz.prog 260 [lmV I.M,lnV x,.bool u] V' fun v _=>v=thV th)
  rcases hw:cR b.ls ss with _|⟨f,t⟩
  · rw [hw] at hL
    rw [uB hw]
    have hS1:=fun V' (hV:VLe V V')=>hS V' hV lnZ aT.zero true hZ rfl _ rfl
    generalize sS true b.us b.gs hZ=th at hS1 ⊢
    clear hS
    (refine aI Tryz.func230 rfl Tryz.ntmps230 rfl ?_;intro w0)
    repeat' (first|(refine aE ?_;first|(refine aC ?_;(refine aS rfl ⟨Tryz.call232⟩ rfl rfl (hL) ?_;rintro v V1 hV1 (⟨_,rfl⟩|⟨_,_,_,hx,_⟩);rotate_left;cases hx;have hcM1:=hcM.le hV1))|refine st9 ?_|(refine al9 ?_;intro γ)|refine pu9 ?_)|refine cC ?_|fail)
    refine bX (id:=2) _ mixed (List.Sublist.cons_cons _ (List.nil_sublist _)) ?_;refine gt9 0 ?_;refine gt9 1 ?_;refine gt9 2 ?_;refine gt9 3 ?_;refine gt9 4 ?_;refine gt9 5 ?_;refine gt9 6 ?_;refine gt9 7 ?_;refine gt9 8 ?_;refine gt9 11 ?_;refine aZ (i:=9) rfl ?_;refine aP rfl (aK ⟨Tryz.call260⟩ rfl (hS1 _ vl9)) ?_;refine fL 10 rfl rfl (xE rfl rfl rfl) ?_;refine aZ (i:=12) rfl ?_;refine aR rfl siz_214 rfl rfl rfl rfl bJ kH rfl ?_;refine gt9 13 ?_;refine aY (by kernel_rfl) vl9 vl9 bP ?_
    all_goals
      repeat' (first|refine gx9 ?_|fail)
      (refine bB Tryz.results230 (aW agg_214 rfl bA (by exact rfl)) (aB rfl) ?_)
      exact⟨lnZ,rfl,aT.zero,rfl⟩
  · rw [hw] at hL
    rw [kI hw]
    obtain⟨fn,fl⟩:=f
    have hS1:=fun V' (hV:VLe V V') (y:LN) (hy:aT V' y) (hh:y.h=fn.h)=>hS V' hV y hy (decide (fl=0)) fn.h hh _ rfl
    show Fn _ _ _ _ (FoundR ⟨true,fn,fl,sS (decide (fl=0)) b.us b.gs fn.h,thZ⟩)
    generalize sS (decide (fl=0)) b.us b.gs fn.h=th at hS1 ⊢
    clear hS
    (refine aI Tryz.func230 rfl Tryz.ntmps230 rfl ?_;intro w0)
    repeat' (first|(refine aE ?_;first|(refine aC ?_;(refine aS rfl ⟨Tryz.call232⟩ rfl rfl (hL) ?_;rintro v V1 hV1 (⟨hx,_⟩|⟨f',t',y,hx,rfl,hyN,hyn⟩);cases hx;cases hx;have hcM1:=hcM.le hV1))|refine st9 ?_|(refine al9 ?_;intro γ)|refine pu9 ?_)|refine cC ?_|fail)
    have hyh:=n_hd' hyn
    have hS2:=fun V' (hV:VLe V1 V')=>hS1 V' (hV1.trans hV) y (hyN.le hV) hyh
    refine bX (id:=2) _ mixed (List.Sublist.cons_cons _ (List.nil_sublist _)) ?_;refine gt9 0 ?_;refine gt9 1 ?_;refine gt9 2 ?_;refine gt9 3 ?_;refine gt9 4 ?_;refine gt9 5 ?_;refine gt9 6 ?_;refine gt9 7 ?_;refine gt9 8 ?_;refine gt9 11 ?_;refine aZ (i:=9) rfl ?_;refine aP rfl (aK ⟨Tryz.call260⟩ rfl (hS2 _ (VLe.refl _))) ?_;refine fL 10 rfl rfl (xE rfl rfl rfl) ?_;refine aZ (i:=12) rfl ?_;refine aR rfl siz_214 rfl rfl rfl rfl bJ kH rfl ?_;refine gt9 13 ?_;refine aY (by kernel_rfl) vl9 vl9 bP ?_
    all_goals
      repeat' (first|refine gx9 ?_|fail)
      (refine bB Tryz.results230 (aW agg_214 rfl bA (by exact rfl)) (aB rfl) ?_)
      exact⟨y,rfl,hyN.le vl9,hyn⟩
def ToR (s:SP×Int) (v:Value) (V':aD):Prop:=(s.2=0∧∃ x:LN,v=.tuple #[foV x s.1.lay s.1.par s.1.th,.bool s.1.is,bK 0]∧aT V' x∧x.n=s.1.n)∨(¬s.2=0∧v=.tuple #[foV lnZ 0 thZ thZ,.bool false,bK s.2])
theorem look_mode {b:BX} (hok:bI b) (ss:List ByteArray) (par:TH):0≤(fQ b ss par).th.mode∧(fQ b ss par).th.mode≤4095:=by
  cases hw:cR b.ls ss with
  | nil=>rw [uB hw];show 0≤(0:Int)∧(0:Int)≤4095;omega
  | cons f t =>
    rw [kI hw]
    have:=(iE hok.fit ss f (by rw [hw];simp)).here
    exact this.2.1
theorem tN {b:BX} (hok:bI b) (ss:List ByteArray):∀ k,0≤(eU b ss k).1.th.mode∧(eU b ss k).1.th.mode≤4095
  | 0=>look_mode hok _ _
  | k+1=>by
    have ih:=tN hok ss k
    rw [eU]
    (repeat' split)<;>first|exact ih|exact look_mode hok _ _
theorem look_par {b:BX} {ss:List ByteArray} {par:TH}:(fQ b ss par).par=par:=by unfold fQ;split<;>rfl
theorem look_th {b:BX} {ss:List ByteArray} {par par':TH}:(fQ b ss par).th=(fQ b ss par').th∧(fQ b ss par).n=(fQ b ss par').n∧(fQ b ss par).lay=(fQ b ss par').lay∧(fQ b ss par).is=(fQ b ss par').is:=by unfold fQ;split<;>exact⟨rfl,rfl,rfl,rfl⟩
theorem rH {V:aD} {A:Option Addr} {n k:Nat} {xs:List ByteArray} (h:cL V A n xs) (hk:k≤n):cL V A k (xs.take k):=⟨h.1.take hk,fun x hx=>h.2 x (List.mem_of_mem_take hx)⟩
theorem spot_on {b:BX} {ss:List ByteArray} {k:Nat} {s:SP} (h:eU b ss k=(s,0)):eU b ss (k+1)=if ¬s.n.h.kind=2 then (s,7) else if nH b.c s.th 1=false then (s,9) else if (fQ b (ss.take (k+1)) s.th).is=false∧k+1<ss.length then (s,5) else (fQ b (ss.take (k+1)) s.th,0):=by
  rw [eU,h,if_neg (by simp)]
theorem spot_end {b:BX} {ss:List ByteArray} {k:Nat} {r:SP×Int} (h:eU b ss (k+1)=r) (hr:¬r.2=0) (hk:k<ss.length):dE b ss=r:=by
  have h2:=spotK_stop (b:=b) (ss:=ss) (k:=k+1) (by rw [h];exact hr) (ss.length - (k+1))
  rw [show k+1+(ss.length - (k+1))=ss.length by omega,h] at h2
  exact h2
theorem ToR.no {s:SP×Int} {e:Int} {V':aD} (h:s.2=e) (he:¬e=0):ToR s (.tuple #[foV lnZ 0 thZ thZ,.bool false,.iface 120 (.int .i64 e)]) V':=.inr ⟨by rw [h];exact he,by rw [h,cU he]⟩
theorem to_c (V:aD) (p:Nat) (b:BX) (I:BI) (hok:bI b) (h:pP V p b I) (B:Option Addr) (m e:Nat) (ss:List ByteArray) (hs:cL V B m ss) (hme:m≤e):Fn Tryz.prog 146 [.pointer (some ⟨p,0,none⟩),.slice B m e] V (ToR (dE b ss)):=by
  have sl:=hs.1.1
  have sm:=hs.1.max
  have hd:=hok.d
  obtain⟨n0,t0,hls,hkd0⟩:=hok.root
  have hr0:cR b.ls []=(n0,0) :: (if n0.h.opq=true then [] else dI (jS 1 t0)):=by
    show lT b.ls=_
    rw [hls];exact vP hkd0
  have hS0:Fn Tryz.prog 230 [.pointer (some ⟨p,0,none⟩),.slice none 0 0] V (FoundR ⟨true,n0,0,sS true b.us b.gs n0.h,thZ⟩):=by
    have:=seen_c V p b I hok h none 0 0 [] cL.nil
    rw [kI hr0] at this;exact this
  have e0:eU b ss 0=(⟨true,n0,0,sS true b.us b.gs n0.h,thZ⟩,0):=by rw [eU,kI hr0];rfl
  generalize sS true b.us b.gs n0.h=th0 at e0 hS0
  (refine aI Tryz.func146 rfl Tryz.ntmps146 rfl ?_;intro w0)
  repeat' (first|(refine aE ?_;first|(refine aC ?_;(refine aS rfl ⟨Tryz.call230⟩ rfl rfl (hS0) ?_;rintro v V1 hV1 ⟨x,rfl,hxN,hxn⟩))|(refine eF ?_;refine aR rfl siz_214 rfl rfl rfl rfl bJ kH rfl ?_)|(refine al9 ?_;intro γ)|refine pu9 ?_)|refine bY ?_|fail)
  rename_i g4
  refine bN (fun F V' L' m'=>∃ (k:Nat) (x:LN) (n:PN) (lay:Int) (th par:TH),VLe V1 V'∧aT V' x∧x.n=n∧eU b ss k=(⟨true,n,lay,th,par⟩,0)∧[⟨γ,214,foC x lay par th⟩,⟨g4,214,foC lnZ 0 thZ thZ⟩]=L'∧k≤m∧m'=m - k∧F=[(0,.pointer (some ⟨p,0,none⟩)),(1,.slice B m e),(4,.pointer (some ⟨g4,0,none⟩)),(7,.pointer (some ⟨γ,0,none⟩)),(18,.int .i64 m),(19,.int .i64 (k:Int))]) (m:=m) ⟨0,x,n0,0,th0,thZ,VLe.refl _,hxN,hxn,e0,rfl,Nat.zero_le _,by omega,rfl⟩ bH rfl sl9 ?_
  rintro F V' L' m' ⟨k,x,n,lay,th,par,hV',hxN,rfl,hsp,rfl,hkm,rfl,rfl⟩
  have hV0:=hV1.trans hV'
  have hth:=tN hok ss k
  rw [hsp] at hth
  by_cases hlt:k<m
  · have hb':=h.le hV0
    obtain⟨hcM,hcC,hcq,hcl⟩:=hb'.parts
    have hon:=spot_on hsp
    have hend:=fun (r:SP×Int) (hr:eU b ss (k+1)=r) (hn:¬r.2=0)=>spot_end hr hn (by omega)
    by_cases hkd:x.n.h.kind=2
    · have hMay:=fun V2 (hV2:VLe V' V2)=>May_c V2 b.c I.A I.n I.k (hb'.2.xs.le hV2) hd th hth 1 (.inl rfl)
      cases hmy:nH b.c th 1 with
      | false =>
        rw [hmy] at hMay
        have hsp2:=hend _ (hon.trans (by rw [if_neg (not_not_intro hkd),if_pos hmy])) (by simp)
        repeat' (first|(refine aE ?_;first|(refine aC ?_;refine aP rfl (aK ⟨Tryz.call144⟩ rfl (hMay _ vl9)) ?_)|(refine eF ?_;refine aR rfl siz_214 rfl rfl rfl rfl bJ kH rfl ?_)|refine pu9 ?_)|refine dG ?_|(refine aA rfl ?_ ?_<;>intro hq<;>try exact no9)|refine bQ (id:=7) mixed (by kernel_rfl) ?_)
        all_goals first
          | (exfalso;exact absurd hkd (by assumption))
          | skip
        all_goals
          (refine fV Tryz.results146 (aW agg_214 rfl bA (by exact rfl)) (aB rfl) (aB rfl) ?_)
          rw [hsp2]
          exact ToR.no rfl (by decide)
      | true =>
        rw [hmy] at hMay
        rw [if_neg (not_not_intro hkd),if_neg (by rw [hmy];decide)] at hon
        have hstr:=rH (hs.le hV0) (k:=k+1) (by omega)
        have hS:=seen_c V' p b I hok hb' B (k+1) e _ hstr
        have hl1:=look_th (b:=b) (ss:=ss.take (k+1)) (par:=th) (par':=thZ)
        have hl2:=look_par (b:=b) (ss:=ss.take (k+1)) (par:=th)
        have hS':=fun V2 (hV2:VLe V' V2)=>seen_c V2 p b I hok (hb'.le hV2) B (k+1) e _ (hstr.le hV2)
        generalize fQ b (ss.take (k+1)) thZ=s9 at hl1 hS hS'
        generalize hs8:fQ b (ss.take (k+1)) th=s8 at hl1 hl2 hon
        obtain⟨is8,n8,lay8,th8,par8⟩:=s8
        obtain⟨is9,n9,lay9,th9,par9⟩:=s9
        obtain⟨l1,l2,l3,l4⟩:=hl1
        simp only at l1 l2 l3 l4 hl2
        subst l1 l2 l3 l4 hl2
        simp only at hon
        have hon:eU b ss (k+1)=if is8=false∧k+1<ss.length then (⟨true,x.n,lay,par8,par⟩,5) else (⟨is8,n8,lay8,th8,par8⟩,0):=hon
        have e11:((k:Int)+1).toNat=k+1:=by omega
        cases is8 with
        | false =>
          by_cases hk1:k+1<m
          · have hsp2:=hend _ (hon.trans (if_pos ⟨rfl,by omega⟩)) (by simp)
            repeat' (first|(refine aE ?_;first|(refine aC ?_;(first|refine aP rfl (aK ⟨Tryz.call144⟩ rfl (hMay _ vl9)) ?_|(refine aS rfl ⟨Tryz.call230⟩ rfl rfl (hS' _ vl9) ?_;rintro v V3 hV3 ⟨y,rfl,hyN,hyn⟩)))|(refine eF ?_;refine aR rfl siz_214 rfl rfl rfl rfl bJ kH rfl ?_)|(refine eG ?_;(first|refine aO (cT (h:=k+1) und_47 siz_9 rfl rfl (by omega)) ?_|refine aO (cT und_47 siz_9 rfl rfl (by omega)) ?_|refine aO (eR und_47 siz_9 rfl rfl (by omega)) ?_))|(refine al9 ?_;intro γ)|refine pu9 ?_)|refine dG ?_|(refine aA rfl ?_ ?_<;>intro hq<;>try exact no9)|refine bQ (id:=7) mixed (by kernel_rfl) ?_)
            all_goals first
              | (exfalso;exact absurd hkd (by assumption))
              | exact no9
              | skip
            all_goals
              (refine fV Tryz.results146 (aW agg_214 rfl bA (by exact rfl)) (aB rfl) (aB rfl) ?_)
              rw [hsp2]
              exact ToR.no rfl (by decide)
          · have hfin:dE b ss=(⟨false,n8,lay8,th8,par8⟩,0):=by
              have:=hon.trans (if_neg (by rintro ⟨_,h9⟩;omega))
              unfold dE
              rw [show ss.length=k+1 by omega];exact this
            repeat' (first|(refine aE ?_;first|(refine aC ?_;(first|refine aP rfl (aK ⟨Tryz.call144⟩ rfl (hMay _ vl9)) ?_|(refine aS rfl ⟨Tryz.call230⟩ rfl rfl (hS' _ vl9) ?_;rintro v V3 hV3 ⟨y,rfl,hyN,hyn⟩)))|(refine eF ?_;refine aR rfl siz_214 rfl rfl rfl rfl bJ kH rfl ?_)|(refine eG ?_;(first|refine aO (cT (h:=k+1) und_47 siz_9 rfl rfl (by omega)) ?_|refine aO (cT und_47 siz_9 rfl rfl (by omega)) ?_|refine aO (eR und_47 siz_9 rfl rfl (by omega)) ?_))|refine st9 ?_|(refine al9 ?_;intro γ)|refine pu9 ?_)|refine dG ?_|(refine aA rfl ?_ ?_<;>intro hq<;>try exact no9)|refine bQ (id:=7) mixed (by kernel_rfl) ?_)
            all_goals first
              | (exfalso;exact absurd hkd (by assumption))
              | exact no9
              | skip
            all_goals
              (refine fV Tryz.results146 (aW agg_214 rfl bA (by exact rfl)) (aB rfl) (aB rfl) ?_)
              rw [hfin]
              exact .inl ⟨rfl,y,(by rw [cH];first|done|rfl),hyN.le vl9,hyn⟩
        | true =>
          have hnx:=hon.trans (if_neg (by rintro ⟨h9,_⟩;cases h9))
          repeat' (first|(refine aE ?_;first|(refine aC ?_;(first|refine aP rfl (aK ⟨Tryz.call144⟩ rfl (hMay _ vl9)) ?_|(refine aS rfl ⟨Tryz.call230⟩ rfl rfl (hS' _ vl9) ?_;rintro v V3 hV3 ⟨y,rfl,hyN,hyn⟩)))|(refine eF ?_;refine aR rfl siz_214 rfl rfl rfl rfl bJ kH rfl ?_)|(refine eG ?_;(first|refine aO (cT (h:=k+1) und_47 siz_9 rfl rfl (by omega)) ?_|refine aO (cT und_47 siz_9 rfl rfl (by omega)) ?_|refine aO (eR und_47 siz_9 rfl rfl (by omega)) ?_))|refine st9 ?_|(refine al9 ?_;intro γ)|refine pu9 ?_)|refine dG ?_|(refine aA rfl ?_ ?_<;>intro hq<;>try exact no9)|refine bQ (id:=7) mixed (by kernel_rfl) ?_)
          all_goals first
            | (exfalso;exact absurd hkd (by assumption))
            | exact no9
            | skip
          all_goals refine aX _ (m - (k+1)) ⟨k+1,y,n8,lay8,th8,par8,hV'.trans hV3,hyN,hyn,hnx,rfl,by omega,rfl,rfl⟩ (by omega) bH sl9
    · have hsp2:=hend _ (hon.trans (if_pos hkd)) (by simp)
      repeat' (first|(refine aE ?_;first|(refine eF ?_;refine aR rfl siz_214 rfl rfl rfl rfl bJ kH rfl ?_)|refine pu9 ?_)|refine bY ?_|(refine aA rfl ?_ ?_<;>intro hq<;>try exact no9))
      all_goals first
        | (exfalso;exact absurd (by assumption) hkd)
        | (exfalso;exact absurd hkd (by assumption))
        | (exfalso;rename_i hq9;exact hq9 hkd)
        | skip
      all_goals
        (refine fV Tryz.results146 (aW agg_214 rfl bA (by exact rfl)) (aB rfl) (aB rfl) ?_)
        rw [hsp2]
        exact ToR.no rfl (by decide)
  · obtain rfl:k=m:=by omega
    have hfin:dE b ss=(⟨true,x.n,lay,th,par⟩,0):=by
      unfold dE
      rw [sl];exact hsp
    repeat' (first|(refine aE ?_;first|(refine eF ?_;refine aR rfl siz_214 rfl rfl rfl rfl bJ kH rfl ?_)|refine pu9 ?_)|refine dT ?_|(refine aA rfl ?_ ?_<;>intro hq<;>try exact no9))
    all_goals try exact no9
    all_goals
      (refine fV Tryz.results146 (aW agg_214 rfl bA (by exact rfl)) (aB rfl) (aB rfl) ?_)
      rw [hfin]
      exact .inl ⟨rfl,x,(by rw [cH];first|done|rfl),hxN.le vl9,rfl⟩
end
section
def nE (b:BX) (l:List UInt8) (v:Value) (V':aD):Prop:=(cZ b l=0∧∃ (A:Option Addr) (n c:Nat) (x:LN),v=.tuple #[.slice A n c,foV x (bG b l).lay (bG b l).par (bG b l).th,bK 0]∧cL V' A n (aU l)∧n≤c∧aT V' x∧x.n=(bG b l).n)∨(¬cZ b l=0∧∃ (A:Option Addr) (n c:Nat) (x:LN) (lay:Int) (par th:TH),v=.tuple #[.slice A n c,foV x lay par th,bK (cZ b l)])
theorem nE.no {b:BX} {l:List UInt8} {e:Int} {A:Option Addr} {n c:Nat} {x:LN} {lay:Int} {par th:TH} {V':aD} (h:cZ b l=e) (he:¬e=0):nE b l (.tuple #[.slice A n c,foV x lay par th,bK e]) V':=.inr ⟨by rw [h];exact he,A,n,c,x,lay,par,th,by rw [h]⟩
theorem there_path {b:BX} {l:List UInt8} (h:¬dY l=0):cZ b l=dY l:=if_pos h
theorem there_spot {b:BX} {l:List UInt8} (h:dY l=0) (h2:¬(dE b (aU l)).2=0):cZ b l=(dE b (aU l)).2:=by unfold cZ;rw [if_neg (not_not_intro h),if_pos h2]
theorem there_none {b:BX} {l:List UInt8} (h:dY l=0) (h2:(dE b (aU l)).2=0) (h3:(dE b (aU l)).1.is=false):cZ b l=5:=by unfold cZ;rw [if_neg (not_not_intro h),if_neg (not_not_intro h2),if_pos h3]
theorem there_ok {b:BX} {l:List UInt8} (h:dY l=0) (h2:(dE b (aU l)).2=0) (h3:(dE b (aU l)).1.is=true):cZ b l=0:=by unfold cZ;rw [if_neg (not_not_intro h),if_neg (not_not_intro h2),if_neg (by rw [h3];decide)]
attribute [local irreducible] AtQ GoC GoL GoW QO QP Fn RV bL aG VLe bR bK
theorem there_c (V:aD) (p:Nat) (b:BX) (I:BI) (hok:bI b) (h:pP V p b I) (l:List UInt8) (hl:l.length≤1000000):Fn Tryz.prog 142 [.pointer (some ⟨p,0,none⟩),.string ⟨l.toArray⟩] V (nE b l):=by
  have hS:=xF V l hl
  have hsb:=tJ b (aU l) (aU l).length
  by_cases hp:dY l=0
  · rw [hp] at hS
    (refine aI Tryz.func142 rfl Tryz.ntmps142 rfl ?_;intro w0)
    repeat' (first|(refine aE ?_;first|(refine aC ?_;(refine aS rfl ⟨Tryz.call145⟩ rfl rfl (hS) ?_;rintro v V1 hV1 ⟨A1,n1,c1,rfl,hS1,hc1⟩))|(refine cN ?_;refine aO (vF rfl) ?_)|(refine al9 ?_;intro γ)|refine pu9 ?_)|refine cX ?_|fail)
    have hT:=to_c V1 p b I hok (h.le hV1) A1 n1 c1 _ hS1 hc1
    by_cases hs2:(dE b (aU l)).2=0
    · cases his:(dE b (aU l)).1.is with
      | false =>
        have hth:=there_none hp hs2 his
        rw [show dE b (aU l)=((dE b (aU l)).1,(dE b (aU l)).2) from rfl] at hT
        generalize (dE b (aU l)).1=s at *
        obtain⟨is0,n0,lay0,th0,par0⟩:=s
        simp only at his
        subst his
        repeat' (first|(refine aE ?_;first|(refine aC ?_;(refine aS rfl ⟨Tryz.call146⟩ rfl rfl (hT) ?_;rintro v V2 hV2 (⟨_,x,rfl,hxN,hxn⟩|⟨hx,_⟩);rotate_left;exact absurd hs2 hx))|(refine cN ?_;refine aO (vF rfl) ?_)|(refine eF ?_;refine aR rfl siz_214 rfl rfl rfl rfl bJ kH rfl ?_)|(refine al9 ?_;intro γ)|refine pu9 ?_)|refine cX ?_|fail)
        refine bX (id:=7) _ mixed (List.Sublist.cons_cons _ (List.nil_sublist _)) ?_;refine gt9 0 ?_;refine gt9 1 ?_;refine gt9 2 ?_;refine gt9 3 ?_;refine aZ (i:=4) rfl ?_;refine aR rfl siz_214 rfl rfl rfl rfl bJ kH rfl ?_;refine gt9 5 ?_;refine aY (by kernel_rfl) vl9 vl9 bP ?_
        all_goals
          repeat' (first|refine gx9 ?_|fail)
          (refine fV Tryz.results142 (aB rfl) (aW agg_214 rfl bA (by exact rfl)) (aB rfl) ?_)
          rw [←cU (e:=5) (by decide)]
          exact nE.no hth (by decide)
      | true =>
        have hth:=there_ok hp hs2 his
        have hts:bG b l=(dE b (aU l)).1:=rfl
        rw [show dE b (aU l)=((dE b (aU l)).1,(dE b (aU l)).2) from rfl] at hT
        generalize (dE b (aU l)).1=s at *
        obtain⟨is0,n0,lay0,th0,par0⟩:=s
        simp only at his
        subst his
        repeat' (first|(refine aE ?_;first|(refine aC ?_;(refine aS rfl ⟨Tryz.call146⟩ rfl rfl (hT) ?_;rintro v V2 hV2 (⟨_,x,rfl,hxN,hxn⟩|⟨hx,_⟩);rotate_left;exact absurd hs2 hx))|(refine cN ?_;refine aO (vF rfl) ?_)|(refine eF ?_;refine aR rfl siz_214 rfl rfl rfl rfl bJ kH rfl ?_)|(refine al9 ?_;intro γ)|refine pu9 ?_)|refine cX ?_|fail)
        refine bX (id:=7) _ mixed (List.Sublist.cons_cons _ (List.nil_sublist _)) ?_;refine gt9 0 ?_;refine gt9 1 ?_;refine gt9 2 ?_;refine gt9 3 ?_;refine aZ (i:=4) rfl ?_;refine aR rfl siz_214 rfl rfl rfl rfl bJ kH rfl ?_;refine gt9 5 ?_;refine aY (by kernel_rfl) vl9 vl9 bP ?_
        all_goals
          repeat' (first|refine gx9 ?_|fail)
          (refine fV Tryz.results142 (aB rfl) (aW agg_214 rfl bA (by exact rfl)) (aB rfl) ?_)
          refine .inl ⟨hth,A1,n1,c1,x,?_,hS1.le hV2,hc1,hxN,by rw [hts];exact hxn⟩
          rw [hts]
          first|done|rfl
    · have hth:=there_spot hp hs2
      repeat' (first|(refine aE ?_;first|(refine aC ?_;(refine aS rfl ⟨Tryz.call146⟩ rfl rfl (hT) ?_;rintro v V2 hV2 (⟨hx,_⟩|⟨_,rfl⟩);exact absurd hx hs2))|(refine cN ?_;refine aO (vF rfl) ?_)|(refine eF ?_;refine aR rfl siz_214 rfl rfl rfl rfl bJ kH rfl ?_)|(refine al9 ?_;intro γ)|refine pu9 ?_)|refine cX ?_|(refine aJ rfl rfl rfl ?_ ?_<;>intro hq<;>try exact no9))
      all_goals first
        | (exfalso;exact hs2 (by assumption))
        | skip
      refine bX (id:=7) _ mixed (List.Sublist.cons_cons _ (List.nil_sublist _)) ?_;refine gt9 0 ?_;refine gt9 1 ?_;refine gt9 2 ?_;refine gt9 3 ?_;refine aZ (i:=4) rfl ?_;refine aR rfl siz_214 rfl rfl rfl rfl bJ kH rfl ?_;refine gt9 5 ?_;refine aY (by kernel_rfl) vl9 vl9 bP ?_
      all_goals
        repeat' (first|refine gx9 ?_|fail)
        (refine fV Tryz.results142 (aB rfl) (aW agg_214 rfl bA (by exact rfl)) (aB rfl) ?_)
        exact nE.no hth hs2
  · have hth:=there_path (b:=b) hp
    (refine aI Tryz.func142 rfl Tryz.ntmps142 rfl ?_;intro w0)
    repeat' (first|(refine aE ?_;first|(refine aC ?_;(refine aS rfl ⟨Tryz.call145⟩ rfl rfl (hS) ?_;rintro v V1 hV1 ⟨A1,n1,c1,rfl,hS1,hc1⟩))|(refine cN ?_;refine aO (vF rfl) ?_)|(refine eF ?_;refine aR rfl siz_214 rfl rfl rfl rfl bJ kH rfl ?_)|(refine al9 ?_;intro γ)|refine pu9 ?_)|refine cC ?_|(refine aA rfl ?_ ?_<;>intro hq<;>try exact no9))
    all_goals first
      | (exfalso;exact absurd hp (by assumption))
      | skip
    all_goals
      (refine fV Tryz.results142 (aB rfl) (aW agg_214 rfl bA (by exact rfl)) (aB rfl) ?_)
      exact nE.no (x:=lnZ) (lay:=0) (par:=thZ) (th:=thZ) hth hp
def fK (b:BX) (s:SP):Int:=if nH b.c s.par 2=false then 9 else if takesT b.c s.par s.th=false then 10 else 0
theorem takes_c (V:aD) (p:Nat) (b:BX) (I:BI) (hok:bI b) (h:pP V p b I) (x:LN) (lay:Int) (s:SP) (hp:0≤s.par.mode∧s.par.mode≤4095) (ht:0≤s.th.mode∧s.th.mode≤4095):Fn Tryz.prog 151 [.pointer (some ⟨p,0,none⟩),foV x lay s.par s.th] V fun v _=>v=bK (fK b s):=by
  obtain⟨hcM,hcC,hcq,hcl⟩:=h.parts
  have hd:=hok.d
  have hMay:=fun V2 (hV2:VLe V V2)=>May_c V2 b.c I.A I.n I.k (h.2.xs.le hV2) hd s.par hp 2 (.inr (.inl rfl))
  have hTk:=fun V2=>Takes_c V2 b.c I.A I.n I.k hd s.par s.th hp
  cases hmy:nH b.c s.par 2 with
  | false =>
    have e:fK b s=9:=if_pos hmy
    rw [e]
    rw [hmy] at hMay
    (refine aI Tryz.func151 rfl Tryz.ntmps151 rfl ?_;intro w0)
    repeat' (first|(refine aE ?_;first|(refine aC ?_;refine aP rfl (aK ⟨Tryz.call144⟩ rfl (hMay _ vl9)) ?_)|(refine al9 ?_;intro γ)|refine pu9 ?_)|refine cX ?_|refine bQ (id:=1) mixed (by kernel_rfl) ?_)
    all_goals
      (refine aM Tryz.results151 (aB rfl) ?_)
      exact cQ 9 rfl
  | true =>
    rw [hmy] at hMay
    cases htk:takesT b.c s.par s.th with
    | false =>
      have e:fK b s=10:=by unfold fK;rw [if_neg (by rw [hmy];decide),if_pos htk]
      rw [e]
      rw [htk] at hTk
      (refine aI Tryz.func151 rfl Tryz.ntmps151 rfl ?_;intro w0)
      repeat' (first|(refine aE ?_;first|(refine aC ?_;(first|refine aP rfl (aK ⟨Tryz.call144⟩ rfl (hMay _ vl9)) ?_|refine aP rfl (aK ⟨Tryz.call231⟩ rfl (hTk _)) ?_))|(refine al9 ?_;intro γ)|refine pu9 ?_)|refine cX ?_|refine bQ (id:=1) mixed (by kernel_rfl) ?_|refine bQ (id:=3) mixed (by kernel_rfl) ?_)
      all_goals
        (refine aM Tryz.results151 (aB rfl) ?_)
        exact cQ 10 rfl
    | true =>
      have e:fK b s=0:=by unfold fK;rw [if_neg (by rw [hmy];decide),if_neg (by rw [htk];decide)]
      rw [e]
      rw [htk] at hTk
      (refine aI Tryz.func151 rfl Tryz.ntmps151 rfl ?_;intro w0)
      repeat' (first|(refine aE ?_;first|(refine aC ?_;(first|refine aP rfl (aK ⟨Tryz.call144⟩ rfl (hMay _ vl9)) ?_|refine aP rfl (aK ⟨Tryz.call231⟩ rfl (hTk _)) ?_))|(refine al9 ?_;intro γ)|refine pu9 ?_)|refine cX ?_|refine bQ (id:=1) mixed (by kernel_rfl) ?_|refine bQ (id:=3) mixed (by kernel_rfl) ?_)
      all_goals
        (refine aM Tryz.results151 (aB rfl) ?_)
        exact cH.symm
def gT (b:BX) (th:TH) (nm:ByteArray) (want:Int):Int:=if eJ nm=1 then (if nH b.c th want=false then 9 else 0) else if tL b.c th=false then 10 else 0
theorem attrs_c (V:aD) (p:Nat) (b:BX) (I:BI) (hok:bI b) (h:pP V p b I) (th:TH) (ht:0≤th.mode∧th.mode≤4095) (nm:ByteArray) (hm:nm.size≤9223372036854775807) (want:Int) (hw:want=1∨want=2∨want=4):Fn Tryz.prog 167 [.pointer (some ⟨p,0,none⟩),thV th,.string nm,.int .i64 want] V fun v _=>v=bK (gT b th nm want):=by
  obtain⟨hcM,hcC,hcq,hcl⟩:=h.parts
  have hd:=hok.d
  have hMay:=fun V2 (hV2:VLe V V2)=>May_c V2 b.c I.A I.n I.k (h.2.xs.le hV2) hd th ht want hw
  have hOw:=fun V2=>Owns_c V2 b.c I.A I.n I.k hd th
  have hC:=fun V2=>jP V2 nm hm
  have e:gT b th nm want=if eJ nm=1 then (if nH b.c th want=false then 9 else 0) else if tL b.c th=false then 10 else 0:=rfl
  rw [e]
  generalize nH b.c th want=m1 at *
  generalize tL b.c th=o1 at *
  (refine aI Tryz.func167 rfl Tryz.ntmps167 rfl ?_;intro w0)
  repeat' (first|(refine aE ?_;first|(refine aC ?_;(first|refine aP rfl (aK ⟨Tryz.call166⟩ rfl (hC _)) ?_|refine aP rfl (aK ⟨Tryz.call144⟩ rfl (hMay _ vl9)) ?_|refine aP rfl (aK ⟨Tryz.call160⟩ rfl (hOw _)) ?_))|(refine al9 ?_;intro γ)|refine pu9 ?_)|refine cC ?_|(refine aA rfl ?_ ?_<;>intro hq<;>try exact no9)|(refine bM rfl ?_ ?_<;>intro hq)|refine bQ (id:=2) mixed (by kernel_rfl) ?_|refine bQ (id:=5) mixed (by kernel_rfl) ?_)
  all_goals
    (refine aM Tryz.results167 (aB rfl) ?_)
    first
      | (rw [if_pos (by assumption),if_pos (by simpa using hq)];exact cQ 9 rfl)
      | (rw [if_pos (by assumption),if_neg (by simpa using hq)];exact cH.symm)
      | (rw [if_neg (by assumption),if_pos (by simpa using hq)];exact cQ 10 rfl)
      | (rw [if_neg (by assumption),if_neg (by simpa using hq)];exact cH.symm)
structure CL where
  op:Int
  path:ByteArray
  other:ByteArray
  name:ByteArray
  data:ByteArray
  a:Int
  b:Int
abbrev clC (c:CL):List Value:=[.int .i64 c.op,.string c.path,.string c.other,.string c.name,.string c.data,.int .i64 c.a,.int .i64 c.b]
abbrev clV (c:CL):Value:=.agg #[.int .i64 c.op,.string c.path,.string c.other,.string c.name,.string c.data,.int .i64 c.a,.int .i64 c.b]
structure TD where
  kind:Int
  mode:Int
  user:Int
  group:Int
  size:Int
  names:List ByteArray
  data:ByteArray
def tdZ:TD:=⟨0,0,0,0,0,[],⟨#[]⟩⟩
abbrev tdV (t:TD) (A:Option Addr) (n c:Nat):Value:=.agg #[.int .i64 t.kind,.int .i64 t.mode,.int .i64 t.user,.int .i64 t.group,.int .i64 t.size,.slice A n c,.string t.data]
def jG (r:TD×Int) (ev:Value) (v:Value) (V':aD):Prop:=∃ (A:Option Addr) (n c:Nat),v=.tuple #[tdV r.1 A n c,ev]∧cL V' A n r.1.names∧n≤c
theorem jG.zero {ev:Value} {e:Int} {V':aD}:jG (tdZ,e) ev (.tuple #[tdV tdZ none 0 0,ev]) V':=⟨none,0,0,rfl,cL.nil,Nat.le_refl _⟩
theorem jG.no {e:Int} {V':aD} (he:¬e=0):jG (tdZ,e) (bK e) (.tuple #[tdV tdZ none 0 0,.iface 120 (.int .i64 e)]) V':=by rw [cU he];exact jG.zero
def kB (b:BX) (c:CL):TD×Int :=
  if ¬cZ b (aH c.path)=0 then (tdZ,cZ b (aH c.path))
  else if c.op=1 then (⟨(bG b (aH c.path)).n.h.kind,(bG b (aH c.path)).n.h.mode,(bG b (aH c.path)).th.user,(bG b (aH c.path)).th.group,((bG b (aH c.path)).n.h.data.size:Int)+((jM (cR b.ls (aU (aH c.path)))).length:Int),[],⟨#[]⟩⟩,0)
  else if ¬(bG b (aH c.path)).th.dir=decide (c.op=2) then (tdZ,7)
  else if nH b.c (bG b (aH c.path)).th 4=false then (tdZ,9)
  else (⟨0,0,0,0,0,jM (cR b.ls (aU (aH c.path))),(bG b (aH c.path)).n.h.data⟩,0)
theorem there_s (V:aD) (p:Nat) (b:BX) (I:BI) (hok:bI b) (h:pP V p b I) (s:ByteArray) (hl:s.size≤1000000):Fn Tryz.prog 142 [.pointer (some ⟨p,0,none⟩),.string s] V (nE b (aH s)):=by
  have:=there_c V p b I hok h (aH s) (by show s.data.toList.length≤1000000;rw [Array.length_toList];exact hl)
  have e:(⟨(aH s).toArray⟩:ByteArray)=s:=gZ s
  rw [e] at this;exact this
theorem gL {b:BX} (hok:bI b) (l:List UInt8):0≤(bG b l).th.mode∧(bG b l).th.mode≤4095:=tN hok _ _
theorem look_data {b:BX} (hok:bI b) (ss:List ByteArray) (par:TH):(fQ b ss par).n.h.data.size≤200:=by
  cases hw:cR b.ls ss with
  | nil=>rw [uB hw];exact Nat.zero_le _
  | cons f t =>
    rw [kI hw]
    have:=(iE hok.fit ss f (by rw [hw];simp)).here
    exact this.2.2.2.2.2.1
theorem spot_data {b:BX} (hok:bI b) (ss:List ByteArray):∀ k,(eU b ss k).1.n.h.data.size≤200
  | 0=>look_data hok _ _
  | k+1=>by
    have ih:=spot_data hok ss k
    rw [eU]
    (repeat' split)<;>first|exact ih|exact look_data hok _ _
theorem there_data {b:BX} (hok:bI b) (l:List UInt8):(bG b l).n.h.data.size≤200:=spot_data hok _ _
theorem box_names {b:BX} (hok:bI b) (ss:List ByteArray):(dM (cR b.ls ss)).length≤1000000:=by
  have h1:=yI (iE (p:=eA) hok.small ss)
  have h2:=mN b.ls ss
  have h3:=hok.l4
  omega
theorem look_c (V:aD) (p:Nat) (b:BX) (I:BI) (hok:bI b) (h:pP V p b I) (c:CL) (hc:c.path.size≤1000000):Fn Tryz.prog 67 [.pointer (some ⟨p,0,none⟩),clV c] V (jG (kB b c) (bK (kB b c).2)):=by
  have hT:=there_s V p b I hok h c.path hc
  have hmo:=gL hok (aH c.path)
  have hd:=hok.d
  have hm4:I.m≤4:=by rw [←h.2.len];exact hok.l4
  have hnm:=box_names hok (aU (aH c.path))
  by_cases hf:cZ b (aH c.path)=0
  · have e1:kB b c=if c.op=1 then (⟨(bG b (aH c.path)).n.h.kind,(bG b (aH c.path)).n.h.mode,(bG b (aH c.path)).th.user,(bG b (aH c.path)).th.group,((bG b (aH c.path)).n.h.data.size:Int)+((jM (cR b.ls (aU (aH c.path)))).length:Int),[],⟨#[]⟩⟩,0)
      else if ¬(bG b (aH c.path)).th.dir=decide (c.op=2) then (tdZ,7)
      else if nH b.c (bG b (aH c.path)).th 4=false then (tdZ,9)
      else (⟨0,0,0,0,0,jM (cR b.ls (aU (aH c.path))),(bG b (aH c.path)).n.h.data⟩,0):=if_neg (not_not_intro hf)
    rw [e1]
    (refine aI Tryz.func67 rfl Tryz.ntmps67 rfl ?_;intro w0)
    repeat' (first|(refine aE ?_;first|(refine aC ?_;(refine aS rfl ⟨Tryz.call142⟩ rfl rfl (hT) ?_;rintro v V1 hV1 (⟨_,A1,n1,c1,x,rfl,hS1,hc1,hxN,hxn⟩|⟨hx,_⟩);rotate_left;exact absurd hf hx;have hb1:=h.le hV1;obtain⟨hcM1,hcC1,hcq1,hcl1⟩:=hb1.parts))|(refine eF ?_;refine aR rfl siz_214 rfl rfl rfl rfl bJ kH rfl ?_)|(refine cN ?_;refine aO (yB und_4 rfl rfl) ?_)|(refine al9 ?_;intro γ)|refine pu9 ?_)|refine cX ?_|fail)
    have hLi:=List_c V1 I.K I.m I.e I.xs hb1.2.ls (by omega) A1 n1 c1 _ hS1 (by rw [hb1.2.eq];exact hnm)
    rw [hb1.2.eq] at hLi
    have hll:=uE (cR b.ls (aU (aH c.path)))
    have hxh:=n_hd' hxn
    have hds:=(hxN.inv).2.2.1
    rw [←hxh]
    have hMay:=fun V2 (hV2:VLe V1 V2)=>May_c V2 b.c I.A I.n I.k (hb1.2.xs.le hV2) hd (bG b (aH c.path)).th hmo 4 (.inr (.inr rfl))
    generalize jM (cR b.ls (aU (aH c.path)))=ls at *
    generalize (bG b (aH c.path)).th=th at *
    generalize (bG b (aH c.path)).par=par at *
    generalize nH b.c th 4=m4 at *
    have hds':x.h.data.size≤200:=by rw [hxh];exact there_data hok _
    repeat' (first|(refine aE ?_;first|(refine aC ?_;(refine aS rfl ⟨Tryz.call143⟩ rfl rfl (hLi) ?_;rintro v V2 hV2 ⟨A2,n2,c2,rfl,hS2,hc2⟩;have hsl:=hS2.1.1;have hcC2:=hcC1.le hV2))|(refine cN ?_;refine aO (yB und_4 rfl rfl) ?_)|refine st9 ?_|refine pu9 ?_)|refine cC ?_|(refine aA rfl ?_ ?_<;>intro hq<;>try exact no9))
    all_goals first
      | ((refine bB Tryz.results67 (aW agg_49 rfl bA (by exact rfl)) (aB rfl) ?_)
         rw [if_pos (show c.op=1 from hq)]
         exact⟨none,0,0,by rw [cH,hsl];first|done|rfl,cL.nil,Nat.le_refl _⟩)
      | ((refine bB Tryz.results67 (aW agg_49 rfl bA (by exact rfl)) (aB rfl) ?_)
         rename_i hq1
         rw [if_neg hq1,if_pos hq]
         exact jG.no (by decide))
      | skip
    rename_i hq1
    have hq2:¬¬th.dir=decide (c.op=2):=hq
    repeat' (first|(refine aE ?_;first|(refine aC ?_;refine aP rfl (aK ⟨Tryz.call144⟩ rfl (hMay _ vl9)) ?_)|refine st9 ?_|refine pu9 ?_)|refine cC ?_|(refine bM rfl ?_ ?_<;>intro hq)|refine bQ (id:=9) mixed (by kernel_rfl) ?_)
    all_goals
      (refine bB Tryz.results67 (aW agg_49 rfl bA (by exact rfl)) (aB rfl) ?_)
      rw [if_neg hq1,if_neg hq2]
      first
        | (rw [if_pos (by simpa using hq)];exact jG.no (by decide))
        | (rw [if_neg (by simpa using hq)]
           exact⟨A2,n2,c2,by rw [cH];first|done|rfl,hS2.le vl9,hc2⟩)
  · have e1:kB b c=(tdZ,cZ b (aH c.path)):=if_pos hf
    rw [e1]
    (refine aI Tryz.func67 rfl Tryz.ntmps67 rfl ?_;intro w0)
    repeat' (first|(refine aE ?_;first|(refine aC ?_;(refine aS rfl ⟨Tryz.call142⟩ rfl rfl (hT) ?_;rintro v V1 hV1 (⟨hx,_⟩|⟨_,A1,n1,c1,x,lay,par,th,rfl⟩);exact absurd hx hf))|(refine eF ?_;refine aR rfl siz_214 rfl rfl rfl rfl bJ kH rfl ?_)|(refine cN ?_;refine aO (yB und_4 rfl rfl) ?_)|refine st9 ?_|(refine al9 ?_;intro γ)|refine pu9 ?_)|refine cC ?_|(refine aA rfl ?_ ?_<;>intro hq<;>try exact no9))
    all_goals first
      | (exfalso;exact hf (by assumption))
      | skip
    all_goals
      (refine bB Tryz.results67 (aW agg_49 rfl bA (by exact rfl)) (aB rfl) ?_)
      exact jG.zero
end
section
def jU:List (Nat×List Value)→Addr→Option Value
  | [],_=>none
  | (g,cs) :: t,p=>if p.block=g∧p.spot=none then cs[p.off]? else jU t p
def aD.plus (V:aD) (Cs:List (Nat×List Value)):aD:=fun p=>(V p).or (jU Cs p)
def aD.off (V:aD) (gs:List Nat):aD:=fun p=>if p.block∈gs then none else V p
theorem kF {V:aD} {Cs:List (Nat×List Value)}:VLe V (V.plus Cs):=fun p x h=>by unfold aD.plus;rw [h];rfl
theorem rX:∀ {Cs:List (Nat×List Value)} {p:Addr} {x:Value},jU Cs p=some x→∃ cs,(p.block,cs)∈Cs∧p.spot=none∧cs[p.off]?=some x
  | [],_,_,h=>by cases h
  | (g,cs) :: t,p,x,h=>by
    rw [jU] at h
    by_cases hc:p.block=g∧p.spot=none
    · rw [if_pos hc] at h
      exact⟨cs,by rw [hc.1];simp,hc.2,h⟩
    · rw [if_neg hc] at h
      obtain⟨cs',h1,h2,h3⟩:=rX h
      exact⟨cs',by simp [h1],h2,h3⟩
def Lent (Cs:List (Nat×List Value)) (Bs:List Box):Prop:=∀ c∈Cs,∃ (t:TypeId) (cs:List Value),(⟨c.1,.cells t,cs⟩:Box)∈Bs∧c.2 <+: cs
theorem Lent.in_ {Cs:List (Nat×List Value)} {Bs:List Box} (h:Lent Cs Bs) {B:Base} {V:aD} {w:World} (hs:St B V Bs w):VIn (V.plus Cs) w:=fun p x hp=>by
  unfold aD.plus at hp
  cases hV:V p with
  | some y=>rw [hV] at hp;cases hp;exact(hs.view p _ hV).1
  | none =>
    rw [hV] at hp
    obtain⟨cs,h1,h2,h3⟩:=rX hp
    obtain⟨t,cs',h4,h5⟩:=h _ h1
    have:=hs.cell (g:=p.block) (cs:=cs') ⟨t,h4⟩ p.off
    obtain⟨r,hr⟩:=h5
    have e:cs'[p.off]?=some x:=by
      rw [←hr,List.getElem?_append_left (List.getElem?_eq_some_iff.1 h3).1];exact h3
    rw [e] at this
    obtain⟨pb,po,ps⟩:=p
    simp only at h2
    subst h2
    exact this
structure Apart (V:aD) (Bs:List Box):Prop where
  v:∀ p x,V p=some x→∀ b∈Bs,b.g≠p.block
  nd:(Bs.map Box.g).Nodup
theorem St.apart {B:Base} {V:aD} {Bs:List Box} {w:World} (hs:St B V Bs w):Apart V Bs:=⟨fun p x hp=>(hs.view p x hp).2,hs.nodup⟩
theorem oK {V:aD} {Bs:List Box} {Cs:List (Nat×List Value)} {g:Nat} {cs:List Value} (ha:Apart V Bs) (hg:g∈fW Bs) (hc:∀ j,jU Cs ⟨g,j,none⟩=cs[j]?):aG (V.plus Cs) g 0 cs:=fun j v hj=>by
  unfold aD.plus
  rw [Nat.zero_add]
  cases hV:V ⟨g,j,none⟩ with
  | some y =>
    obtain⟨b,hb,he⟩:=List.mem_map.1 hg
    exact absurd he (ha.v _ _ hV b hb)
  | none=>rw [hc j,hj];rfl
section
variable {P : Program}
theorem Fn.lend {f:FuncId} {args:List Value} {V:aD} {Bs:List Box} {Cs:List (Nat×List Value)} {R:Value→aD→Prop} (hL:Lent Cs Bs) (h:Apart V Bs→Fn P f args (V.plus Cs) R) :
    FnB P f args V Bs fun v V2 Bs'=>Bs'=Bs∧∃ V3,VLe (V.plus Cs) V3∧V2=V3.off (fW Bs)∧R v V3∧∀ p x,p.block∈fW Bs→V3 p=some x→jU Cs p=some x:=fun w hs=>by
  refine(h hs.apart w (hL.in_ hs)).mono fun e w' ⟨v,he,hx,V3,h1,h2,h3,h4⟩=>?_
  have hlt:∀ g∈fW Bs,g<w.heap.size:=fun g hg=>by
    obtain⟨b,hb,rfl⟩:=List.mem_map.1 hg
    exact hs.lt hb
  have hVn:∀ p x,V p=some x→¬p.block∈fW Bs:=fun p x hp hg=>by
    obtain⟨b,hb,he⟩:=List.mem_map.1 hg
    exact(hs.view p x hp).2 b hb he
  have hcl:∀ p x,p.block∈fW Bs→V3 p=some x→jU Cs p=some x:=fun p x hg hp=>by
    have:=h3 p x hp (hlt _ hg)
    unfold aD.plus at this
    cases hV:V p with
    | some y=>exact absurd hg (hVn p y hV)
    | none=>rw [hV] at this;exact this
  refine⟨v,V3.off (fW Bs),Bs,he,⟨?_,?_,?_,?_,?_,hs.nodup⟩,rfl,V3,h1,rfl,h4,hcl⟩
  · exact⟨hx.os,hx.tape,hx.output,hx.size,fun k hk _=>hx.block k hk⟩
  · intro p x hp
    unfold aD.off at hp
    split at hp
    · cases hp
    · rename_i hn
      exact⟨h2 p x hp,fun b hb e=>hn (by rw [←e];exact List.mem_map_of_mem (f:=Box.g) hb)⟩
  · intro p x hp hlt2
    unfold aD.off at hp
    split at hp
    · cases hp
    · rename_i hn
      have:=h3 p x hp hlt2
      unfold aD.plus at this
      cases hV:V p with
      | some y =>
        rw [hV] at this
        show V p=some x
        rw [hV];exact this
      | none =>
        rw [hV] at this
        obtain⟨cs,g1,_,_⟩:=rX this
        obtain⟨t,cs',g4,_⟩:=hL _ g1
        exact absurd (List.mem_map_of_mem (f:=Box.g) g4) hn
  · intro p x hp
    unfold aD.off
    rw [if_neg (hVn p x hp)]
    exact h1 p x (kF p x hp)
  · intro b hb
    exact⟨(hx.block b.g (hs.lt hb)).trans (hs.own b hb).1,.inr (List.mem_map_of_mem (f:=Box.g) hb)⟩
end
def pY (V:aD) (gs:List Nat):Prop:=∀ b o s,b∈gs→V ⟨b,o,none⟩=some (.string s)→s.size=0∧∀ u,V ⟨b,o+1,none⟩=some u→∃ A n c,u=.slice A n c
def calmC (cs:List Value):Prop:=∀ (i:Nat) (s:ByteArray),cs[i]?=some (.string s)→s.size=0∧∀ u,cs[i+1]?=some u→∃ A n c,u=.slice A n c
theorem off_at {V:aD} {gs:List Nat} {p:Addr} {x:Value} (hn:¬p.block∈gs) (h:V p=some x):V.off gs p=some x:=by unfold aD.off;rw [if_neg hn];exact h
theorem pY.of {V:aD} {gs:List Nat} {Cs:List (Nat×List Value)} (h:∀ p x,p.block∈gs→V p=some x→jU Cs p=some x) (hc:∀ c∈Cs,calmC c.2) (hu:(Cs.map Prod.fst).Nodup):pY V gs:=fun b o s hb hs=>by
  have key:∀ {Cs:List (Nat×List Value)},(Cs.map Prod.fst).Nodup→∀ {cs:List Value} {o:Nat} {x:Value},(b,cs)∈Cs→jU Cs ⟨b,o,none⟩=some x→cs[o]?=some x:=fun {Cs}=>by
    induction Cs with
    | nil=>intro _ cs o x hm;cases hm
    | cons c Cs ih =>
      intro hu cs o x hm hx
      obtain⟨g,cs0⟩:=c
      rw [List.map_cons,List.nodup_cons] at hu
      rw [jU] at hx
      rcases List.mem_cons.1 hm with h1|h1
      · cases h1
        rw [if_pos ⟨rfl,rfl⟩] at hx;exact hx
      · have hne:¬b=g:=fun e=>hu.1 (by rw [←e];exact List.mem_map.2 ⟨_,h1,rfl⟩)
        rw [if_neg (by rintro ⟨e,_⟩;exact hne e)] at hx
        exact ih hu.2 h1 hx
  obtain⟨cs,h1,h2,h3⟩:=rX (h _ _ hb hs)
  obtain⟨h4,h5⟩:=hc _ h1 _ _ h3
  exact⟨h4,fun u hu2=>h5 u (key hu h1 (h _ _ hb hu2))⟩
end
section
theorem cells_off {V:aD} {gs:List Nat} {b o:Nat} {cs:List Value} (hb:¬b∈gs) (h:aG V b o cs):aG (V.off gs) b o cs:=fun j v hj=>off_at hb (h j v hj)
theorem els_off {α:Type} {V:aD} {gs:List Nat} {sz:Nat} {f:α→List Value} {A:Option Addr} {n:Nat} {xs:List α} (h:eP V sz f A n xs) (hb:∀ (b o:Nat) (x:α),b∈gs→¬aG V b o (f x)):eP (V.off gs) sz f A n xs:=by
  refine⟨h.1,h.2.1,fun hn=>?_⟩
  obtain⟨b,off,ha,hc⟩:=h.2.2 hn
  have hl:=h.1
  have h0:xs[0]?=some (xs[0]'(by omega)):=List.getElem?_eq_getElem (by omega)
  have hnb:¬b∈gs:=fun hm=>hb b _ _ hm (hc 0 _ h0)
  exact⟨b,off,ha,fun k x hk=>cells_off hnb (hc k x hk)⟩
theorem eC.off {V:aD} {gs:List Nat} (hc:pY V gs) {A:Option Addr} {n:Nat} {xs:List PA} (h:eC V A n xs):eC (V.off gs) A n xs :=
  ⟨els_off h.1 (fun b o x hb hx=>by
    obtain⟨_,h2⟩:=hc b (o+0) x.n hb (hx 0 _ rfl)
    obtain⟨A',n',c',h3⟩:=h2 _ (hx 1 _ rfl)
    cases h3),h.2⟩
theorem kids_off {V:aD} {gs:List Nat} (hc:pY V gs) {A:Option Addr} {n:Nat} {es:List LK} (h:eP V 9 lkC A n es):eP (V.off gs) 9 lkC A n es :=
  els_off h fun b o x hb hx=>by
    obtain⟨_,h2⟩:=hc b (o+0) x.nm hb (hx 0 _ rfl)
    obtain⟨A',n',c',h3⟩:=h2 _ (hx 1 _ rfl)
    cases h3
theorem aT.off {V:aD} {gs:List Nat} (hc:pY V gs) {x:LN} (h:aT V x):aT (V.off gs) x:=by
  induction h with
  | mk x es ha hca hd hk hck hks hn hs ih=>exact .mk x es (ha.off hc) hca hd (kids_off hc hk) hck hks hn ih
theorem cL.off {V:aD} {gs:List Nat} (hc:pY V gs) {A:Option Addr} {n:Nat} {xs:List ByteArray} (h:cL V A n xs) (hne:∀ s∈xs,0<s.size):cL (V.off gs) A n xs:=by
  refine⟨⟨h.1.1,h.1.2.1,fun hn=>?_⟩,h.2⟩
  obtain⟨b,off,ha,hcs⟩:=h.1.2.2 hn
  have hl:=h.1.1
  have h0:xs[0]?=some (xs[0]'(by omega)):=List.getElem?_eq_getElem (by omega)
  have hnb:¬b∈gs:=fun hm=>by
    obtain⟨h1,_⟩:=hc b (off+0 * 1+0) _ hm (hcs 0 _ h0 0 _ rfl)
    have:=hne _ (List.getElem_mem (by omega:0<xs.length))
    omega
  exact⟨b,off,ha,fun k x hk=>cells_off hnb (hcs k x hk)⟩
end
section
theorem ones_ln (l:List LN):∀ u∈l.flatMap lnC,gQ u=true:=fun u hu=>by
  obtain⟨r,_,hr⟩:=List.mem_flatMap.1 hu
  simp only [List.mem_cons,List.not_mem_nil,or_false] at hr
  rcases hr with rfl|rfl|rfl|rfl|rfl|rfl|rfl|rfl<;>rfl
theorem ones_n1 (x:LN):∀ u∈lnC x,gQ u=true:=fun u hu=>ones_ln [x] u (by simpa using hu)
theorem oB (x:LN):(lnC x).length=8:=rfl
theorem dR.of {V:aD} {A:Option Addr} {n:Nat} {xs:List LN} (hc:eL V 8 A n (xs.flatMap lnC)) (hl:xs.length=n) (hm:n≤maxLen) (hg:∀ x∈xs,aT V x):dR V A n xs:=⟨eP.of_cells hc oB hl hm,hg⟩
theorem take_all {α:Type} {p:α→Prop} {xs:List α} {k:Nat} {x:α} (h:∀ y∈xs.take k,p y) (hx:xs[k]?=some x) (hp:p x):∀ y∈xs.take (k+1),p y:=fun y hy=>by
  rw [List.take_add_one,hx] at hy
  rcases List.mem_append.1 hy with hy|hy
  · exact h y hy
  · simp at hy;subst hy;exact hp
attribute [local irreducible] AtQ GoC GoL GoW QO QP Fn RV bL aG VLe bR bK
theorem Lights_c (V:aD) (A:Option Addr) (n c:Nat) (xs:List LN) (h:dR V A n xs):Fn Tryz.prog 10 [.slice A n c] V fun v _=>∃ b:Bool,v=.bool b∧(b=true→n≤5∧∀ x∈xs,cB gA x.n):=by
  have hl:=h.1.1
  have hm:=h.1.max
  (refine aI Tryz.func10 rfl Tryz.ntmps10 rfl ?_;intro w0)
  repeat' (first|(refine aE ?_;refine pu9 ?_)|refine bY ?_|(refine aA rfl ?_ ?_<;>intro hq<;>try exact no9))
  all_goals first
    | ((refine aM Tryz.results10 (aB rfl) ?_);exact⟨false,rfl,fun h=>by cases h⟩)
    | skip
  refine bN (fun F V' L' m=>∃ k:Nat,VLe V V'∧[]=L'∧k≤n∧(∀ x∈xs.take k,cB gA x.n)∧m=n - k∧F=[(0,.slice A n c),(3,.int .i64 (k:Int))]) (m:=n) ⟨0,VLe.refl _,rfl,Nat.zero_le _,by simp,by omega,rfl⟩ bH rfl sl9 ?_
  rintro F V' L' m ⟨k,hV',rfl,hk,hall,rfl,rfl⟩
  by_cases hlt:k<n
  · obtain⟨b,off,x,hA,hx,hc,hN⟩:=(h.le hV').at_ hlt
    repeat' (first|(refine aE ?_;first|(refine aC ?_;(refine aS rfl ⟨Tryz.call53⟩ rfl rfl (Light_c V' x hN) ?_;rintro v V2 hV2 ⟨b1,rfl,hb1⟩))|(refine cG ?_;refine aO (bF und_30 siz_70 rfl hA rfl hlt) ?_)|refine pu9 ?_)|refine bY ?_|(refine aA rfl ?_ ?_<;>intro hq<;>try exact no9)|(refine bM rfl ?_ ?_<;>intro hq))
    all_goals first
      | ((refine aM Tryz.results10 (aB rfl) ?_);exact⟨false,rfl,fun h=>by cases h⟩)
      | skip
    refine aX _ (n - (k+1)) ⟨k+1,vl9,rfl,by omega,take_all hall hx (hb1 (by revert hq;cases b1<;>simp)),rfl,rfl⟩ (by omega) bH sl9
  · obtain rfl:k=n:=by omega
    rw [List.take_of_length_le (by omega)] at hall
    repeat' (first|(refine aE ?_;refine pu9 ?_)|refine dT ?_|(refine aA rfl ?_ ?_<;>intro hq<;>try exact no9))
    all_goals ((refine aM Tryz.results10 (aB rfl) ?_);exact⟨true,rfl,fun _=>⟨by omega,hall⟩⟩)
end
section
structure nL (V:aD) (b:BX) (I:BI) (L1:List Box):Prop where
  M:nC V I.M
  us:I.M.us=b.us
  gs:I.M.gs=b.gs
  xs:eM V I.A I.n b.c.xs
  nk:True
  row:cO I.K I.m I.e 70 8 (I.xs.flatMap lnC) L1
  ls:∀ x∈I.xs,aT V x
  len:I.xs.length=I.m
  eq:I.xs.map LN.n=b.ls
def eD (V:aD) (p:Nat) (b:BX) (Bs:List Box):Prop:=∃ (I:BI) (L1:List Box),Bs=⟨p,113,bxC I b⟩ :: L1∧nL V b I L1
theorem nL.le {V V':aD} {b:BX} {I:BI} {L1:List Box} (h:nL V b I L1) (hv:VLe V V'):nL V' b I L1:=⟨h.M.le hv,h.us,h.gs,h.xs.le hv,h.nk,h.row,fun x hx=>(h.ls x hx).le hv,h.len,h.eq⟩
theorem eD.le {V V':aD} {p:Nat} {b:BX} {Bs:List Box} (h:eD V p b Bs) (hv:VLe V V'):eD V' p b Bs:=by
  obtain⟨I,L1,h1,h2⟩:=h
  exact⟨I,L1,h1,h2.le hv⟩
theorem nL.lens {V:aD} {b:BX} {I:BI} {L1:List Box} (h:nL V b I L1):b.ls.length=I.m:=by rw [←h.eq,List.length_map,h.len]
theorem nL.open_ {V:aD} {b:BX} {I:BI} {L1:List Box} (h:nL V b I L1) (hok:bI b):∃ (q:Nat) (x0:LN) (xt:List LN) (rest:List Value),I.K=some ⟨q,0,none⟩∧I.xs=x0 :: xt∧L1=[⟨q,70,(x0 :: xt).flatMap lnC ++ rest⟩]∧((x0 :: xt).flatMap lnC ++ rest).length=I.e * 8∧I.m≤I.e∧I.e≤maxLen∧0<I.m:=by
  have hm:0<I.m:=by rw [←h.lens];exact hok.l1
  obtain⟨q,rest,h1,h2,h3,h4,h5⟩:=h.row.open hm
  obtain⟨x0,xt,hx⟩:∃ x0 xt,I.xs=x0 :: xt:=by
    cases hxs:I.xs with
    | nil=>have:=h.len;rw [hxs] at this;simp at this;omega
    | cons x t=>exact⟨x,t,rfl⟩
  rw [hx] at h2 h3
  exact⟨q,x0,xt,rest,h1,hx,h2,h3,h4,h5,hm⟩
theorem calm_bx (I:BI) (b:BX):calmC (bxC I b):=fun i s h=>by
  match i,h with
  | 0,h=>simp at h
  | 1,h=>simp at h
  | 2,h=>simp at h
  | 3,h=>simp at h
  | 4,h=>simp at h
  | 5,h=>simp at h
  | 6,h=>simp at h
  | 7,h=>simp at h
  | i+8,h=>simp at h
theorem rA:∀ {xs:List LN},(∀ x∈xs,x.h.data.size=0)→calmC (xs.flatMap lnC)
  | [],_=>fun i s h=>by simp at h
  | x :: xs,hx=>fun i s h=>by
    have ih:=rA (xs:=xs) fun y hy=>hx y (by simp [hy])
    rw [List.flatMap_cons] at h ⊢
    have h0:=hx x (by simp)
    match i,h with
    | 0,h=>simp at h
    | 1,h=>simp at h
    | 2,h=>simp at h
    | 3,h=>simp at h
    | 4,h=>simp at h
    | 5,h=>simp at h
    | 6,h =>
      simp at h
      refine⟨by rw [←h];exact h0,fun u hu=>?_⟩
      simp at hu
      exact⟨_,_,_,hu.symm⟩
    | 7,h=>simp at h
    | i+8,h =>
      have h':(xs.flatMap lnC)[i]?=some (.string s):=by
        rw [List.getElem?_append_right (by show 8≤i+8;omega)] at h
        exact h
      obtain⟨g1,g2⟩:=ih i s h'
      refine⟨g1,fun u hu=>g2 u ?_⟩
      rw [List.getElem?_append_right (by show 8≤i+8+1;omega)] at hu
      exact hu
theorem bI.data {V:aD} {b:BX} {I:BI} {L1:List Box} (hok:bI b) (h:nL V b I L1):∀ x∈I.xs,x.h.data.size=0:=fun x hx=>by
  have hm:x.n∈b.ls:=by rw [←h.eq];exact List.mem_map_of_mem (f:=LN.n) hx
  obtain⟨u,hu⟩:=hok.tree _ hm
  obtain⟨hk,hc⟩:=sT.1 hu
  obtain⟨_,h1,_⟩:=tY.1 hc
  unfold iO at h1
  have hk':x.h.kind=2:=hk
  by_cases hd:x.h.data.size=0
  · exact hd
  · exfalso
    split at h1
    · omega
    · split at h1
      · omega
      · split at h1
        · rename_i h9;exact h9 h1
        · split at h1
          · omega
          · split at h1
            · omega
            · rename_i h9
              exact h9 (.inr (.inl ⟨by show ¬x.h.kind=1;omega,by show 0<x.h.data.size;omega⟩))
theorem eD.lend {V:aD} {p:Nat} {b:BX} {Bs:List Box} (hok:bI b) (h:eD V p b Bs):∃ (I:BI) (Cs:List (Nat×List Value)),Lent Cs Bs∧(∀ c∈Cs,calmC c.2)∧(Apart V Bs→(Cs.map Prod.fst).Nodup∧pP (V.plus Cs) p b I):=by
  obtain⟨I,L1,rfl,hW⟩:=h
  obtain⟨q,x0,xt,rest,hK,hx,rfl,hlen,hme,hml,hm⟩:=hW.open_ hok
  have hd:=hok.data hW
  refine⟨I,[(p,bxC I b),(q,(x0 :: xt).flatMap lnC)],?_,?_,fun ha=>?_⟩
  · intro c hc
    simp only [List.mem_cons,List.not_mem_nil,or_false] at hc
    rcases hc with rfl|rfl
    · exact⟨_,_,List.mem_cons_self,List.prefix_refl _⟩
    · exact⟨_,_,List.mem_cons_of_mem _ List.mem_cons_self,List.prefix_append _ _⟩
  · intro c hc
    simp only [List.mem_cons,List.not_mem_nil,or_false] at hc
    rcases hc with rfl|rfl
    · exact calm_bx I b
    · exact rA (by rw [←hx];exact hd)
  · have hnd:=ha.nd
    simp only [List.map_cons,List.map_nil,List.nodup_cons,List.mem_singleton,List.not_mem_nil,not_false_eq_true,List.nodup_nil,and_true,true_and] at hnd
    have hpq:¬p=q:=hnd
    refine⟨by simp [hpq],oK ha (by unfold fW;simp) (fun j=>by rw [jU,if_pos ⟨rfl,rfl⟩]),?_⟩
    have hq:aG (V.plus [(p,bxC I b),(q,(x0 :: xt).flatMap lnC)]) q 0 ((x0 :: xt).flatMap lnC):=oK ha (by unfold fW;simp) (fun j=>by rw [jU,if_neg (by rintro ⟨e,_⟩;exact hpq e.symm),jU,if_pos ⟨rfl,rfl⟩])
    refine⟨hW.M.le kF,hW.us,hW.gs,hW.xs.le kF,hW.nk,?_,hme,hW.eq⟩
    rw [hK,hx]
    refine dR.of ⟨?_,fun _=>⟨q,0,rfl,hq⟩⟩ (by rw [←hx];exact hW.len) (Nat.le_trans hme hml) (fun y hy=>(hW.ls y (by rw [hx];exact hy)).le kF)
    rw [lO lnC oB,←hx,hW.len]
theorem eD.read {f:FuncId} {args:List Value} {V:aD} {p:Nat} {b:BX} {Bs:List Box} {R:Value→aD→Prop} (hok:bI b) (h:eD V p b Bs) (hR:∀ v V gs,pY V gs→R v V→R v (V.off gs)) (hc:∀ V' I,VLe V V'→pP V' p b I→Fn Tryz.prog f args V' R):FnB Tryz.prog f args V Bs fun v V' Bs'=>Bs'=Bs∧R v V':=fun w hs=>by
  obtain⟨I,Cs,h1,h2,h3⟩:=h.lend hok
  obtain⟨h4,h5⟩:=h3 hs.apart
  refine(Fn.lend h1 (fun _=>hc _ I kF h5) w hs).mono fun e w' ⟨v,V',Bs',he,hst,hB,V3,g1,g2,g3,g4⟩=>?_
  exact⟨v,V',Bs',he,hst,hB,by rw [g2];exact hR v V3 _ (pY.of g4 h2 h4) g3⟩
theorem ToR.off {s:SP×Int} {v:Value} {V:aD} {gs:List Nat} (hc:pY V gs) (h:ToR s v V):ToR s v (V.off gs):=by
  rcases h with ⟨h1,x,h2,h3,h4⟩|h
  · exact .inl ⟨h1,x,h2,h3.off hc,h4⟩
  · exact .inr h
theorem name_pos {s:ByteArray} (h:eV s.toList=true):0<s.size:=by
  rcases Nat.eq_zero_or_pos s.size with h0|h0
  · exfalso
    have:s.toList=[]:=List.eq_nil_of_length_eq_zero (by rw [Lib.toList_data,Array.length_toList];exact h0)
    rw [this] at h
    exact absurd h (by decide)
  · exact h0
theorem pathN_pos {l:List UInt8}:∀ s∈aU l,0<s.size:=fun s hs=>by
  unfold aU at hs
  split at hs
  · rename_i hc
    obtain⟨h1,h2⟩:=hc
    unfold dY at h1
    rw [if_neg h2] at h1
    split at h1
    · omega
    · split at h1
      · omega
      · rename_i h3
        have h3:=Decidable.not_not.1 h3
        obtain⟨q,hq,rfl⟩:=List.mem_map.1 hs
        have:=List.all_eq_true.1 h3 q hq
        refine name_pos ?_
        rw [Lib.toList_data];exact this
  · cases hs
theorem nE.off {b:BX} {l:List UInt8} {v:Value} {V:aD} {gs:List Nat} (hc:pY V gs) (h:nE b l v V):nE b l v (V.off gs):=by
  rcases h with ⟨h1,A,n,c,x,h2,h3,h4,h5,h6⟩|h
  · exact .inl ⟨h1,A,n,c,x,h2,h3.off hc pathN_pos,h4,h5.off hc,h6⟩
  · exact .inr h
theorem grow_bad {b:BX} {u:PN} (h:¬cP true u=0):jB b u=(b,cP true u):=if_pos h
theorem grow_quota {b:BX} {u:PN} (h:cP true u=0) (h2:b.q<dS u):jB b u=(b,12):=by unfold jB;rw [if_neg (not_not_intro h),if_pos h2]
theorem grow_ok {b:BX} {u:PN} (h:cP true u=0) (h2:¬b.q<dS u):jB b u=({ b with ls:=u :: b.ls.tail },0):=by unfold jB;rw [if_neg (not_not_intro h),if_neg h2]
def ChB (p:Nat) (r:BX×Int) (v:Value) (V':aD) (Bs':List Box):Prop:=v=bK r.2∧eD V' p r.1 Bs'
theorem bI.grow {b:BX} {u:PN} (hok:bI b) (h:cP true u=0):bI { b with ls:=u :: b.ls.tail }:=by
  obtain⟨n0,t,hl,_⟩:=hok.root
  have h4:=hok.l4
  refine⟨hok.c,hok.q,by simp,?_,?_,?_⟩
  · show (u :: b.ls.tail).length≤4
    rw [hl] at h4 ⊢;simpa using h4
  · intro x hx
    have hx:(u :: b.ls.tail)[0]?=some x:=hx
    simp at hx;rw [←hx];exact h
  · intro j x hj hx
    have hx:(u :: b.ls.tail)[j]?=some x:=hx
    obtain⟨j',rfl⟩:∃ j',j=j'+1:=⟨j - 1,by omega⟩
    refine hok.lo (j'+1) x (by omega) ?_
    rw [hl] at hx ⊢
    simpa using hx
theorem growOk {b:BX} (hok:bI b) (u:PN):bI (jB b u).1:=by
  unfold jB
  split
  · exact hok
  · rename_i h
    split
    · exact hok
    · exact hok.grow (Decidable.not_not.1 h)
attribute [local irreducible] AtQ GoC GoL GoW QO QP Fn RV bL aG VLe bR bK
theorem xB (V:aD) (p:Nat) (b:BX) (Bs:List Box) (hok:bI b) (h:eD V p b Bs) (y:LN) (hy:aT V y):FnB Tryz.prog 154 [.pointer (some ⟨p,0,none⟩),lnV y] V Bs (ChB p (jB b y.n)):=by
  have h0:=h
  obtain⟨I,L1,rfl,hW⟩:=h
  obtain⟨q,x0,xt,rest,hK,hx,rfl,hlen,hme,hml,hm⟩:=hW.open_ hok
  have hC:=fun V2 (hV2:VLe V V2)=>xN V2 y (hy.le hV2) true
  have hB:=fun V2 (hV2:VLe V V2)=>QBlocks_c V2 y (hy.le hV2)
  by_cases ht:cP true y.n=0
  · rw [ht] at hC
    by_cases hq2:b.q<dS y.n
    · rw [grow_quota ht hq2]
      (refine bD Tryz.func154 rfl Tryz.ntmps154 rfl ?_;intro w0)
      repeat' (first|(refine aE ?_;first|(refine aC ?_;(first|refine aP rfl (aK ⟨Tryz.call65⟩ rfl (hC _ vl9)) ?_|refine aP rfl (aK ⟨Tryz.call77⟩ rfl (hB _ vl9)) ?_))|(refine al9 ?_;intro γ)|refine pu9 ?_)|refine cX ?_|(refine aA rfl ?_ ?_<;>intro hq<;>try exact no9)|refine bQ (id:=4) mixed (by kernel_rfl) ?_)
      all_goals try exact no9
      all_goals
        (refine bE Tryz.results154 (aB rfl) (List.Sublist.cons _ (List.Sublist.refl _)) ?_)
        exact⟨cQ 12 rfl,I,_,rfl,hW⟩
    · rw [grow_ok ht hq2]
      (refine bD Tryz.func154 rfl Tryz.ntmps154 rfl ?_;intro w0)
      repeat' (first|(refine aE ?_;first|(refine aC ?_;(first|refine aP rfl (aK ⟨Tryz.call65⟩ rfl (hC _ vl9)) ?_|refine aP rfl (aK ⟨Tryz.call77⟩ rfl (hB _ vl9)) ?_))|(refine al9 ?_;intro γ)|refine pu9 ?_)|refine cX ?_|(refine aA rfl ?_ ?_<;>intro hq<;>try exact no9)|refine bQ (id:=4) mixed (by kernel_rfl) ?_)
      all_goals try exact no9
      refine bX (id:=6) _ mixed (List.Sublist.cons_cons _ (List.Sublist.cons_cons _ (List.nil_sublist _))) ?_;refine gt9 0 ?_;refine gt9 1 ?_;refine gt9 2 ?_;refine gt9 3 ?_;refine gt9 4 ?_;refine fL 5 rfl rfl (bF (k:=0) und_30 siz_70 rfl hK rfl hm) ?_;refine aZ (i:=6) rfl ?_;refine aR rfl siz_70 rfl rfl rfl rfl bJ dP rfl ?_;refine aY (by kernel_rfl) vl9 vl9 bP ?_
      all_goals
        repeat' (first|(refine aE ?_;refine pu9 ?_)|refine cC ?_|fail)
        (refine bE Tryz.results154 (aB rfl) (List.Sublist.cons _ (List.Sublist.refl _)) ?_)
        refine⟨cH.symm,{ I with xs:=y :: xt },_,rfl,hW.M,hW.us,hW.gs,hW.xs,hW.nk,?_,?_,?_,?_⟩
        · show cO I.K I.m I.e _ 8 _ _
          rw [hK]
          exact cO.close (f:=lnC) oB (by rw [←hW.len,hx];rfl) (show ((y :: xt).flatMap lnC ++ rest).length=I.e * 8 by rw [←hlen];simp) hme hml
        · intro z hz
          rcases List.mem_cons.1 hz with rfl|hz
          · exact hy
          · exact hW.ls z (by rw [hx];exact List.mem_cons_of_mem _ hz)
        · show (y :: xt).length=I.m
          rw [←hW.len,hx];rfl
        · show y.n :: xt.map LN.n=y.n :: b.ls.tail
          rw [←hW.eq,hx];rfl
  · rw [grow_bad ht]
    (refine bD Tryz.func154 rfl Tryz.ntmps154 rfl ?_;intro w0)
    repeat' (first|(refine aE ?_;first|(refine aC ?_;refine aP rfl (aK ⟨Tryz.call65⟩ rfl (hC _ vl9)) ?_)|(refine al9 ?_;intro γ)|refine pu9 ?_)|refine cC ?_|(refine aA rfl ?_ ?_<;>intro hq<;>try exact no9))
    all_goals first
      | (exfalso;exact ht (by assumption))
      | skip
    all_goals
      (refine bE Tryz.results154 (aB rfl) (List.Sublist.cons _ (List.Sublist.refl _)) ?_)
      exact⟨rfl,I,_,rfl,hW⟩
end
section
section
variable {P : Program} {B : Base} {N : Nat} {Q : Exit → Act → World → Prop} {k : List jI} {F : List (Nat × Value)} {V : aD} {L : List Box} {w : World}
variable {d : Option Tmp} {ty : TypeId} {pos : String} {af : Array Edge} {gd : Option (Nat × Bool)} {ops : Array Oper} {rest : List Oper}
theorem gc_swap {c:Code} {a b d:Box} {l:List Box} (h:GoC P B N c Q k F V (a :: d :: b :: l)):GoC P B N c Q k F V (a :: b :: d :: l):=gc_order sp9 h
theorem gw_callvB {dr:gO} (hdr:dr.loud=true) {f:FuncId} {fo:Operand} {args:List Operand} {ats:Array TypeId} {vs fs cs:List Value} {Bs:List Box} {R:Value→aD→List Box→Prop} {g:List Box→List Box} (he:jV P f) (hf:evF F fo=some (.func (.func f) fs.toArray cs.toArray)) (hv:evL F args=some vs) (hL:mY L Bs g) (hd:okD N d=true) (hc:FnB P f (fs ++ vs ++ cs) V Bs R)
    (h:∀ v V' Bs',VLe V V'→R v V' Bs'→GoL P B N dr ops Q k rest (rT F d v) V' (g Bs')):GoW P B N dr ops Q k ⟨d,.call ⟨.value fo,args.toArray,ats⟩,ty,pos,af,gd⟩ rest F V L:=iG hdr fun a w ha hs=>by
  obtain⟨X,Y,hX,hg⟩:=hL.h
  subst hX
  unfold Oper.wp
  rw [vT he ha hf hv]
  have hsub:Bs.Sublist (X ++ (Bs ++ Y)):=(List.sublist_append_left Bs Y).trans (List.sublist_append_right X (Bs ++ Y))
  refine(hc w (hs.sub' hsub)).mono fun e w' ⟨v,V',Bs',he',hst,hR⟩=>?_
  subst he'
  have h1:=h v V' Bs' hst.v0 hR
  rw [hg] at h1
  exact fT hdr h1 _ _ (ha.put hd v) (hs.callB hst)
end
theorem repl_two {a b:Box} {L:List Box}:mY (a :: b :: L) [a,b] (fun l=>l ++ L):=⟨[],L,rfl,fun _=>rfl⟩
theorem fit_light {h:Hd} {ks:PKs} (k:uO h ks):gA h ks:=by
  obtain⟨_,_,_,_,h5,h6,h7,h8⟩:=k
  refine⟨?_,by omega,by omega,fun k hk=>by have:=h8 k hk;omega⟩
  unfold nF
  simp only [Bool.and_eq_true,decide_eq_true_eq,List.all_eq_true]
  exact⟨by have:=h5.1;omega,fun a ha=>by have:=h5.2 a ha;omega⟩
theorem bI.light {b:BX} (h:bI b):∀ x∈b.ls,cB gA x:=fun x hx=>(h.fit x hx).imp fun _ _=>fit_light
theorem UpR.off {r:PN×Int} {ev v:Value} {V:aD} {gs:List Nat} (hc:pY V gs) (h:UpR r ev v V):UpR r ev v (V.off gs):=by
  obtain⟨y,h1,h2,h3⟩:=h
  exact⟨y,h1,h2.off hc,h3⟩
theorem UpB_c {V:aD} {p:Nat} {b:BX} {I:BI} {L1:List Box} (hok:bI b) (hW:nL V b I L1) (Bo:Option Addr) (m e:Nat) (ss:List ByteArray) (hs:cL V Bo m ss) (hme:m≤e) (hm:m≤100) :
    FnB Tryz.prog 152 [.slice I.K I.m I.e,lmV I.M,.slice Bo m e] V (⟨p,113,bxC I b⟩ :: L1) fun v V' Bs'=>Bs'=⟨p,113,bxC I b⟩ :: L1∧UpR (upP b.ls b.us b.gs ss) (bK (upP b.ls b.us b.gs ss).2) v V':=fun w hst=>by
  obtain⟨q,x0,xt,rest,hK,hx,hL1,hlen,hme2,hml,hm0⟩:=hW.open_ hok
  have hB:eD V p b (⟨p,113,bxC I b⟩ :: L1):=⟨I,L1,rfl,hW⟩
  have hm4:I.m≤4:=by rw [←hW.lens];exact hok.l4
  subst hL1
  have hlent:Lent [(q,(x0 :: xt).flatMap lnC)] (⟨p,113,bxC I b⟩ :: [⟨q,70,(x0 :: xt).flatMap lnC ++ rest⟩]):=by
    intro c hc
    rw [List.mem_singleton.1 hc]
    exact⟨_,_,List.mem_cons_of_mem _ List.mem_cons_self,List.prefix_append _ _⟩
  have hd:=hok.data hW
  have hcl:∀ c∈[(q,(x0 :: xt).flatMap lnC)],calmC c.2:=by
    intro c hc
    rw [List.mem_singleton.1 hc]
    exact rA (by rw [←hx];exact hd)
  have hq:aG (V.plus [(q,(x0 :: xt).flatMap lnC)]) q 0 ((x0 :: xt).flatMap lnC):=oK hst.apart (by unfold fW;simp) (fun j=>by rw [jU,if_pos ⟨rfl,rfl⟩])
  have hN:dR (V.plus [(q,(x0 :: xt).flatMap lnC)]) I.K I.m I.xs:=by
    rw [hK,hx]
    refine dR.of ⟨?_,fun _=>⟨q,0,rfl,hq⟩⟩ (by rw [←hx];exact hW.len) (Nat.le_trans hme2 hml) (fun y hy=>(hW.ls y (by rw [hx];exact hy)).le kF)
    rw [lO lnC oB,←hx,hW.len]
  have hU:=Up_c (V.plus [(q,(x0 :: xt).flatMap lnC)]) I.K I.m I.e I.xs hN (by omega) (fun x hx9=>hok.light _ (by rw [←hW.eq];exact List.mem_map_of_mem (f:=LN.n) hx9)) I.M (hW.M.le kF) Bo m e ss (hs.le kF) hme hm
  rw [hW.eq,hW.us,hW.gs] at hU
  refine(Fn.lend hlent (fun _=>hU) w hst).mono fun e w' ⟨v,V',Bs',he,hst2,hB2,V3,g1,g2,g3,g4⟩=>?_
  exact⟨v,V',Bs',he,hst2,hB2,by rw [g2];exact g3.off (pY.of g4 hcl (by simp))⟩
def AlterC (f:FuncId) (cs:List Value) (p:Nat) (b:BX) (φ:Hd→Hd) (V:aD):Prop:=∀ V0,VLe V V0→∀ (I:BI),eM V0 I.A I.n b.c.xs→∀ (g:Nat) (x:LN),0≤x.h.mode∧x.h.mode≤4095→aT V0 x→FnB Tryz.prog f ([.pointer (some ⟨g,0,none⟩)] ++ cs) V0 [⟨g,70,lnC x⟩,⟨p,113,bxC I b⟩] fun v V' Bs'=>∃ y:LN,Bs'=[⟨g,70,lnC y⟩,⟨p,113,bxC I b⟩]∧y.n=.mk (φ x.h) x.ks∧aT V' y
theorem upK_bd9 {l:List PN} {us gs:List PR} {ss:List ByteArray} {u0:PN} (hl:∀ x∈l,cB gA x) (h0:cB gA u0):∀ i,(upK l us gs ss u0 i).2=0→cB (fB (80+i)) (upK l us gs ss u0 i).1
  | 0,_=>h0.imp fun _ _=>pO
  | i+1,h=>by
    have hprev:(upK l us gs ss u0 i).2=0:=by
      by_cases hp:(upK l us gs ss u0 i).2=0
      · exact hp
      · rw [upK,if_neg hp] at h;exact absurd h hp
    have ih:=upK_bd9 hl h0 i hprev
    rw [upK_on hprev] at h ⊢
    generalize (upK l us gs ss u0 i).1=u at *
    have hup:cB (fB (80+(i+1))) u:=ih.imp fun _ _=>jF (by omega)
    cases hq:cR l (ss.take (i+1)) with
    | nil=>rw [oT hq];exact hup
    | cons f r =>
      by_cases hf:f.2=0
      · rw [qI hq hf];exact hup
      · cases hm:cS true us gs (nD f.1) with
        | none=>rw [tF hq hf hm] at h;simp at h
        | some x =>
          by_cases hp:pF false x u (ss.take (i+1))=0
          · rw [qP hq hf hm hp]
            have hlf:=iE hl (ss.take (i+1)) f (by rw [hq];simp)
            have hlb:cB gA (nD f.1):=sW (fun hd ks hh=>⟨hh.1,hh.2.1,by simp,by simp⟩) hlf
            have hlp:cB gA x:=qJ (fun hd ks u g hh=>hh) hm hlb
            exact tD (hlp.imp fun _ _ hh=>jF (Nat.le_add_right 80 i) (pO hh)) hp ih
          · rw [qB hq hf hm hp] at h;exact absurd h hp
theorem up_bd9 {l:List PN} {us gs:List PR} {ss:List ByteArray} (hl:∀ x∈l,cB gA x) (h0:cB gA (l.headD pnZ)) (hm:ss.length≤100) (h:(upP l us gs ss).2=0):cB (fB 200) (upP l us gs ss).1:=by
  unfold upP at h ⊢
  by_cases hw:cR l ss=[]
  · rw [if_pos hw] at h;simp at h
  · rw [if_neg hw] at h ⊢
    exact(upK_bd9 hl h0 ss.length h).imp fun _ _ hh=>jF (by omega) hh
def oV (h:Hd) (ks:PKs):Prop:=0≤h.mode∧h.mode≤4095
theorem edit_md {x:PN} {hd:Hd} {ks:PKs} {s:ByteArray} (hn:oV hd ks) (hk:∀ k∈ks,cB oV k.2) (hx:cB oV x):cB oV (.mk hd (lZ false x ks s)):=by
  refine .mk hn fun k hk2=>?_
  rcases nR hk2 with h|h
  · exact hk k h
  · rw [h];exact hx
theorem pN_md {x:PN} (hx:cB oV x):∀ {l:List ByteArray} {n:PN},pF false x n l=0→cB oV n→cB oV (pN false x n l)
  | [],n,h,_=>by simp [pF] at h
  | [s],n,_,hm=>by
    rw [pN]
    exact edit_md hm.here (fun k hk=>hm.kid hk) hx
  | s :: t :: l,n,h,hm=>by
    obtain⟨hk,m,hm2,h3⟩:=pF_cons.1 h
    rw [pN_cons hm2]
    exact edit_md hm.here (fun k hk=>hm.kid hk) (pN_md hx h3 (hm.kid (jY hm2)))
theorem upK_md {l:List PN} {us gs:List PR} {ss:List ByteArray} {u0:PN} (hl:∀ x∈l,cB oV x) (h0:cB oV u0):∀ i,(upK l us gs ss u0 i).2=0→cB oV (upK l us gs ss u0 i).1
  | 0,_=>h0
  | i+1,h=>by
    have hprev:(upK l us gs ss u0 i).2=0:=by
      by_cases hp:(upK l us gs ss u0 i).2=0
      · exact hp
      · rw [upK,if_neg hp] at h;exact absurd h hp
    have hup:=upK_md hl h0 i hprev
    rw [upK_on hprev] at h ⊢
    generalize (upK l us gs ss u0 i).1=u at *
    cases hq:cR l (ss.take (i+1)) with
    | nil=>rw [oT hq];exact hup
    | cons f r =>
      by_cases hf:f.2=0
      · rw [qI hq hf];exact hup
      · cases hm:cS true us gs (nD f.1) with
        | none=>rw [tF hq hf hm] at h;simp at h
        | some x =>
          by_cases hp:pF false x u (ss.take (i+1))=0
          · rw [qP hq hf hm hp]
            have hlf:=iE hl (ss.take (i+1)) f (by rw [hq];simp)
            have hlb:cB oV (nD f.1):=sW (fun hd ks hh=>hh) hlf
            exact pN_md (qJ (fun hd ks u g hh=>hh) hm hlb) hp hup
          · rw [qB hq hf hm hp] at h;exact absurd h hp
theorem up_md {l:List PN} {us gs:List PR} {ss:List ByteArray} (hl:∀ x∈l,cB oV x) (h0:cB oV (l.headD pnZ)) (h:(upP l us gs ss).2=0):cB oV (upP l us gs ss).1:=by
  unfold upP at h ⊢
  by_cases hw:cR l ss=[]
  · rw [if_pos hw] at h;simp at h
  · rw [if_neg hw] at h ⊢
    exact upK_md hl h0 ss.length h
theorem mX {h:Hd} {ks:PKs} (k:fB 200 h ks):eA h ks:=⟨by have:=k.1;omega,by have:=k.2;omega⟩
theorem sR {p:Hd→PKs→Prop}:∀ {l:List ByteArray} {n x:PN},cB p n→eI n l=some x→cB p x
  | [],n,x,h,hf=>by rw [eI] at hf;cases hf;exact h
  | s :: l,n,x,h,hf=>by
    rw [findP_cons] at hf
    split at hf
    · cases hl:fH n.ks s with
      | none=>rw [hl] at hf;cases hf
      | some m=>rw [hl] at hf;exact sR (h.kid (jY hl)) hf
    · cases hf
theorem alter_up {b:BX} {ss:List ByteArray} {φ:Hd→Hd} (h:¬(upP b.ls b.us b.gs ss).2=0):gY b ss φ=(b,(upP b.ls b.us b.gs ss).2):=if_pos h
theorem alter_root {b:BX} {φ:Hd→Hd} (h:(upP b.ls b.us b.gs []).2=0):gY b [] φ=jB b (.mk (φ (upP b.ls b.us b.gs []).1.h) (upP b.ls b.us b.gs []).1.ks):=by unfold gY;rw [if_neg (not_not_intro h),if_pos rfl]
theorem alter_put {b:BX} {ss:List ByteArray} {φ:Hd→Hd} {n:PN} (h:(upP b.ls b.us b.gs ss).2=0) (hs:¬ss=[]) (hn:PN.mk (φ ((eI (upP b.ls b.us b.gs ss).1 ss).getD pnZ).h) ((eI (upP b.ls b.us b.gs ss).1 ss).getD pnZ).ks=n):gY b ss φ=if ¬pF false n (upP b.ls b.us b.gs ss).1 ss=0 then (b,pF false n (upP b.ls b.us b.gs ss).1 ss) else jB b (pN false n (upP b.ls b.us b.gs ss).1 ss):=by
  unfold gY;rw [if_neg (not_not_intro h),if_neg hs,hn]
attribute [local irreducible] AtQ GoC GoL GoW QO QP Fn RV bL aG VLe bR bK
theorem alter_c {f:FuncId} {cs:List Value} {φ:Hd→Hd} (he:jV Tryz.prog f) (V:aD) (p:Nat) (b:BX) (Bs:List Box) (hok:bI b) (h:eD V p b Bs) (hA:AlterC f cs p b φ V) (hφ:∀ h:Hd,h.attrs.length≤1000→(φ h).attrs.length≤1000) (Bo:Option Addr) (m e:Nat) (ss:List ByteArray) (hs:cL V Bo m ss) (hme:m≤e) (hm:m≤100) :
    FnB Tryz.prog 148 [.pointer (some ⟨p,0,none⟩),.slice Bo m e,.func (.func f) #[] cs.toArray] V Bs (ChB p (gY b ss φ)):=by
  have sl:=hs.1.1
  obtain⟨I,L1,rfl,hW⟩:=h
  have hU:=fun V2 (hV2:VLe V V2)=>UpB_c (p:=p) hok (hW.le hV2) Bo m e ss (hs.le hV2) hme hm
  obtain⟨n0,t0,hls,hkd0⟩:=hok.root
  have hbd:=up_bd9 (us:=b.us) (gs:=b.gs) (ss:=ss) hok.light (by rw [hls];exact hok.light n0 (by rw [hls];simp)) (by omega)
  have hmds:∀ x∈b.ls,cB oV x:=fun x hx=>(hok.fit x hx).imp fun _ _ k=>k.2.1
  have hmd:=up_md (us:=b.us) (gs:=b.gs) (ss:=ss) hmds (by rw [hls];exact hmds n0 (by rw [hls];simp))
  generalize hup:upP b.ls b.us b.gs ss=up at *
  (refine bD Tryz.func148 rfl Tryz.ntmps148 rfl ?_;intro w0)
  repeat' (first|(refine aE ?_;refine pu9 ?_)|refine cC ?_|fail)
  refine dZ (fun F V' L'=>∃ (γ7:Nat) (y:LN),VLe V V'∧aT V' y∧y.n=up.1∧⟨γ7,70,lnC y⟩ :: ⟨p,113,bxC I b⟩ :: L1=L'∧F=[(0,.pointer (some ⟨p,0,none⟩)),(1,.slice Bo m e),(2,.func (.func f) #[] cs.toArray),(7,.pointer (some ⟨γ7,0,none⟩)),(8,bK up.2)]) ?_ ?_
  · refine bX (id:=1) _ mixed (List.Sublist.refl _) ?_;refine gt9 0 ?_;refine gt9 1 ?_;refine gt9 2 ?_;refine gt9 3 ?_;refine gt9 4 ?_;refine gt9 5 ?_;refine gt9 6 ?_;refine gt9 7 ?_;refine gt9 8 ?_;(refine dL (i:=9) (j:=13) (by kernel_rfl) rfl rfl rfl rfl vl9 vl9 bP ?_ ?_<;>first|((refine aL rfl ⟨Tryz.call152⟩ rfl aV rfl (hU _ vl9) ?_;rintro v V2 B2 hV2 ⟨rfl,y,rfl,hyN,hyn⟩);refine gt9 10 ?_;refine gt9 11 ?_;refine gt9 12 ?_;refine aZ (i:=13) rfl ?_;(refine cV rfl zer_70 rfl ?_;intro γ);refine aZ (i:=14) rfl ?_;refine aR rfl siz_70 rfl rfl rfl rfl bJ dP rfl ?_;refine gt9 15 ?_;refine aY (by kernel_rfl) vl9 vl9 bP ?_)|((refine cV rfl zer_70 rfl ?_;intro γ);refine aZ (i:=9) rfl ?_;(refine aL rfl ⟨Tryz.call152⟩ rfl aV rfl (hU _ vl9) ?_;rintro v V2 B2 hV2 ⟨rfl,y,rfl,hyN,hyn⟩);refine gt9 10 ?_;refine gt9 11 ?_;refine gt9 12 ?_;refine aZ (i:=14) rfl ?_;refine aR rfl siz_70 rfl rfl rfl rfl bJ dP rfl ?_;refine gt9 15 ?_;refine aY (by kernel_rfl) vl9 vl9 bP ?_))
    all_goals exact dN _ ⟨_,y,hV2,hyN,hyn,rfl,rfl⟩ bH sp9
  · rintro F V2 L' ⟨γ7,y,hV2,hyN,hyn,rfl,rfl⟩
    have hWV:=hW.le hV2
    by_cases hu:up.2=0
    · have hub:=hbd hu
      have hum:=hmd hu
      by_cases hs0:ss=[]
      · subst hs0
        have e9:gY b [] φ=jB b (.mk (φ y.n.h) y.n.ks):=by rw [alter_root (by rw [hup];exact hu),hup,hyn]
        rw [e9]
        have hG:=fun V3 (hV3:VLe V2 V3) (z:LN) (hz:aT V3 z)=>xB V3 p b _ hok ⟨I,L1,rfl,hWV.le hV3⟩ z hz
        have hF:=fun V3 (hV3:VLe V2 V3)=>hA V3 (hV2.trans hV3) I (hWV.xs.le hV3) γ7 y (show 0≤y.n.h.mode∧y.n.h.mode≤4095 by rw [hyn];exact hum.here) (hyN.le hV3)
        repeat' (first|(refine aE ?_;refine pu9 ?_)|refine gx9 ?_|refine fE [2,4] rfl ?_|(refine aA rfl ?_ ?_<;>intro hq<;>try exact no9))
        all_goals first
          | (exfalso;exact absurd hu (by assumption))
          | (exfalso;simp at sl;omega)
          | skip
        repeat' (first|(refine aE ?_;first|(refine aC ?_;(refine gw_callvB (fs:=[]) rfl he rfl rfl repl_two rfl (hF _ vl9) ?_;rintro v V3 B3 hV3 ⟨y3,rfl,hy3n,hy3N⟩;simp only [List.cons_append,List.nil_append]))|refine pu9 ?_)|refine gx9 ?_|refine cW (id:=5) ?_)
        have hG2:=hG _ vl9 y3 hy3N
        rw [show y3.n=.mk (φ y.n.h) y.n.ks from hy3n] at hG2
        repeat' (first|(refine aE ?_;first|(refine aC ?_;(refine aL rfl ⟨Tryz.call154⟩ rfl aV rfl (hG2) ?_;rintro v V4 B4 hV4 ⟨rfl,hB4⟩))|refine pu9 ?_)|refine cC ?_|fail)
        all_goals
          (refine bE Tryz.results148 (aB rfl) (List.Sublist.cons _ (List.Sublist.refl _)) ?_)
          exact⟨rfl,hB4⟩
      · have hbF:cB eA ((eI up.1 ss).getD pnZ):=by
          cases hf:eI up.1 ss with
          | none=>exact .mk ⟨Nat.zero_le _,Nat.zero_le _⟩ (by simp)
          | some x=>exact sR (hub.imp fun _ _=>mX) hf
        have hbH:((eI up.1 ss).getD pnZ).h.attrs.length≤1000:=by
          cases hf:eI up.1 ss with
          | none=>exact Nat.zero_le _
          | some x=>exact(sR hub hf).here.1
        have hbM:0≤((eI up.1 ss).getD pnZ).h.mode∧((eI up.1 ss).getD pnZ).h.mode≤4095:=by
          cases hf:eI up.1 ss with
          | none=>exact⟨Int.le_refl _,by decide⟩
          | some x=>exact(sR hum hf).here
        have e9:=alter_put (b:=b) (ss:=ss) (φ:=φ) (by rw [hup];exact hu) hs0 rfl
        rw [hup] at e9
        rw [e9]
        have hn1:cB eA (PN.mk (φ ((eI up.1 ss).getD pnZ).h) ((eI up.1 ss).getD pnZ).ks):=by
          refine .mk ⟨?_,hbF.here.2⟩ (fun k hk=>hbF.kid hk)
          have:=hφ _ hbH
          omega
        have hFd:=fun V3 (hV3:VLe V2 V3)=>Find_c V3 y (hyN.le hV3) (by rw [hyn];exact hub.imp fun _ _=>mX) Bo m e ss (hs.le (hV2.trans hV3))
        rw [hyn] at hFd
        have hF:=fun V3 (hV3:VLe V2 V3) g (z:LN) (hzn:z.n=(eI up.1 ss).getD pnZ) (hz:aT V3 z)=>hA V3 (hV2.trans hV3) I (hWV.xs.le hV3) g z (show 0≤z.n.h.mode∧z.n.h.mode≤4095 by rw [hzn];exact hbM) hz
        generalize hnn:(PN.mk (φ ((eI up.1 ss).getD pnZ).h) ((eI up.1 ss).getD pnZ).ks)=n1 at *
        have hPut:∀ V5,VLe V2 V5→∀ z:LN,aT V5 z→z.n=n1→Fn Tryz.prog 159 [lnV y,.slice Bo m e,lnV z] V5 (pR false n1 up.1 ss):=fun V5 h5 z hz hzn=>by
          have h9:=Put_c V5 y (hyN.le h5) (by rw [hyn];exact hub.imp fun _ _=>kR (by omega)) Bo m e ss (hs.le (hV2.trans h5)) hme z hz (by rw [hzn];exact hn1)
          rw [hzn,hyn] at h9
          exact h9
        have hG:=fun V3 (hV3:VLe V2 V3) (z:LN) (hz:aT V3 z)=>xB V3 p b _ hok ⟨I,L1,rfl,hWV.le hV3⟩ z hz
        repeat' (first|(refine aE ?_;first|(refine aC ?_;(refine aS rfl ⟨Tryz.call158⟩ rfl rfl (hFd _ vl9) ?_;rintro v V3 hV3 ⟨z,rfl,hzN,hzn⟩))|refine st9 ?_|(refine al9 ?_;intro γ)|refine pu9 ?_)|refine gx9 ?_|refine fE [2,4,7] rfl ?_|(refine aA rfl ?_ ?_<;>intro hq<;>try exact no9))
        all_goals first
          | (exfalso;exact absurd hu (by assumption))
          | (exfalso;exact hs0 (List.eq_nil_of_length_eq_zero (by omega)))
          | skip
        refine gc_swap ?_
        repeat' (first|(refine aE ?_;first|(refine aC ?_;(refine gw_callvB (fs:=[]) rfl he rfl rfl repl_two rfl (hF _ vl9 _ z hzn hzN) ?_;rintro v V4 B4 hV4 ⟨y3,rfl,hy3n,hy3N⟩;simp only [List.cons_append,List.nil_append]))|refine pu9 ?_)|refine gx9 ?_|refine cW (id:=8) ?_)
        have hy3:y3.n=n1:=by
          rw [hy3n,←hnn,←hzn]
          rfl
        refine gc_swap ?_
        have hP:=hPut _ vl9 y3 hy3N hy3
        by_cases hpf:pF false n1 up.1 ss=0
        · rw [if_neg (not_not_intro hpf)]
          repeat' (first|(refine aE ?_;first|(refine aC ?_;(refine aS rfl ⟨Tryz.call159⟩ rfl rfl (hP) ?_;rintro v V5 hV5 ⟨x5,rfl,hx5N,hx5n⟩))|refine st9 ?_|refine pu9 ?_)|refine cC ?_|fail)
          rw [xL,if_pos hpf] at hx5n
          have e0:∀ l,l=lnC x5→spl (lnC y) 0 l=lnC x5:=fun l hl=>by rw [hl];exact mJ rfl
          rw [e0 _ ?_]
          rotate_left
          · rfl
          have hG2:=hG _ vl9 x5 hx5N
          rw [hx5n] at hG2
          repeat' (first|(refine aE ?_;first|(refine aC ?_;(refine aL rfl ⟨Tryz.call154⟩ rfl aV rfl (hG2) ?_;rintro v V6 B6 hV6 ⟨rfl,hB6⟩))|refine pu9 ?_)|refine cC ?_|(refine aA rfl ?_ ?_<;>intro hq<;>try exact no9))
          all_goals first
            | (exfalso;exact absurd hpf (by assumption))
            | skip
          all_goals
            (refine bE Tryz.results148 (aB rfl) (List.Sublist.cons _ (List.Sublist.cons _ (List.Sublist.refl _))) ?_)
            exact⟨rfl,hB6⟩
        · rw [if_pos hpf]
          repeat' (first|(refine aE ?_;first|(refine aC ?_;(refine aS rfl ⟨Tryz.call159⟩ rfl rfl (hP) ?_;rintro v V5 hV5 ⟨x5,rfl,hx5N,hx5n⟩))|refine st9 ?_|refine pu9 ?_)|refine cC ?_|(refine aA rfl ?_ ?_<;>intro hq<;>try exact no9))
          all_goals first
            | (exfalso;exact hpf (by assumption))
            | skip
          all_goals
            (refine bE Tryz.results148 (aB rfl) (List.Sublist.cons _ (List.Sublist.cons _ (List.Sublist.refl _))) ?_)
            exact⟨rfl,I,_,rfl,hWV.le vl9⟩
    · rw [alter_up (by rw [hup];exact hu),hup]
      repeat' (first|(refine aE ?_;refine pu9 ?_)|refine cC ?_|(refine aA rfl ?_ ?_<;>intro hq<;>try exact no9))
      all_goals first
        | (exfalso;exact hu (by assumption))
        | skip
      all_goals
        (refine bE Tryz.results148 (aB rfl) (List.Sublist.cons _ (List.Sublist.refl _)) ?_)
        exact⟨rfl,I,_,rfl,hWV⟩
end
section
attribute [local irreducible] AtQ GoC GoL GoW QO QP Fn RV bL aG VLe bR bK
theorem mode1_c (V:aD) (p:Nat) (b:BX) (γ:Nat) (m:Int) (hγ:V ⟨γ,0,none⟩=some (.int .i64 m)):AlterC 162 [.pointer (some ⟨γ,0,none⟩)] p b (fun h=>{ h with mode:=m }) V:=by
  intro V0 hV I hI g x hmd hx
  have h0:=dJ hV hγ
  obtain⟨ha,hca,hd,hck,es,hk,hks⟩:=hx.inv
  (refine bD Tryz.func162 rfl Tryz.ntmps162 rfl ?_;intro w0)
  repeat' (first|(refine aE ?_;first|refine st9 ?_|refine pu9 ?_)|refine cC ?_|fail)
  all_goals
    (first|refine kZ Tryz.results162  (List.Sublist.refl _) ?_|refine lN Tryz.results162 (List.Sublist.refl _) ?_)
    exact⟨{ x with h:={ x.h with mode:=m } },rfl,rfl,.mk _ es ha hca hd hk.1 hck hks (fun e he=>(hk.2 e he).1) (fun e he=>(hk.2 e he).2)⟩
theorem set1_c (V:aD) (p:Nat) (b:BX) (γ:Nat) (A:Option Addr) (n c:Nat) (xs:List PA) (hγ:V ⟨γ,0,none⟩=some (.slice A n c)) (hA:eC V A n xs) (hnc:n≤c):AlterC 170 [.pointer (some ⟨γ,0,none⟩)] p b (fun h=>{ h with attrs:=xs }) V:=by
  intro V0 hV I hI g x hmd hx
  have h0:=dJ hV hγ
  obtain⟨ha,hca,hd,hck,es,hk,hks⟩:=hx.inv
  (refine bD Tryz.func170 rfl Tryz.ntmps170 rfl ?_;intro w0)
  repeat' (first|(refine aE ?_;first|refine st9 ?_|refine pu9 ?_)|refine cC ?_|fail)
  all_goals
    (first|refine kZ Tryz.results170  (List.Sublist.refl _) ?_|refine lN Tryz.results170 (List.Sublist.refl _) ?_)
    exact⟨{ x with h:={ x.h with attrs:=xs },A:=A,na:=n,ca:=c },rfl,rfl,.mk _ es (hA.le hV) hnc hd hk.1 hck hks (fun e he=>(hk.2 e he).1) (fun e he=>(hk.2 e he).2)⟩
theorem own1_c (V:aD) (p:Nat) (b:BX) (hd0:0≤b.c.d∧b.c.d≤15) (γ δ:Nat) (u g:Int) (h2:V ⟨γ,2,none⟩=some (.int .i64 u)) (h3:V ⟨γ,3,none⟩=some (.int .i64 g)) (hp:V ⟨δ,0,none⟩=some (.pointer (some ⟨p,0,none⟩))):AlterC 165 [.pointer (some ⟨γ,0,none⟩),.pointer (some ⟨δ,0,none⟩)] p b (fun h=>{ h with user:=u,group:=g,mode:=sN b.c.d h.mode }) V:=by
  intro V0 hV I hI q x hmd hx
  have h2':=dJ hV h2
  have h3':=dJ hV h3
  have hp':=dJ hV hp
  obtain⟨ha,hca,hd,hck,es,hk,hks⟩:=hx.inv
  have hW:=fun V2=>Wipe_c V2 b.c.u b.c.g b.c.d I.A I.n I.k x.h.mode hmd.1 hmd.2 hd0.1 hd0.2
  (refine bD Tryz.func165 rfl Tryz.ntmps165 rfl ?_;intro w0)
  repeat' (first|refine gx9 ?_|fail)
  refine bX (id:=0) _ mixed (List.nil_sublist _) ?_;refine gt9 0 ?_;refine gt9 1 ?_;refine gt9 2 ?_;refine gt9 3 ?_;refine gt9 4 ?_;refine gt9 5 ?_;refine gt9 6 ?_;refine gt9 7 ?_;refine aZ (i:=8) rfl ?_;refine aR rfl siz_3 rfl rfl rfl rfl bJ dP rfl ?_;refine gt9 9 ?_;refine gt9 10 ?_;refine aZ (i:=11) rfl ?_;refine aR rfl siz_3 rfl rfl rfl rfl bJ dP rfl ?_;refine aY (by kernel_rfl) vl9 vl9 bP ?_
  all_goals repeat' (first|(refine uN ?_;(first|refine iA ?_|refine uP rfl ?_)))
  all_goals refine bX (id:=1) _ mixed (List.Sublist.cons _ (List.Sublist.refl _)) ?_;refine gt9 0 ?_;refine gt9 1 ?_;refine gt9 2 ?_;refine gt9 3 ?_;refine gt9 4 ?_;refine gt9 5 ?_;refine gt9 6 ?_;refine gt9 7 ?_;refine aZ (i:=8) rfl ?_;(first|refine aO (bC one_3 rfl bA (by exact rfl)) ?_|refine aO (bC one_3 rfl bA (by assumption)) ?_|refine aO (cD one_3 rfl (by assumption)) ?_);refine aZ (i:=9) rfl ?_;refine aP rfl (aK ⟨Tryz.call150⟩ rfl (hW _)) ?_;refine gt9 10 ?_;refine gt9 11 ?_;refine aZ (i:=12) rfl ?_;refine aR rfl siz_3 rfl rfl rfl rfl bJ dP rfl ?_;refine aY (by kernel_rfl) vl9 vl9 bP ?_
  all_goals repeat' (first|fail)
  all_goals
    (first|refine kZ Tryz.results165  (List.Sublist.refl _) ?_|refine lN Tryz.results165 (List.Sublist.refl _) ?_)
    exact⟨{ x with h:={ x.h with user:=u,group:=g,mode:=sN b.c.d x.h.mode } },rfl,rfl,.mk _ es ha hca hd hk.1 hck hks (fun e he=>(hk.2 e he).1) (fun e he=>(hk.2 e he).2)⟩
theorem put1_c (V:aD) (p:Nat) (b:BX) (hd0:0≤b.c.d∧b.c.d≤15) (γ δ:Nat) (dt:ByteArray) (hdt:dt.size≤maxLen) (h4:V ⟨γ,4,none⟩=some (.string dt)) (hp:V ⟨δ,0,none⟩=some (.pointer (some ⟨p,0,none⟩))):AlterC 149 [.pointer (some ⟨γ,0,none⟩),.pointer (some ⟨δ,0,none⟩)] p b (fun h=>{ h with data:=dt,mode:=sN b.c.d h.mode }) V:=by
  intro V0 hV I hI q x hmd hx
  have h4':=dJ hV h4
  have hp':=dJ hV hp
  obtain⟨ha,hca,hd,hck,es,hk,hks⟩:=hx.inv
  have hW:=fun V2=>Wipe_c V2 b.c.u b.c.g b.c.d I.A I.n I.k x.h.mode hmd.1 hmd.2 hd0.1 hd0.2
  (refine bD Tryz.func149 rfl Tryz.ntmps149 rfl ?_;intro w0)
  repeat' (first|(refine aE ?_;first|refine st9 ?_|refine pu9 ?_)|refine cC ?_|fail)
  all_goals refine bX (id:=1) _ mixed (List.Sublist.cons _ (List.Sublist.refl _)) ?_;refine gt9 0 ?_;refine gt9 1 ?_;refine gt9 2 ?_;refine gt9 3 ?_;refine gt9 4 ?_;refine gt9 5 ?_;refine gt9 6 ?_;refine gt9 7 ?_;refine aZ (i:=8) rfl ?_;(first|refine aO (bC one_3 rfl bA (by exact rfl)) ?_|refine aO (bC one_3 rfl bA (by assumption)) ?_|refine aO (cD one_3 rfl (by assumption)) ?_);refine aZ (i:=9) rfl ?_;refine aP rfl (aK ⟨Tryz.call150⟩ rfl (hW _)) ?_;refine gt9 10 ?_;refine gt9 11 ?_;refine aZ (i:=12) rfl ?_;refine aR rfl siz_3 rfl rfl rfl rfl bJ dP rfl ?_;refine aY (by kernel_rfl) vl9 vl9 bP ?_
  all_goals repeat' (first|fail)
  all_goals
    (first|refine kZ Tryz.results149  (List.Sublist.refl _) ?_|refine lN Tryz.results149 (List.Sublist.refl _) ?_)
    exact⟨{ x with h:={ x.h with data:=dt,mode:=sN b.c.d x.h.mode } },rfl,rfl,.mk _ es ha hca hdt hk.1 hck hks (fun e he=>(hk.2 e he).1) (fun e he=>(hk.2 e he).2)⟩
end
section
theorem kV (l:List UInt8):(aU l).length≤6:=by
  unfold aU
  split
  · rename_i h
    obtain⟨h1,h2⟩:=h
    unfold dY at h1
    rw [if_neg h2] at h1
    unfold baL
    rw [List.length_map]
    split at h1
    · simp at h1
    · split at h1
      · simp at h1
      · split at h1
        · simp at h1
        · omega
  · exact Nat.zero_le _
theorem nL.owned {V:aD} {p:Nat} {b:BX} {I:BI} {L1:List Box} (hok:bI b) (hW:nL V b I L1):∀ x∈fW (⟨p,113,bxC I b⟩ :: L1),∃ cs,bL (⟨p,113,bxC I b⟩ :: L1) x cs:=by
  obtain⟨q,x0,xt,rest,hK,hx,rfl,_⟩:=hW.open_ hok
  intro x hx
  simp [fW] at hx
  rcases hx with rfl|rfl
  · exact⟨_,vY⟩
  · exact⟨_,gG vY⟩
def pS (b:BX) (l:List UInt8) (m:Int):BX×Int:=if m<0∨4095<m then (b,1) else if ¬cZ b l=0 then (b,cZ b l) else if tL b.c (bG b l).th=false then (b,10) else gY b (aU l) (fun h=>{ h with mode:=sB b.c.g b.c.d b.c.xs m (bG b l).th.group })
theorem aG.at0 {V:aD} {γ:Nat} {v:Value} (h:aG V γ 0 [v]):V ⟨γ,0,none⟩=some v:=h 0 v rfl
theorem rB {V:aD} {p:Nat} {b:BX} {Bs:List Box} (hok:bI b) (h:eD V p b Bs) (s:ByteArray) (hl:s.size≤1000000):FnB Tryz.prog 142 [.pointer (some ⟨p,0,none⟩),.string s] V Bs fun v V' Bs'=>Bs'=Bs∧nE b (aH s) v V' :=
  eD.read hok h (fun v V gs hc hR=>nE.off hc hR) fun V' I hV hB=>there_s V' p b I hok hB s hl
attribute [local irreducible] AtQ GoC GoL GoW QO QP Fn RV bL aG VLe bR bK
theorem mode_c (V:aD) (p:Nat) (b:BX) (Bs:List Box) (hok:bI b) (h:eD V p b Bs) (c:CL) (hc:c.path.size≤1000000):FnB Tryz.prog 72 [.pointer (some ⟨p,0,none⟩),clV c] V Bs (ChB p (pS b (aH c.path) c.a)):=by
  obtain⟨I,L1,rfl,hW⟩:=h
  have hT:=fun V2 (hV2:VLe V V2)=>rB (V:=V2) (p:=p) hok ⟨I,L1,rfl,hW.le hV2⟩ c.path hc
  have hO:=fun V2=>Owns_c V2 b.c I.A I.n I.k hok.d
  have hth:=gL hok (aH c.path)
  unfold pS
  by_cases hm:c.a<0∨4095<c.a
  · rw [if_pos hm]
    (refine bD Tryz.func72 rfl Tryz.ntmps72 rfl ?_;intro w0)
    repeat' (first|(refine aE ?_;first|(refine al9 ?_;intro γ)|refine pu9 ?_)|refine jR ?_|(refine aJ rfl rfl rfl ?_ ?_<;>intro hq<;>try exact no9)|refine fE [0,1,2] rfl ?_|(refine aA rfl ?_ ?_<;>intro hq<;>try exact no9))
    all_goals try exact no9
    all_goals
      (refine bE Tryz.results72 (aB rfl) (List.Sublist.cons _ (List.Sublist.refl _)) ?_)
      exact⟨cQ 1 rfl,I,_,rfl,hW⟩
  · rw [if_neg hm]
    by_cases ht:cZ b (aH c.path)=0
    · rw [if_neg (not_not_intro ht)]
      by_cases how:tL b.c (bG b (aH c.path)).th=false
      · rw [if_pos how]
        have hO9:=fun V2=>hO V2 (bG b (aH c.path)).th
        rw [how] at hO9
        (refine bD Tryz.func72 rfl Tryz.ntmps72 rfl ?_;intro w0)
        repeat' (first|(refine aE ?_;first|(refine aC ?_;(first|(refine aL rfl ⟨Tryz.call142⟩ rfl aV rfl (hT _ vl9) ?_;rintro v V2 B2 hV2 ⟨rfl,hR⟩;rcases hR with ⟨ht0,A,n,k,x,rfl,hs,hnk,hxN,hxn⟩|⟨ht0,A,n,k,x,lay,par,th,rfl⟩)|refine aP rfl (aK ⟨Tryz.call160⟩ rfl (hO9 _)) ?_))|(refine eF ?_;refine aR rfl siz_214 rfl rfl rfl rfl bJ kH rfl ?_)|(refine al9 ?_;intro γ)|refine pu9 ?_)|refine jR ?_|(refine aJ rfl rfl rfl ?_ ?_<;>intro hq<;>try exact no9)|refine fE [0,1,3,4,7] rfl ?_|(refine aA rfl ?_ ?_<;>intro hq<;>try exact no9)|refine bQ (id:=6) mixed (by kernel_rfl) ?_)
        all_goals first
          | exact no9
          | (exfalso;exact absurd ht ht0)
          | skip
        all_goals
          (refine bE Tryz.results72 (aB rfl) (List.Sublist.cons _ (List.Sublist.cons _ (List.Sublist.refl _))) ?_)
          exact⟨cQ 10 rfl,I,_,rfl,hW.le vl9⟩
      · rw [if_neg how]
        have hO9:=fun V2=>hO V2 (bG b (aH c.path)).th
        rw [show tL b.c (bG b (aH c.path)).th=true by revert how;cases tL b.c (bG b (aH c.path)).th<;>simp] at hO9
        have hK:=fun V2 (hV2:VLe V V2)=>Keep_c V2 b.c.u b.c.g b.c.d I.A I.n I.k b.c.xs (hW.xs.le hV2) c.a (bG b (aH c.path)).th.group (by omega) (by omega) hok.d.1 hok.d.2
        generalize hkq:sB b.c.g b.c.d b.c.xs c.a (bG b (aH c.path)).th.group=kq at *
        have hown:=hW.owned (p:=p) hok
        have hAl:=fun V2 (hV2:VLe V V2) γ (hγ:V2 ⟨γ,0,none⟩=some (.int .i64 kq)) A n k (hs:cL V2 A n (aU (aH c.path))) (hnk:n≤k)=>alter_c ⟨Tryz.call162⟩ V2 p b _ hok ⟨I,L1,rfl,hW.le hV2⟩ (mode1_c V2 p b γ kq hγ) (fun h hh=>hh) A n k _ hs hnk (by have:=kV (aH c.path);have:=hs.1.1;omega)
        (refine bD Tryz.func72 rfl Tryz.ntmps72 rfl ?_;intro w0)
        repeat' (first|(refine aE ?_;first|(refine aC ?_;(first|(refine aL rfl ⟨Tryz.call142⟩ rfl aV rfl (hT _ vl9) ?_;rintro v V2 B2 hV2 ⟨rfl,hR⟩;rcases hR with ⟨ht0,A,n,k,x,rfl,hs,hnk,hxN,hxn⟩|⟨ht0,A,n,k,x,lay,par,th,rfl⟩)|refine aP rfl (aK ⟨Tryz.call160⟩ rfl (hO9 _)) ?_))|(refine eF ?_;refine aR rfl siz_214 rfl rfl rfl rfl bJ kH rfl ?_)|(refine al9 ?_;intro γ)|refine pu9 ?_)|refine jR ?_|(refine aJ rfl rfl rfl ?_ ?_<;>intro hq<;>try exact no9)|refine fE [0,1,3,4] rfl ?_|(refine aA rfl ?_ ?_<;>intro hq<;>try exact no9)|refine bQ (id:=6) mixed (by kernel_rfl) ?_)
        all_goals first
          | exact no9
          | (exfalso;exact absurd ht ht0)
          | skip
        all_goals refine bX (id:=8) _ mixed (List.Sublist.refl _) ?_;refine gt9 0 ?_;refine gt9 1 ?_;refine gt9 2 ?_;refine gt9 3 ?_;refine gt9 4 ?_;refine gt9 5 ?_;refine gt9 6 ?_;refine gt9 7 ?_;refine gt9 8 ?_;(refine dL (i:=9) (j:=10) (by kernel_rfl) rfl rfl rfl rfl vl9 vl9 bP ?_ ?_<;>first|(refine aP rfl (aK ⟨Tryz.call161⟩ rfl (hK _ vl9)) ?_;refine aZ (i:=10) rfl ?_;(refine cV rfl zer_3 rfl ?_;intro γ);refine aZ (i:=11) rfl ?_;refine aR rfl siz_3 rfl rfl rfl rfl bJ dP rfl ?_;refine aY (by kernel_rfl) vl9 vl9 bP ?_)|((refine cV rfl zer_3 rfl ?_;intro γ);refine aZ (i:=9) rfl ?_;refine aP rfl (aK ⟨Tryz.call161⟩ rfl (hK _ vl9)) ?_;refine aZ (i:=11) rfl ?_;refine aR rfl siz_3 rfl rfl rfl rfl bJ dP rfl ?_;refine aY (by kernel_rfl) vl9 vl9 bP ?_))
        all_goals
          refine tP (fN.here _ _ _ _) ?_ (fun x hx=>let ⟨cs,h9⟩:=hown x hx;⟨cs,gG (gG h9)⟩)
          intro V3 hV3 hc3
          repeat' (first|(refine aE ?_;refine pu9 ?_)|refine cC ?_|fail)
          have hAl2:=hAl _ vl9 _ (aG.at0 hc3) _ _ _ (hs.le hV3) hnk
          refine aL rfl ⟨Tryz.call148⟩ rfl aV rfl hAl2 ?_
          rintro v V4 B4 hV4 ⟨rfl,hB4⟩
          repeat' (first|(refine aE ?_;refine pu9 ?_)|refine gx9 ?_|fail)
        all_goals
          (refine bE Tryz.results72 (aB rfl) (List.Sublist.cons _ (List.Sublist.cons _ (List.Sublist.refl _))) ?_)
          exact⟨rfl,hB4⟩
    · rw [if_pos ht]
      (refine bD Tryz.func72 rfl Tryz.ntmps72 rfl ?_;intro w0)
      repeat' (first|(refine aE ?_;first|(refine aC ?_;(refine aL rfl ⟨Tryz.call142⟩ rfl aV rfl (hT _ vl9) ?_;rintro v V2 B2 hV2 ⟨rfl,hR⟩;rcases hR with ⟨ht0,A,n,k,x,rfl,hs,hnk,hxN,hxn⟩|⟨ht0,A,n,k,x,lay,par,th,rfl⟩))|(refine eF ?_;refine aR rfl siz_214 rfl rfl rfl rfl bJ kH rfl ?_)|(refine al9 ?_;intro γ)|refine pu9 ?_)|refine jR ?_|(refine aJ rfl rfl rfl ?_ ?_<;>intro hq<;>try exact no9)|refine fE [0,1,3,4,5] rfl ?_|(refine aA rfl ?_ ?_<;>intro hq<;>try exact no9))
      all_goals first
        | exact no9
        | (exfalso;exact absurd ht0 ht)
        | skip
      all_goals
        (refine bE Tryz.results72 (aB rfl) (List.Sublist.cons _ (List.Sublist.cons _ (List.Sublist.refl _))) ?_)
        exact⟨rfl,I,_,rfl,hW.le vl9⟩
end
section
theorem dropA_len {nm:ByteArray} {xs:List PA} (hp:xs.Pairwise ltA) (hi:isA nm xs):(qW xs nm).length+1=xs.length∧atA nm xs<xs.length:=by
  obtain⟨a,ha,_⟩:=(vH hp).1 hi
  have hlt:atA nm xs<xs.length:=by
    rcases Nat.lt_or_ge (atA nm xs) xs.length with h|h
    · exact h
    · rw [List.getElem?_eq_none h] at ha;cases ha
  unfold qW
  exact⟨by simp;omega,hlt⟩
attribute [local irreducible] AtQ GoC GoL GoW QO QP Fn RV bL aG VLe bR bK
theorem getR_no {xs:List PA} {nm:ByteArray} (h0:¬kX xs nm=0):GetR xs nm=.tuple #[.string ⟨#[]⟩,bK (kX xs nm)]:=by unfold GetR;rw [if_neg (fun e=>h0 e.2)]
theorem getR_yes {xs:List PA} {nm:ByteArray} (h0:kX xs nm=0) (hh:rV nm xs=true):GetR xs nm=.tuple #[.string (getA nm xs),bK 0]:=by unfold GetR;rw [if_pos ⟨hh,h0⟩,h0]
theorem getF_isA {xs:List PA} {nm:ByteArray} (h:kX xs nm=0):rV nm xs=true:=iC.2 (getF_zero h).2.2
theorem Drop_c (V:aD) (A:Option Addr) (n c:Nat) (xs:List PA) (nm:ByteArray) (h:eC V A n xs) (hcap:n≤c) (hm2:nm.size≤9223372036854775807):Fn Tryz.prog 168 [.slice A n c,.string nm] V (AttrRes (kX xs nm) (qW xs nm)):=by
  have hl:=h.1.1
  have hm:=h.1.max
  have hG:=Get_c V A n c xs nm h hm2
  by_cases h0:kX xs nm=0
  · have hh:=getF_isA h0
    obtain⟨r1,r2,r3⟩:=pB (getF_zero h0).1
    obtain⟨d1,d2⟩:=dropA_len r2 (iC.1 hh)
    rw [getR_yes h0 hh] at hG
    have hpl:=place_c V A n c xs nm h r2 (by omega)
    have hdr:=vA (k:=((atA nm xs:Int)+1).toNat) h (by omega) hcap
    (refine aI Tryz.func168 rfl Tryz.ntmps168 rfl ?_;intro w0)
    repeat' (first|(refine aE ?_;first|(refine aC ?_;(first|refine aP rfl (aK ⟨Tryz.call171⟩ rfl (hG)) ?_|refine aP rfl (aK ⟨Tryz.call238⟩ rfl (hpl)) ?_))|refine pu9 ?_)|refine cX ?_|(refine bX (id:=5) _ mixed (List.Sublist.refl _) ?_;refine gt9 0 ?_;refine gt9 1 ?_;refine fL 2 rfl rfl (cT und_67 siz_271 rfl rfl (by omega)) ?_;refine gt9 4 ?_;refine gt9 5 ?_;refine gt9 6 ?_;refine fL 7 rfl rfl (mE und_67 siz_271 rfl rfl (by omega)) ?_;refine aZ (i:=3) rfl ?_;(refine aQ rfl und_67 inf_271 rfl rfl rfl cO.nil dO (fY (vR (k:=atA nm xs) h (by omega))) bJ (by omega) rfl rfl ?_;intro A1 c1 L1 hr1);refine aZ (i:=8) rfl ?_;(refine aQ rfl und_67 inf_271 rfl rfl rfl hr1 aV (fY hdr) bJ (by omega) rfl rfl ?_;intro A3 c3 L3 hr3;have hcap3:=hr3.cap);refine gt9 9 ?_;refine gt9 10 ?_;refine aY (by kernel_rfl) vl9 vl9 bP ?_))
    refine fF hr3 aV ?_
    intro V2 hV2 hc3
    (refine bB Tryz.results168 (aB rfl) (aB rfl) ?_)
    have hcells:([] ++ (xs.take (atA nm xs)).flatMap paC ++ (xs.drop (((atA nm xs:Int)+1).toNat)).flatMap paC:List Value)=(qW xs nm).flatMap paC:=by rw [tn1,qW,List.flatMap_append];rfl
    have hN:0+atA nm xs+(n - (((atA nm xs:Int)+1).toNat))=(qW xs nm).length:=by omega
    have hM:eC V2 A3 _ (qW xs nm):=pU (hcells▸hc3) hN.symm (by omega) (fun a ha=>h.2 a ((dropA_sub xs nm).subset ha))
    exact .inl ⟨h0,A3,c3,by rw [←hN,cH],hN▸hM,hN▸hcap3⟩
  · rw [getR_no h0] at hG
    have hbd:=getF_bd xs nm
    (refine aI Tryz.func168 rfl Tryz.ntmps168 rfl ?_;intro w0)
    repeat' (first|(refine aE ?_;first|(refine aC ?_;refine aP rfl (aK ⟨Tryz.call171⟩ rfl (hG)) ?_)|refine pu9 ?_)|refine cC ?_|(refine aA rfl ?_ ?_<;>intro hq<;>try exact no9))
    all_goals (refine bB Tryz.results168 (aB rfl) (aB rfl) ?_)
    exact kT rfl h0
end
section
noncomputable def newA (xs:List PA) (nm vl:ByteArray) (drop:Bool):Int×List PA:=if drop=true then (kX xs nm,qW xs nm) else (sG xs nm vl,qA xs nm vl)
noncomputable def nK (b:BX) (l:List UInt8) (nm vl:ByteArray) (drop:Bool):BX×Int :=
  if eJ nm=0 then (b,4) else if drop=false∧20<vl.size then (b,1) else if ¬cZ b l=0 then (b,cZ b l)
  else if ¬gT b (bG b l).th nm 2=0 then (b,gT b (bG b l).th nm 2)
  else if ¬(newA (bG b l).n.h.attrs nm vl drop).1=0 then (b,(newA (bG b l).n.h.attrs nm vl drop).1)
  else gY b (aU l) (fun h=>{ h with attrs:=(newA (bG b l).n.h.attrs nm vl drop).2 })
theorem attrF_few {xs:List PA} (h:eO xs=0):xs.length≤4:=by
  unfold eO at h
  split at h
  · simp at h
  · omega
theorem drop_few {xs:List PA} {nm:ByteArray} (h:kX xs nm=0):(qW xs nm).length≤1000:=by
  have h1:eO xs=0:=by
    unfold kX at h
    by_cases h2:eO xs=0
    · exact h2
    · rw [if_pos h2] at h;exact absurd h h2
  have:=attrF_few h1
  unfold qW
  rw [List.length_append,List.length_take,List.length_drop]
  omega
theorem set_few {xs:List PA} {nm vl:ByteArray} (h:sG xs nm vl=0):(qA xs nm vl).length≤1000:=by
  have h1:eO xs=0:=by
    unfold sG at h
    by_cases h2:eO xs=0
    · exact h2
    · rw [if_pos h2] at h;exact absurd h h2
  have:=attrF_few h1
  unfold qA
  rw [List.length_append,List.length_take,List.length_cons,List.length_drop]
  omega
theorem attrs_b {V:aD} {p:Nat} {b:BX} {Bs:List Box} (hok:bI b) (h:eD V p b Bs) (th:TH) (ht:0≤th.mode∧th.mode≤4095) (nm:ByteArray) (hm:nm.size≤9223372036854775807):FnB Tryz.prog 167 [.pointer (some ⟨p,0,none⟩),thV th,.string nm,.int .i64 2] V Bs fun v V' Bs'=>Bs'=Bs∧v=bK (gT b th nm 2) :=
  eD.read hok h (fun v V gs hc hR=>hR) fun V' I hV hB=>attrs_c V' p b I hok hB th ht nm hm 2 (.inr (.inl rfl))
attribute [local irreducible] AtQ GoC GoL GoW QO QP Fn RV bL aG VLe bR bK
theorem uG (V:aD) (p:Nat) (b:BX) (Bs:List Box) (hok:bI b) (h:eD V p b Bs) (c:CL) (hc:c.path.size≤1000000) (hn:c.name.size≤9223372036854775807) (drop:Bool) (hx:eJ c.name=0∨(drop=false∧20<c.data.size)∨¬cZ b (aH c.path)=0∨¬gT b (bG b (aH c.path)).th c.name 2=0):FnB Tryz.prog 74 [.pointer (some ⟨p,0,none⟩),clV c,.bool drop] V Bs (ChB p (nK b (aH c.path) c.name c.data drop)):=by
  obtain⟨I,L1,rfl,hW⟩:=h
  have hT:=fun V2 (hV2:VLe V V2)=>rB (V:=V2) (p:=p) hok ⟨I,L1,rfl,hW.le hV2⟩ c.path hc
  have hth:=gL hok (aH c.path)
  have hC:=fun V2=>jP V2 c.name hn
  have hAt:=fun V2 (hV2:VLe V V2)=>attrs_b (V:=V2) (p:=p) hok ⟨I,L1,rfl,hW.le hV2⟩ _ hth c.name hn
  unfold nK
  by_cases hm:eJ c.name=0
  · rw [if_pos hm]
    (refine bD Tryz.func74 rfl Tryz.ntmps74 rfl ?_;intro w0)
    repeat' (first|(refine aE ?_;first|(refine aC ?_;refine aP rfl (aK ⟨Tryz.call166⟩ rfl (hC _)) ?_)|(refine al9 ?_;intro γ)|refine pu9 ?_)|refine gx9 ?_|refine fE [0,1,2] rfl ?_|(refine aA rfl ?_ ?_<;>intro hq<;>try exact no9))
    all_goals try exact no9
    all_goals
      (refine bE Tryz.results74 (aB rfl) (List.Sublist.cons _ (List.Sublist.refl _)) ?_)
      exact⟨cQ 4 rfl,I,_,rfl,hW⟩
  · rw [if_neg hm]
    by_cases hd:drop=false∧20<c.data.size
    · rw [if_pos hd]
      obtain⟨rfl,hd2⟩:=hd
      (refine bD Tryz.func74 rfl Tryz.ntmps74 rfl ?_;intro w0)
      repeat' (first|(refine aE ?_;first|(refine aC ?_;refine aP rfl (aK ⟨Tryz.call166⟩ rfl (hC _)) ?_)|(refine al9 ?_;intro γ)|refine pu9 ?_)|refine gx9 ?_|refine fE [0,1,3,4] rfl ?_|(refine aA rfl ?_ ?_<;>intro hq<;>try exact no9))
      all_goals try exact no9
      all_goals
        (refine bE Tryz.results74 (aB rfl) (List.Sublist.cons _ (List.Sublist.refl _)) ?_)
        exact⟨cQ 1 rfl,I,_,rfl,hW⟩
    · rw [if_neg hd]
      by_cases ht:cZ b (aH c.path)=0
      · rw [if_neg (not_not_intro ht)]
        have ha:¬gT b (bG b (aH c.path)).th c.name 2=0:=by
          rcases hx with h|h|h|h
          · exact absurd h hm
          · exact absurd h hd
          · exact absurd ht h
          · exact h
        rw [if_pos ha]
        (refine bD Tryz.func74 rfl Tryz.ntmps74 rfl ?_;intro w0)
        repeat' (first|(refine aE ?_;first|(refine aC ?_;(first|refine aP rfl (aK ⟨Tryz.call166⟩ rfl (hC _)) ?_|(refine aL rfl ⟨Tryz.call142⟩ rfl aV rfl (hT _ vl9) ?_;rintro v V2 B2 hV2 ⟨rfl,hR⟩;rcases hR with ⟨ht0,A,n,k,x,rfl,hs,hnk,hxN,hxn⟩|⟨ht0,A,n,k,x,lay,par,th,rfl⟩)|(refine aL rfl ⟨Tryz.call167⟩ rfl aV rfl (hAt _ vl9) ?_;rintro v V3 B3 hV3 ⟨rfl,rfl⟩)))|(refine eF ?_;refine aR rfl siz_214 rfl rfl rfl rfl bJ kH rfl ?_)|(refine al9 ?_;intro γ)|refine pu9 ?_)|refine jR ?_|(refine bS rfl rfl rfl ?_ ?_<;>intro hq)|refine fE [0,1,3,4,5,6,8,9,10] rfl ?_|(refine aA rfl ?_ ?_<;>intro hq<;>try exact no9))
        all_goals first
          | exact no9
          | (exfalso;exact absurd ht ht0)
          | (exfalso;exact ha (by assumption))
          | (exfalso;exact hd ⟨by simpa using ‹(!drop)=true›,by omega⟩)
          | skip
        all_goals
          (refine bE Tryz.results74 (aB rfl) (List.Sublist.cons _ (List.Sublist.cons _ (List.Sublist.refl _))) ?_)
          exact⟨rfl,I,_,rfl,hW.le vl9⟩
      · rw [if_pos ht]
        (refine bD Tryz.func74 rfl Tryz.ntmps74 rfl ?_;intro w0)
        repeat' (first|(refine aE ?_;first|(refine aC ?_;(first|refine aP rfl (aK ⟨Tryz.call166⟩ rfl (hC _)) ?_|(refine aL rfl ⟨Tryz.call142⟩ rfl aV rfl (hT _ vl9) ?_;rintro v V2 B2 hV2 ⟨rfl,hR⟩;rcases hR with ⟨ht0,A,n,k,x,rfl,hs,hnk,hxN,hxn⟩|⟨ht0,A,n,k,x,lay,par,th,rfl⟩)))|(refine eF ?_;refine aR rfl siz_214 rfl rfl rfl rfl bJ kH rfl ?_)|(refine al9 ?_;intro γ)|refine pu9 ?_)|refine jR ?_|(refine bS rfl rfl rfl ?_ ?_<;>intro hq)|refine fE [0,1,3,4,5,6,7] rfl ?_|(refine aA rfl ?_ ?_<;>intro hq<;>try exact no9))
        all_goals first
          | exact no9
          | (exfalso;exact absurd ht0 ht)
          | (exfalso;exact hd ⟨by simpa using ‹(!drop)=true›,by omega⟩)
          | skip
        all_goals
          (refine bE Tryz.results74 (aB rfl) (List.Sublist.cons _ (List.Sublist.cons _ (List.Sublist.refl _))) ?_)
          exact⟨rfl,I,_,rfl,hW.le vl9⟩
theorem set_late (V:aD) (p:Nat) (b:BX) (Bs:List Box) (hok:bI b) (h:eD V p b Bs) (c:CL) (hc:c.path.size≤1000000) (hn:c.name.size≤9223372036854775807) (hdz:c.data.size≤maxLen) (drop:Bool) (hm:¬eJ c.name=0) (hd:¬(drop=false∧20<c.data.size)) (ht:cZ b (aH c.path)=0) (ha:gT b (bG b (aH c.path)).th c.name 2=0):FnB Tryz.prog 74 [.pointer (some ⟨p,0,none⟩),clV c,.bool drop] V Bs (ChB p (nK b (aH c.path) c.name c.data drop)):=by
  obtain⟨I,L1,rfl,hW⟩:=h
  have hT:=fun V2 (hV2:VLe V V2)=>rB (V:=V2) (p:=p) hok ⟨I,L1,rfl,hW.le hV2⟩ c.path hc
  have hth:=gL hok (aH c.path)
  have hC:=fun V2=>jP V2 c.name hn
  have hAt:=fun V2 (hV2:VLe V V2)=>attrs_b (V:=V2) (p:=p) hok ⟨I,L1,rfl,hW.le hV2⟩ _ hth c.name hn
  rw [ha] at hAt
  have hDr:=fun V2 (x:LN) (hx:aT V2 x)=>Drop_c V2 x.A x.na x.ca x.h.attrs c.name hx.inv.1 hx.inv.2.1 hn
  have hSe:=fun V2 (x:LN) (hx:aT V2 x)=>Set_c V2 x.A x.na x.ca x.h.attrs c.name c.data hx.inv.1 hx.inv.2.1 hn hdz
  unfold nK
  rw [if_neg hm,if_neg hd,if_neg (not_not_intro ht),if_neg (not_not_intro ha)]
  have hown:=hW.owned (p:=p) hok
  have hAl:=fun V2 (hV2:VLe V V2) γ A q (xs:List PA) (hγ:V2 ⟨γ,0,none⟩=some (.slice A xs.length q)) (hA:eC V2 A xs.length xs) (hq:xs.length≤q) (hlen:xs.length≤1000) A' n k (hs:cL V2 A' n (aU (aH c.path))) (hnk:n≤k)=>alter_c ⟨Tryz.call170⟩ V2 p b _ hok ⟨I,L1,rfl,hW.le hV2⟩ (set1_c V2 p b γ A _ q xs hγ hA hq) (fun h hh=>hlen) A' n k _ hs hnk (by have:=kV (aH c.path);have:=hs.1.1;omega)
  cases drop with
  | true =>
    (refine bD Tryz.func74 rfl Tryz.ntmps74 rfl ?_;intro w0)
    repeat' (first|(refine aE ?_;first|(refine aC ?_;(first|refine aP rfl (aK ⟨Tryz.call166⟩ rfl (hC _)) ?_|(refine aL rfl ⟨Tryz.call142⟩ rfl aV rfl (hT _ vl9) ?_;rintro v V2 B2 hV2 ⟨rfl,hR⟩;rcases hR with ⟨ht0,A,n,k,x,rfl,hs,hnk,hxN,hxn⟩|⟨ht0,A,n,k,x,lay,par,th,rfl⟩)|(refine aL rfl ⟨Tryz.call167⟩ rfl aV rfl (hAt _ vl9) ?_;rintro v V3 B3 hV3 ⟨rfl,rfl⟩)))|(refine eF ?_;refine aR rfl siz_214 rfl rfl rfl rfl bJ kH rfl ?_)|(refine al9 ?_;intro γ)|refine pu9 ?_)|refine jR ?_|refine fE [0,1,3,5,6,8,9,11,12] rfl ?_|(refine aA rfl ?_ ?_<;>intro hq<;>try exact no9))
    all_goals first
      | exact no9
      | (exfalso;exact absurd ht ht0)
      | skip
    all_goals
      have hxh:(bG b (aH c.path)).n.h.attrs=x.h.attrs:=by rw [←hxn];rfl
      rw [hxh,show newA x.h.attrs c.name c.data true=(kX x.h.attrs c.name,qW x.h.attrs c.name) from if_pos rfl]
      repeat' (first|(refine aE ?_;first|(refine aC ?_;(refine aS rfl ⟨Tryz.call168⟩ rfl rfl (hDr _ x (hxN.le vl9)) ?_;rintro v V4 hV4 (⟨hf,A4,c4,rfl,hA4,hn4⟩|⟨hf,rfl⟩)))|refine st9 ?_|refine pu9 ?_)|refine jR ?_|refine fE [13,15,16] rfl ?_|(refine aA rfl ?_ ?_<;>intro hq<;>try exact no9))
    all_goals first
      | exact no9
      | (exfalso;exact hf (by assumption))
      | skip
    all_goals first
      | (rw [if_pos hf]
         (refine bE Tryz.results74 (aB rfl) (List.Sublist.cons _ (List.Sublist.cons _ (List.Sublist.cons _ (List.Sublist.refl _)))) ?_)
         exact⟨rfl,I,_,rfl,hW.le vl9⟩)
      | skip
    all_goals
      rw [if_neg (not_not_intro hf)]
      refine iU (fN.here _ _ _ _) ?_ (fun x hx=>let ⟨cs,h9⟩:=hown x hx;⟨cs,gG (gG h9)⟩)
      intro V5 hV5 hc5
      repeat' (first|(refine aE ?_;refine pu9 ?_)|refine cC ?_|fail)
      have hAl2:=hAl _ vl9 _ _ _ _ (aG.at0 hc5) (hA4.le hV5) hn4 (drop_few hf) _ _ _ (hs.le vl9) hnk
      refine aL rfl ⟨Tryz.call148⟩ rfl aV rfl hAl2 ?_
      rintro v V6 B6 hV6 ⟨rfl,hB6⟩
      repeat' (first|(refine aE ?_;refine pu9 ?_)|refine gx9 ?_|fail)
    all_goals
      (refine bE Tryz.results74 (aB rfl) (List.Sublist.cons _ (List.Sublist.cons _ (List.Sublist.refl _))) ?_)
      exact⟨rfl,hB6⟩
  | false =>
    have hd9:¬20<c.data.size:=fun h9=>hd ⟨rfl,h9⟩
    (refine bD Tryz.func74 rfl Tryz.ntmps74 rfl ?_;intro w0)
    repeat' (first|(refine aE ?_;first|(refine aC ?_;(first|refine aP rfl (aK ⟨Tryz.call166⟩ rfl (hC _)) ?_|(refine aL rfl ⟨Tryz.call142⟩ rfl aV rfl (hT _ vl9) ?_;rintro v V2 B2 hV2 ⟨rfl,hR⟩;rcases hR with ⟨ht0,A,n,k,x,rfl,hs,hnk,hxN,hxn⟩|⟨ht0,A,n,k,x,lay,par,th,rfl⟩)|(refine aL rfl ⟨Tryz.call167⟩ rfl aV rfl (hAt _ vl9) ?_;rintro v V3 B3 hV3 ⟨rfl,rfl⟩)))|(refine eF ?_;refine aR rfl siz_214 rfl rfl rfl rfl bJ kH rfl ?_)|(refine al9 ?_;intro γ)|refine pu9 ?_)|refine jR ?_|refine fE [0,1,3,5,6,8,9,11,12] rfl ?_|(refine aA rfl ?_ ?_<;>intro hq<;>try exact no9))
    all_goals first
      | exact no9
      | (exfalso;exact absurd ht ht0)
      | skip
    all_goals
      have hxh:(bG b (aH c.path)).n.h.attrs=x.h.attrs:=by rw [←hxn];rfl
      rw [hxh,show newA x.h.attrs c.name c.data false=(sG x.h.attrs c.name c.data,qA x.h.attrs c.name c.data) from if_neg (by decide)]
      repeat' (first|(refine aE ?_;first|(refine aC ?_;(refine aS rfl ⟨Tryz.call169⟩ rfl rfl (hSe _ x (hxN.le vl9)) ?_;rintro v V4 hV4 (⟨hf,A4,c4,rfl,hA4,hn4⟩|⟨hf,rfl⟩)))|refine st9 ?_|refine pu9 ?_)|refine jR ?_|refine fE [14,15,16] rfl ?_|(refine aA rfl ?_ ?_<;>intro hq<;>try exact no9))
    all_goals first
      | exact no9
      | (exfalso;exact hf (by assumption))
      | skip
    all_goals first
      | (rw [if_pos hf]
         (refine bE Tryz.results74 (aB rfl) (List.Sublist.cons _ (List.Sublist.cons _ (List.Sublist.cons _ (List.Sublist.refl _)))) ?_)
         exact⟨rfl,I,_,rfl,hW.le vl9⟩)
      | skip
    all_goals
      rw [if_neg (not_not_intro hf)]
      refine iU (fN.here _ _ _ _) ?_ (fun x hx=>let ⟨cs,h9⟩:=hown x hx;⟨cs,gG (gG h9)⟩)
      intro V5 hV5 hc5
      repeat' (first|(refine aE ?_;refine pu9 ?_)|refine cC ?_|fail)
      have hAl2:=hAl _ vl9 _ _ _ _ (aG.at0 hc5) (hA4.le hV5) hn4 (set_few hf) _ _ _ (hs.le vl9) hnk
      refine aL rfl ⟨Tryz.call148⟩ rfl aV rfl hAl2 ?_
      rintro v V6 B6 hV6 ⟨rfl,hB6⟩
      repeat' (first|(refine aE ?_;refine pu9 ?_)|refine gx9 ?_|fail)
    all_goals
      (refine bE Tryz.results74 (aB rfl) (List.Sublist.cons _ (List.Sublist.cons _ (List.Sublist.refl _))) ?_)
      exact⟨rfl,hB6⟩
theorem set_c (V:aD) (p:Nat) (b:BX) (Bs:List Box) (hok:bI b) (h:eD V p b Bs) (c:CL) (hc:c.path.size≤1000000) (hn:c.name.size≤9223372036854775807) (hdz:c.data.size≤maxLen) (drop:Bool):FnB Tryz.prog 74 [.pointer (some ⟨p,0,none⟩),clV c,.bool drop] V Bs (ChB p (nK b (aH c.path) c.name c.data drop)):=by
  by_cases h1:eJ c.name=0
  · exact uG V p b Bs hok h c hc hn drop (.inl h1)
  · by_cases h2:drop=false∧20<c.data.size
    · exact uG V p b Bs hok h c hc hn drop (.inr (.inl h2))
    · by_cases h3:cZ b (aH c.path)=0
      · by_cases h4:gT b (bG b (aH c.path)).th c.name 2=0
        · exact set_late V p b Bs hok h c hc hn hdz drop h1 h2 h3 h4
        · exact uG V p b Bs hok h c hc hn drop (.inr (.inr (.inr h4)))
      · exact uG V p b Bs hok h c hc hn drop (.inr (.inr (.inl h3)))
end
section
theorem cap1' {d:Int} (h0:0≤d) (h1:d≤15):bits .and .i64 d 1=1↔d % 2=1:=by
  have:=small (p:=fun d=>decide (bits .and .i64 d 1=1) == decide (d % 2=1)) 16 (by decide +kernel) d h0 (by omega)
  simpa using this
theorem jN {V:aD} {b o j:Nat} {cs:List Value} {v:Value} (h:aG V b o cs) (hj:cs[j]?=some v):V ⟨b,o+j,none⟩=some v:=h j v hj
theorem mP {V:aD} {b j:Nat} {cs:List Value} {v:Value} (h:aG V b 0 cs) (hj:cs[j]?=some v):V ⟨b,j,none⟩=some v:=by have:=h j v hj;rwa [Nat.zero_add] at this
section
variable {P : Program} {B : Base} {N : Nat} {Q : Exit → Act → World → Prop} {k : List jI} {F : List (Nat × Value)} {V : aD} {L : List Box}
theorem vN (h:AtQ P B N Q k .normal F V L):AtQ P B N Q k .normal F V L:=h
theorem iI (h:AtQ P B N Q k .ret F V L):AtQ P B N Q k .ret F V L:=h
end
def offU (u g:Int):Prop:=u < -1∨65535<u∨g < -1∨65535<g
instance (u g : Int) : Decidable (offU u g) := by unfold offU; infer_instance
def ownU (v t:Int):Int:=if v = -1 then t else v
def wO (b:BX) (t:TH) (u g:Int):Prop:=t.mapped=true∧(b.c.d % 2=1∨(u=t.user∧t.user=b.c.u∧(g=t.group∨b.c.g=g∨g∈b.c.xs)))
instance (b : BX) (t : TH) (u g : Int) : Decidable (wO b t u g) := by unfold wO; infer_instance
def idN (u g:Int):PN:=.mk { hZ with user:=u,group:=g } []
def wN (b:BX) (l:List UInt8) (u g:Int):BX×Int :=
  if ¬wO b (bG b l).th u g then (b,10) else match cS true b.us b.gs (idN u g) with
  | none=>(b,11)
  | some x=>gY b (aU l) fun h=>{ h with user:=x.h.user,group:=x.h.group,mode:=sN b.c.d h.mode }
def uM (b:BX) (l:List UInt8) (u g:Int):BX×Int :=
  if offU u g then (b,1) else if ¬cZ b l=0 then (b,cZ b l) else if u = -1∧g = -1 then (b,0)
  else wN b l (ownU u (bG b l).th.user) (ownU g (bG b l).th.group)
def sC (b:BX) (par:TH) (kind mode:Int) (dt:ByteArray):Hd :=
  { kind:=kind,user:=b.c.u,group:=if par.mode / 1024 % 2=1 then par.group else b.c.g,opq:=false,attrs:=[],data:=dt,
    mode:=if kind=2∧par.mode / 1024 % 2=1 then bits .or .i64 (sB b.c.g b.c.d b.c.xs mode (if par.mode / 1024 % 2=1 then par.group else b.c.g)) 1024 else sB b.c.g b.c.d b.c.xs mode (if par.mode / 1024 % 2=1 then par.group else b.c.g) }
def whiteP (u:PN) (ss:List ByteArray):Bool:=match eI u ss with
  | none=>false
  | some x=>decide (x.h.kind=3)
def putG (b:BX) (x u:PN) (ss:List ByteArray):BX×Int:=if ¬pF false x u ss=0 then (b,pF false x u ss) else jB b (pN false x u ss)
def make2 (b:BX) (ss:List ByteArray) (kind:Int) (x:PN):BX×Int :=
  if ¬(upP b.ls b.us b.gs (ss.take (ss.length - 1))).2=0 then (b,(upP b.ls b.us b.gs (ss.take (ss.length - 1))).2)
  else putG b (.mk { x.h with opq:=decide (kind=2) && whiteP (upP b.ls b.us b.gs (ss.take (ss.length - 1))).1 ss } x.ks) (upP b.ls b.us b.gs (ss.take (ss.length - 1))).1 ss
def lQ (b:BX) (ss:List ByteArray) (par:TH) (kind mode:Int) (dt:ByteArray):BX×Int :=
  if nH b.c par 2=false then (b,9) else if par.mode / 1024 % 2=1∧par.mapped=false then (b,11)
  else match cS true b.us b.gs (.mk (sC b par kind mode dt) []) with
  | none=>(b,11)
  | some x=>make2 b ss kind x
def sA (b:BX) (l:List UInt8):Int:=if ¬dY l=0 then dY l else (dE b (aU l)).2
def gJ (b:BX) (c:CL):BX×Int :=
  if c.a<0∨4095<c.a∨200<c.data.size then (b,1) else if c.path=⟨#[47]⟩ then (b,7) else if ¬sA b (aH c.path)=0 then (b,sA b (aH c.path))
  else if (bG b (aH c.path)).is=false then lQ b (aU (aH c.path)) (bG b (aH c.path)).par 1 c.a c.data
  else if (bG b (aH c.path)).th.dir=true then (b,7) else if nH b.c (bG b (aH c.path)).th 2=false then (b,9)
  else gY b (aU (aH c.path)) fun h=>{ h with data:=c.data,mode:=sN b.c.d h.mode }
def lA (b:BX) (c:CL):BX×Int :=
  if c.a<0∨4095<c.a then (b,1) else if ¬sA b (aH c.path)=0 then (b,sA b (aH c.path))
  else if (bG b (aH c.path)).is=true then (b,6) else lQ b (aU (aH c.path)) (bG b (aH c.path)).par 2 c.a ⟨#[]⟩
noncomputable def sZ (b:BX) (c:CL):TD×Int :=
  if eJ c.name=0 then (tdZ,4) else if ¬cZ b (aH c.path)=0 then (tdZ,cZ b (aH c.path))
  else if ¬gT b (bG b (aH c.path)).th c.name 4=0 then (tdZ,gT b (bG b (aH c.path)).th c.name 4)
  else ({ tdZ with data:=if rV c.name (bG b (aH c.path)).n.h.attrs=true∧kX (bG b (aH c.path)).n.h.attrs c.name=0 then getA c.name (bG b (aH c.path)).n.h.attrs else ⟨#[]⟩ },kX (bG b (aH c.path)).n.h.attrs c.name)
def beC (b:BX) (u g:Int):CR:=⟨u,g,mS b.c.u b.c.d u,b.c.xs⟩
def beP (b:BX) (u g:Int):BX×Int :=
  if ¬qY b.c.u b.c.g b.c.d b.c.xs u g=0 then (b,qY b.c.u b.c.g b.c.d b.c.xs u g) else if cS true b.us b.gs (idN u g)=none then (b,11) else ({ b with c:=beC b u g },0)
def yF:PN:=.mk { hZ with kind:=3 } []
def jZ (b:BX) (u:PN) (ss:List ByteArray):Int:=if jK b.ls ss=true then pF false yF u ss else pF true pnZ u ss
def pZ (b:BX) (u:PN) (ss:List ByteArray):PN:=if jK b.ls ss=true then pN false yF u ss else pN true pnZ u ss
def gone2 (b:BX) (u:PN) (ss:List ByteArray):BX×Int:=if ¬jZ b u ss=0 then (b,jZ b u ss) else jB b (pZ b u ss)
def fU (b:BX) (s:ByteArray):BX×Int :=
  if s=⟨#[47]⟩ then (b,15) else if ¬cZ b (aH s)=0 then (b,cZ b (aH s))
  else if ¬fK b (bG b (aH s))=0 then (b,fK b (bG b (aH s)))
  else if ¬jM (cR b.ls (aU (aH s)))=[] then (b,8)
  else if ¬(upP b.ls b.us b.gs ((aU (aH s)).take ((aU (aH s)).length - 1))).2=0 then (b,(upP b.ls b.us b.gs ((aU (aH s)).take ((aU (aH s)).length - 1))).2)
  else gone2 b (upP b.ls b.us b.gs ((aU (aH s)).take ((aU (aH s)).length - 1))).1 (aU (aH s))
end
end Go.Proofs.YtejkmomfpidnbabGreat
