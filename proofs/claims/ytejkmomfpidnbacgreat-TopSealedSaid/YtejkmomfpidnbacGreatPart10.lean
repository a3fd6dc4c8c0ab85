/- Walks and plain laws, part 10: what functions compute, proved once each (BxW, BxA, BxB, BxIn, HB, HC, HostL3, HH, HD, HE, HL). -/
import Derived.Test.YtejkmomfpidnbacGreatPart9
set_option linter.unusedSimpArgs false
set_option linter.unusedVariables false
set_option maxRecDepth 100000
set_option maxHeartbeats 40000000
namespace Go.Proofs.YtejkmomfpidnbacGreat
open Go.RowKit
section
def dE (b:BX):BX:={ b with q:=64 }
def upB (b:BX):PN:=b.ls.headD pnZ
theorem look_rich (b:BX) (ss:List ByteArray) (t:TH):gZ (dE b) ss t=gZ b ss t:=rfl
theorem spotK_rich (b:BX) (ss:List ByteArray):∀ k,fF (dE b) ss k=fF b ss k
  | 0=>rfl
  | k+1=>by
    rw [fF,fF,spotK_rich b ss k,look_rich]
    rfl
theorem tM (b:BX) (ss:List ByteArray):dJ (dE b) ss=dJ b ss:=spotK_rich b ss _
theorem kQ (b:BX) (l:List UInt8):dH (dE b) l=dH b l:=by unfold dH;rw [tM]
theorem fT (b:BX) (l:List UInt8):bE (dE b) l=bE b l:=by unfold bE;rw [tM]
theorem spotF_rich (b:BX) (l:List UInt8):uN (dE b) l=uN b l:=by unfold uN;rw [tM]
structure Qt (b:BX) (r r':BX×Int):Prop where
  bad:¬r.2=0→r.1=b
  same:¬r'.2=0→r.2=r'.2
  over:r'.2=0→b.q<bB (upB r'.1)→r.2=12
  fits:r'.2=0→bB (upB r'.1)≤b.q→r.2=0∧r'.1=dE r.1
theorem Qt.err {b:BX} (hb:bB (upB b)≤b.q) (e:Int):Qt b (b,e) (dE b,e) :=
  ⟨fun _=>rfl,fun _=>rfl,fun _ h=>absurd hb (by have h:b.q<bB (upB b):=h;omega),fun h _=>⟨h,rfl⟩⟩
theorem qt_grow {b:BX} (hq:b.q≤64) (hb:bB (upB b)≤b.q) (u:PN):Qt b (kJ b u) (kJ (dE b) u):=by
  unfold kJ
  by_cases h1:dD true u=0
  · rw [if_neg (not_not_intro h1),if_neg (not_not_intro h1)]
    by_cases h2:b.q<bB u
    · rw [if_pos h2]
      by_cases h3:(dE b).q<bB u
      · rw [if_pos h3];exact Qt.err hb 12
      · rw [if_neg h3]
        exact⟨fun _=>rfl,fun h=>absurd rfl h,fun _ _=>rfl,fun _ h=>absurd h2 (by have h:bB u≤b.q:=h;omega)⟩
    · rw [if_neg h2,if_neg (by show ¬(64:Int)<_;omega)]
      exact⟨fun h=>absurd rfl h,fun h=>absurd rfl h,fun _ h=>absurd h h2,fun _ _=>⟨rfl,rfl⟩⟩
  · rw [if_pos h1,if_pos h1];exact Qt.err hb _
section
variable {b : BX} (hq : b.q ≤ 64) (hb : bB (upB b) ≤ b.q)
include hq hb
theorem qt_putG (x u:PN) (ss:List ByteArray):Qt b (putG b x u ss) (putG (dE b) x u ss):=by
  unfold putG
  split
  · exact Qt.err hb _
  · exact qt_grow hq hb _
theorem qt_alter (ss:List ByteArray) (f:Hd→Hd):Qt b (jL b ss f) (jL (dE b) ss f):=by
  have e1:(dE b).ls=b.ls:=rfl
  have e2:(dE b).us=b.us:=rfl
  have e3:(dE b).gs=b.gs:=rfl
  unfold jL
  rw [e1,e2,e3]
  split
  · exact Qt.err hb _
  · split
    · exact qt_grow hq hb _
    · split
      · exact Qt.err hb _
      · exact qt_grow hq hb _
theorem qt_make (ss:List ByteArray) (par:TH) (kind mode:Int) (dt:ByteArray):Qt b (mY b ss par kind mode dt) (mY (dE b) ss par kind mode dt):=by
  have e0:(dE b).c=b.c:=rfl
  have e1:(dE b).ls=b.ls:=rfl
  have e2:(dE b).us=b.us:=rfl
  have e3:(dE b).gs=b.gs:=rfl
  have e4:uJ (dE b) par kind mode dt=uJ b par kind mode dt:=rfl
  unfold mY
  rw [e0,e2,e3,e4]
  split
  · exact Qt.err hb _
  · split
    · exact Qt.err hb _
    · cases hm:dK true b.us b.gs (.mk (uJ b par kind mode dt) []) with
      | none=>exact Qt.err hb _
      | some x =>
        show Qt b (make2 b ss kind x) (make2 (dE b) ss kind x)
        unfold make2
        rw [e1,e2,e3]
        split
        · exact Qt.err hb _
        · exact qt_putG hq hb _ _ _
theorem qt_put (c:CL):Qt b (pD b c) (pD (dE b) c):=by
  have e0:(dE b).c=b.c:=rfl
  unfold pD
  rw [spotF_rich,fT,e0]
  (repeat' split)<;>first|exact Qt.err hb _|exact qt_make hq hb _ _ _ _ _|exact qt_alter hq hb _ _
theorem qt_mkdir (c:CL):Qt b (nB b c) (nB (dE b) c):=by
  unfold nB
  rw [spotF_rich,fT]
  (repeat' split)<;>first|exact Qt.err hb _|exact qt_make hq hb _ _ _ _ _
theorem qt_remove (s:ByteArray):Qt b (iH b s) (iH (dE b) s):=by
  have e1:(dE b).ls=b.ls:=rfl
  have e2:(dE b).us=b.us:=rfl
  have e3:(dE b).gs=b.gs:=rfl
  have e4:∀ s,gH (dE b) s=gH b s:=fun s=>rfl
  have e5:∀ u ss,lF (dE b) u ss=lF b u ss:=fun u ss=>rfl
  have e6:∀ u ss,tG (dE b) u ss=tG b u ss:=fun u ss=>rfl
  unfold iH gone2
  rw [kQ,fT,e1,e2,e3,e4]
  (repeat' (first|rw [e5]|rw [e6]))
  (repeat' split)<;>first|exact Qt.err hb _|exact qt_grow hq hb _
theorem qt_move (s t:ByteArray):Qt b (xK b s t) (xK (dE b) s t):=by
  have e0:(dE b).c=b.c:=rfl
  have e1:(dE b).ls=b.ls:=rfl
  have e2:(dE b).us=b.us:=rfl
  have e3:(dE b).gs=b.gs:=rfl
  have e4:∀ s,gH (dE b) s=gH b s:=fun s=>rfl
  have e5:∀ u ss,lF (dE b) u ss=lF b u ss:=fun u ss=>rfl
  have e6:∀ u ss,tG (dE b) u ss=tG b u ss:=fun u ss=>rfl
  have h4:∀ dir n u ss other,Qt b (move4 b dir n u ss other) (move4 (dE b) dir n u ss other):=fun dir n u ss other=>by
    unfold move4
    rw [e1,e5,e6]
    split
    · exact Qt.err hb _
    · exact qt_putG hq hb _ _ _
  have h3:∀ dir ss other,Qt b (move3 b dir ss other) (move3 (dE b) dir ss other):=fun dir ss other=>by
    unfold move3
    rw [e1,e2,e3]
    split
    · exact Qt.err hb _
    · split
      · exact Qt.err hb _
      · exact h4 _ _ _ _ _
  have h2:∀ a to ss other,Qt b (move2 b a to ss other) (move2 (dE b) a to ss other):=fun a to ss other=>by
    unfold move2
    rw [e1,e4]
    (repeat' split)<;>first|exact Qt.err hb _|exact h3 _ _ _
  unfold xK
  rw [kQ,fT,fT,tM,e0,e4]
  (repeat' split)<;>first|exact Qt.err hb _|exact h2 _ _ _ _
theorem qt_mode (l:List UInt8) (m:Int):Qt b (rI b l m) (rI (dE b) l m):=by
  have e0:(dE b).c=b.c:=rfl
  unfold rI
  rw [kQ,fT,e0]
  (repeat' split)<;>first|exact Qt.err hb _|exact qt_alter hq hb _ _
theorem qt_own (l:List UInt8) (u g:Int):Qt b (xF b l u g) (xF (dE b) l u g):=by
  have h2:∀ u g,Qt b (own2 b l u g) (own2 (dE b) l u g):=fun u g=>by
    have e0:∀ t,ownM (dE b) t u g=ownM b t u g:=fun _=>rfl
    have e2:(dE b).us=b.us:=rfl
    have e3:(dE b).gs=b.gs:=rfl
    by_cases hm:ownM b (bE b l).th u g
    · have hm':ownM (dE b) (bE (dE b) l).th u g:=by rw [fT];exact hm
      unfold own2
      rw [if_neg (not_not_intro hm),if_neg (not_not_intro hm'),e2,e3]
      cases hx:dK true b.us b.gs (idN u g) with
      | none=>exact Qt.err hb _
      | some x=>exact qt_alter hq hb _ _
    · have hm':¬ownM (dE b) (bE (dE b) l).th u g:=by rw [fT];exact hm
      unfold own2
      rw [if_pos hm,if_pos hm']
      exact Qt.err hb _
  unfold xF
  rw [kQ,fT]
  (repeat' split)<;>first|exact Qt.err hb _|exact h2 _ _
theorem qt_be (u g:Int):Qt b (beP b u g) (beP (dE b) u g):=by
  have _:=hq
  have e0:(dE b).c=b.c:=rfl
  have e2:(dE b).us=b.us:=rfl
  have e3:(dE b).gs=b.gs:=rfl
  unfold beP
  rw [e0,e2,e3]
  split
  · exact Qt.err hb _
  · split
    · exact Qt.err hb _
    · exact⟨fun h=>absurd rfl h,fun h=>absurd rfl h,fun _ h=>absurd (show bB (upB b)≤b.q from hb) (by have h:b.q<bB (upB b):=h;omega),fun _ _=>⟨rfl,rfl⟩⟩
theorem qt_attr (l:List UInt8) (nm vl:ByteArray) (drop:Bool):Qt b (oY b l nm vl drop) (oY (dE b) l nm vl drop):=by
  have e4:∀ t n w,jG (dE b) t n w=jG b t n w:=fun _ _ _=>rfl
  unfold oY
  rw [kQ,fT,e4]
  (repeat' split)<;>first|exact Qt.err hb _|exact qt_alter hq hb _ _
end
theorem lookT_rich (b:BX) (c:CL):mS (dE b) c=mS b c:=by
  have e0:(dE b).c=b.c:=rfl
  have e1:(dE b).ls=b.ls:=rfl
  unfold mS
  rw [kQ,fT,e0,e1]
theorem getP_rich (b:BX) (c:CL):tI (dE b) c=tI b c:=by
  have e4:∀ t n w,jG (dE b) t n w=jG b t n w:=fun _ _ _=>rfl
  unfold tI
  rw [kQ,fT,e4]
theorem qt_do {b:BX} (hq:b.q≤64) (hb:bB (upB b)≤b.q) (c:CL):Qt b ((doP b c).1,(doP b c).2.2) ((doP (dE b) c).1,(doP (dE b) c).2.2)∧(doP (dE b) c).2.1=(doP b c).2.1:=by
  have e1:(dE b).ls=b.ls:=rfl
  have ch:∀ r r':BX×Int,Qt b r r'→Qt b ((chT r).1,(chT r).2.2) ((chT r').1,(chT r').2.2)∧(chT r').2.1=(chT r).2.1:=fun r r' h=>⟨h,rfl⟩
  unfold doP
  rw [lookT_rich,getP_rich,e1]
  by_cases o0:1≤c.op∧c.op≤3
  · rw [if_pos o0,if_pos o0];exact⟨Qt.err hb _,rfl⟩
  rw [if_neg o0,if_neg o0]
  by_cases o1:c.op=4
  · rw [if_pos o1,if_pos o1];exact ch _ _ (qt_put hq hb c)
  rw [if_neg o1,if_neg o1]
  by_cases o2:c.op=5
  · rw [if_pos o2,if_pos o2];exact ch _ _ (qt_mkdir hq hb c)
  rw [if_neg o2,if_neg o2]
  by_cases o3:c.op=6
  · rw [if_pos o3,if_pos o3];exact ch _ _ (qt_remove hq hb _)
  rw [if_neg o3,if_neg o3]
  by_cases o4:c.op=7
  · rw [if_pos o4,if_pos o4];exact ch _ _ (qt_move hq hb _ _)
  rw [if_neg o4,if_neg o4]
  by_cases o5:c.op=8
  · rw [if_pos o5,if_pos o5];exact ch _ _ (qt_mode hq hb _ _)
  rw [if_neg o5,if_neg o5]
  by_cases o6:c.op=9
  · rw [if_pos o6,if_pos o6];exact ch _ _ (qt_own hq hb _ _ _)
  rw [if_neg o6,if_neg o6]
  by_cases o7:c.op=10
  · rw [if_pos o7,if_pos o7];exact ch _ _ (qt_attr hq hb _ _ _ _)
  rw [if_neg o7,if_neg o7]
  by_cases o8:c.op=11
  · rw [if_pos o8,if_pos o8];exact ch _ _ (qt_attr hq hb _ _ _ _)
  rw [if_neg o8,if_neg o8]
  by_cases o9:c.op=12
  · rw [if_pos o9,if_pos o9];exact⟨Qt.err hb _,rfl⟩
  rw [if_neg o9,if_neg o9]
  by_cases o10:c.op=13
  · rw [if_pos o10,if_pos o10];exact ch _ _ (qt_be hq hb _ _)
  rw [if_neg o10,if_neg o10]
  by_cases o11:c.op=14
  · rw [if_pos o11,if_pos o11];exact⟨Qt.err hb _,rfl⟩
  rw [if_neg o11,if_neg o11]
  exact⟨Qt.err hb _,rfl⟩
theorem Qt.room {b:BX} {r r':BX×Int} (hb:bB (upB b)≤b.q) (h:Qt b r r'):bB (upB r.1)≤b.q:=by
  by_cases h1:r.2=0
  · by_cases h2:r'.2=0
    · by_cases h3:b.q<bB (upB r'.1)
      · have:=h.over h2 h3;omega
      · obtain⟨_,h4⟩:=h.fits h2 (by omega)
        have:upB r'.1=upB r.1:=by rw [h4];rfl
        rw [←this];omega
    · have:=h.same h2;omega
  · rw [h.bad h1];exact hb
end
section
def ndP (h:Hd) (ks:PKs):Prop:=ks.Pairwise fun a b=>¬a.1=b.1
theorem nd_ok {u:Bool}:∀ (n:PN) (d so:Nat),so≤60→(cE u d so n).2=0→cH ndP n:=by
  refine PN.ind (p:=fun n=>∀ (d so:Nat),so≤60→(cE u d so n).2=0→cH ndP n) ?_
  intro h ks ih d so hs hc
  obtain⟨⟨h1,_⟩,_,h3⟩:=wN.1 hc
  obtain⟨h5,h4⟩:=xY (by omega) h3
  exact .mk (h5.imp fun {a b} hab e=>absurd (e▸hab) (List.lt_irrefl _)) fun k hk=>by
    obtain⟨so',hs',hc'⟩:=(h4 k hk).2.2
    exact ih k hk (d+1) so' hs' hc'
theorem tree_nd {u:Bool} {n:PN} (h:dD u n=0):cH ndP n:=nd_ok n 0 0 (by omega) (vW.1 h).2
def OwnB (b:BX):Prop:=Own2 b.us b.gs (upB b) b.ls.tail
theorem OwnB.grow {b:BX} (h:OwnB b) {u:PN} (hu:Own2 b.us b.gs u b.ls.tail):OwnB (kJ b u).1:=by
  unfold kJ
  split
  · exact h
  · split
    · exact h
    · exact hu
structure BoxT (b:BX):Prop where
  e:b.ls=upB b :: b.ls.tail
  k:(upB b).h.kind=2
  nd:cH ndP (upB b)
theorem bI.t {b:BX} (hok:bI b):BoxT b:=by
  have hl:=hok.l1
  cases hb:b.ls with
  | nil=>rw [hb] at hl;simp at hl
  | cons n0 t =>
    have e:upB b=n0:=by unfold upB;rw [hb];rfl
    have ht:=hok.up n0 (by rw [hb];rfl)
    exact⟨by rw [e,hb];rfl,by rw [e];exact(vW.1 ht).1,by rw [e];exact tree_nd ht⟩
section
variable {b : BX} (hT : BoxT b) (hO : OwnB b)
include hT hO
end
end
section
open Go.RowKit
end
section
theorem grow_tail {b:BX} (u:PN):(kJ b u).1.ls.tail=b.ls.tail:=by
  unfold kJ;(repeat' split)<;>rfl
theorem tail_putG {b:BX} (x u:PN) (ss:List ByteArray):(putG b x u ss).1.ls.tail=b.ls.tail:=by
  unfold putG;(repeat' split)<;>first|rfl|exact grow_tail _
theorem qN {b:BX} (ss:List ByteArray) (φ:Hd→Hd):(jL b ss φ).1.ls.tail=b.ls.tail:=by
  unfold jL;(repeat' split)<;>first|rfl|exact grow_tail _
theorem tail_make {b:BX} (ss:List ByteArray) (par:TH) (kind mode:Int) (dt:ByteArray):(mY b ss par kind mode dt).1.ls.tail=b.ls.tail:=by
  unfold mY make2;(repeat' split)<;>first|rfl|exact tail_putG _ _ _
theorem tail_do (b:BX) (c:CL):(doP b c).1.ls.tail=b.ls.tail:=by
  have ch:∀ r:BX×Int,r.1.ls.tail=b.ls.tail→(chT r).1.ls.tail=b.ls.tail:=fun r h=>h
  have m4:∀ dir n u ss other,(move4 b dir n u ss other).1.ls.tail=b.ls.tail:=fun dir n u ss other=>by
    unfold move4;(repeat' split)<;>first|rfl|exact tail_putG _ _ _
  have m3:∀ dir ss other,(move3 b dir ss other).1.ls.tail=b.ls.tail:=fun dir ss other=>by
    unfold move3;(repeat' split)<;>first|rfl|exact m4 _ _ _ _ _
  have m2:∀ a t ss other,(move2 b a t ss other).1.ls.tail=b.ls.tail:=fun a t ss other=>by
    unfold move2;(repeat' split)<;>first|rfl|exact m3 _ _ _
  have o2:∀ l u g,(own2 b l u g).1.ls.tail=b.ls.tail:=fun l u g=>by
    unfold own2;(repeat' split)<;>first|rfl|exact qN _ _
  unfold doP
  by_cases o0:1≤c.op∧c.op≤3
  · rw [if_pos o0]
  rw [if_neg o0]
  by_cases o1:c.op=4
  · rw [if_pos o1];refine ch _ ?_;unfold pD;(repeat' split)<;>first|rfl|exact tail_make _ _ _ _ _|exact qN _ _
  rw [if_neg o1]
  by_cases o2':c.op=5
  · rw [if_pos o2'];refine ch _ ?_;unfold nB;(repeat' split)<;>first|rfl|exact tail_make _ _ _ _ _
  rw [if_neg o2']
  by_cases o3:c.op=6
  · rw [if_pos o3];refine ch _ ?_;unfold iH gone2;(repeat' split)<;>first|rfl|exact grow_tail _
  rw [if_neg o3]
  by_cases o4:c.op=7
  · rw [if_pos o4];refine ch _ ?_;unfold xK;(repeat' split)<;>first|rfl|exact m2 _ _ _ _
  rw [if_neg o4]
  by_cases o5:c.op=8
  · rw [if_pos o5];refine ch _ ?_;unfold rI;(repeat' split)<;>first|rfl|exact qN _ _
  rw [if_neg o5]
  by_cases o6:c.op=9
  · rw [if_pos o6];refine ch _ ?_;unfold xF;(repeat' split)<;>first|rfl|exact o2 _ _ _
  rw [if_neg o6]
  by_cases o7:c.op=10
  · rw [if_pos o7];refine ch _ ?_;unfold oY;(repeat' split)<;>first|rfl|exact qN _ _
  rw [if_neg o7]
  by_cases o8:c.op=11
  · rw [if_pos o8];refine ch _ ?_;unfold oY;(repeat' split)<;>first|rfl|exact qN _ _
  rw [if_neg o8]
  by_cases o9:c.op=12
  · rw [if_pos o9]
  rw [if_neg o9]
  by_cases o10:c.op=13
  · rw [if_pos o10];refine ch _ ?_;unfold beP;(repeat' split)<;>rfl
  rw [if_neg o10]
  by_cases o11:c.op=14
  · rw [if_pos o11]
  rw [if_neg o11]
structure InB (x:CF) (ls:List PN) (b:BX):Prop where
  ok:bI b
  us:b.us=x.M.us
  gs:b.gs=x.M.gs
  q:b.q=x.q
  tl:b.ls.tail=ls
  room:bB (upB b)≤b.q
theorem InB.step {x:CF} {ls:List PN} {b:BX} (h:InB x ls b) (c:CL):InB x ls (doP b c).1:=by
  have g:=good_do h.ok c
  have hq:=(qt_do h.ok.q.2 h.room c).1.room h.room
  exact⟨g.ok,g.us.trans h.us,g.gs.trans h.gs,g.q.trans h.q,(tail_do b c).trans h.tl,by rw [show (doP b c).1.q=b.q from g.q];exact hq⟩
theorem blocks_root {u g:Int} (hu:0≤u∧u≤65535) (hg:0≤g∧g≤65535):bB (.mk ⟨2,493,u,g,false,[],⟨#[]⟩⟩ [])≤1:=by
  have hl:(qT (.mk ⟨2,493,u,g,false,[],⟨#[]⟩⟩ [])).length≤20:=by
    rw [layP_eq,nG]
    simp [layH,nD,qS,b16]
  unfold bB eE
  rw [if_pos (root_tree9 hu hg)]
  omega
theorem InB.new {x:CF} {ls:List PN} (h:jH x ls=0):InB x ls (newB x.M.us x.M.gs x.c x.q ls):=by
  obtain⟨_,_,_,_,k5,_,k7⟩:=qL h
  obtain⟨z,hz⟩:=xU k7
  refine⟨newOk h,rfl,rfl,rfl,rfl,?_⟩
  have e:upB (newB x.M.us x.M.gs x.c x.q ls)=z:=by
    show (dK true x.M.us x.M.gs (.mk (rootH x.c) [])).getD pnZ=z
    rw [hz];rfl
  rw [e]
  obtain⟨u,g,rfl,h1,h2⟩:=moved_inv hz
  have:=blocks_root (host_bd9 (m:=x.M.us) h1) (host_bd9 (m:=x.M.gs) h2)
  show bB (.mk ⟨2,493,u,g,false,[],⟨#[]⟩⟩ [])≤x.q
  omega
end
section
theorem flat_set {α β:Type} (f:Option α→List β):∀ (l:List (Option α)) (k:Nat) (o o':Option α),l[k]?=some o→(f o ++ (l.set k o').flatMap f).Perm (f o' ++ l.flatMap f)
  | [],k,o,o',h=>by simp at h
  | x :: l,0,o,o',h=>by
    simp at h;subst h
    simp only [List.set_cons_zero,List.flatMap_cons,←List.append_assoc]
    exact List.perm_append_comm.append_right _
  | x :: l,k+1,o,o',h=>by
    have ih:=flat_set f l k o o' (by simpa using h)
    simp only [List.set_cons_succ,List.flatMap_cons]
    have h1:(f o ++ (f x ++ (l.set k o').flatMap f)).Perm (f x ++ (f o ++ (l.set k o').flatMap f)):=by
      rw [←List.append_assoc,←List.append_assoc];exact List.perm_append_comm.append_right _
    have h2:(f x ++ (f o' ++ l.flatMap f)).Perm (f o' ++ (f x ++ l.flatMap f)):=by
      rw [←List.append_assoc,←List.append_assoc];exact List.perm_append_comm.append_right _
    exact h1.trans ((List.Perm.append_left _ ih).trans h2)
def ocO {α:Type} (f:α→Int) (i:Nat):Option α→List (Int×Int)
  | none=>[]
  | some x=>[((i:Int),f x)]
def ocP {α:Type} (f:α→Int):Nat→List (Option α)→List (Int×Int)
  | _,[]=>[]
  | i,o :: l=>ocO f i o ++ ocP f (i+1) l
theorem oc_set {α:Type} (f:α→Int):∀ (l:List (Option α)) (i k:Nat) (o o':Option α),l[k]?=some o→(ocO f (i+k) o ++ ocP f i (l.set k o')).Perm (ocO f (i+k) o' ++ ocP f i l)
  | [],i,k,o,o',h=>by simp at h
  | x :: l,i,0,o,o',h=>by
    simp at h;subst h
    simp only [List.set_cons_zero,ocP,←List.append_assoc,Nat.add_zero]
    exact List.perm_append_comm.append_right _
  | x :: l,i,k+1,o,o',h=>by
    have ih:=oc_set f l (i+1) k o o' (by simpa using h)
    rw [show i+1+k=i+(k+1) by omega] at ih
    simp only [List.set_cons_succ,ocP]
    have h1:(ocO f (i+(k+1)) o ++ (ocO f i x ++ ocP f (i+1) (l.set k o'))).Perm (ocO f i x ++ (ocO f (i+(k+1)) o ++ ocP f (i+1) (l.set k o'))):=by
      rw [←List.append_assoc,←List.append_assoc];exact List.perm_append_comm.append_right _
    have h2:(ocO f i x ++ (ocO f (i+(k+1)) o' ++ ocP f (i+1) l)).Perm (ocO f (i+(k+1)) o' ++ (ocO f i x ++ ocP f (i+1) l)):=by
      rw [←List.append_assoc,←List.append_assoc];exact List.perm_append_comm.append_right _
    exact h1.trans ((List.Perm.append_left _ ih).trans h2)
theorem oc_mem {α:Type} (f:α→Int):∀ (l:List (Option α)) (i:Nat) (p:Int×Int),p∈ocP f i l→∃ k x,l[k]?=some (some x)∧p=(((i+k:Nat):Int),f x)
  | [],i,p,h=>by simp [ocP] at h
  | o :: l,i,p,h=>by
    rw [ocP,List.mem_append] at h
    rcases h with h|h
    · cases o with
      | none=>simp [ocO] at h
      | some x=>simp [ocO] at h;exact⟨0,x,rfl,by rw [h];rfl⟩
    · obtain⟨k,x,h1,h2⟩:=oc_mem f l (i+1) p h
      exact⟨k+1,x,by simpa using h1,by rw [h2,show i+1+k=i+(k+1) by omega]⟩
theorem oc_in {α:Type} (f:α→Int):∀ (l:List (Option α)) (i k:Nat) (x:α),l[k]?=some (some x)→(((i+k:Nat):Int),f x)∈ocP f i l
  | [],i,k,x,h=>by simp at h
  | o :: l,i,0,x,h=>by simp at h;subst h;simp [ocP,ocO]
  | o :: l,i,k+1,x,h=>by
    have:=oc_in f l (i+1) k x (by simpa using h)
    rw [show i+1+k=i+(k+1) by omega] at this
    rw [ocP,List.mem_append];exact .inr this
theorem oc_nd {α:Type} (f:α→Int):∀ (l:List (Option α)) (i:Nat),((ocP f i l).map Prod.fst).Nodup
  | [],i=>by simp [ocP]
  | o :: l,i=>by
    rw [ocP,List.map_append,List.nodup_append]
    refine⟨by cases o<;>simp [ocO],oc_nd f l (i+1),fun a ha b hb=>?_⟩
    obtain⟨p,hp,rfl⟩:=List.mem_map.1 hb
    obtain⟨k,x,h1,h2⟩:=oc_mem f l (i+1) p hp
    have ha':a=(i:Int):=by cases o<;>simp [ocO] at ha;exact ha
    rw [h2,ha'];simp only [];omega
theorem sumP_perm {M M':PM} (h:M.Perm M'):gW M=gW M':=by
  induction h with
  | nil=>rfl
  | cons x h ih=>simp only [gW,ih]
  | swap x y l=>simp only [gW];omega
  | trans h1 h2 i1 i2=>exact i1.trans i2
theorem mFind_key {who:Int}:∀ {M:PM},(dR who M).isSome=true↔who∈M.map Prod.fst
  | []=>by simp [dR]
  | p :: M=>by
    unfold dR
    have ih:=mFind_key (who:=who) (M:=M)
    by_cases e:who=p.1
    · rw [if_pos e,List.map_cons,List.mem_cons];exact⟨fun _=>.inl e,fun _=>rfl⟩
    · rw [if_neg e,Option.isSome_map,List.map_cons,List.mem_cons]
      exact ih.trans ⟨.inr,fun h=>h.resolve_left e⟩
theorem mCut_perm {who b:Int}:∀ {M:PM},(who,b)∈M→(M.map Prod.fst).Nodup→M.Perm ((who,b) :: oI who M)
  | [],h,_=>by simp at h
  | p :: M,h,hn=>by
    rw [List.map_cons,List.nodup_cons] at hn
    by_cases e:who=p.1
    · have:p=(who,b):=by
        rcases List.mem_cons.1 h with h|h
        · exact h.symm
        · exact absurd (List.mem_map.2 ⟨(who,b),h,e⟩) hn.1
      rw [oI,if_pos e,this]
    · rw [oI,if_neg e]
      have h':(who,b)∈M:=by
        rcases List.mem_cons.1 h with h|h
        · exact absurd (by rw [←h]) e
        · exact h
      exact((mCut_perm h' hn.2).cons p).trans (List.Perm.swap _ _ _)
theorem seg_len (us:List Int) (k:Nat):k≤(tW us k).length+us.length:=by
  have hn:((List.range k).map fun i:Nat=>200+(i:Int)).Nodup:=by
    rw [List.Nodup,List.pairwise_map]
    exact List.nodup_range.imp fun h=>by omega
  have hs:((List.range k).map fun i:Nat=>200+(i:Int)) ⊆ tW us k ++ us:=fun x hx=>by
    rw [List.mem_append]
    by_cases h:x∈us
    · exact .inr h
    · exact .inl (List.mem_filter.2 ⟨hx,by simpa using h⟩)
  have:=hn.length_le_of_subset hs
  rw [List.length_map,List.length_range,List.length_append] at this
  exact this
theorem free_len {us:List Int} {n bl:Nat} (h:n+us.length+200≤bl):(jA us n bl).length=n:=by
  have:=seg_len us (bl - 200)
  unfold jA
  rw [List.length_take];omega
theorem free_nd (us:List Int) (n bl:Nat):(jA us n bl).Nodup:=by
  have hn:((List.range (bl - 200)).map fun i:Nat=>200+(i:Int)).Nodup:=by
    rw [List.Nodup,List.pairwise_map]
    exact List.nodup_range.imp fun h=>by omega
  unfold jA tW
  generalize ((List.range (bl - 200)).map fun i:Nat=>200+(i:Int))=L at hn
  exact List.Nodup.sublist ((List.take_sublist _ _).trans List.filter_sublist) hn
theorem oc_sum {α:Type} (f:α→Int) (g:Option α→List Int) (h0:g none=[]):∀ (l:List (Option α)) (i:Nat),(∀ x,some x∈l→((g (some x)).length:Int)=f x)→gW (ocP f i l)=((l.flatMap g).length:Int)
  | [],i,_=>rfl
  | o :: l,i,h=>by
    have ih:=oc_sum f g h0 l (i+1) fun x hx=>h x (by simp [hx])
    rw [ocP,lD,ih,List.flatMap_cons,List.length_append]
    cases o with
    | none=>rw [h0];simp [ocO,gW]
    | some x =>
      have:=h x (by simp)
      simp only [ocO,gW];omega
def jZ (a:HA):PM:=ocP (fun l:LA=>bB l.n) 0 a.lo ++ ocP (fun t:TA=>cW t.x.q) 5 a.bx
structure rE (a:HA) (t:TA):Prop where
  cfg:∃ ls,iX a t.x.lo []=some ls∧jH t.x.cf ls=0∧InB t.x.cf ls t.b
  s0:(t.s0.length:Int)=t.x.q+1
  s1:(t.s1.length:Int)=t.x.q+1
  turn:t.turn=0∨t.turn=1
structure WF (bl:Nat) (a:HA):Prop where
  l5:a.lo.length=5
  b5:a.bx.length=5
  lo:∀ l,some l∈a.lo→dD false l.n=0∧(l.bl.length:Int)=bB l.n
  bx:∀ t,some t∈a.bx→rE a t
  us:∀ z∈eO a,200≤z∧z<bl
  nd:(eO a).Nodup
  pool:a.M.Perm (jZ a)
theorem rE.q {a:HA} {t:TA} (h:rE a t):1≤t.x.q∧t.x.q≤64:=by
  obtain⟨ls,_,h2,_⟩:=h.cfg
  obtain⟨_,_,_,_,hq,_⟩:=qL h2
  exact hq
theorem xW {a a':HA}:∀ {l:List Int} {acc ls:List PN},(∀ n x,n∈l→iO a n=some x→iO a' n=some x)→iX a l acc=some ls→iX a' l acc=some ls
  | [],acc,ls,_,h=>h
  | n :: l,acc,ls,hm,h=>by
    rw [iX] at h ⊢
    cases hx:iO a n with
    | none=>rw [hx] at h;cases h
    | some x =>
      rw [hm n x (by simp) hx]
      rw [hx] at h
      exact xW (fun m y hy=>hm m y (by simp [hy])) h
theorem rE.mono {a a':HA} {t:TA} (h:rE a t) (hm:∀ n x,n∈t.x.lo→iO a n=some x→iO a' n=some x):rE a' t:=by
  obtain⟨⟨ls,h1,h2,h3⟩,h4,h5,h6⟩:=h
  exact⟨⟨ls,xW hm h1,h2,h3⟩,h4,h5,h6⟩
theorem sX {a a':HA} (e:a.lo=a'.lo) (n:Int):iO a n=iO a' n:=by unfold iO;rw [e]
theorem WF.same {bl:Nat} {a a':HA} (h:WF bl a) (e1:a.lo=a'.lo) (e2:a.bx=a'.bx) (e3:a.M=a'.M):WF bl a':=by
  obtain⟨k1,k2,k3,k4,k5,k6,k7⟩:=h
  have eu:eO a=eO a':=by unfold eO;rw [e1,e2]
  have ep:jZ a=jZ a':=by unfold jZ;rw [e1,e2]
  exact⟨e1▸k1,e2▸k2,e1▸k3,fun t ht=>(k4 t (e2▸ht)).mono fun n x _ hx=>by rw [←sX e1];exact hx,eu▸k5,eu▸k6,e3▸ep▸k7⟩
theorem WF.sum {bl:Nat} {a:HA} (h:WF bl a):gW a.M=((eO a).length:Int):=by
  rw [sumP_perm h.pool]
  unfold jZ eO
  rw [lD,List.length_append,oc_sum _ loBA rfl _ _ fun l hl=>(h.lo l hl).2,oc_sum _ bxBA rfl _ _ fun t ht=>?_]
  · omega
  · have:=h.bx t ht
    have h0:=this.s0;have h1:=this.s1
    show ((t.s0 ++ t.s1).length:Int)=cW t.x.q
    rw [List.length_append];unfold cW;omega
theorem WF.keys {bl:Nat} {a:HA} (h:WF bl a):(a.M.map Prod.fst).Nodup:=by
  rw [(h.pool.map Prod.fst).nodup_iff]
  unfold jZ
  rw [List.map_append,List.nodup_append]
  refine⟨oc_nd _ _ _,oc_nd _ _ _,fun x hx y hy e=>?_⟩
  obtain⟨p,hp,rfl⟩:=List.mem_map.1 hx
  obtain⟨p',hp',rfl⟩:=List.mem_map.1 hy
  obtain⟨k,l,h1,rfl⟩:=oc_mem _ _ _ _ hp
  obtain⟨k',l',h1',rfl⟩:=oc_mem _ _ _ _ hp'
  have:=(List.getElem?_eq_some_iff.1 h1).1
  have:=h.l5
  simp only at e;omega
theorem WF.key {bl:Nat} {a:HA} (h:WF bl a) {who:Int}:(dR who a.M).isSome=true↔(∃ k l,who=((0+k:Nat):Int)∧a.lo[k]?=some (some l))∨∃ k t,who=((5+k:Nat):Int)∧a.bx[k]?=some (some t):=by
  rw [mFind_key,(h.pool.map Prod.fst).mem_iff]
  unfold jZ
  rw [List.map_append,List.mem_append]
  constructor
  · rintro (hx|hx)
    · obtain⟨p,hp,rfl⟩:=List.mem_map.1 hx
      obtain⟨k,l,h1,rfl⟩:=oc_mem _ _ _ _ hp
      exact .inl ⟨k,l,rfl,h1⟩
    · obtain⟨p,hp,rfl⟩:=List.mem_map.1 hx
      obtain⟨k,l,h1,rfl⟩:=oc_mem _ _ _ _ hp
      exact .inr ⟨k,l,rfl,h1⟩
  · rintro (⟨k,l,rfl,h1⟩|⟨k,l,rfl,h1⟩)
    · exact .inl (List.mem_map.2 ⟨_,oc_in (fun l:LA=>bB l.n) a.lo 0 k l h1,rfl⟩)
    · exact .inr (List.mem_map.2 ⟨_,oc_in (fun t:TA=>cW t.x.q) a.bx 5 k l h1,rfl⟩)
theorem mF {α:Type}:∀ (l:List (Option α)),aW l≤l.length
  | []=>Nat.le_refl _
  | none :: l=>Nat.zero_le _
  | some _ :: l=>Nat.succ_le_succ (mF l)
theorem pJ {α:Type}:∀ {l:List (Option α)},aW l<l.length→l[aW l]?=some none
  | [],h=>by simp [aW] at h
  | none :: l,h=>rfl
  | some x :: l,h=>by
    have e:aW (some x :: l)=aW l+1:=rfl
    rw [e] at h ⊢
    rw [List.getElem?_cons_succ]
    exact pJ (by simpa using h)
theorem WF.take {bl:Nat} {a:HA} (h:WF bl a) {room who n:Int} (hw:¬(dR who a.M).isSome=true) (hn:0≤n):gA room a.M who n=if room - ((eO a).length:Int)<n then 13 else 0:=by
  unfold gA
  rw [if_neg (by omega),if_neg hw,h.sum]
theorem take_zero {c:Prop} [Decidable c] (h:(if c then (13:Int) else 0)=0):¬c:=by
  intro hc;rw [if_pos hc] at h;cases h
theorem WF.noBx {bl:Nat} {a:HA} (h:WF bl a) (hf:¬aW a.bx=5):¬(dR (5+(aW a.bx:Int)) a.M).isSome=true:=by
  have h1:=mF a.bx
  have h2:=pJ (l:=a.bx) (by have:=h.b5;omega)
  rw [h.key]
  rintro (⟨k,l,e,hk⟩|⟨k,t,e,hk⟩)
  · have:=(List.getElem?_eq_some_iff.1 hk).1
    have:=h.l5;omega
  · obtain rfl:k=aW a.bx:=by omega
    rw [h2] at hk;cases hk
theorem WF.noLo {bl:Nat} {a:HA} (h:WF bl a) (hf:¬aW a.lo=5):¬(dR (aW a.lo:Int) a.M).isSome=true:=by
  have h1:=mF a.lo
  have h2:=pJ (l:=a.lo) (by have:=h.l5;omega)
  rw [h.key]
  rintro (⟨k,l,e,hk⟩|⟨k,t,e,hk⟩)
  · obtain rfl:k=aW a.lo:=by omega
    rw [h2] at hk;cases hk
  · have:=h.l5;omega
theorem sD (n:PN):0≤bB n∧bB n≤376:=by
  have:=tO n
  unfold bB;omega
theorem room_blocks {s:DS} {m:Nat} (h:s.bs.length=m):gU s=(m:Int) / 64 - 200:=by unfold gU;rw [h]
theorem WF.free {bl:Nat} {a:HA} (h:WF bl a) {n:Nat} (hn:¬(bl:Int) - 200 - ((eO a).length:Int)<(n:Int)):(jA (eO a) n bl).length=n:=free_len (by omega)
theorem used_bx {a a':HA} {k:Nat} {o o':Option TA} (h:a.bx[k]?=some o) (e1:a'.lo=a.lo) (e2:a'.bx=a.bx.set k o'):(bxBA o ++ eO a').Perm (bxBA o' ++ eO a):=by
  unfold eO
  rw [e1,e2]
  have h1:=flat_set bxBA a.bx k o o' h
  have g:∀ x y z:List Int,(x ++ (y ++ z)).Perm (y ++ (x ++ z)):=fun x y z=>by
    rw [←List.append_assoc,←List.append_assoc];exact List.perm_append_comm.append_right _
  exact(g _ _ _).trans ((h1.append_left _).trans (g _ _ _))
theorem used_lo {a a':HA} {k:Nat} {o o':Option LA} (h:a.lo[k]?=some o) (e1:a'.bx=a.bx) (e2:a'.lo=a.lo.set k o'):(loBA o ++ eO a').Perm (loBA o' ++ eO a):=by
  unfold eO
  rw [e1,e2,←List.append_assoc,←List.append_assoc]
  exact(flat_set loBA a.lo k o o' h).append_right _
theorem pool_bx {a a':HA} {k:Nat} {o o':Option TA} (h:a.bx[k]?=some o) (e1:a'.lo=a.lo) (e2:a'.bx=a.bx.set k o'):(ocO (fun t:TA=>cW t.x.q) (5+k) o ++ jZ a').Perm (ocO (fun t:TA=>cW t.x.q) (5+k) o' ++ jZ a):=by
  unfold jZ
  rw [e1,e2]
  have h1:=oc_set (fun t:TA=>cW t.x.q) a.bx 5 k o o' h
  have g:∀ x y z:PM,(x ++ (y ++ z)).Perm (y ++ (x ++ z)):=fun x y z=>by
    rw [←List.append_assoc,←List.append_assoc];exact List.perm_append_comm.append_right _
  exact(g _ _ _).trans ((h1.append_left _).trans (g _ _ _))
theorem pool_lo {a a':HA} {k:Nat} {o o':Option LA} (h:a.lo[k]?=some o) (e1:a'.bx=a.bx) (e2:a'.lo=a.lo.set k o'):(ocO (fun l:LA=>bB l.n) (0+k) o ++ jZ a').Perm (ocO (fun l:LA=>bB l.n) (0+k) o' ++ jZ a):=by
  unfold jZ
  rw [e1,e2,←List.append_assoc,←List.append_assoc]
  exact(oc_set (fun l:LA=>bB l.n) a.lo 0 k o o' h).append_right _
theorem qU {α:Type} {l:List α} {k:Nat} {y x:α} (h:x∈l.set k y):x=y∨x∈l:=(List.mem_or_eq_of_mem_set h).symm
theorem WF.addBx {bl:Nat} {a a':HA} (h:WF bl a) {t:TA} (hf:¬aW a.bx=5) (ht:rE a t) (hfl:t.s0 ++ t.s1=jA (eO a) (cW t.x.q).toNat bl) (e1:a'.lo=a.lo) (e2:a'.bx=a.bx.set (aW a.bx) (some t)) (e3:a'.M=a.M ++ [(5+(aW a.bx:Int),cW t.x.q)]):WF bl a':=by
  have h1:=mF a.bx
  have h2:=pJ (l:=a.bx) (by have:=h.b5;omega)
  have hu:=used_bx h2 e1 e2
  have hp:=pool_bx h2 e1 e2
  have hu:(eO a').Perm ((t.s0 ++ t.s1) ++ eO a):=hu
  have hp:(jZ a').Perm ([(((5+aW a.bx:Nat):Int),cW t.x.q)] ++ jZ a):=hp
  refine⟨e1▸h.l5,by rw [e2,List.length_set];exact h.b5,e1▸h.lo,fun y hy=>?_,fun z hz=>?_,?_,?_⟩
  · rw [e2] at hy
    have hm:rE a y:=by
      rcases qU hy with hy|hy
      · injection hy with hy;subst hy;exact ht
      · exact h.bx y hy
    exact hm.mono fun n x _ hx=>by rw [sX e1];exact hx
  · rw [hu.mem_iff,List.mem_append,hfl] at hz
    rcases hz with hz|hz
    · have:=nP hz;omega
    · exact h.us z hz
  · rw [hu.nodup_iff,List.nodup_append,hfl]
    exact⟨free_nd _ _ _,h.nd,fun x hx y hy e=>(nP hx).2.2 (e▸hy)⟩
  · rw [e3]
    refine(h.pool.append_right _).trans (List.perm_append_comm.trans ?_)
    have e:((5+aW a.bx:Nat):Int)=5+(aW a.bx:Int):=by omega
    rw [e] at hp;exact hp.symm
theorem loAt_set {a a':HA} {k:Nat} {o:Option LA} (e:a'.lo=a.lo.set k o) {n:Int} (hn:¬n=(k:Int)):iO a' n=iO a n:=by
  unfold iO
  split
  · rw [e,List.getElem?_set_ne (by omega)]
  · rfl
theorem WF.addLo {bl:Nat} {a a':HA} (h:WF bl a) {l:LA} (hf:¬aW a.lo=5) (hl:dD false l.n=0∧(l.bl.length:Int)=bB l.n) (hfl:l.bl=jA (eO a) (bB l.n).toNat bl) (e1:a'.bx=a.bx) (e2:a'.lo=a.lo.set (aW a.lo) (some l)) (e3:a'.M=a.M ++ [((aW a.lo:Int),bB l.n)]):WF bl a':=by
  have h1:=mF a.lo
  have h2:=pJ (l:=a.lo) (by have:=h.l5;omega)
  have hu:=used_lo h2 e1 e2
  have hp:=pool_lo h2 e1 e2
  have hu:(eO a').Perm (l.bl ++ eO a):=hu
  have hp:(jZ a').Perm ([(((0+aW a.lo:Nat):Int),bB l.n)] ++ jZ a):=hp
  refine⟨by rw [e2,List.length_set];exact h.l5,e1▸h.b5,fun y hy=>?_,fun y hy=>?_,fun z hz=>?_,?_,?_⟩
  · rw [e2] at hy
    rcases qU hy with hy|hy
    · injection hy with hy;subst hy;exact hl
    · exact h.lo y hy
  · rw [e1] at hy
    refine(h.bx y hy).mono fun n x _ hx=>?_
    by_cases hn:n=(aW a.lo:Int)
    · subst hn
      unfold iO at hx
      split at hx
      · rw [Int.toNat_natCast,h2] at hx;cases hx
      · cases hx
    · rw [loAt_set e2 hn];exact hx
  · rw [hu.mem_iff,List.mem_append,hfl] at hz
    rcases hz with hz|hz
    · have:=nP hz;omega
    · exact h.us z hz
  · rw [hu.nodup_iff,List.nodup_append,hfl]
    exact⟨free_nd _ _ _,h.nd,fun x hx y hy e=>(nP hx).2.2 (e▸hy)⟩
  · rw [e3]
    refine(h.pool.append_right _).trans (List.perm_append_comm.trans ?_)
    have e:((0+aW a.lo:Nat):Int)=(aW a.lo:Int):=by omega
    rw [e] at hp;exact hp.symm
theorem WF.dropBx {bl:Nat} {a a':HA} (h:WF bl a) {k:Nat} {t:TA} (hk:a.bx[k]?=some (some t)) (e1:a'.lo=a.lo) (e2:a'.bx=a.bx.set k none) (e3:a'.M=oI (5+(k:Int)) a.M):WF bl a':=by
  have hu:=used_bx hk e1 e2
  have hp:=pool_bx hk e1 e2
  have hu:((t.s0 ++ t.s1) ++ eO a').Perm (eO a):=hu
  have hp:([(((5+k:Nat):Int),cW t.x.q)] ++ jZ a').Perm (jZ a):=hp
  have hnd:=hu.nodup_iff.2 h.nd
  rw [List.nodup_append] at hnd
  refine⟨e1▸h.l5,by rw [e2,List.length_set];exact h.b5,e1▸h.lo,fun y hy=>?_,fun z hz=>?_,hnd.2.1,?_⟩
  · rw [e2] at hy
    rcases qU hy with hy|hy
    · cases hy
    · exact(h.bx y hy).mono fun n x _ hx=>by rw [sX e1];exact hx
  · exact h.us z (hu.mem_iff.1 (List.mem_append_right _ hz))
  · rw [e3]
    have e:((5+k:Nat):Int)=5+(k:Int):=by omega
    rw [e] at hp
    have hm:((5+(k:Int)),cW t.x.q)∈a.M:=by rw [h.pool.mem_iff,←hp.mem_iff];simp
    exact(((mCut_perm hm h.keys).symm.trans h.pool).trans hp.symm).cons_inv
theorem held_no {a:HA} {n:Int} (h:¬oO a n=true) {t:TA} (ht:some t∈a.bx):¬n∈t.x.lo:=fun hn=>h (by
  unfold oO
  rw [List.any_eq_true]
  exact⟨some t,ht,by rw [List.any_eq_true];exact⟨n,hn,decide_eq_true rfl⟩⟩)
theorem WF.dropLo {bl:Nat} {a a':HA} (h:WF bl a) {k:Nat} {l:LA} (hk:a.lo[k]?=some (some l)) (hh:¬oO a (k:Int)=true) (e1:a'.bx=a.bx) (e2:a'.lo=a.lo.set k none) (e3:a'.M=oI (k:Int) a.M):WF bl a':=by
  have hu:=used_lo hk e1 e2
  have hp:=pool_lo hk e1 e2
  have hu:(l.bl ++ eO a').Perm (eO a):=hu
  have hp:([(((0+k:Nat):Int),bB l.n)] ++ jZ a').Perm (jZ a):=hp
  have hnd:=hu.nodup_iff.2 h.nd
  rw [List.nodup_append] at hnd
  refine⟨by rw [e2,List.length_set];exact h.l5,e1▸h.b5,fun y hy=>?_,fun y hy=>?_,fun z hz=>?_,hnd.2.1,?_⟩
  · rw [e2] at hy
    rcases qU hy with hy|hy
    · cases hy
    · exact h.lo y hy
  · rw [e1] at hy
    refine(h.bx y hy).mono fun n x hn hx=>?_
    rw [loAt_set e2 (fun e=>held_no hh hy (e▸hn))];exact hx
  · exact h.us z (hu.mem_iff.1 (List.mem_append_right _ hz))
  · rw [e3]
    have e:((0+k:Nat):Int)=(k:Int):=by omega
    rw [e] at hp
    have hm:((k:Int),bB l.n)∈a.M:=by rw [h.pool.mem_iff,←hp.mem_iff];simp
    exact(((mCut_perm hm h.keys).symm.trans h.pool).trans hp.symm).cons_inv
theorem WF.setBx {bl:Nat} {a a':HA} (h:WF bl a) {k:Nat} {t t':TA} (hk:a.bx[k]?=some (some t)) (ht:rE a t') (eq:t'.x.q=t.x.q) (es0:t'.s0=t.s0) (es1:t'.s1=t.s1) (e1:a'.lo=a.lo) (e2:a'.bx=a.bx.set k (some t')) (e3:a'.M=a.M):WF bl a':=by
  have hu:=used_bx hk e1 e2
  have hp:=pool_bx hk e1 e2
  have hu:((t.s0 ++ t.s1) ++ eO a').Perm ((t'.s0 ++ t'.s1) ++ eO a):=hu
  have hp:([(((5+k:Nat):Int),cW t.x.q)] ++ jZ a').Perm ([(((5+k:Nat):Int),cW t'.x.q)] ++ jZ a):=hp
  rw [es0,es1] at hu
  rw [eq] at hp
  have hu:=(List.perm_append_left_iff _).1 hu
  have hp:=(List.perm_append_left_iff _).1 hp
  refine⟨e1▸h.l5,by rw [e2,List.length_set];exact h.b5,e1▸h.lo,fun y hy=>?_,fun z hz=>h.us z (hu.mem_iff.1 hz),hu.nodup_iff.2 h.nd,?_⟩
  · rw [e2] at hy
    have hm:rE a y:=by
      rcases qU hy with hy|hy
      · injection hy with hy;subst hy;exact ht
      · exact h.bx y hy
    exact hm.mono fun n x _ hx=>by rw [sX e1];exact hx
  · rw [e3];exact h.pool.trans hp.symm
end
section
structure rL (K W m:Nat) (a:HA) (s:DS):Prop where
  bd:hBd m W s
  turn:a.turn=0∨a.turn=1
  seq:0≤a.seq∧a.seq≤K
  ten:∀ t,some t∈a.bx→0≤t.seq∧t.seq≤K+1
  pl:∃ k,lI ((m:Int) / 64 - 200) k a.M
structure fI (K m:Nat) (a:HA) (s:DS):Prop where
  lim:rL K (K * 100000) m a s
  wf:a.off=false→WF (m / 64) a
theorem rL.mono {K K' W W' m:Nat} {a:HA} {s:DS} (h:rL K W m a s) (hK:K≤K') (hW:W≤W'):rL K' W' m a s :=
  ⟨h.bd.mono hW,h.turn,by have:=h.seq;omega,fun t ht=>by have:=h.ten t ht;omega,h.pl⟩
theorem fI.mono {K K' m:Nat} {a:HA} {s:DS} (h:fI K m a s) (hK:K≤K'):fI K' m a s:=⟨h.lim.mono hK (Nat.mul_le_mul_right _ hK),h.wf⟩
theorem fI.len {K m:Nat} {a:HA} {s:DS} (h:fI K m a s):s.bs.length=m:=h.lim.bd.1
theorem fI.room {K m:Nat} {a:HA} {s:DS} (h:fI K m a s):gU s=(m:Int) / 64 - 200:=room_blocks h.len
theorem rL.off {K W m:Nat} {a:HA} {s:DS} (h:rL K W m a s):rL K W m { a with off:=true } s:=⟨h.bd,h.turn,h.seq,h.ten,h.pl⟩
theorem fI.of_off {K W m:Nat} {a:HA} {s:DS} (h:rL K W m a s) (hW:W≤K * 100000):fI K m { a with off:=true } s:=⟨h.off.mono (Nat.le_refl _) hW,fun e=>by cases e⟩
theorem fI.fin {K W m:Nat} {a:HA} {s:DS} (h:rL K W m a s) (hw:WF (m / 64) a) (hW:W≤K * 100000+90000) (k:Int):fI (K+1) m (rK a s k).a (rK a s k).s:=by
  have hb:hBd m (W+1+[(1 - a.turn) * 6400].length * 6400+1) (spA a s).1:=sG h.bd
  have hb:hBd m ((K+1) * 100000) (spA a s).1:=hb.mono (by simp only [List.length_cons,List.length_nil];omega)
  have hs:=h.seq
  have ht:=h.turn
  have hpl:=h.pl
  have hten:∀ t,some t∈a.bx→0≤t.seq∧t.seq≤((K+1:Nat):Int)+1:=fun t ht=>by have:=h.ten t ht;omega
  unfold rK comA
  by_cases hf:(spA a s).2=0
  · rw [if_pos hf]
    exact⟨⟨hb,by show 1 - a.turn=0∨1 - a.turn=1;omega,by show 0≤a.seq+1∧a.seq+1≤((K+1:Nat):Int);omega,hten,hpl⟩,fun _=>hw.same rfl rfl rfl⟩
  · rw [if_neg hf]
    exact⟨⟨hb,ht,by show 0≤a.seq∧a.seq≤((K+1:Nat):Int);omega,hten,hpl⟩,fun e=>by cases e⟩
theorem qV {a:HA} {s:DS} (h:¬eS a s=true):a.off=false∧s.off=false:=by
  unfold eS at h
  cases ha:a.off<;>cases hs:s.off<;>simp_all
theorem addBx_free {K m:Nat} {a:HA} {s:DS} {x:CA} {ls:List PN} (hi:fI K m a s) (ha:a.off=false) (hc:jH x.cf ls=0) (hf:¬aW a.bx=5) (ht:gA (gU s) a.M (5+(aW a.bx:Int)) (cW x.q)=0):(jA (eO a) (cW x.q).toNat (s.bs.length / 64)).length=(cW x.q).toNat:=by
  have hw:=hi.wf ha
  obtain⟨_,_,_,_,hq,_⟩:=qL hc
  have hq:1≤x.q∧x.q≤64:=hq
  rw [hi.room,hw.take (hw.noBx hf) (by unfold cW;omega)] at ht
  rw [hi.len]
  refine hw.free ?_
  have:=take_zero ht
  unfold cW at *
  omega
theorem newTA_ok {K m:Nat} {a:HA} {s:DS} {x:CA} {ls:List PN} (hi:fI K m a s) (ha:a.off=false) (hn:iX a x.lo []=some ls) (hc:jH x.cf ls=0) (hf:¬aW a.bx=5) (ht:gA (gU s) a.M (5+(aW a.bx:Int)) (cW x.q)=0):rE a (rV a s x ls)∧(rV a s x ls).s0 ++ (rV a s x ls).s1=jA (eO a) (cW x.q).toNat (m / 64):=by
  have hl:=addBx_free hi ha hc hf ht
  obtain⟨_,_,_,_,hq,_⟩:=qL hc
  have hq:1≤x.q∧x.q≤64:=hq
  refine⟨⟨⟨ls,hn,hc,InB.new hc⟩,?_,?_,.inl rfl⟩,?_⟩
  · show ((List.take _ _).length:Int)=x.q+1
    rw [List.length_take,hl];unfold cW;omega
  · show ((List.drop _ _).length:Int)=x.q+1
    rw [List.length_drop,hl];unfold cW;omega
  · show List.take _ _ ++ List.drop _ _=_
    rw [List.take_append_drop,hi.len]
theorem addBox_inv {K m:Nat} {a:HA} {s:DS} {x:CA} (hi:fI K m a s):fI (K+1) m (eQ a s x).a (eQ a s x).s:=by
  have hm:=hi.mono (Nat.le_succ K)
  unfold eQ
  by_cases hd:eS a s=true
  · rw [if_pos hd];exact hm
  rw [if_neg hd]
  obtain⟨ha,_⟩:=qV hd
  cases hn:iX a x.lo [] with
  | none=>exact hm
  | some ls =>
    show fI (K+1) m (if ¬jH x.cf ls=0 then _ else _:HO).a (if ¬jH x.cf ls=0 then _ else _:HO).s
    by_cases hc:jH x.cf ls=0
    · rw [if_neg (not_not_intro hc)]
      by_cases hf:aW a.bx=5
      · rw [if_pos hf];exact hm
      rw [if_neg hf]
      by_cases ht:gA (gU s) a.M (5+(aW a.bx:Int)) (cW x.q)=0
      · rw [if_neg (not_not_intro ht)]
        obtain⟨h1,h2⟩:=newTA_ok hi ha hn hc hf ht
        have hq:=h1.q
        have hq:1≤x.q∧x.q≤64:=hq
        have l0:=h1.s0
        have l0:((rV a s x ls).s0.length:Int)=x.q+1:=l0
        have hM:=takeM_ok ht
        obtain⟨kk,hkk⟩:=hi.lim.pl
        have hpl:∃ k,lI ((m:Int) / 64 - 200) k (fO (gU s) a.M (5+(aW a.bx:Int)) (cW x.q)):=⟨_,by rw [hi.room];exact hkk.take _ _⟩
        generalize hte:rV a s x ls=t at *
        have hx:t.x=x:=by rw [←hte];rfl
        have hL:rL K (K * 100000) m { a with M:=fO (gU s) a.M (5+(aW a.bx:Int)) (cW x.q) } s:=⟨hi.lim.bd,hi.lim.turn,hi.lim.seq,hi.lim.ten,hpl⟩
        have b1:=hi.lim.bd.write (a:=t.s1.headD 0 * 64) (l:=[0]) (k:=1) (by decide)
        have b2:=sG (ps:=t.s0.map (· * 64)) (size:=64) (seq:=1) (t:=eG t.b) b1
        have b2:hBd m (K * 100000+10000) (dF (t.s0.map (· * 64)) 64 1 (eG t.b) (cD s (t.s1.headD 0 * 64) [0])).1:=b2.mono (by rw [List.length_map];omega)
        unfold xJ
        split
        · exact fI.of_off (K:=K+1) (rL.mono ⟨b1,hL.turn,hL.seq,hL.ten,hL.pl⟩ (Nat.le_succ K) (Nat.le_refl _)) (by omega)
        · split
          · exact fI.of_off (K:=K+1) (rL.mono ⟨b2,hL.turn,hL.seq,hL.ten,hL.pl⟩ (Nat.le_succ K) (Nat.le_refl _)) (by omega)
          · have hw:=hi.wf ha
            have hwf:WF (m / 64) { a with bx:=a.bx.set (aW a.bx) (some t),M:=fO (gU s) a.M (5+(aW a.bx:Int)) (cW x.q) } :=
              hw.addBx hf h1 (by rw [hx];exact h2) rfl rfl (by rw [hx];exact hM)
            have hs1:t.seq=1:=by rw [←hte];rfl
            have hL2:rL K (K * 100000+10000) m { a with bx:=a.bx.set (aW a.bx) (some t),M:=fO (gU s) a.M (5+(aW a.bx:Int)) (cW x.q) } (dF (t.s0.map (· * 64)) 64 1 (eG t.b) (cD s (t.s1.headD 0 * 64) [0])).1:=⟨b2,hL.turn,hL.seq,fun y hy=>by
              rcases qU hy with hy|hy
              · injection hy with hy;rw [hy,hs1];omega
              · exact hL.ten y hy,hpl⟩
            exact fI.fin hL2 hwf (by omega) _
      · rw [if_pos ht];exact hm
    · rw [if_pos hc];exact hm
theorem layD_bd {m:Nat} {all:List UInt8}:∀ (ps:List Int) (i:Nat) (s:DS) (W:Nat),hBd m W s→hBd m (W+ps.length * 64) (oG all ps i s).1
  | [],_,s,W,h=>h.mono (by omega)
  | p :: ps,i,s,W,h=>by
    have h1:=h.write (a:=p) (l:=iF 64 all i) pL
    rw [List.length_cons,Nat.succ_mul,oG]
    split
    · exact h1.mono (by omega)
    · exact(layD_bd ps (i+1) _ _ h1).mono (by omega)
theorem addLo_free {K m:Nat} {a:HA} {s:DS} {n:PN} (hi:fI K m a s) (ha:a.off=false) (hf:¬aW a.lo=5) (ht:gA (gU s) a.M (aW a.lo:Int) (bB n)=0):(jA (eO a) (bB n).toNat (s.bs.length / 64)).length=(bB n).toNat:=by
  have hw:=hi.wf ha
  have hb:=sD n
  rw [hi.room,hw.take (hw.noLo hf) hb.1] at ht
  rw [hi.len]
  refine hw.free ?_
  have:=take_zero ht
  omega
theorem addLower_inv {K m:Nat} {a:HA} {s:DS} {n:PN} (hi:fI K m a s):fI (K+1) m (dS a s n).a (dS a s n).s:=by
  have hm:=hi.mono (Nat.le_succ K)
  unfold dS
  by_cases hd:eS a s=true
  · rw [if_pos hd];exact hm
  rw [if_neg hd]
  obtain⟨ha,_⟩:=qV hd
  by_cases hc:dD false n=0
  · rw [if_neg (not_not_intro hc)]
    by_cases hf:aW a.lo=5
    · rw [if_pos hf];exact hm
    rw [if_neg hf]
    by_cases ht:gA (gU s) a.M (aW a.lo:Int) (bB n)=0
    · rw [if_neg (not_not_intro ht)]
      have hl:=addLo_free hi ha hf ht
      have hM:=takeM_ok ht
      have hb:=sD n
      obtain⟨kk,hkk⟩:=hi.lim.pl
      have hpl:∃ k,lI ((m:Int) / 64 - 200) k (fO (gU s) a.M (aW a.lo:Int) (bB n)):=⟨_,by rw [hi.room];exact hkk.take _ _⟩
      have e1:(uZ a s n).bl=jA (eO a) (bB n).toNat (m / 64):=by rw [←hi.len];rfl
      have e2:(uZ a s n).n=n:=rfl
      have hl:(uZ a s n).bl.length=(bB n).toNat:=hl
      generalize uZ a s n=l at *
      subst e2
      have hL:rL K (K * 100000) m { a with M:=fO (gU s) a.M (aW a.lo:Int) (bB l.n) } s:=⟨hi.lim.bd,hi.lim.turn,hi.lim.seq,hi.lim.ten,hpl⟩
      have b2:=layD_bd (all:=eE l.n) (l.bl.map (· * 64)) 0 s _ hi.lim.bd
      have b2:hBd m (K * 100000+30000) (oG (eE l.n) (l.bl.map (· * 64)) 0 s).1:=b2.mono (by rw [List.length_map];omega)
      unfold putLA
      split
      · exact fI.of_off (K:=K+1) (rL.mono ⟨b2,hL.turn,hL.seq,hL.ten,hL.pl⟩ (Nat.le_succ K) (Nat.le_refl _)) (by omega)
      · have hw:=hi.wf ha
        have hwf:WF (m / 64) { a with lo:=a.lo.set (aW a.lo) (some l),M:=fO (gU s) a.M (aW a.lo:Int) (bB l.n) } :=
          hw.addLo hf ⟨hc,by omega⟩ e1 rfl rfl hM
        have hL2:rL K (K * 100000+30000) m { a with lo:=a.lo.set (aW a.lo) (some l),M:=fO (gU s) a.M (aW a.lo:Int) (bB l.n) } (oG (eE l.n) (l.bl.map (· * 64)) 0 s).1:=⟨b2,hL.turn,hL.seq,hL.ten,hpl⟩
        exact fI.fin hL2 hwf (by omega) _
    · rw [if_pos ht];exact hm
  · rw [if_pos hc];exact hm
theorem seal_inv {K m:Nat} {a:HA} {s:DS} {n:Int} (hi:fI K m a s):fI (K+1) m (mA a s n).a (mA a s n).s:=by
  have hm:=hi.mono (Nat.le_succ K)
  unfold mA
  split
  · exact hm
  · split
    · exact hm
    · exact addLower_inv hi
theorem qI {a:HA} {n:Int} {t:TA} (h:iS a n=some t):∃ k:Nat,n=k∧k<5∧a.bx[k]?=some (some t):=by
  unfold iS at h
  split at h
  · rename_i hn
    refine⟨n.toNat,by omega,by omega,?_⟩
    cases hx:a.bx[n.toNat]? with
    | none=>rw [hx] at h;cases h
    | some o=>rw [hx] at h;exact congrArg some h
  · cases h
theorem loAtA_some {a:HA} {n:Int} {l:LA} (h:iO a n=some l):∃ k:Nat,n=k∧k<5∧a.lo[k]?=some (some l):=by
  unfold iO at h
  split at h
  · rename_i hn
    refine⟨n.toNat,by omega,by omega,?_⟩
    cases hx:a.lo[n.toNat]? with
    | none=>rw [hx] at h;cases h
    | some o=>rw [hx] at h;exact congrArg some h
  · cases h
theorem tenFA_zero {a:HA} {s:DS} {n:Int} (h:iZ a s n=0):(a.off=false∧s.off=false)∧∃ t,iS a n=some t:=by
  unfold iZ at h
  split at h
  · cases h
  · rename_i hd
    split at h
    · cases h
    · rename_i hb
      refine⟨qV hd,?_⟩
      cases hx:iS a n with
      | none=>rw [hx] at hb;exact absurd rfl hb
      | some t=>exact⟨t,rfl⟩
theorem lowFA_zero {a:HA} {s:DS} {n:Int} (h:kY a s n=0):(a.off=false∧s.off=false)∧∃ t,iO a n=some t:=by
  unfold kY at h
  split at h
  · cases h
  · rename_i hd
    split at h
    · cases h
    · rename_i hb
      refine⟨qV hd,?_⟩
      cases hx:iO a n with
      | none=>rw [hx] at hb;exact absurd rfl hb
      | some t=>exact⟨t,rfl⟩
theorem dropBox_inv {K m:Nat} {a:HA} {s:DS} {n:Int} (hi:fI K m a s):fI (K+1) m (fM a s n).a (fM a s n).s:=by
  have hm:=hi.mono (Nat.le_succ K)
  unfold fM
  by_cases hf:iZ a s n=0
  · rw [if_neg (not_not_intro hf)]
    obtain⟨⟨ha,_⟩,t,ht⟩:=tenFA_zero hf
    obtain⟨k,rfl,hk,hb⟩:=qI ht
    obtain⟨kk,hkk⟩:=hi.lim.pl
    have hL2:rL K (K * 100000) m { a with bx:=a.bx.set (k:Int).toNat none,M:=oI (5+(k:Int)) a.M } s:=⟨hi.lim.bd,hi.lim.turn,hi.lim.seq,fun y hy=>by
      rcases qU hy with hy|hy
      · cases hy
      · exact hi.lim.ten y hy,⟨_,hkk.cut _⟩⟩
    exact fI.fin hL2 ((hi.wf ha).dropBx hb rfl (by rw [Int.toNat_natCast]) rfl) (by omega) _
  · rw [if_pos hf];exact hm
theorem dropLower_inv {K m:Nat} {a:HA} {s:DS} {n:Int} (hi:fI K m a s):fI (K+1) m (dP a s n).a (dP a s n).s:=by
  have hm:=hi.mono (Nat.le_succ K)
  unfold dP
  by_cases hf:kY a s n=0
  · rw [if_neg (not_not_intro hf)]
    by_cases hh:oO a n=true
    · rw [if_pos hh];exact hm
    rw [if_neg hh]
    obtain⟨⟨ha,_⟩,t,ht⟩:=lowFA_zero hf
    obtain⟨k,rfl,hk,hb⟩:=loAtA_some ht
    obtain⟨kk,hkk⟩:=hi.lim.pl
    have hL2:rL K (K * 100000) m { a with lo:=a.lo.set (k:Int).toNat none,M:=oI (k:Int) a.M } s:=⟨hi.lim.bd,hi.lim.turn,hi.lim.seq,hi.lim.ten,⟨_,hkk.cut _⟩⟩
    exact fI.fin hL2 ((hi.wf ha).dropLo hb hh rfl (by rw [Int.toNat_natCast]) rfl) (by omega) _
  · rw [if_pos hf];exact hm
theorem rE.do_ {a a':HA} {t:TA} (h:rE a t) (e:a'.lo=a.lo) (c:CL) (q:Int):rE a' { t with b:=(doP t.b c).1,turn:=1 - t.turn,seq:=q }:=by
  obtain⟨⟨ls,h1,h2,h3⟩,h4,h5,h6⟩:=h
  exact⟨⟨ls,xW (fun n x _ hx=>by rw [sX e];exact hx) h1,h2,h3.step c⟩,h4,h5,by show 1 - t.turn=0∨1 - t.turn=1;omega⟩
theorem do_inv {K m:Nat} {a:HA} {s:DS} {n:Int} {c:CL} (hi:fI K m a s):fI (K+1) m (doA a s n c).1.a (doA a s n c).1.s:=by
  have hm:=hi.mono (Nat.le_succ K)
  unfold doA
  by_cases hd:eS a s=true
  · rw [if_pos hd];exact hm
  rw [if_neg hd]
  obtain⟨ha,_⟩:=qV hd
  cases hb:iS a n with
  | none=>exact hm
  | some t =>
    obtain⟨k,rfl,hk,hbk⟩:=qI hb
    dsimp only
    split
    · exact hm
    · split
      · exact hm
      · have hw:=hi.wf ha
        have hmem:some t∈a.bx:=List.mem_of_getElem? hbk
        have hT:=hw.bx t hmem
        have hq:=hT.q
        have h0:=hT.s0
        have h1:=hT.s1
        have hsl:(jX t).length≤65:=by unfold jX;split<;>omega
        have b2:=sG (ps:=(jX t).map (· * 64)) (size:=64) (seq:=t.seq+1) (t:=eG (doP t.b c).1) hi.lim.bd
        have b2:hBd m (K * 100000+10000) (dF ((jX t).map (· * 64)) 64 (t.seq+1) (eG (doP t.b c).1) s).1:=b2.mono (by rw [List.length_map];omega)
        have hL:=hi.lim
        split
        · exact fI.of_off (K:=K+1) (rL.mono ⟨b2,hL.turn,hL.seq,hL.ten,hL.pl⟩ (Nat.le_succ K) (Nat.le_refl _)) (by omega)
        · have hts:=hL.ten t hmem
          refine⟨⟨b2.mono (by omega),hL.turn,by have:=hL.seq;show 0≤a.seq∧a.seq≤((K+1:Nat):Int);omega,fun y hy=>?_,hL.pl⟩,fun _=>?_⟩
          · rcases qU hy with hy|hy
            · injection hy with hy
              rw [hy]
              show 0≤t.seq+1∧t.seq+1≤((K+1:Nat):Int)+1;omega
            · have:=hL.ten y hy;omega
          · exact hw.setBx hbk (hT.do_ rfl c (t.seq+1)) rfl rfl rfl rfl (by rw [Int.toNat_natCast];rfl) rfl
end
section
def xR {α:Type} (l:List (Option α)) (k:Nat):List Int:=((List.range k).filter fun i=>((l[i]?).join).isSome).map fun i:Nat=>(i:Int)
theorem idxF_some {α:Type} {l:List (Option α)} {k:Nat} {x:α} (h:l[k]?=some (some x)):xR l (k+1)=xR l k ++ [(k:Int)]:=by
  unfold xR;rw [List.range_succ,List.filter_append,List.map_append];simp [h]
theorem idxF_none {α:Type} {l:List (Option α)} {k:Nat} (h:l[k]?=some none):xR l (k+1)=xR l k:=by
  unfold xR;rw [List.range_succ,List.filter_append,List.map_append];simp [h]
theorem idxF_len {α:Type} (l:List (Option α)) (k:Nat):(xR l k).length≤k:=by
  unfold xR;rw [List.length_map]
  have:=List.length_filter_le (fun i=>((l[i]?).join).isSome) (List.range k)
  rw [List.length_range] at this;exact this
attribute [local irreducible] AtQ GoC GoL GoW QO QP Fn RV bF aD VLe bU bA
attribute [local irreducible] FnB
theorem HBoxes_c (V:aE) (p:Nat) (h:HM) (h5:h.lo.length=5) (hb5:h.bx.length=5):FnB Tryz.prog 77 [.pointer (some ⟨p,0,none⟩)] V [⟨p,127,hC h⟩] fun u V' Bs'=>(∃ (A:Option Addr) (n c:Nat),u=.slice A n c∧eD V' A n (xR h.bx 5))∧Bs'=[⟨p,127,hC h⟩]:=by
  (refine aL Tryz.func77 rfl Tryz.ntmps77 rfl ?_;intro w0)
  repeat' (first|(refine aG ?_;first|(refine dA ?_;refine aI (gK agg_125 rfl own_here (bx_part h5 hb5) (by unfold bxV;rw [List.length_map,hb5])) ?_)|refine pu9 ?_)|refine bS ?_|fail)
  refine cS ?_
  refine bZ (fun F V' L' m=>∃ (k q9:Nat) (A9:Option Addr) (c9:Nat) (Lg:List Box),V=V'∧Lg ++ [⟨p,127,hC h⟩]=L'∧cX A9 q9 c9 3 1 ((xR h.bx k).map (.int .i64)) Lg∧(xR h.bx k).length=q9∧k≤5∧m=5 - k∧F=[(3,.slice A9 q9 c9),(9,.agg (bxV h.bx).toArray),(10,.int .i64 k)]) (m:=5) ⟨0,0,none,0,[],rfl,rfl,cX.nil,rfl,by omega,rfl,rfl⟩ bG rfl sl9 ?_
  rintro F V' L' m ⟨k,q9,A9,c9,Lg,rfl,rfl,hr,hq9,hk5,rfl,rfl⟩
  have hcap:=hr.cap
  have hql:=idxF_len h.bx k
  by_cases hlt:k<5
  · obtain⟨o,ho⟩:∃ o,h.bx[k]?=some o:=⟨_,List.getElem?_eq_getElem (by omega)⟩
    have hc:=bxV_at ho
    cases o with
    | none =>
      repeat' (first|(refine aG ?_;first|(refine bK ?_;refine aI (fR kW rfl) ?_)|(refine iL ?_;refine aI (kA kK one_124 siz_124 rfl rfl hlt hc) ?_)|refine pu9 ?_)|refine dL ?_|(refine aA rfl ?_ ?_<;>intro hq<;>try exact no9))
      all_goals
        refine aY _ (5 - (k+1)) ⟨k+1,q9,A9,c9,Lg,rfl,rfl,by rw [idxF_none ho];exact hr,by rw [idxF_none ho];exact hq9,by omega,rfl,rfl⟩ (by omega) bG sl9
    | some gl =>
      repeat' (first|(refine aG ?_;first|(refine bK ?_;refine aI (fR kW rfl) ?_)|(refine iL ?_;refine aI (kA kK one_124 siz_124 rfl rfl hlt hc) ?_)|(refine dC ?_;(refine aZ rfl und_25 siz_3 zec_3 rfl rfl rfl rfl rfl rfl rfl ?_;intro γ))|(refine aC ?_;(refine bQ rfl und_25 inf_3 rfl rfl rfl hr bD (fY bN rfl) cI (by omega) rfl rfl ?_;intro A4 c4 L4 hr4))|refine pu9 ?_)|refine dL ?_|(refine aA rfl ?_ ?_<;>intro hq<;>try exact no9))
      all_goals
        refine aY _ (5 - (k+1)) ⟨k+1,q9+1,A4,c4,L4,rfl,rfl,by rw [idxF_some ho,List.map_append];exact hr4,by rw [idxF_some ho,List.length_append,hq9];rfl,by omega,rfl,rfl⟩ (by omega) bG sl9
  · obtain rfl:k=5:=by omega
    refine gc_shutG hr bD ?_ ?_
    · intro x9 hx9;exact hx9
    intro V5 hV5 hc5
    repeat' (first|(refine aG ?_;refine pu9 ?_)|refine mV ?_|fail)
    all_goals
      (refine aV Tryz.results77 (aB rfl) (List.Sublist.refl _) ?_)
      exact⟨⟨_,_,_,rfl,hq9,by unfold maxLen;omega,hc5⟩,rfl⟩
end
section
theorem FnB.frame {P:Program} {f:FuncId} {args:List Value} {V:aE} {Bs:List Box} {R:Value→aE→List Box→Prop} (h:FnB P f args V Bs R) (X Y:List Box):FnB P f args V (X ++ (Bs ++ Y)) fun v V' L'=>∃ Bs',L'=X ++ (Bs' ++ Y)∧R v V' Bs':=fun w hs =>
  (h w (hs.sub' ((List.sublist_append_left Bs Y).trans (List.sublist_append_right X (Bs ++ Y))))).mono fun _ _ ⟨v,V',Bs',he,hst,hR⟩=>⟨v,V',_,he,hs.callB hst,Bs',rfl,hR⟩
theorem FnB.mono_ {P:Program} {f:FuncId} {args:List Value} {V:aE} {Bs:List Box} {R R':Value→aE→List Box→Prop} (h:FnB P f args V Bs R) (hr:∀ v V' Bs',VLe V V'→R v V' Bs'→R' v V' Bs'):FnB P f args V Bs R':=fun w hs =>
  (h w hs).mono fun _ _ ⟨v,V',Bs',he,hst,hR⟩=>⟨v,V',Bs',he,hst,hr v V' Bs' hst.v0 hR⟩
theorem FnB.beside {P:Program} {f:FuncId} {args:List Value} {V:aE} {Bs:List Box} {R:Value→aE→Prop} (h:FnB P f args V Bs fun v V' Bs'=>R v V'∧Bs'=Bs) (X Y:List Box):FnB P f args V (X ++ (Bs ++ Y)) fun v V' L'=>R v V'∧L'=X ++ (Bs ++ Y) :=
  (h.frame X Y).mono_ fun _ _ _ _ ⟨_,h1,h2,h3⟩=>⟨h2,by rw [h1,h3]⟩
def eY (V:aE) (p d m:Nat) (a:HA) (s:DS) (Bs:List Box):Prop :=
  ∃ (h:HM) (D Pb T:List Box),Bs=⟨p,127,hC h⟩ :: (D ++ (Pb ++ T))∧h.d=d∧fZ h a.M=a∧gC d s D∧oL h.q ((m:Int) / 64 - 200) a.M Pb∧HOk V T h
theorem eY.le {V V':aE} {p d m:Nat} {a:HA} {s:DS} {Bs:List Box} (h:eY V p d m a s Bs) (hv:VLe V V'):eY V' p d m a s Bs:=by
  obtain⟨h,D,Pb,T,h1,h2,h3,h4,h5,h6⟩:=h
  exact⟨h,D,Pb,T,h1,h2,h3,h4,h5,h6.le hv⟩
def lowNA (a:HA) (n:Int):PN:=match iO a n with|none=>pnZ|some l=>l.n
def xX (a:HA) (n:Int):PN:=match iS a n with|none=>pnZ|some t=>flatB t.b
def upNA (a:HA) (n:Int):PN:=match iS a n with|none=>pnZ|some t=>t.b.ls.headD pnZ
theorem lowF_abs (h:HM) (M:PM) (s:DS) (n:Int):lowF h s n=kY (fZ h M) s n:=by
  unfold lowF kY eS
  rw [loAt_abs,Option.isNone_map];rfl
theorem tenF_abs (h:HM) (M:PM) (s:DS) (n:Int):rP h s n=iZ (fZ h M) s n:=by
  unfold rP iZ eS
  rw [bxAt_abs,Option.isNone_map];rfl
theorem lowN_abs (h:HM) (M:PM) (n:Int):lowN h n=lowNA (fZ h M) n:=by
  unfold lowN lowNA
  rw [loAt_abs]
  cases oX h n<;>rfl
theorem flatN_abs (h:HM) (M:PM) (n:Int):flatN h n=xX (fZ h M) n:=by
  unfold flatN xX
  rw [bxAt_abs]
  cases nX h n<;>rfl
theorem upN_abs (h:HM) (M:PM) (n:Int):upN h n=upNA (fZ h M) n:=by
  unfold upN upNA
  rw [bxAt_abs]
  cases nX h n<;>rfl
theorem idx_bxA (h:HM) (M:PM) (k:Nat):xR h.bx k=xR (fZ h M).bx k:=by
  unfold xR
  congr 1
  congr 1
  funext i
  show _=(((bxA h.bx)[i]?).join).isSome
  unfold bxA
  rw [List.getElem?_map]
  cases h.bx[i]? with
  | none=>rfl
  | some o=>cases o<;>rfl
section
variable {V : aE} {p d m K : Nat} {a : HA} {s : DS} {Bs : List Box}
theorem eY.lower (h:eY V p d m a s Bs) (hi:fI K m a s) (hm:m≤128000) (n:Int):FnB Tryz.prog 28 [.pointer (some ⟨p,0,none⟩),.int .i64 n] V Bs fun u V' Bs'=>HNodeR (kY a s n) (lowNA a n) u V'∧Bs'=Bs:=by
  obtain⟨h,D,Pb,T,rfl,rfl,e,h4,h5,h6⟩:=h
  have:=Lower_c V p h s D T h4 (by rw [hi.len];omega) h6 n
  rw [lowF_abs h a.M,lowN_abs h a.M,e] at this
  exact this.beside [] (Pb ++ T)
theorem eY.flat (h:eY V p d m a s Bs) (hi:fI K m a s) (hm:m≤128000) (n:Int):FnB Tryz.prog 26 [.pointer (some ⟨p,0,none⟩),.int .i64 n] V Bs fun u V' Bs'=>HNodeR (iZ a s n) (xX a n) u V'∧Bs'=Bs:=by
  obtain⟨h,D,Pb,T,rfl,rfl,e,h4,h5,h6⟩:=h
  have:=HFlat_c V p h s D (Pb ++ T) h4 (by rw [hi.len];omega) (h6.skip Pb) n
  rw [tenF_abs h a.M,flatN_abs h a.M,e] at this
  exact this
theorem eY.upper (h:eY V p d m a s Bs) (hi:fI K m a s) (hm:m≤128000) (n:Int):FnB Tryz.prog 78 [.pointer (some ⟨p,0,none⟩),.int .i64 n] V Bs fun u V' Bs'=>HNodeR (iZ a s n) (upNA a n) u V'∧Bs'=Bs:=by
  obtain⟨h,D,Pb,T,rfl,rfl,e,h4,h5,h6⟩:=h
  have:=HUpper_c V p h s D (Pb ++ T) h4 (by rw [hi.len];omega) (h6.skip Pb) n
  rw [tenF_abs h a.M,upN_abs h a.M,e] at this
  exact this
theorem eY.left (h:eY V p d m a s Bs) (hi:fI K m a s):FnB Tryz.prog 25 [.pointer (some ⟨p,0,none⟩)] V Bs fun u _ Bs'=>u=.int .i64 ((m:Int) / 64 - 200 - gW a.M)∧Bs'=Bs:=by
  obtain⟨h,D,Pb,T,rfl,rfl,e,h4,h5,h6⟩:=h
  obtain⟨kk,hkk⟩:=hi.lim.pl
  exact HLeft_c V p h D Pb T _ a.M h5 hkk
theorem eY.boxes (h:eY V p d m a s Bs):FnB Tryz.prog 77 [.pointer (some ⟨p,0,none⟩)] V Bs fun u V' Bs'=>(∃ (A:Option Addr) (n c:Nat),u=.slice A n c∧eD V' A n (xR a.bx 5))∧Bs'=Bs:=by
  obtain⟨h,D,Pb,T,rfl,rfl,e,h4,h5,h6⟩:=h
  have:=HBoxes_c V p h h6.l5 h6.b5
  rw [idx_bxA h a.M,e] at this
  exact this.beside [] (D ++ (Pb ++ T))
end
end
section
theorem bxA_set (l:List (Option (Nat×TE))) (k:Nat) (o:Option (Nat×TE)):bxA (l.set k o)=(bxA l).set k (o.map fun g=>teA g.2):=List.map_set
theorem loA_set (l:List (Option (Nat×LW))) (k:Nat) (o:Option (Nat×LW)):loA (l.set k o)=(loA l).set k (o.map fun g=>lwA g.2):=List.map_set
theorem abs_dropB (h:HM) (M M':PM) (k:Nat):fZ (dropB h k) M'={ fZ h M with bx:=(fZ h M).bx.set k none,M:=M' }:=by
  unfold fZ dropB
  simp only [bxA_set];rfl
theorem abs_dropL (h:HM) (M M':PM) (k:Nat):fZ (dropL h k) M'={ fZ h M with lo:=(fZ h M).lo.set k none,M:=M' }:=by
  unfold fZ dropL
  simp only [loA_set];rfl
theorem comM_lo (h:HM) (s:DS):(jS h s).lo=h.lo:=by unfold jS;split<;>rfl
theorem comM_bx (h:HM) (s:DS):(jS h s).bx=h.bx:=by unfold jS;split<;>rfl
theorem comM_d (h:HM) (s:DS):(jS h s).d=h.d:=by unfold jS;split<;>rfl
theorem comM_q (h:HM) (s:DS):(jS h s).q=h.q:=by unfold jS;split<;>rfl
theorem comA_M (a:HA) (s:DS):(comA a s).M=a.M:=by unfold comA;split<;>rfl
theorem rL.turn2 {K W m:Nat} {a:HA} {s:DS} (h:rL K W m a s):0≤a.turn∧a.turn≤1:=by have:=h.turn;omega
theorem lowF_zero {h:HM} {s:DS} {n:Int} (hf:lowF h s n=0):∃ (i g:Nat) (l:LW),n=i∧i<5∧h.lo[i]?=some (some (g,l))∧oX h n=some (g,l)∧(h.off || s.off)=false:=by
  unfold lowF at hf
  split at hf
  · cases hf
  · rename_i hd
    split at hf
    · cases hf
    · rename_i hn
      cases ht:oX h n with
      | none=>rw [ht] at hn;exact absurd rfl hn
      | some gt =>
        have ht':=ht
        unfold oX at ht
        split at ht
        · rename_i hin
          cases ho:h.lo[n.toNat]? with
          | none=>rw [ho] at ht;cases ht
          | some o =>
            rw [ho] at ht
            have ht:o=some gt:=ht
            subst ht
            exact⟨n.toNat,gt.1,gt.2,by omega,by omega,ho,rfl,by simpa using hd⟩
        · cases ht
theorem eY.com {V:aE} {p m:Nat} {h:HM} {s:DS} {D Pb T:List Box} {M:PM} {a:HA} (e:fZ h M=a) (hD:gC h.d (jU h s).1 D) (hP:oL h.q ((m:Int) / 64 - 200) M Pb) (hk:HOk V T h):eY V p h.d m (comA a s) (spA a s).1 (⟨p,127,hC (jS h s)⟩ :: (D ++ (Pb ++ T))):=by
  subst e
  exact⟨jS h s,D,Pb,T,rfl,comM_d h s,by rw [comA_M];exact commitM_abs h M s,by rw [←mE];exact hD,by rw [comM_q,comA_M];exact hP,hk.same (comM_lo h s).symm (comM_bx h s).symm⟩
theorem dropBoxA_ok {a:HA} {s:DS} {n:Int} (h:iZ a s n=0):fM a s n=rK { a with bx:=a.bx.set n.toNat none,M:=oI (5+n) a.M } s 0:=if_neg (not_not_intro h)
theorem dropBoxA_bad {a:HA} {s:DS} {n:Int} (h:¬iZ a s n=0):fM a s n=⟨a,s,iZ a s n,0⟩:=if_pos h
theorem dropLowerA_bad {a:HA} {s:DS} {n:Int} (h:¬kY a s n=0):dP a s n=⟨a,s,kY a s n,0⟩:=if_pos h
theorem dropLowerA_held {a:HA} {s:DS} {n:Int} (h:kY a s n=0) (h2:oO a n=true):dP a s n=⟨a,s,15,0⟩:=by unfold dP;rw [if_neg (not_not_intro h),if_pos h2]
theorem dropLowerA_ok {a:HA} {s:DS} {n:Int} (h:kY a s n=0) (h2:¬oO a n=true):dP a s n=rK { a with lo:=a.lo.set n.toNat none,M:=oI n a.M } s 0:=by unfold dP;rw [if_neg (not_not_intro h),if_neg h2]
theorem held_is {h:HM} {M:PM} {n:Int} {k g:Nat} {t:TE} (hk:h.bx[k]?=some (some (g,t))) (hn:n∈t.x.lo):oO (fZ h M) n=true:=by
  unfold oO
  rw [List.any_eq_true]
  refine⟨some (teA t),?_,by rw [List.any_eq_true];exact⟨n,hn,decide_eq_true rfl⟩⟩
  show _∈List.map _ h.bx
  exact List.mem_map.2 ⟨some (g,t),List.mem_of_getElem? hk,rfl⟩
theorem held_not {h:HM} {M:PM} {n:Int} (hb5:h.bx.length=5) (hn:∀ (j g:Nat) (t:TE),j<5→h.bx[j]?=some (some (g,t))→¬n∈t.x.lo):¬oO (fZ h M) n=true:=by
  intro hh
  unfold oO at hh
  rw [List.any_eq_true] at hh
  obtain⟨o,ho,h2⟩:=hh
  have ho:o∈List.map _ h.bx:=ho
  obtain⟨o2,ho2,rfl⟩:=List.mem_map.1 ho
  cases o2 with
  | none=>cases h2
  | some gt =>
    obtain⟨j,hj⟩:=List.getElem?_of_mem ho2
    have hj5:=(List.getElem?_eq_some_iff.1 hj).1
    have h2:(gt.2.x.lo.any fun z=>decide (z=n))=true:=h2
    rw [List.any_eq_true] at h2
    obtain⟨z,hz,hzn⟩:=h2
    exact hn j gt.1 gt.2 (by omega) hj (of_decide_eq_true hzn▸hz)
theorem finA_f {a:HA} {s:DS} {k:Int} (h:(spA a s).2=0):rK a s k=⟨comA a s,(spA a s).1,0,k⟩:=by unfold rK;rw [h,if_pos rfl]
theorem finA_b {a:HA} {s:DS} {k:Int} (h:¬(spA a s).2=0):rK a s k=⟨comA a s,(spA a s).1,(spA a s).2,0⟩:=by unfold rK;rw [if_neg h]
attribute [local irreducible] AtQ GoC GoL GoW QO QP Fn RV bF aD VLe bU bA
attribute [local irreducible] FnB
theorem eY.dropBox {V:aE} {p d m K:Nat} {a:HA} {s:DS} {Bs:List Box} (hB:eY V p d m a s Bs) (hi:fI K m a s) (hm:m≤128000) (hK:K≤1000) (n:Int) :
    FnB Tryz.prog 67 [.pointer (some ⟨p,0,none⟩),.int .i64 n] V Bs fun u V' Bs'=>u=bA (fM a s n).f∧eY V' p d m (fM a s n).a (fM a s n).s Bs':=by
  have hB0:=hB
  obtain⟨h,D,Pb,T,rfl,rfl,ea,hD,hP,hk⟩:=hB
  have h5:=hk.l5
  have hlen:=hi.len
  obtain⟨kk,hI⟩:=hi.lim.pl
  have ht:=hi.lim.turn2
  have hs:=hi.lim.seq
  have hd:=hi.lim.bd
  have e1:a.turn=h.turn:=by rw [←ea];rfl
  have e2:a.seq=h.seq:=by rw [←ea];rfl
  have hT:=fun V9=>tenant_c V9 p h s D hD (by omega) h5 hk.b5 n
  have hfa:rP h s n=iZ a s n:=by rw [tenF_abs h a.M,ea]
  by_cases hf:rP h s n=0
  · obtain⟨i,g,t,rfl,hi5,hbi,hta,ho1,ho2⟩:=wJ hf
    rw [tenV_ok hf hta] at hT
    have hset:=hC_dropB h5 (k:=i)
    have hfit:0+10+i * 1+[Value.pointer none].length≤(hC h).length:=by
      have:=hk.b5
      unfold hC loV bxV
      simp only [List.length_cons,List.length_nil,List.length_append,List.length_map];omega
    have hG:=fun V9=>PGive_c V9 h.q _ a.M Pb hP hI (5+(i:Int))
    have hkd:=(hk.dropB i)
    have hCm:=fun V9 (h9:VLe V V9) Pb2=>vQ V9 p (dropB h i) s D (Pb2 ++ T) hD hd (by omega) (by omega) ((hkd.le h9).skip Pb2) (show 0≤h.turn∧h.turn≤1 by omega) (show 0≤h.seq∧h.seq≤1000000000 by omega)
    have hfin:=dropBoxA_ok (hfa▸hf)
    have habs:=abs_dropB h a.M (oI (5+(i:Int)) a.M) i
    rw [ea] at habs
    rw [Int.toNat_natCast] at hfin
    (refine aL Tryz.func67 rfl Tryz.ntmps67 rfl ?_;intro w0)
    repeat' (first|(refine aG ?_;first|(refine aC ?_;(first|(refine aO rfl (dB ⟨Tryz.call63⟩ rfl dZ (hT _)) ?_)|(refine aM rfl ⟨Tryz.call139⟩ rfl bD rfl (hG _) ?_;rintro v V2 Pb2 hV2 ⟨rfl,hP2⟩)|(refine aM rfl ⟨Tryz.call127⟩ rfl bD rfl (hCm _ vl9 Pb2) ?_;rintro v V3 B3 hV3 ⟨rfl,D3,rfl,hD3⟩)))|(refine bH ?_;refine aI (cU kK siz_124 rfl rfl rfl hi5) ?_)|(refine cY ?_;refine aP rfl siz_124 rfl rfl rfl rfl (by exact gL rfl) (cF.hereE hset hfit) rfl ?_)|refine pu9 ?_)|refine bV ?_|fail)
    all_goals
      (refine aV Tryz.results67 (aB rfl) (List.Sublist.refl _) ?_)
      rw [hfin]
      exact⟨by rw [mE (dropB h i) (oI (5+(i:Int)) a.M) s,habs];rfl,eY.com (m:=m) habs hD3 hP2 (hkd.le (hV2.trans hV3))⟩
  · rw [tenV_bad rfl hf] at hT
    have hfin:=dropBoxA_bad (hfa▸hf)
    (refine aL Tryz.func67 rfl Tryz.ntmps67 rfl ?_;intro w0)
    repeat' (first|(refine aG ?_;first|(refine aC ?_;(refine aO rfl (dB ⟨Tryz.call63⟩ rfl dZ (hT _)) ?_))|refine pu9 ?_)|refine bS ?_|(refine aA rfl ?_ ?_<;>intro hq<;>try exact no9))
    all_goals
      (refine aV Tryz.results67 (aB rfl) (List.Sublist.refl _) ?_)
      rw [hfin]
      exact⟨by rw [hfa];rfl,hB0⟩
theorem eY.dropLower {V:aE} {p d m K:Nat} {a:HA} {s:DS} {Bs:List Box} (hB:eY V p d m a s Bs) (hi:fI K m a s) (hm:m≤128000) (hK:K≤1000) (n:Int) :
    FnB Tryz.prog 70 [.pointer (some ⟨p,0,none⟩),.int .i64 n] V Bs fun u V' Bs'=>u=bA (dP a s n).f∧eY V' p d m (dP a s n).a (dP a s n).s Bs':=by
  have hB0:=hB
  obtain⟨h,D,Pb,T,rfl,rfl,ea,hD,hP,hk⟩:=hB
  have h5:=hk.l5
  have hb5:=hk.b5
  have hlen:=hi.len
  obtain⟨kk,hI⟩:=hi.lim.pl
  have ht:=hi.lim.turn2
  have hs:=hi.lim.seq
  have hd:=hi.lim.bd
  have e1:a.turn=h.turn:=by rw [←ea];rfl
  have e2:a.seq=h.seq:=by rw [←ea];rfl
  have hDe:=fun V9=>dead_c V9 p h s D hD (by omega)
  have hfa:lowF h s n=kY a s n:=by rw [lowF_abs h a.M,ea]
  by_cases hf:lowF h s n=0
  · obtain⟨i,g,l,rfl,hi5,hli,hla,hoff⟩:=lowF_zero hf
    have hc:=hC_lo hli
    rw [hoff] at hDe
    have hset:=hC_dropL h5 (k:=i) hi5
    have hfit:0+5+i * 1+[Value.pointer none].length≤(hC h).length:=by
      have:=hk.b5
      unfold hC loV bxV
      simp only [List.length_cons,List.length_nil,List.length_append,List.length_map];omega
    have hG:=fun V9=>PGive_c V9 h.q _ a.M Pb hP hI (i:Int)
    have hkd:=(hk.dropL i)
    have hCm:=fun V9 (h9:VLe V V9) Pb2=>vQ V9 p (dropL h i) s D (Pb2 ++ T) hD hd (by omega) (by omega) ((hkd.le h9).skip Pb2) (show 0≤h.turn∧h.turn≤1 by omega) (show 0≤h.seq∧h.seq≤1000000000 by omega)
    have habs:=abs_dropL h a.M (oI (i:Int) a.M) i
    rw [ea] at habs
    (refine aL Tryz.func70 rfl Tryz.ntmps70 rfl ?_;intro w0)
    repeat' (first|(refine aG ?_;first|(refine aC ?_;(refine aO rfl (dB ⟨Tryz.call71⟩ rfl dZ (hDe _)) ?_))|(refine bK ?_;refine aI (eH kU rfl) ?_)|(refine bH ?_;refine aI (cU jV siz_122 rfl rfl rfl hi5) ?_)|(refine dA ?_;(first|refine aI (gK agg_125 rfl own_here (bx_part h5 hb5) (by unfold bxV;rw [List.length_map,hb5])) ?_|refine aI (aX one_122 rfl own_here hc) ?_))|refine pu9 ?_)|refine bV ?_|(refine aJ rfl rfl rfl ?_ ?_<;>intro hq<;>try exact no9))
    refine cS ?_
    refine bZ (fun F V' L' m'=>∃ (k:Nat),V=V'∧(⟨p,127,hC h⟩ :: (D ++ (Pb ++ T)):List Box)=L'∧k≤5∧(∀ (j g:Nat) (t:TE),j<k→h.bx[j]?=some (some (g,t))→¬(i:Int)∈t.x.lo)∧m'=5 - k∧F=[(0,.pointer (some ⟨p,0,none⟩)),(1,.int .i64 i),(31,.agg (bxV h.bx).toArray),(32,.int .i64 k)]) (m:=5) ⟨0,rfl,rfl,by omega,fun j g t hj=>absurd hj (Nat.not_lt_zero j),rfl,rfl⟩ bG rfl sl9 ?_
    rintro F V' L' m' ⟨k,rfl,rfl,hk5,hno,rfl,rfl⟩
    by_cases hlt:k<5
    · obtain⟨o,ho⟩:∃ o,h.bx[k]?=some o:=⟨_,List.getElem?_eq_getElem (by omega)⟩
      have hc:=bxV_at ho
      cases o with
      | none =>
        repeat' (first|(refine aG ?_;first|(refine bK ?_;refine aI (eH kW rfl) ?_)|(refine iL ?_;refine aI (kA kK one_124 siz_124 rfl rfl hlt hc) ?_)|refine pu9 ?_)|refine fG ?_|(refine aA rfl ?_ ?_<;>intro hq<;>try exact no9))
        all_goals
          refine aY _ (5 - (k+1)) ⟨k+1,rfl,rfl,by omega,fun j g t hj hjt=>?_,rfl,rfl⟩ (by omega) bG sl9
          by_cases hjk:j=k
          · subst hjk;rw [ho] at hjt;cases hjt
          · exact hno j g t (by omega) hjt
      | some gt =>
        obtain⟨g2,t⟩:=gt
        obtain⟨hO,hT⟩:=hk.bx k g2 t ho
        have hLo:=hT.x.lo
        have e4:=hLo.1
        have hmx:=hLo.max
        repeat' (first|(refine aG ?_;refine pu9 ?_)|refine bS ?_|(refine aA rfl ?_ ?_<;>intro hq<;>try exact no9))
        refine cS ?_
        repeat' (first|(refine aG ?_;first|(refine bK ?_;refine aI (eH kW rfl) ?_)|(refine dA ?_;refine aI (aX one_25 rfl (by repeat (first|exact hO|apply cG|apply eM)) (by exact rfl)) ?_)|(refine iL ?_;refine aI (kA kK one_124 siz_124 rfl rfl hlt hc) ?_)|refine pu9 ?_)|refine bV ?_|fail)
        refine cS ?_
        refine bZ (fun F V' L' m'=>∃ (j:Nat),V=V'∧(⟨p,127,hC h⟩ :: (D ++ (Pb ++ T)):List Box)=L'∧j≤t.x.m∧¬(i:Int)∈t.x.lo.take j∧m'=t.x.m - j∧F=[(0,.pointer (some ⟨p,0,none⟩)),(1,.int .i64 i),(31,.agg (bxV h.bx).toArray),(32,.int .i64 k),(41,.slice t.x.B t.x.m t.x.e),(42,.int .i64 t.x.m),(43,.int .i64 j)]) (m:=t.x.m) ⟨0,rfl,rfl,Nat.zero_le _,by simp,rfl,rfl⟩ bG rfl sl9 ?_
        rintro F V' L' m' ⟨j,rfl,rfl,hjm,hnj,rfl,rfl⟩
        by_cases hjl:j<t.x.m
        · obtain⟨b,o,z,hA,hz,hcz⟩:=hLo.at_ hjl
          rw [hA]
          by_cases hzi:z=(i:Int)
          · subst hzi
            have hin:=dropLowerA_held (hfa▸hf) (by rw [←ea];exact held_is ho (List.mem_of_getElem? hz))
            repeat' (first|(refine aG ?_;refine pu9 ?_)|refine cM ?_|(refine aA rfl ?_ ?_<;>intro hq<;>try exact no9))
            all_goals
              (refine aV Tryz.results70 (aB rfl) (List.Sublist.refl _) ?_)
              rw [hin]
              exact⟨(bW (show ¬(15:Int)=0 by decide)).symm,hB0⟩
          · repeat' (first|(refine aG ?_;refine pu9 ?_)|refine cM ?_|(refine aA rfl ?_ ?_<;>intro hq<;>try exact no9))
            all_goals
              refine aY _ (t.x.m - (j+1)) ⟨j+1,rfl,rfl,by omega,?_,rfl,rfl⟩ (by omega) bG sl9
              rw [List.take_add_one,hz,List.mem_append]
              rintro (h9|h9)
              · exact hnj h9
              · simp at h9;exact hzi h9.symm
        · obtain rfl:j=t.x.m:=by omega
          rw [List.take_of_length_le (by omega)] at hnj
          repeat' (first|(refine aG ?_;refine pu9 ?_)|refine eT ?_|(refine aA rfl ?_ ?_<;>intro hq<;>try exact no9))
          all_goals
            refine aY _ (5 - (k+1)) ⟨k+1,rfl,rfl,by omega,fun j g t' hj hjt=>?_,rfl,rfl⟩ (by omega) bG sl9
            by_cases hjk:j=k
            · subst hjk;rw [ho] at hjt;injection hjt with hjt;injection hjt with hjt;injection hjt with h8 h9;rw [←h9];exact hnj
            · exact hno j g t' (by omega) hjt
    · obtain rfl:k=5:=by omega
      have hfin:=dropLowerA_ok (hfa▸hf) (by rw [←ea];exact held_not hb5 hno)
      rw [Int.toNat_natCast] at hfin
      repeat' (first|(refine aG ?_;first|(refine aC ?_;(first|(refine aM rfl ⟨Tryz.call139⟩ rfl bD rfl (hG _) ?_;rintro v V2 Pb2 hV2 ⟨rfl,hP2⟩)|(refine aM rfl ⟨Tryz.call127⟩ rfl bD rfl (hCm _ vl9 Pb2) ?_;rintro v V3 B3 hV3 ⟨rfl,D3,rfl,hD3⟩)))|(refine bH ?_;refine aI (cU jV siz_122 rfl rfl rfl hi5) ?_)|(refine cY ?_;refine aP rfl siz_122 rfl rfl rfl rfl (by exact gL rfl) (cF.hereE hset hfit) rfl ?_)|refine pu9 ?_)|refine mV ?_|fail)
      all_goals
        (refine aV Tryz.results70 (aB rfl) (List.Sublist.refl _) ?_)
        rw [hfin]
        exact⟨by rw [mE (dropL h i) (oI (i:Int) a.M) s,habs];rfl,eY.com (m:=m) habs hD3 hP2 (hkd.le (hV2.trans hV3))⟩
  · have hfin:=dropLowerA_bad (hfa▸hf)
    cases hoff:(h.off || s.off) with
    | true =>
      have hfe:=lowF_dead (n:=n) hoff
      rw [hoff] at hDe
      (refine aL Tryz.func70 rfl Tryz.ntmps70 rfl ?_;intro w0)
      repeat' (first|(refine aG ?_;first|(refine aC ?_;(refine aO rfl (dB ⟨Tryz.call71⟩ rfl dZ (hDe _)) ?_))|refine pu9 ?_)|refine bV ?_|fail)
      all_goals
        (refine aV Tryz.results70 (aB rfl) (List.Sublist.refl _) ?_)
        rw [hfin]
        exact⟨(show _=bA (kY a s n) by rw [←hfa,hfe];exact(bW (show ¬(16:Int)=0 by decide)).symm),hB0⟩
    | false =>
      rw [hoff] at hDe
      by_cases hin:0≤n∧n<5
      · obtain⟨o,ho⟩:∃ o,h.lo[n.toNat]?=some o:=⟨_,List.getElem?_eq_getElem (by omega)⟩
        have hc:=hC_lo ho
        have hla:=lowAt_in hin ho
        cases o with
        | some gl=>exact absurd (lowF_some hoff hla) hf
        | none =>
          have hfe:=xC hoff hla
          (refine aL Tryz.func70 rfl Tryz.ntmps70 rfl ?_;intro w0)
          repeat' (first|(refine aG ?_;first|(refine aC ?_;(refine aO rfl (dB ⟨Tryz.call71⟩ rfl dZ (hDe _)) ?_))|(refine bK ?_;refine aI (eH kU rfl) ?_)|(refine bH ?_;refine aI (dM jV siz_122 rfl rfl rfl (by omega) (by omega)) ?_)|(refine dA ?_;refine aI (aX one_122 rfl own_here hc) ?_)|refine pu9 ?_)|refine bV ?_|(refine aJ rfl rfl rfl ?_ ?_<;>intro hq<;>try exact no9))
          all_goals
            (refine aV Tryz.results70 (aB rfl) (List.Sublist.refl _) ?_)
            rw [hfin]
            exact⟨(show _=bA (kY a s n) by rw [←hfa,hfe];exact(bW (show ¬(5:Int)=0 by decide)).symm),hB0⟩
      · have hfe:=xC hoff (lowAt_out hin)
        (refine aL Tryz.func70 rfl Tryz.ntmps70 rfl ?_;intro w0)
        repeat' (first|(refine aG ?_;first|(refine aC ?_;(refine aO rfl (dB ⟨Tryz.call71⟩ rfl dZ (hDe _)) ?_))|refine pu9 ?_)|refine bV ?_|(refine aJ rfl rfl rfl ?_ ?_<;>intro hq<;>try exact no9))
        all_goals
          (refine aV Tryz.results70 (aB rfl) (List.Sublist.refl _) ?_)
          rw [hfin]
          exact⟨(show _=bA (kY a s n) by rw [←hfa,hfe];exact(bW (show ¬(5:Int)=0 by decide)).symm),hB0⟩
end
section
theorem own_put {L:List Box} {g i:Nat} {cs vs:List Value} (h:bF L g cs) (hi:i+vs.length≤cs.length):∃ L',cF L g i vs L'∧bF L' g (spl cs i vs)∧∀ (g':Nat) (cs':List Value),¬g'=g→bF L g' cs'→bF L' g' cs':=by
  obtain⟨t,hm⟩:=h
  obtain⟨X,Y,rfl⟩:=List.append_of_mem hm
  refine⟨X ++ (⟨g,t,spl cs i vs⟩ :: Y),gS (cF.here _ _ _ _ _ _ hi) X,eM own_here,fun g' cs' hg ⟨t',hm'⟩=>?_⟩
  rcases List.mem_append.1 hm' with hx|hx
  · exact⟨t',List.mem_append_left _ hx⟩
  · rcases List.mem_cons.1 hx with hx|hx
    · injection hx with h1;exact absurd h1 hg
    · exact⟨t',List.mem_append_right _ (List.mem_cons_of_mem _ hx)⟩
theorem Bytes_h {V:aE} {p:Nat} {b:BX} {Bs:List Box} (hok:bI b) (h:fE V p b Bs):FnB Tryz.prog 18 [.pointer (some ⟨p,0,none⟩)] V Bs fun v V' Bs'=>v=.string ⟨(eG b).toArray⟩∧Bs'=Bs :=
  (Bytes_b hok h).mono_ fun _ _ _ _ h=>⟨h.2,h.1⟩
theorem box_fewH {b:BX} (h:bI b):(eG b).length≤100000:=by
  have h1:=tO (b.ls.headD pnZ)
  have h2:=(eW h.c).2.2.2.1
  unfold eG credB
  simp only [List.length_append,List.length_cons,List.length_nil,uA,b16_len];omega
theorem DoR.invH {p:Nat} {b:BX} {t:TD} {e:Int} {v:Value} {V:aE} {Bs:List Box} (h:DoR p (b,t,e) v V Bs):∃ (A:Option Addr) (n c:Nat),v=.tuple #[tdV t A n c,bA e]∧cV V A n t.names∧n≤c∧fE V p b Bs:=by
  obtain⟨⟨A,n,c,h1,h2,h3⟩,h4⟩:=h
  exact⟨A,n,c,h1,h2,h3,h4⟩
theorem gJ.ofH {t:TD} {e:Int} {ev:Value} {V V':aE} {A:Option Addr} {n c:Nat} (h:cV V A n t.names) (hv:VLe V V') (hnc:n≤c):gJ (t,e) ev (.tuple #[tdV t A n c,ev]) V':=⟨A,n,c,rfl,h.le hv,hnc⟩
theorem ba_eqH {l m:List UInt8}:((⟨l.toArray⟩:ByteArray)=⟨m.toArray⟩)↔l=m:=by
  constructor
  · intro h;injection h with h;injection h
  · rintro rfl;rfl
theorem sp_doH {a:Box} {X Y:List Box}:SubP (X ++ (a :: Y)) (a :: (X ++ Y)):=sp9
def doneM (h:HM) (k g:Nat) (t:TE):HM:={ h with bx:=h.bx.set k (some (g,t)) }
theorem hC_doneM {h:HM} {k g:Nat} {t t':TE} (hk:h.bx[k]?=some (some (g,t))):hC (doneM h k g t')=hC h:=by
  unfold hC doneM bxV
  simp only [List.map_set]
  have e:(h.bx.map fun o=>ptrV (o.map Prod.fst)).set k (ptrV (Option.map Prod.fst (some (g,t'))))=h.bx.map fun o=>ptrV (o.map Prod.fst):=by
    apply List.ext_getElem?
    intro i
    by_cases hik:k=i
    · subst hik
      have hl:=(List.getElem?_eq_some_iff.1 hk).1
      rw [List.getElem?_set_self (by rw [List.length_map];exact hl),List.getElem?_map,hk];rfl
    · rw [List.getElem?_set_ne hik]
  rw [e]
theorem HOk.doneM {V:aE} {T T':List Box} {h:HM} {k g:Nat} {t t':TE} (hk:HOk V T h) (hb:h.bx[k]?=some (some (g,t))) (ho:bF T' g (teC t')) (ht:TenV V t') (hx:∀ (g':Nat) (cs':List Value),¬g'=g→bF T g' cs'→bF T' g' cs'):HOk V T' (doneM h k g t'):=by
  have hl:=(List.getElem?_eq_some_iff.1 hb).1
  have key:∀ (i g':Nat) (t2:TE),(h.bx.set k (some (g,t')))[i]?=some (some (g',t2))→(i=k∧g'=g∧t2=t')∨(¬i=k∧h.bx[i]?=some (some (g',t2))):=by
    intro i g' t2 e
    by_cases hik:i=k
    · subst hik
      rw [List.getElem?_set_self hl] at e
      injection e with e;injection e with e;injection e with e1 e2
      exact .inl ⟨rfl,e1.symm,e2.symm⟩
    · rw [List.getElem?_set_ne (fun h=>hik h.symm)] at e
      exact .inr ⟨hik,e⟩
  refine⟨hk.l5,by show (h.bx.set k _).length=5;rw [List.length_set];exact hk.b5,hk.lo,fun i g' t2 e=>?_,fun i j g' t2 t3 e1 e2=>?_⟩
  · rcases key i g' t2 e with ⟨_,rfl,rfl⟩|⟨hik,e8⟩
    · exact⟨ho,ht⟩
    · refine⟨hx g' _ (fun eg=>?_) (hk.bx i g' t2 e8).1,(hk.bx i g' t2 e8).2⟩
      subst eg
      exact hik (hk.inj i k g' t2 t e8 hb)
  · rcases key i g' t2 e1 with ⟨h1,h2,_⟩|⟨h1,e7⟩
    · rcases key j g' t3 e2 with ⟨h3,_,_⟩|⟨h3,e8⟩
      · omega
      · subst h2
        exact absurd (hk.inj j k g' t3 t e8 hb) h3
    · rcases key j g' t3 e2 with ⟨h3,h4,_⟩|⟨h3,e8⟩
      · subst h4
        exact absurd (hk.inj i k g' t2 t e7 hb) h1
      · exact hk.inj i j g' t2 t3 e7 e8
section
variable {a : HA} {s : DS} {n : Int} {c : CL} {t : TA}
theorem doA_bad (h:¬iZ a s n=0):doA a s n c=(⟨a,s,iZ a s n,0⟩,tdZ):=by
  unfold doA
  unfold iZ at h ⊢
  split
  · rfl
  · rename_i hd
    rw [if_neg hd] at h
    cases hb:iS a n with
    | none=>rfl
    | some t=>rw [hb] at h;exact absurd rfl h
theorem doA_no (hd:eS a s=false) (ht:iS a n=some t) (h:¬(doP t.b c).2.2=0):doA a s n c=(⟨a,s,(doP t.b c).2.2,0⟩,tdZ):=by
  unfold doA;rw [if_neg (by rw [hd];decide),ht];exact if_pos h
theorem doA_same (hd:eS a s=false) (ht:iS a n=some t) (h:(doP t.b c).2.2=0) (h2:eG (doP t.b c).1=eG t.b):doA a s n c=(⟨a,s,0,0⟩,(doP t.b c).2.1):=by
  unfold doA;rw [if_neg (by rw [hd];decide),ht];exact(if_neg (not_not_intro h)).trans (if_pos h2)
theorem doA_cut (hd:eS a s=false) (ht:iS a n=some t) (h:(doP t.b c).2.2=0) (h2:¬eG (doP t.b c).1=eG t.b) (h3:¬(dF ((jX t).map (· * 64)) 64 (t.seq+1) (eG (doP t.b c).1) s).2=0):doA a s n c=(⟨{ a with off:=true },(dF ((jX t).map (· * 64)) 64 (t.seq+1) (eG (doP t.b c).1) s).1,(dF ((jX t).map (· * 64)) 64 (t.seq+1) (eG (doP t.b c).1) s).2,0⟩,tdZ):=by
  unfold doA;rw [if_neg (by rw [hd];decide),ht];exact(if_neg (not_not_intro h)).trans ((if_neg h2).trans (if_pos h3))
theorem doA_ok (hd:eS a s=false) (ht:iS a n=some t) (h:(doP t.b c).2.2=0) (h2:¬eG (doP t.b c).1=eG t.b) (h3:(dF ((jX t).map (· * 64)) 64 (t.seq+1) (eG (doP t.b c).1) s).2=0):doA a s n c=(⟨doneA a n.toNat t (doP t.b c).1,(dF ((jX t).map (· * 64)) 64 (t.seq+1) (eG (doP t.b c).1) s).1,0,0⟩,(doP t.b c).2.1):=by
  unfold doA;rw [if_neg (by rw [hd];decide),ht];exact(if_neg (not_not_intro h)).trans ((if_neg h2).trans (if_neg (not_not_intro h3)))
end
theorem abs_doneM (h:HM) (M:PM) (k g:Nat) (t:TE):fZ (doneM h k g t) M={ fZ h M with bx:=(fZ h M).bx.set k (some (teA t)) }:=by
  unfold fZ doneM
  simp only [bxA_set];rfl
attribute [local irreducible] AtQ GoC GoL GoW QO QP Fn RV bF aD VLe bU bA
attribute [local irreducible] FnB fE gJ DoR
theorem eY.do_ {V:aE} {p d m K:Nat} {a:HA} {s:DS} {Bs:List Box} (hB:eY V p d m a s Bs) (hi:fI K m a s) (hm:m≤128000) (hK:K≤1000) (n:Int) (c:CL) (hc:yI c) :
    FnB Tryz.prog 65 [.pointer (some ⟨p,0,none⟩),.int .i64 n,clV c] V Bs fun u V' Bs'=>gJ ((doA a s n c).2,(doA a s n c).1.f) (bA (doA a s n c).1.f) u V'∧eY V' p d m (doA a s n c).1.a (doA a s n c).1.s Bs':=by
  have hB0:=hB
  obtain⟨h,D,Pb,T,rfl,rfl,ea,hD,hP,hk⟩:=hB
  have h5:=hk.l5
  have hlen:=hi.len
  have hd:=hi.lim.bd
  have hT:=fun V9=>tenant_c V9 p h s D hD (by omega) h5 hk.b5 n
  have hfa:rP h s n=iZ a s n:=by rw [tenF_abs h a.M,ea]
  by_cases hf:rP h s n=0
  · obtain⟨i,g,t,rfl,hi5,hbi,hta,ho1,ho2⟩:=wJ hf
    rw [tenV_ok hf hta] at hT
    obtain⟨hO,hTV⟩:=hk.bx i g t hbi
    have hok:=hTV.ok
    have hBV:=hTV.b
    have haoff:a.off=false:=by rw [←ea];exact ho1
    have hdA:eS a s=false:=by unfold eS;rw [haoff,ho2];rfl
    have hbA:iS a (i:Int)=some (teA t):=by rw [←ea,bxAt_abs,hta];rfl
    have hbi5:=qI hbA
    have hmem:some (teA t)∈a.bx:=by
      obtain⟨k,_,_,hk9⟩:=hbi5
      exact List.mem_of_getElem? hk9
    have hTok:=(hi.wf haoff).bx _ hmem
    have hq:=hTok.q
    have htu:t.turn=0∨t.turn=1:=hTok.turn
    have hl0:(t.s0.length:Int)=t.x.q+1:=hTok.s0
    have hl1:(t.s1.length:Int)=t.x.q+1:=hTok.s1
    have hq:1≤t.x.q∧t.x.q≤64:=hq
    have hsq:0≤t.seq∧t.seq≤K+1:=hi.lim.ten _ hmem
    have hmo:MapsOk t.b:=by
      obtain⟨ls,_,hcf,hin⟩:=hTok.cfg
      obtain⟨_,c2,c3,_⟩:=qL hcf
      have e1:t.b.us=(cfA t.x).cf.M.us:=hin.us
      have e2:t.b.gs=(cfA t.x).cf.M.gs:=hin.gs
      exact⟨by rw [e1];exact c2,by rw [e2];exact c3⟩
    have hCp:=fun V9 (h9:VLe V V9)=>Copy_bx V9 t.p t.b t.I hok hmo (hBV.le h9)
    have hByO:=fun V9 (h9:VLe V V9)=>Bytes_v V9 t.p t.b t.I hok (hBV.le h9)
    have g1:=good_do hok c
    have hDo:=fun (pc:Nat) (B2:List Box) (V2:aE) (hX:fE V2 pc t.b B2)=>Do_c V2 pc t.b B2 hok hX c hc
    have r1:=doA_no (c:=c) hdA hbA
    have r2:=doA_same (c:=c) hdA hbA
    have r3:=doA_cut (c:=c) hdA hbA
    have r4:=doA_ok (c:=c) hdA hbA
    have eb:(teA t).b=t.b:=rfl
    rw [eb] at r1 r2 r3 r4
    rw [Int.toNat_natCast] at r4
    generalize doP t.b c=r at *
    obtain⟨rb,rt,re⟩:=r
    dsimp only at r1 r2 r3 r4
    have okr:bI rb:=g1.ok
    clear g1
    have hb0:0+1+[Value.bool true].length≤(hC h).length:=by unfold hC;simp only [List.length_cons,List.length_nil];omega
    have hsetO:spl (hC h) (0+1) [Value.bool true]=hC { h with off:=true }:=rfl
    (refine aL Tryz.func65 rfl Tryz.ntmps65 rfl ?_;intro w0)
    repeat' (first|(refine aG ?_;first|(refine aC ?_;(first|(refine aO rfl (dB ⟨Tryz.call63⟩ rfl (cT (cT dZ)) (hT _)) ?_)|(refine aM rfl ⟨Tryz.call131⟩ rfl eL rfl (hCp _ vl9) ?_;rintro v V2 B2 hV2 ⟨pc,rfl,hB2⟩)|(refine aM rfl ⟨Tryz.call13⟩ rfl bD rfl (hDo pc B2 _ (hB2.le vl9)) ?_;rintro v V3 B3 hV3 hR3;obtain⟨A3,n3,c3,rfl,hS3,hnc3,hB3⟩:=DoR.invH hR3)))|(refine dA ?_;refine aI (aX one_35 rfl (by repeat (first|exact hO|apply cG|apply eM)) (by exact rfl)) ?_)|refine st9 ?_|(refine al9 ?_;intro γ)|refine pu9 ?_)|refine nO ?_|refine iR [0,1,2,4,5] rfl ?_)
    by_cases hre:re=0
    · subst hre
      replace r2:=r2 rfl
      replace r3:=r3 rfl
      replace r4:=r4 rfl
      clear r1
      by_cases hbe:eG rb=eG t.b
      · have hbe':(⟨(eG rb).toArray⟩:ByteArray)=⟨(eG t.b).toArray⟩:=ba_eqH.2 hbe
        replace r2:=r2 hbe
        repeat' (first|(refine aG ?_;first|(refine aC ?_;(first|refine aO rfl (dB ⟨Tryz.call18⟩ rfl bD (Bytes_h okr (hB3.le vl9))) ?_|refine aO rfl (aK ⟨Tryz.call18⟩ rfl (hByO _ vl9)) ?_))|(refine bK ?_;(refine aI (q_seql rfl rfl) ?_;rw [decide_eq_true hbe']))|(refine dA ?_;refine aI (aX one_35 rfl (by repeat (first|exact hO|apply cG|apply eM)) (by exact rfl)) ?_)|refine st9 ?_|refine pu9 ?_)|refine bV ?_|fail)
        all_goals
          (refine bJ Tryz.results65 (aU agg_42 rfl bN (by exact rfl)) (aB rfl) (show List.Sublist (⟨p,127,hC h⟩ :: (D ++ (Pb ++ T))) _ from cC) ?_)
          rw [r2]
          exact⟨by rw [bO];exact gJ.ofH hS3 vl9 hnc3,hB0.le vl9⟩
      · have hbe':¬(⟨(eG rb).toArray⟩:ByteArray)=⟨(eG t.b).toArray⟩:=fun h9=>hbe (ba_eqH.1 h9)
        replace r3:=r3 hbe
        replace r4:=r4 hbe
        repeat' (first|(refine aG ?_;first|(refine aC ?_;(first|refine aO rfl (dB ⟨Tryz.call18⟩ rfl bD (Bytes_h okr (hB3.le vl9))) ?_|refine aO rfl (aK ⟨Tryz.call18⟩ rfl (hByO _ vl9)) ?_))|(refine bK ?_;(refine aI (q_seql rfl rfl) ?_;rw [decide_eq_false hbe']))|(refine dA ?_;(first|refine aI (aX one_3 rfl (by repeat (first|exact hO|apply cG|apply eM)) (by exact rfl)) ?_|refine aI (aX one_35 rfl (by repeat (first|exact hO|apply cG|apply eM)) (by exact rfl)) ?_))|refine pu9 ?_)|refine bV ?_|fail)
        refine gc_order sp_doH ?_
        refine gc_boxvG okr (hB3.le vl9) ?_ ?_
        · intro x9 hx9;exact List.mem_cons_of_mem _ (List.mem_cons_of_mem _ (List.mem_cons_of_mem _ hx9))
        intro V8 I8 hV8 hBV8
        obtain⟨Aq,nq,cq,hcell,hIq,hnq⟩:∃ (Aq:Option Addr) (nq cq:Nat),(teC t)[0+9+(1 - t.turn).toNat * 1]?=some (.slice Aq nq cq)∧eD V Aq nq (jX (teA t))∧(0<nq∧nq≤1000):=by
          rcases htu with e|e
          · refine⟨t.B,t.m,t.e,by rw [e];rfl,by unfold jX;rw [show (teA t).turn=0 from e,if_pos rfl];exact hTV.s1,?_⟩
            have:=hTV.s1.1;have:=hTV.few;omega
          · refine⟨t.A,t.n,t.c,by rw [e];rfl,by unfold jX;rw [show (teA t).turn=1 from e,if_neg (by decide)];exact hTV.s0,?_⟩
            have:=hTV.s0.1;have:=hTV.few;omega
        have hbk:blkOk (jX (teA t)):=by
          unfold jX
          split
          · exact hTV.n1
          · exact hTV.n0
        have eseq:(teA t).seq=t.seq:=rfl
        rw [eseq] at r3 r4
        have hbf:=box_fewH okr
        generalize jX (teA t)=sl at *
        have hPl:=fun V9 (h9:VLe V V9)=>hplaces_c V9 Aq nq cq sl (hIq.le h9) (fun z hz=>by have:=hbk z hz;omega) (by omega)
        have hSp:=fun V9 A c (h9:eD V9 A nq (sl.map (· * 64)))=>spread_c V9 p h.d (hC h).tail s D hD hd (by omega) (by omega) A nq c _ h9 (fun z hz=>by obtain⟨y,hy,rfl⟩:=List.mem_map.1 hz;have:=hbk y hy;omega) hnq 64 (by decide) (t.seq+1) (by omega) (eG rb) (by omega)
        generalize dF (sl.map (· * 64)) 64 (t.seq+1) (eG rb) s=r9 at *
        refine bT (id:=12) _ mixed (List.Sublist.cons _ (List.Sublist.cons _ (List.Sublist.cons _ (List.Sublist.cons _ ((List.sublist_append_right _ _).trans (List.sublist_append_right _ _)))))) ?_;refine gt9 0 ?_;refine gt9 1 ?_;refine gt9 2 ?_;refine gt9 3 ?_;refine gt9 4 ?_;refine gO 5 rfl rfl (dM uE siz_25 rfl rfl rfl (by omega) (by omega)) ?_;refine gO 6 rfl rfl (aX one_25 rfl hO hcell) ?_;refine gt9 8 ?_;refine gt9 9 ?_;refine gt9 10 ?_;refine gO 11 rfl rfl (aX one_3 rfl hO (by exact rfl)) ?_;refine gt9 12 ?_;refine gt9 13 ?_;refine bM (i:=7) rfl ?_;(refine aS rfl ⟨Tryz.call133⟩ rfl rfl (hPl _ vl9) ?_;rintro v V11 hV11 ⟨A10,c10,rfl,hI10⟩);refine bM (i:=14) rfl ?_;(refine aM rfl ⟨Tryz.call132⟩ rfl (cT (cT (cT dZ))) rfl (hSp _ _ _ hI10) ?_;rintro v V12 B12 hV12 ⟨rfl,D2,rfl,hD2⟩;simp only [List.cons_append]);refine gt9 15 ?_;refine bC (by kernel_rfl) vl9 vl9 cC ?_
        have hV8V:VLe V V8:=vl9
        by_cases hz2:r9.2=0
        · replace r4:=r4 hz2
          have hnn:0+8+[Value.pointer (some ⟨pc,0,none⟩)].length≤(teC t).length:=by show 9≤13;decide
          obtain⟨T1,P1,O1,X1⟩:=own_put (i:=0+8) (vs:=[.pointer (some ⟨pc,0,none⟩)]) hO hnn
          obtain⟨T2,P2,O2,X2⟩:=own_put (i:=0+11) (vs:=[.int .i64 (1 - t.turn)]) O1 (by show 12≤13;decide)
          obtain⟨T3,P3,O3,X3⟩:=own_put (i:=0+12) (vs:=[.int .i64 (t.seq+1)]) O2 (by show 13≤13;decide)
          have hcs:(spl (spl (teC t) (0+8) [.pointer (some ⟨pc,0,none⟩)]) (0+11) [.int .i64 (1 - t.turn)])[0+12]?=some (.int .i64 t.seq):=rfl
          repeat' (first|(refine aG ?_;first|(refine cY ?_;(first|refine aP rfl siz_3 rfl rfl rfl rfl (by exact gL rfl) (cF.next _ _ _ _ _ _ (cF.next _ _ _ _ _ _ (cF.next _ _ _ _ _ _ (cF.next _ _ _ _ _ _ (gS (gS P3 _) _))))) rfl ?_|refine aP rfl siz_3 rfl rfl rfl rfl (by exact gL rfl) (cF.next _ _ _ _ _ _ (cF.next _ _ _ _ _ _ (cF.next _ _ _ _ _ _ (cF.next _ _ _ _ _ _ (gS (gS P2 _) _))))) rfl ?_|refine aP rfl siz_35 rfl rfl rfl rfl (by exact gL rfl) (cF.next _ _ _ _ _ _ (cF.next _ _ _ _ _ _ (cF.next _ _ _ _ _ _ (cF.next _ _ _ _ _ _ (gS (gS P1 _) _))))) rfl ?_))|(refine dA ?_;refine aI (aX one_3 rfl (cG (cG (cG (cG (eM (eM O2)))))) hcs) ?_)|refine st9 ?_|refine pu9 ?_)|refine bS ?_|(refine aA rfl ?_ ?_<;>intro hq<;>try exact no9))
          all_goals
            (refine bJ Tryz.results65 (aU agg_42 rfl bN (by exact rfl)) (aB rfl) (show List.Sublist (⟨p,127,hC h⟩ :: (D2 ++ (Pb ++ T3))) _ from cC) ?_)
            rw [r4]
            have hVe:VLe V8 V12:=vl9
            exact⟨by rw [bO];exact gJ.ofH hS3 vl9 hnc3,doneM h i g { t with p:=pc,b:=rb,I:=I8,turn:=1 - t.turn,seq:=t.seq+1 },D2,Pb,T3,by rw [hC_doneM hbi],rfl,(show fZ (doneM h i g _) a.M=doneA a i (teA t) rb by rw [abs_doneM,ea];rfl),hD2,hP,(hk.le (hV8V.trans hVe)).doneM hbi O3 ⟨(hTV.le (hV8V.trans hVe)).x,hTV.cf,okr,hBV8.le hVe,(hTV.le (hV8V.trans hVe)).s0,(hTV.le (hV8V.trans hVe)).s1,hTV.n0,hTV.n1,hTV.few⟩ fun g' cs' hg ho=>X3 g' cs' hg (X2 g' cs' hg (X1 g' cs' hg ho))⟩
        · replace r3:=r3 hz2
          repeat' (first|(refine aG ?_;first|(refine cY ?_;refine aP rfl siz_4 rfl rfl rfl rfl (by exact gL rfl) (cF.next _ _ _ _ _ _ (cF.next _ _ _ _ _ _ (cF.next _ _ _ _ _ _ (cF.hereE hsetO hb0)))) rfl ?_)|refine st9 ?_|refine pu9 ?_)|refine bS ?_|(refine aA rfl ?_ ?_<;>intro hq<;>try exact no9))
          all_goals
            (refine bJ Tryz.results65 (aU agg_42 rfl bN (by exact rfl)) (aB rfl) (show List.Sublist (⟨p,127,hC { h with off:=true }⟩ :: (D2 ++ (Pb ++ T))) _ from cC) ?_)
            rw [r3]
            exact⟨gJ.ofH cV.nil (VLe.refl _) (Nat.le_refl _),{ h with off:=true },D2,Pb,T,rfl,rfl,by rw [←ea];rfl,hD2,hP,(hk.le vl9).same rfl rfl⟩
    · replace r1:=r1 hre
      repeat' (first|(refine aG ?_;first|refine st9 ?_|refine pu9 ?_)|refine bS ?_|(refine aA rfl ?_ ?_<;>intro hq<;>try exact no9))
      all_goals
        (refine bJ Tryz.results65 (aU agg_42 rfl bN (by exact rfl)) (aB rfl) (show List.Sublist (⟨p,127,hC h⟩ :: (D ++ (Pb ++ T))) _ from cC) ?_)
        rw [r1]
        exact⟨gJ.ofH cV.nil (VLe.refl _) (Nat.le_refl _),hB0.le vl9⟩
  · rw [tenV_bad rfl hf] at hT
    have hfin:=doA_bad (c:=c) (hfa▸hf)
    (refine aL Tryz.func65 rfl Tryz.ntmps65 rfl ?_;intro w0)
    repeat' (first|(refine aG ?_;first|(refine aC ?_;(refine aO rfl (dB ⟨Tryz.call63⟩ rfl (cT (cT dZ)) (hT _)) ?_))|refine st9 ?_|(refine al9 ?_;intro γ)|refine pu9 ?_)|refine bS ?_|(refine aA rfl ?_ ?_<;>intro hq<;>try exact no9))
    all_goals
      (refine bJ Tryz.results65 (aU agg_42 rfl bN (by exact rfl)) (aB rfl) (List.Sublist.cons _ (List.Sublist.cons _ (List.Sublist.refl _))) ?_)
      rw [hfin]
      exact⟨by rw [hfa];exact gJ.ofH cV.nil (VLe.refl _) (Nat.le_refl _),hB0⟩
end
section
section
variable {a : HA} {s : DS} {n : PN}
theorem addLowerA_dead (hd:eS a s=true):dS a s n=⟨a,s,16,0⟩:=if_pos hd
theorem addLowerA_tree (hd:eS a s=false) (hc:¬dD false n=0):dS a s n=⟨a,s,dD false n,0⟩:=(if_neg (by rw [hd];decide)).trans (if_pos hc)
theorem addLowerA_many (hd:eS a s=false) (hc:dD false n=0) (hf:aW a.lo=5):dS a s n=⟨a,s,2,0⟩:=(if_neg (by rw [hd];decide)).trans ((if_neg (not_not_intro hc)).trans (if_pos hf))
theorem addLowerA_take (hd:eS a s=false) (hc:dD false n=0) (hf:¬aW a.lo=5) (ht:¬gA (gU s) a.M (aW a.lo:Int) (bB n)=0):dS a s n=⟨a,s,gA (gU s) a.M (aW a.lo:Int) (bB n),0⟩:=(if_neg (by rw [hd];decide)).trans ((if_neg (not_not_intro hc)).trans ((if_neg hf).trans (if_pos ht)))
theorem addLowerA_put (hd:eS a s=false) (hc:dD false n=0) (hf:¬aW a.lo=5) (ht:gA (gU s) a.M (aW a.lo:Int) (bB n)=0):dS a s n=putLA { a with M:=fO (gU s) a.M (aW a.lo:Int) (bB n) } s (aW a.lo) (uZ a s n):=(if_neg (by rw [hd];decide)).trans ((if_neg (not_not_intro hc)).trans ((if_neg hf).trans (if_neg (not_not_intro ht))))
theorem putLA_1 {k:Nat} {l:LA} (h:¬(oG (eE l.n) (l.bl.map (· * 64)) 0 s).2=0):putLA a s k l=⟨{ a with off:=true },(oG (eE l.n) (l.bl.map (· * 64)) 0 s).1,(oG (eE l.n) (l.bl.map (· * 64)) 0 s).2,0⟩:=if_pos h
theorem putLA_2 {k:Nat} {l:LA} (h:(oG (eE l.n) (l.bl.map (· * 64)) 0 s).2=0):putLA a s k l=rK { a with lo:=a.lo.set k (some l) } (oG (eE l.n) (l.bl.map (· * 64)) 0 s).1 k:=if_neg (not_not_intro h)
end
theorem layD_bad {all:List UInt8} {p:Int} {ps:List Int} {i:Nat} {s:DS} (h:¬cZ s p (iF 64 all i)=0):oG all (p :: ps) i s=(cD s p (iF 64 all i),cZ s p (iF 64 all i)):=if_pos h
theorem layD_on {all:List UInt8} {p:Int} {ps:List Int} {i:Nat} {s:DS} (h:cZ s p (iF 64 all i)=0):oG all (p :: ps) i s=oG all ps (i+1) (cD s p (iF 64 all i)):=if_neg (not_not_intro h)
def addL (h:HM) (k g:Nat) (l:LW):HM:={ h with lo:=h.lo.set k (some (g,l)) }
theorem abs_addL (h:HM) (M M':PM) (k g:Nat) (l:LW):fZ (addL h k g l) M'={ fZ h M with lo:=(fZ h M).lo.set k (some (lwA l)),M:=M' }:=by
  unfold fZ addL
  simp only [loA_set];rfl
theorem hC_addL {h:HM} {k g:Nat} {l:LW} (hk:k<5) (h5:h.lo.length=5):spl (hC h) (0+5+k * 1) [.pointer (some ⟨g,0,none⟩)]=hC (addL h k g l):=by
  rw [setL,show 0+5+k * 1=k+1+1+1+1+1 by omega]
  unfold hC addL
  simp only [List.set_cons_succ]
  rw [List.set_append_left _ _ (by unfold loV;rw [List.length_map];omega)]
  unfold loV
  rw [List.map_set]
  rfl
theorem HOk.addL {V:aE} {T:List Box} {h:HM} {k g:Nat} {l:LW} (hk:HOk V T h) (hl:LowV V g l) (hk5:k<5):HOk V T (addL h k g l):=by
  have h5:=hk.l5
  refine⟨by show (h.lo.set k _).length=5;rw [List.length_set];exact h5,hk.b5,fun i g' l' e9=>?_,hk.bx,hk.inj⟩
  have e9:(h.lo.set k (some (g,l)))[i]?=some (some (g',l')):=e9
  by_cases hik:i=k
  · subst hik
    rw [List.getElem?_set_self (by omega)] at e9
    injection e9 with e9;injection e9 with e9;injection e9 with e91 e92
    subst e91;subst e92
    exact hl
  · rw [List.getElem?_set_ne (by omega)] at e9
    exact hk.lo i g' l' e9
attribute [local irreducible] AtQ GoC GoL GoW QO QP Fn RV bF aD VLe bU bA
attribute [local irreducible] FnB
theorem eY.addLower {V:aE} {p d m K:Nat} {a:HA} {s:DS} {Bs:List Box} (hB:eY V p d m a s Bs) (hi:fI K m a s) (hm:m≤128000) (h12:12800≤m) (hK:K≤1000) (x:LN) (hx:aT V x) :
    FnB Tryz.prog 68 [.pointer (some ⟨p,0,none⟩),lnV x] V Bs fun u V' Bs'=>u=.tuple #[.int .i64 (dS a s x.n).n,bA (dS a s x.n).f]∧eY V' p d m (dS a s x.n).a (dS a s x.n).s Bs':=by
  have hB0:=hB
  obtain⟨h,D,Pb,T,rfl,rfl,ea,hD,hP,hk⟩:=hB
  have h5:=hk.l5
  have hb5:=hk.b5
  have hlen:=hi.len
  obtain⟨kk,hI⟩:=hi.lim.pl
  have ht9:=hi.lim.turn2
  have hs9:=hi.lim.seq
  have hd:=hi.lim.bd
  have e1:a.turn=h.turn:=by rw [←ea];rfl
  have e2:a.seq=h.seq:=by rw [←ea];rfl
  have ht:0≤h.turn∧h.turn≤1:=by omega
  have hs:0≤h.seq∧h.seq≤900000000:=by omega
  obtain⟨W,hWK,hW⟩:∃ W,W=K * 100000∧W≤100000000:=⟨_,rfl,by omega⟩
  rw [←hWK] at hd
  clear hWK
  obtain⟨gp,hPg⟩:=hP.g
  have hDe:=fun V9=>dead_c V9 p h s D hD (by omega)
  have hdA:eS a s=(h.off || s.off):=by rw [←ea];rfl
  have hfA:aW a.lo=aW h.lo:=by rw [←first_loA h,←ea];rfl
  have hrm:=hi.room
  have hbn:=sD x.n
  have hby:=tO x.n
  have hCk:=fun V9 (h9:VLe V V9)=>TCheck_c V9 x (hx.le h9) false
  have hBl:=fun V9 (h9:VLe V V9)=>sY V9 x (hx.le h9)
  obtain⟨e,he⟩:=Int.eq_ofNat_of_zero_le hbn.1
  have hel:(e:Int)=(((eE x.n).length:Int)+63) / 64:=by rw [←he];rfl
  generalize hrr:(m:Int) / 64 - 200=room at *
  cases hoff:(h.off || s.off) with
  | true =>
    have hfin:=addLowerA_dead (n:=x.n) (hdA.trans hoff)
    rw [hoff] at hDe
    (refine aL Tryz.func68 rfl Tryz.ntmps68 rfl ?_;intro w0)
    repeat' (first|(refine aG ?_;first|(refine aC ?_;(first|refine aI (pC rfl rfl rfl) ?_|(refine aO rfl (dB ⟨Tryz.call71⟩ rfl (cT dZ) (hDe _)) ?_)))|(refine al9 ?_;intro γ)|refine pu9 ?_)|refine bV ?_|fail)
    all_goals
      (refine bJ Tryz.results68 (aB rfl) (aB rfl) (List.Sublist.cons _ (List.Sublist.refl _)) ?_)
      rw [hfin]
      exact⟨congrArg (fun e=>Value.tuple #[.int .i64 0,e]) (bW (show ¬(16:Int)=0 by decide)).symm,hB0⟩
  | false =>
  have hdA:=hdA.trans hoff
  have haoff:a.off=false:=(qV (by rw [hdA];decide)).1
  rw [hoff] at hDe
  by_cases hc:dD false x.n=0
  · rw [hc] at hCk
    (refine aL Tryz.func68 rfl Tryz.ntmps68 rfl ?_;intro w0)
    repeat' (first|(refine aG ?_;first|(refine aC ?_;(first|(refine aO rfl (dB ⟨Tryz.call71⟩ rfl (cT dZ) (hDe _)) ?_)|refine aO rfl (aK ⟨Tryz.call16⟩ rfl (hCk _ vl9)) ?_))|(refine al9 ?_;intro γ)|refine pu9 ?_)|refine bV ?_|fail)
    revert γ;intro γ3
    refine cS ?_
    refine bZ (fun F V' L' m'=>∃ (k:Nat),V=V'∧(⟨γ3,50,lnC x⟩ :: ⟨p,127,hC h⟩ :: (D ++ (Pb ++ T)):List Box)=L'∧k≤5∧aW h.lo=aW (h.lo.drop k)+k∧m'=5 - k∧F=[(0,.pointer (some ⟨p,0,none⟩)),(3,.pointer (some ⟨γ3,0,none⟩)),(7,.int .i64 k)]) (m:=5) ⟨0,rfl,rfl,by omega,rfl,rfl,rfl⟩ bG rfl sl9 ?_
    rintro F V' L' m' ⟨k,rfl,rfl,hk5,hkf,rfl,rfl⟩
    by_cases hlt:k<5
    · obtain⟨o,ho⟩:∃ o,h.lo[k]?=some o:=⟨_,List.getElem?_eq_getElem (by omega)⟩
      have hcl:=hC_lo ho
      cases o with
      | some gl =>
        repeat' (first|(refine aG ?_;first|(refine dA ?_;refine aI (aX one_122 rfl (cG own_here) hcl) ?_)|(refine bK ?_;refine aI (fR kU rfl) ?_)|(refine bH ?_;refine aI (cU jV siz_122 rfl rfl rfl hlt) ?_)|refine pu9 ?_)|refine dL ?_|(refine aJ rfl rfl rfl ?_ ?_<;>intro hq<;>try exact no9))
        all_goals
          refine aY _ (5 - (k+1)) ⟨k+1,rfl,rfl,by omega,by rw [hkf,firstN_some ho];omega,rfl,rfl⟩ (by omega) bG sl9
      | none =>
        have hfk:aW h.lo=k:=by rw [hkf,firstN_none ho];omega
        have hTk:=fun V9=>PTake_g V9 h.q gp room a.M Pb hPg hI (k:Int) (bB x.n)
        have hfree:=fun h8=>addLo_free (n:=x.n) hi haoff (by omega:¬aW a.lo=5) h8
        rw [hfA,hfk,hrm,hlen,he,Int.toNat_natCast,←ea,←used_abs h a.M,ea] at hfree
        repeat' (first|(refine aG ?_;first|(refine dA ?_;refine aI (aX one_122 rfl (cG own_here) hcl) ?_)|(refine bK ?_;refine aI (fR kU rfl) ?_)|(refine bH ?_;refine aI (cU jV siz_122 rfl rfl rfl hlt) ?_)|refine pu9 ?_)|refine mV ?_|(refine aJ rfl rfl rfl ?_ ?_<;>intro hq<;>try exact no9)|(refine aA rfl ?_ ?_<;>intro hq<;>try exact no9))
        refine bT (id:=11) _ mixed (List.Sublist.cons_cons _ (List.Sublist.cons_cons _ (List.nil_sublist _))) ?_;refine gt9 0 ?_;refine gt9 1 ?_;refine gt9 2 ?_;refine gt9 3 ?_;refine gt9 4 ?_;refine gt9 5 ?_;refine bM (i:=6) rfl ?_;(first|refine aO rfl (aK ⟨Tryz.call17⟩ rfl (hBl _ vl9)) ?_|(refine aM rfl ⟨Tryz.call135⟩ rfl bD rfl (hTk _) ?_;rintro v V4 Pb2 hV4 ⟨rfl,hPg2⟩));refine bM (i:=7) rfl ?_;(first|refine aO rfl (aK ⟨Tryz.call17⟩ rfl (hBl _ vl9)) ?_|(refine aM rfl ⟨Tryz.call135⟩ rfl bD rfl (hTk _) ?_;rintro v V4 Pb2 hV4 ⟨rfl,hPg2⟩));refine gt9 8 ?_;refine bC (by kernel_rfl) vl9 vl9 cC ?_
        have hids:=hPg.ids hPg2
        by_cases hf:gA room a.M (k:Int) (bB x.n)=0
        · have hfr:=hfree (by rw [←he];exact hf)
          have hput:=addLowerA_put (n:=x.n) hdA hc (by omega:¬aW a.lo=5) (by rw [hfA,hfk,hrm];exact hf)
          rw [hfA,hfk,hrm] at hput
          have hputx:({ a with M:=fO room a.M (k:Int) (bB x.n) }:HA)=fZ h (fO room a.M (k:Int) (bB x.n)):=by rw [←ea];rfl
          rw [hputx] at hput
          have hO:=fun V9 (h9:VLe V V9)=>xO V9 x (hx.le h9) (tree_small hc)
          have hBe:=hBl
          rw [he] at hBe
          have hBy:=fun V9 (h9:VLe V V9)=>Bytes_tc V9 x (hx.le h9)
          have hFr:=fun V9 (h9:VLe V V9)=>free_c V9 p h s D (Pb2 ++ T) hD (by omega) ⟨h5,hb5,fun i g l e=>((hk.lo i g l e).le h9),fun i g t e=>⟨eM (hk.bx i g t e).1,(hk.bx i g t e).2.le h9⟩,hk.inj⟩ e (by omega)
          rw [hlen] at hFr
          have hnew:uZ a s x.n=⟨x.n,jA (wA h) e (m / 64)⟩:=by unfold uZ;rw [←ea,←used_abs h a.M,hlen,he,Int.toNat_natCast]
          rw [hnew] at hput
          have hmf:=fun z (hz:z∈jA (wA h) e (m / 64))=>nP hz
          generalize hfp:jA (wA h) e (m / 64)=fl at *
          rw [hf]
          have hmem:∀ x9∈iG (⟨p,127,hC h⟩ :: (D ++ (Pb ++ T))),x9∈(⟨p,127,hC h⟩ :: (D ++ (Pb2 ++ T)):List Box).map Box.g:=by
            intro x9 hx9
            have e9:iG (⟨p,127,hC h⟩ :: (D ++ (Pb ++ T)))=(⟨p,127,hC h⟩ :: (D ++ (Pb2 ++ T)):List Box).map Box.g:=by
              simp only [iG,List.map_cons,List.map_append,hids]
            rw [←e9];exact hx9
          repeat' (first|(refine aG ?_;refine pu9 ?_)|refine bV ?_|fail)
          refine eK (fun F V' L'=>∃ (γl:Nat) (y:LN) (A5:Option Addr) (c5:Nat),VLe V V'∧y.n=x.n∧aT V' y∧e≤c5∧eD V' A5 e fl∧(⟨γl,140,lnC y ++ [.slice A5 e c5]⟩ :: ⟨γ3,50,lnC x⟩ :: ⟨p,127,hC h⟩ :: (D ++ (Pb2 ++ T)):List Box)=L'∧F=[(0,.pointer (some ⟨p,0,none⟩)),(3,.pointer (some ⟨γ3,0,none⟩)),(7,.int .i64 k),(8,.pointer (some ⟨γl,0,none⟩))]) ?_ ?_
          · refine bT (id:=14) _ mixed (List.Sublist.cons_cons _ (List.nil_sublist _)) ?_;refine gt9 0 ?_;refine gt9 2 ?_;refine gt9 3 ?_;refine bM (i:=1) rfl ?_;(refine aS rfl ⟨Tryz.call39⟩ rfl rfl (hO _ vl9) ?_;rintro v V5 hV5 ⟨y,rfl,hyn,hyN⟩);refine bM (i:=4) rfl ?_;refine aO rfl (aK ⟨Tryz.call17⟩ rfl (hBe _ vl9)) ?_;refine bM (i:=5) rfl ?_;(refine aM rfl ⟨Tryz.call137⟩ rfl (cT lG) rfl (hFr _ vl9) ?_;rintro v V6 B6 hV6 ⟨⟨A5,n5,c5,rfl,hnc5,hI5⟩,rfl⟩;obtain rfl:n5=e:=by rw [←hI5.1];exact hfr);refine gt9 6 ?_;refine bM (i:=7) rfl ?_;(refine gw_box rfl rfl rfl rfl ?_;intro γ);refine gt9 8 ?_;refine bC (by kernel_rfl) vl9 vl9 cC ?_
            all_goals exact dO _ ⟨γ,y,A5,c5,vl9,hyn,hyN.le vl9,hnc5,hI5.le vl9,rfl,rfl⟩ bG sl9
          rintro F V6 L' ⟨γl,y,A5,c5,hV6,hyn,hyN,hc5,hI5,rfl,rfl⟩
          refine at_retireG (gB.here _ _ _ _) ?_ ?_
          · intro x9 hx9;exact List.mem_cons_of_mem _ (hmem x9 hx9)
          intro V7 hV7 hcl7
          have hV07:VLe V V7:=hV6.trans hV7
          have hI7:=hI5.le hV7
          have hLow:LowV V7 γl ⟨y,A5,e,c5,fl⟩:=⟨hcl7,hyN.le hV7,by rw [hyn];exact hc,hI7,fun z hz=>by have:=hmf z hz;omega,by show e≤2000;omega⟩
          have hblk:=hLow.blk
          have hPl:=fun V9 (h9:VLe V7 V9)=>hplaces_c V9 A5 e c5 fl (hI7.le h9) (fun z hz=>by have:=hmf z hz;omega) (by omega)
          have hll:fl.length=e:=hI5.1
          repeat' (first|(refine aG ?_;first|(refine aC ?_;(first|refine aO rfl (aK ⟨Tryz.call55⟩ rfl (hBy _ vl9)) ?_|(refine aS rfl ⟨Tryz.call133⟩ rfl rfl (hPl _ vl9) ?_;rintro v V8 hV8 ⟨A10,c10,rfl,hI10⟩)))|refine pu9 ?_)|refine bS ?_|fail)
          have hbnd:∀ z∈fl.map (fun z:Int=>z * 64),0≤z∧z≤1000000:=by
            intro z hz
            obtain⟨y,hy,rfl⟩:=List.mem_map.1 hz
            have:=hmf y hy
            omega
          have hml:(fl.map (fun z:Int=>z * 64)).length=e:=by rw [List.length_map];exact hll
          have hp1:=putLA_1 (a:=fZ h (fO room a.M (k:Int) (bB x.n))) (s:=s) (k:=k) (l:=⟨x.n,fl⟩)
          have hp2:=putLA_2 (a:=fZ h (fO room a.M (k:Int) (bB x.n))) (s:=s) (k:=k) (l:=⟨x.n,fl⟩)
          dsimp only at hp1 hp2
          generalize hps:fl.map (fun z:Int=>z * 64)=ps at *
          generalize hall:eE x.n=all at *
          have haz:(⟨all.toArray⟩:ByteArray).size=all.length:=rfl
          have hb0:0+1+[Value.bool true].length≤(hC h).length:=by unfold hC;simp only [List.length_cons,List.length_nil];omega
          have hsetO:spl (hC h) (0+1) [Value.bool true]=hC { h with off:=true }:=rfl
          have hV08:VLe V V8:=hV07.trans hV8
          refine cS ?_
          refine bZ (fun F V' L' m'=>∃ (j:Nat) (st:DS) (Dj:List Box),VLe V8 V'∧(⟨γ3,50,lnC x⟩ :: ⟨p,127,hC h⟩ :: (Dj ++ (Pb2 ++ T)):List Box)=L'∧gC h.d st Dj∧hBd m (W+j * 64) st∧j≤e∧oG all (ps.drop j) j st=oG all ps 0 s∧m'=e - j∧F=[(0,.pointer (some ⟨p,0,none⟩)),(7,.int .i64 k),(8,.pointer (some ⟨γl,0,none⟩)),(9,.string ⟨all.toArray⟩),(65,.slice A10 e c10),(66,.int .i64 e),(67,.int .i64 j)]) (m:=e) ⟨0,s,D,vl9,rfl,hD,by rw [Nat.zero_mul];exact hd,by omega,rfl,rfl,rfl⟩ bG rfl sl9 ?_
          rintro F V' L' m' ⟨j,st,Dj,hVj,rfl,hDj,hdj,hj,hK9,rfl,rfl⟩
          by_cases hje:j<e
          · obtain⟨b,o,z,hA,hz,hcz⟩:=(hI10.le hVj).at_ hje
            obtain⟨y1,y2⟩:=hbnd z (List.mem_of_getElem? hz)
            obtain⟨hkl,hzg⟩:=List.getElem?_eq_some_iff.1 hz
            have hdr:ps.drop j=z :: ps.drop (j+1):=by rw [List.drop_eq_getElem_cons hkl,hzg]
            rw [hdr] at hK9
            rw [hA]
            have hpart:(all.drop ((j:Int) * 64).toNat).take ((min ((all.length:Nat):Int) ((j:Int) * 64+64)).toNat - ((j:Int) * 64).toNat)=iF 64 all j:=by
              rw [show ((j:Int) * 64).toNat=j * 64 by omega,show (min ((all.length:Nat):Int) ((j:Int) * 64+64)).toNat=min all.length (j * 64+64) by omega]
              exact part_min
            have hpl:=pL (size:=64) (i:=j) (all:=all)
            have hwj:=fun V9=>pG V9 h.d st Dj hDj hdj (by omega) (by omega) z (iF 64 all j) (by omega) (by omega)
            have hdj2:=hdj.write (a:=z) (l:=iF 64 all j) (k:=64) hpl
            repeat' (first|(refine aG ?_;refine pu9 ?_)|refine cM ?_|(refine aA rfl ?_ ?_<;>intro hq<;>try exact no9))
            refine bT (id:=19) _ mixed (List.Sublist.cons _ (List.Sublist.cons_cons _ (List.nil_sublist _))) ?_;refine gt9 0 ?_;refine gt9 1 ?_;refine gt9 2 ?_;refine gt9 3 ?_;refine gt9 4 ?_;refine gt9 5 ?_;refine gt9 6 ?_;refine gt9 7 ?_;refine gt9 8 ?_;refine gt9 9 ?_;refine gt9 10 ?_;refine gt9 11 ?_;refine gt9 12 ?_;refine gO 13 rfl rfl (pC rfl rfl rfl) ?_;refine gO 14 rfl rfl (oC und_9 rfl rfl rfl (by omega) (by omega) hpart) ?_;refine bM (i:=15) rfl ?_;(refine aM rfl ⟨Tryz.call126⟩ rfl bD rfl (hwj _) ?_;rintro v V9 D9 hV9 ⟨rfl,hD9⟩);refine gt9 16 ?_;refine bC (by kernel_rfl) vl9 vl9 cC ?_
            by_cases fj:cZ st z (iF 64 all j)=0
            · have hK2:=layD_on (ps:=ps.drop (j+1)) fj
              rw [hK9] at hK2
              repeat' (first|(refine aG ?_;refine pu9 ?_)|refine bS ?_|(refine aA rfl ?_ ?_<;>intro hq<;>try exact no9))
              all_goals
                refine aY _ (e - (j+1)) ⟨j+1,_,D9,vl9,rfl,hD9,by rw [Nat.succ_mul,←Nat.add_assoc];exact hdj2,by omega,hK2.symm,rfl,rfl⟩ (by omega) bG sl9
            · have hK2:=layD_bad (ps:=ps.drop (j+1)) fj
              rw [hK9] at hK2
              rw [hK2] at hp1
              replace hp1:=hp1 fj
              repeat' (first|(refine aG ?_;first|(refine cY ?_;refine aP rfl siz_4 rfl rfl rfl rfl (by exact gL rfl) (cF.next _ _ _ _ _ _ (cF.hereE hsetO hb0)) rfl ?_)|refine pu9 ?_)|refine bS ?_|(refine aA rfl ?_ ?_<;>intro hq<;>try exact no9))
              all_goals
                (refine bJ Tryz.results68 (aB rfl) (aB rfl) (List.Sublist.cons _ (List.Sublist.refl _)) ?_)
                rw [hput,hp1]
                exact⟨rfl,{ h with off:=true },D9,Pb2,T,rfl,rfl,rfl,hD9,by rw [hrr];exact hPg2.b,(hk.le vl9).same rfl rfl⟩
          · obtain rfl:j=e:=by omega
            rw [List.drop_of_length_le (by omega)] at hK9
            have hK':oG all ps 0 s=(st,0):=hK9.symm
            rw [hK'] at hp2
            replace hp2:=hp2 rfl
            have hset:spl (hC h) (0+5+k * 1) [.pointer (some ⟨γl,0,none⟩)]=hC (addL h k γl ⟨y,A5,j,c5,fl⟩):=hC_addL hlt h5
            have hfit:0+5+k * 1+[Value.pointer (some ⟨γl,0,none⟩)].length≤(hC h).length:=by
              unfold hC loV bxV
              simp only [List.length_cons,List.length_nil,List.length_append,List.length_map];omega
            repeat' (first|(refine aG ?_;first|(refine bH ?_;refine aI (cU jV siz_122 rfl rfl rfl hlt) ?_)|(refine cY ?_;refine aP rfl siz_122 rfl rfl rfl rfl (by exact gL rfl) (cF.next _ _ _ _ _ _ (cF.hereE hset hfit)) rfl ?_)|refine pu9 ?_)|refine gxe9 ?_|refine iR [17,24] rfl ?_|(refine aA rfl ?_ ?_<;>intro hq<;>try exact no9))
            have hV0j:VLe V V':=hV08.trans hVj
            have hkT:HOk V' T (addL h k γl ⟨y,A5,j,c5,fl⟩):=(hk.le hV0j).addL (hLow.le (hV8.trans hVj)) hlt
            have hCm:=fun V9 (h9:VLe V' V9)=>vQ V9 p (addL h k γl ⟨y,A5,j,c5,fl⟩) st Dj (Pb2 ++ T) hDj hdj (by omega) (by omega) ((hkT.le h9).skip Pb2) ht ⟨hs.1,by have:=hs.2;show h.seq≤1000000000;omega⟩
            have habs:fZ (addL h k γl ⟨y,A5,j,c5,fl⟩) (fO room a.M (k:Int) (bB x.n))=({ fZ h (fO room a.M (k:Int) (bB x.n)) with lo:=(fZ h (fO room a.M (k:Int) (bB x.n))).lo.set k (some ⟨x.n,fl⟩) }:HA):=by rw [←hyn];exact abs_addL h a.M _ k γl ⟨y,A5,j,c5,fl⟩
            have hcp:=mE (addL h k γl ⟨y,A5,j,c5,fl⟩) (fO room a.M (k:Int) (bB x.n)) st
            rw [habs] at hcp
            have hcom:=fun V9 D9 (h9:VLe V' V9) (hD9:gC h.d (jU (addL h k γl ⟨y,A5,j,c5,fl⟩) st).1 D9)=>eY.com (V:=V9) (p:=p) (m:=m) (h:=addL h k γl ⟨y,A5,j,c5,fl⟩) (s:=st) (D:=D9) (Pb:=Pb2) (M:=fO room a.M (k:Int) (bB x.n)) habs hD9 (by rw [hrr];exact hPg2.b) (hkT.le h9)
            by_cases hz3:(jU (addL h k γl ⟨y,A5,j,c5,fl⟩) st).2=0
            · rw [hcp] at hz3
              rw [finA_f hz3] at hp2
              rw [hcp,hz3] at hCm
              repeat' (first|(refine aG ?_;first|(refine aC ?_;(first|refine aI (pC rfl rfl rfl) ?_|(refine aM rfl ⟨Tryz.call127⟩ rfl bD rfl (hCm _ vl9) ?_;rintro v V13 B13 hV13 ⟨rfl,D3,rfl,hD3⟩)))|refine pu9 ?_)|refine bV ?_|fail)
              all_goals
                (refine bJ Tryz.results68 (aB rfl) (aB rfl) (List.Sublist.cons _ (List.Sublist.refl _)) ?_)
                rw [hput,hp2]
                exact⟨congrArg (fun e=>Value.tuple #[.int .i64 (k:Int),e]) bO.symm,hcom _ _ hV13 (by rw [hcp];exact hD3)⟩
            · rw [hcp] at hz3
              rw [finA_b hz3] at hp2
              rw [hcp] at hCm
              repeat' (first|(refine aG ?_;first|(refine aC ?_;(first|refine aI (pC rfl rfl rfl) ?_|(refine aM rfl ⟨Tryz.call127⟩ rfl bD rfl (hCm _ vl9) ?_;rintro v V13 B13 hV13 ⟨rfl,D3,rfl,hD3⟩)))|refine pu9 ?_)|refine bS ?_|(refine aA rfl ?_ ?_<;>intro hq<;>try exact no9))
              all_goals
                (refine bJ Tryz.results68 (aB rfl) (aB rfl) (List.Sublist.cons _ (List.Sublist.refl _)) ?_)
                rw [hput,hp2]
                exact⟨rfl,hcom _ _ hV13 (by rw [hcp];exact hD3)⟩
        · rw [takeM_bad hf] at hPg2
          have hbad:=addLowerA_take (n:=x.n) hdA hc (by omega:¬aW a.lo=5) (by rw [hfA,hfk,hrm];exact hf)
          rw [hfA,hfk,hrm] at hbad
          repeat' (first|(refine aG ?_;refine pu9 ?_)|refine bS ?_|(refine aA rfl ?_ ?_<;>intro hq<;>try exact no9))
          all_goals
            (refine bJ Tryz.results68 (aB rfl) (aB rfl) (List.Sublist.cons _ (List.Sublist.refl _)) ?_)
            rw [hbad]
            exact⟨rfl,h,D,Pb2,T,rfl,rfl,ea,hD,by rw [hrr];exact hPg2.b,hk.le vl9⟩
    · obtain rfl:k=5:=by omega
      have hf5:aW h.lo=5:=by rw [hkf,List.drop_of_length_le (by omega)];rfl
      have hbad:=addLowerA_many (n:=x.n) hdA hc (hfA.trans hf5)
      repeat' (first|(refine aG ?_;refine pu9 ?_)|refine mV ?_|fail)
      all_goals
        (refine bJ Tryz.results68 (aB rfl) (aB rfl) (List.Sublist.cons _ (List.Sublist.refl _)) ?_)
        rw [hbad]
        exact⟨congrArg (fun e=>Value.tuple #[.int .i64 0,e]) (bW (show ¬(2:Int)=0 by decide)).symm,hB0⟩
  · have hbad:=addLowerA_tree hdA hc
    (refine aL Tryz.func68 rfl Tryz.ntmps68 rfl ?_;intro w0)
    repeat' (first|(refine aG ?_;first|(refine aC ?_;(first|(refine aO rfl (dB ⟨Tryz.call71⟩ rfl (cT dZ) (hDe _)) ?_)|refine aO rfl (aK ⟨Tryz.call16⟩ rfl (hCk _ vl9)) ?_))|(refine al9 ?_;intro γ)|refine pu9 ?_)|refine bV ?_|(refine aA rfl ?_ ?_<;>intro hq<;>try exact no9))
    all_goals
      (refine bJ Tryz.results68 (aB rfl) (aB rfl) (List.Sublist.cons _ (List.Sublist.refl _)) ?_)
      rw [hbad]
      exact⟨rfl,hB0⟩
theorem sealA_bad {a:HA} {s:DS} {n:Int} (h:¬iZ a s n=0):mA a s n=⟨a,s,iZ a s n,0⟩:=by
  unfold mA
  unfold iZ at h ⊢
  split
  · rfl
  · rename_i hd
    rw [if_neg hd] at h
    cases hb:iS a n with
    | none=>rfl
    | some t=>rw [hb] at h;exact absurd rfl h
theorem sealA_ok {a:HA} {s:DS} {n:Int} (h:iZ a s n=0):mA a s n=dS a s (xX a n):=by
  obtain⟨⟨h1,h2⟩,t,ht⟩:=tenFA_zero h
  unfold mA xX
  rw [if_neg (by unfold eS;rw [h1,h2];decide),ht]
theorem eY.sealT {V:aE} {p d m K:Nat} {a:HA} {s:DS} {Bs:List Box} (hB:eY V p d m a s Bs) (hi:fI K m a s) (hm:m≤128000) (h12:12800≤m) (hK:K≤1000) (n:Int) :
    FnB Tryz.prog 69 [.pointer (some ⟨p,0,none⟩),.int .i64 n] V Bs fun u V' Bs'=>u=.tuple #[.int .i64 (mA a s n).n,bA (mA a s n).f]∧eY V' p d m (mA a s n).a (mA a s n).s Bs':=by
  have hFl:=fun V9 (h9:VLe V V9)=>(hB.le h9).flat hi hm n
  have hAd:=fun V9 (h9:VLe V V9) y (hy:aT V9 y)=>(hB.le h9).addLower hi hm h12 hK y hy
  by_cases hf:iZ a s n=0
  · rw [sealA_ok hf]
    (refine aL Tryz.func69 rfl Tryz.ntmps69 rfl ?_;intro w0)
    repeat' (first|(refine aG ?_;first|(refine aC ?_;(first|(refine aM rfl ⟨Tryz.call26⟩ rfl bD rfl (hFl _ vl9) ?_;rintro v V2 B2 hV2 ⟨(⟨h0,_⟩|⟨_,y,rfl,hyN,hyn⟩),rfl⟩;exact absurd hf h0)|(refine aM rfl ⟨Tryz.call68⟩ rfl bD rfl (hAd _ vl9 y (hyN.le vl9)) ?_;rintro v V3 B3 hV3 ⟨rfl,hB3⟩)))|refine st9 ?_|(refine al9 ?_;intro γ)|refine pu9 ?_)|refine bV ?_|fail)
    all_goals
      (refine bJ Tryz.results69 (aB rfl) (aB rfl) (List.Sublist.cons _ (List.Sublist.refl _)) ?_)
      rw [hyn] at hB3
      rw [hyn]
      exact⟨rfl,hB3⟩
  · rw [sealA_bad hf]
    (refine aL Tryz.func69 rfl Tryz.ntmps69 rfl ?_;intro w0)
    repeat' (first|(refine aG ?_;first|(refine aC ?_;(refine aM rfl ⟨Tryz.call26⟩ rfl bD rfl (hFl _ vl9) ?_;rintro v V2 B2 hV2 ⟨(⟨_,rfl⟩|⟨h0,_⟩),rfl⟩;rotate_left;exact absurd h0 hf))|refine st9 ?_|(refine al9 ?_;intro γ)|refine pu9 ?_)|refine bS ?_|(refine aA rfl ?_ ?_<;>intro hq<;>try exact no9))
    all_goals
      (refine bJ Tryz.results69 (aB rfl) (aB rfl) (List.Sublist.cons _ (List.Sublist.refl _)) ?_)
      exact⟨rfl,hB.le vl9⟩
end
end Go.Proofs.YtejkmomfpidnbacGreat
