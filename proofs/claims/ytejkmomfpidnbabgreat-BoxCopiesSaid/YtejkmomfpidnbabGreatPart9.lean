/- Walks and plain laws, part 9: what functions compute, proved once each (BxH, BxQ, BxV, BxN, BxF, BxK, BxL, BxE, BxI, BxW, BxR, ReadP, ReadE). -/
import Derived.Test.YtejkmomfpidnbabGreatPart6
import Derived.Test.YtejkmomfpidnbabGreatPart5
import Derived.Test.YtejkmomfpidnbabGreatPart7
import Derived.Test.YtejkmomfpidnbabGreatPart4
import Derived.Test.YtejkmomfpidnbabGreatPart8
set_option linter.unusedSimpArgs false
set_option linter.unusedVariables false
set_option maxRecDepth 100000
set_option maxHeartbeats 40000000
namespace Go.Proofs.YtejkmomfpidnbabGreat
open Go.RowKit
section
mutual
def jD:PN→Nat
  | .mk _ ks=>gD ks
termination_by n=>SizeOf.sizeOf n
def gD:PKs→Nat
  | []=>0
  | (_,n) :: ks=>max (jD n+1) (gD ks)
termination_by ks=>SizeOf.sizeOf ks
end
theorem heightK_app:∀ (l m:PKs),gD (l ++ m)=max (gD l) (gD m)
  | [],m=>by rw [List.nil_append,gD];omega
  | (nm,n) :: l,m=>by rw [List.cons_append,gD,gD,heightK_app l m];omega
theorem yE {ks:PKs} {k:Nat} {e:ByteArray×PN} (h:ks[k]?=some e):gD (ks.take (k+1))=max (gD (ks.take k)) (jD e.2+1):=by
  obtain⟨a,b⟩:=e
  rw [List.take_add_one,h,heightK_app];simp [gD]
theorem xF (n:PN):jD n=gD n.ks:=by
  obtain⟨h,ks⟩:=n
  rw [jD];rfl
theorem heightK_le {d:Nat}:∀ {ks:PKs},(∀ k∈ks,jD k.2≤d)→gD ks≤d+1
  | [],_=>by rw [gD];omega
  | (nm,n) :: ks,h=>by
    rw [gD]
    have h1:=h (nm,n) (by simp)
    have h2:=heightK_le (ks:=ks) fun k hk=>h k (by simp [hk])
    simp only at h1
    omega
theorem oN:∀ {d:Nat} {n:PN},Deep d n→jD n≤d
  | 0,_,h=>h.zero.elim
  | d+1,n,h=>by
    rw [xF]
    exact heightK_le fun k hk=>oN (h.kid k hk)
mutual
theorem countF_dp9 (upper:Bool):∀ (deep so:Nat) (n:PN),(cH upper deep so n).2=0→Deep (7 - deep) n
  | deep,so,.mk h ks,h0=>by
    rw [cH] at h0
    split at h0
    · simp at h0
    · rename_i h1
      split at h0
      · rename_i h2;exact absurd h0 h2
      · obtain⟨e,he⟩:∃ e,7 - deep=e+1:=⟨6 - deep,by omega⟩
        rw [he]
        refine .mk fun k hk=>?_
        have:=countK_dp9 upper deep (so+1) none ks h0 k hk
        rwa [show 7 - (deep+1)=e by omega] at this
theorem countK_dp9 (upper:Bool):∀ (deep so:Nat) (prev:Option ByteArray) (ks:PKs),(dO upper deep so prev ks).2=0→∀ k∈ks,Deep (7 - (deep+1)) k.2
  | deep,so,prev,[],h0=>by simp
  | deep,so,prev,(nm,n) :: ks,h0=>by
    rw [dO] at h0
    split at h0
    · simp at h0
    · split at h0
      · simp at h0
      · split at h0
        · rename_i h3;exact absurd h0 h3
        · rename_i h3
          intro k hk
          rcases List.mem_cons.1 hk with rfl|hk
          · exact countF_dp9 upper (deep+1) so n (Decidable.not_not.1 h3)
          · exact countK_dp9 upper deep _ _ ks h0 k hk
end
theorem tree_deep {u:Bool} {n:PN} (h:dK u n=0):Deep 7 n:=by
  unfold dK at h
  split at h
  · omega
  · exact countF_dp9 u 0 0 n h
theorem stepP_deep' {d:Nat} {r:List PF} {s:ByteArray} (h:∀ f∈r,Deep d f.1):∀ f∈cO r s,Deep d f.1:=by
  cases d with
  | zero =>
    cases r with
    | nil=>intro f hf;exact absurd hf (by unfold cO;simp [dJ])
    | cons f r=>exact(h f (by simp)).zero.elim
  | succ d=>exact fun f hf=>(wM h f hf).up _ (by omega)
theorem walkP_deep {d:Nat} {l:List PN} (h:∀ x∈l,Deep d x) (ss:List ByteArray):∀ f∈bY l ss,Deep d f.1:=by
  have key:∀ (ss:List ByteArray) (a:List PF),(∀ f∈a,Deep d f.1)→∀ f∈ss.foldl cO a,Deep d f.1:=fun ss=>by
    induction ss with
    | nil=>intro a ha;exact ha
    | cons s ss ih=>intro a ha;exact ih _ (stepP_deep' ha)
  exact key ss _ fun f hf=>h _ (uA (gO hf))
theorem height_max (a b:Nat):(max (a:Int) (1+(b:Int)))=((max a (b+1):Nat):Int):=by omega
theorem height_max' (a b:Nat):(max (a:Int) ((b:Int)+1))=((max a (b+1):Nat):Int):=by omega
attribute [local irreducible] AtQ GoC GoL GoW QO QP Fn RV bX aL VLe cG bT
theorem height_c:∀ (d:Nat),d≤1000→∀ (V:aI) (x:LN),aX V x→Deep d x.n→Fn Tryz.prog 157 [lnV x] V fun v _=>v=.int .i64 (jD x.n:Int):=by
  intro d
  induction d with
  | zero=>intro _ V x hx hd;exact hd.zero.elim
  | succ d ih =>
    intro hdl V x hx hd
    obtain⟨ha,hca,hdt,hck,es,hk,hks⟩:=hx.inv
    have hl:=hk.len
    have hm:=hk.max
    have hz:x.ks.length=x.nk:=by rw [hks,List.length_map,hl]
    have hdk:∀ e∈es,Deep d e.x.n:=fun e he=>hd.kid (kz e) (by show kz e∈x.ks;rw [hks];exact List.mem_map_of_mem he)
    (refine aH Tryz.func157 rfl Tryz.ntmps157 rfl ?_;intro w0)
    repeat' (first|(refine aE ?_;first|(refine aD ?_;refine aR (q_max rfl rfl rfl) ?_)|(refine al9 ?_;intro γ)|refine pu9 ?_)|refine bW ?_|fail)
    refine bQ (fun F V2 L' m=>∃ k:Nat,VLe V V2∧[]=L'∧k≤x.nk∧m=x.nk - k∧F=[(3,.int .i64 (gD (x.ks.take k):Int)),(7,.slice x.K x.nk x.ck),(8,.int .i64 (x.nk:Int)),(9,.int .i64 (k:Int))]) (m:=x.nk) ⟨0,VLe.refl _,rfl,Nat.zero_le _,by omega,by rw [List.take_zero,gD]⟩ bH rfl (List.nil_sublist _) ?_
    rintro F V2 L' m ⟨k,hV2,rfl,hkn,rfl,rfl⟩
    by_cases hlt:k<x.nk
    · obtain⟨b1,o1,e,hK1,he,hem,hc,c0,c1,hms,hne⟩:=(hk.le hV2).at_ hlt
      have hke:x.ks[k]?=some (kz e):=by rw [hks,List.getElem?_map,he];rfl
      have ht:=yE hke
      have hh:=ih (by omega) V2 e.x hne (hdk e hem)
      have hb:=oN (hdk e hem)
      repeat' (first|(refine aE ?_;first|(refine aD ?_;(first|refine aR (q_max rfl rfl rfl) ?_|refine aN rfl (aG ⟨Tryz.call157⟩ rfl (hh)) ?_))|refine st9 ?_|(refine al9 ?_;intro γ)|refine pu9 ?_)|refine bW ?_|(refine aA rfl ?_ ?_<;>intro hq<;>try exact no9))
      all_goals
        refine aZ _ (x.nk - (k+1)) ⟨k+1,vl9,rfl,by omega,rfl,by rw [ht,show (kz e).2=e.x.n from rfl,←height_max]⟩ (by omega) bH (List.nil_sublist _)
    · obtain rfl:k=x.nk:=by omega
      repeat' (first|(refine aE ?_;refine pu9 ?_)|refine dR ?_|(refine aA rfl ?_ ?_<;>intro hq<;>try exact no9))
      all_goals
        (refine aQ Tryz.results157 (aB rfl) ?_)
        rw [xF,show x.n.ks=x.ks from rfl,List.take_of_length_le (by omega)]
theorem deepest_c:∀ (d:Nat),d≤1000→∀ (V:aI) (x:LN),aX V x→Deep d x.n→Fn Tryz.prog 187 [lnV x] V fun v _=>v=.int .i64 (jD x.n:Int):=by
  intro d
  induction d with
  | zero=>intro _ V x hx hd;exact hd.zero.elim
  | succ d ih =>
    intro hdl V x hx hd
    obtain⟨ha,hca,hdt,hck,es,hk,hks⟩:=hx.inv
    have hl:=hk.len
    have hm:=hk.max
    have hz:x.ks.length=x.nk:=by rw [hks,List.length_map,hl]
    have hdk:∀ e∈es,Deep d e.x.n:=fun e he=>hd.kid (kz e) (by show kz e∈x.ks;rw [hks];exact List.mem_map_of_mem he)
    (refine aH Tryz.func187 rfl Tryz.ntmps187 rfl ?_;intro w0)
    repeat' (first|(refine aE ?_;first|(refine al9 ?_;intro γ)|refine pu9 ?_)|refine bW ?_|fail)
    refine bQ (fun F V2 L' m=>∃ k:Nat,VLe V V2∧[⟨γ,70,lnC x⟩]=L'∧k≤x.nk∧m=x.nk - k∧F=[(1,.pointer (some ⟨γ,0,none⟩)),(3,.int .i64 (gD (x.ks.take k):Int)),(4,.int .i64 (k:Int))]) (m:=x.nk) ⟨0,VLe.refl _,rfl,Nat.zero_le _,by omega,by rw [List.take_zero,gD]⟩ bH rfl sl9 ?_
    rintro F V2 L' m ⟨k,hV2,rfl,hkn,rfl,rfl⟩
    by_cases hlt:k<x.nk
    · obtain⟨b1,o1,e,hK1,he,hem,hc,c0,c1,hms,hne⟩:=(hk.le hV2).at_ hlt
      have hke:x.ks[k]?=some (kz e):=by rw [hks,List.getElem?_map,he];rfl
      have ht:=yE hke
      have hh:=ih (by omega) V2 e.x hne (hdk e hem)
      have hb:=oN (hdk e hem)
      repeat' (first|(refine aE ?_;first|(refine aD ?_;(first|refine aR (q_max rfl rfl rfl) ?_|refine aN rfl (aG ⟨Tryz.call187⟩ rfl (hh)) ?_))|refine pu9 ?_)|refine bW ?_|(refine aA rfl ?_ ?_<;>intro hq<;>try exact no9))
      all_goals
        refine aZ _ (x.nk - (k+1)) ⟨k+1,vl9,rfl,by omega,rfl,by rw [ht,show (kz e).2=e.x.n from rfl,←height_max']⟩ (by omega) bH sl9
    · obtain rfl:k=x.nk:=by omega
      repeat' (first|(refine aE ?_;first|(refine aD ?_;refine aR (q_max rfl rfl rfl) ?_)|refine pu9 ?_)|refine dR ?_|(refine aA rfl ?_ ?_<;>intro hq<;>try exact no9))
      all_goals
        (refine aQ Tryz.results187 (aB rfl) ?_)
        rw [xF,show x.n.ks=x.ks from rfl,List.take_of_length_le (by omega)]
end
section
theorem cA.and {p q:Hd→PKs→Prop} {n:PN} (h:cA p n) (k:cA q n):cA (fun hd ks=>p hd ks∧q hd ks) n:=by
  induction h with
  | mk h1 h2 ih =>
    cases k with
    | mk k1 k2=>exact .mk ⟨h1,k1⟩ fun x hx=>ih x hx (k2 x hx)
theorem upK_bdB {B:Nat} {l:List PN} {us gs:List PR} {ss:List ByteArray} {u0:PN} (hl:∀ x∈l,cA (fB B) x) (h0:cA (fB B) u0):∀ i,(upK l us gs ss u0 i).2=0→cA (fB (B+i)) (upK l us gs ss u0 i).1
  | 0,_=>h0
  | i+1,h=>by
    have hprev:(upK l us gs ss u0 i).2=0:=by
      by_cases hp:(upK l us gs ss u0 i).2=0
      · exact hp
      · rw [upK,if_neg hp] at h;exact absurd h hp
    have ih:=upK_bdB hl h0 i hprev
    rw [sM hprev] at h ⊢
    generalize (upK l us gs ss u0 i).1=u at *
    have hup:cA (fB (B+(i+1))) u:=ih.imp fun _ _=>iD (by omega)
    cases hq:bY l (ss.take (i+1)) with
    | nil=>rw [nO hq];exact hup
    | cons f r =>
      by_cases hf:f.2=0
      · rw [lS hq hf];exact hup
      · cases hm:cT true us gs (jT f.1) with
        | none=>rw [oK hq hf hm] at h;simp at h
        | some x =>
          by_cases hp:pF false x u (ss.take (i+1))=0
          · rw [lZ hq hf hm hp]
            have hlf:=fZ hl (ss.take (i+1)) f (by rw [hq];simp)
            have hlb:cA (fB B) (jT f.1):=rQ (fun hd ks hh=>⟨hh.1,Nat.zero_le _⟩) hlf
            have hlp:cA (fB B) x:=pE (fun hd ks u g hh=>hh) hm hlb
            exact rX (hlp.imp fun _ _ hh=>iD (Nat.le_add_right B i) hh) hp ih
          · rw [lQ hq hf hm hp] at h;exact absurd h hp
def litQ (h:Hd) (ks:PKs):Prop:=oU h.attrs=true∧h.data.size≤300∧∀ k∈ks,k.1.size≤60
theorem edit_lit {x:PN} {hd:Hd} {ks:PKs} {s:ByteArray} (hs:s.size≤60) (hn:litQ hd ks) (hk:∀ k∈ks,cA litQ k.2) (hx:cA litQ x):cA litQ (.mk hd (gB false x ks s)):=by
  refine .mk ⟨hn.1,hn.2.1,fun k hk2=>?_⟩ fun k hk2=>?_
  · rcases pI hk2 with h|h
    · exact hn.2.2 k h
    · rw [h];exact hs
  · rcases pI hk2 with h|h
    · exact hk k h
    · rw [h];exact hx
theorem pN_lit {x:PN} (hx:cA litQ x):∀ {l:List ByteArray} {n:PN},(∀ s∈l,s.size≤60)→pF false x n l=0→cA litQ n→cA litQ (pN false x n l)
  | [],n,_,h,_=>by simp [pF] at h
  | [s],n,hs,_,hm=>by
    rw [pN]
    exact edit_lit (hs s (by simp)) hm.here (fun k hk=>hm.kid hk) hx
  | s :: t :: l,n,hs,h,hm=>by
    obtain⟨hk,m,hm2,h3⟩:=vN.1 h
    rw [vD hm2]
    exact edit_lit (hs s (by simp)) hm.here (fun k hk=>hm.kid hk) (pN_lit hx (fun y hy=>hs y (List.mem_cons_of_mem _ hy)) h3 (hm.kid (lC hm2)))
theorem upK_lit {l:List PN} {us gs:List PR} {ss:List ByteArray} {u0:PN} (hs:∀ s∈ss,s.size≤60) (hl:∀ x∈l,cA litQ x) (h0:cA litQ u0):∀ i,(upK l us gs ss u0 i).2=0→cA litQ (upK l us gs ss u0 i).1
  | 0,_=>h0
  | i+1,h=>by
    have hprev:(upK l us gs ss u0 i).2=0:=by
      by_cases hp:(upK l us gs ss u0 i).2=0
      · exact hp
      · rw [upK,if_neg hp] at h;exact absurd h hp
    have hup:=upK_lit hs hl h0 i hprev
    rw [sM hprev] at h ⊢
    generalize (upK l us gs ss u0 i).1=u at *
    cases hq:bY l (ss.take (i+1)) with
    | nil=>rw [nO hq];exact hup
    | cons f r =>
      by_cases hf:f.2=0
      · rw [lS hq hf];exact hup
      · cases hm:cT true us gs (jT f.1) with
        | none=>rw [oK hq hf hm] at h;simp at h
        | some x =>
          by_cases hp:pF false x u (ss.take (i+1))=0
          · rw [lZ hq hf hm hp]
            have hlf:=fZ hl (ss.take (i+1)) f (by rw [hq];simp)
            have hlb:cA litQ (jT f.1):=rQ (fun hd ks hh=>⟨hh.1,hh.2.1,by simp⟩) hlf
            exact pN_lit (pE (fun hd ks u g hh=>hh) hm hlb) (fun s h9=>hs s (List.mem_of_mem_take h9)) hp hup
          · rw [lQ hq hf hm hp] at h;exact absurd h hp
theorem fit_lit {h:Hd} {ks:PKs} (k:fitP h ks):litQ h ks:=by
  have h1:=fit_light k
  exact⟨h1.1,h1.2.1,h1.2.2.2⟩
theorem fit_bound {h:Hd} {ks:PKs} (k:fitP h ks):fB 60 h ks:=by
  obtain⟨_,_,_,_,h5,_,h7,_⟩:=k
  exact⟨by have:=h5.1;omega,by omega⟩
theorem up_light {b:BX} (hok:bK b) {ss:List ByteArray} (hs:∀ s∈ss,s.size≤60) (hm:ss.length≤20) (h:(upP b.ls b.us b.gs ss).2=0):cA eW (upP b.ls b.us b.gs ss).1:=by
  obtain⟨n0,t0,hls,_⟩:=hok.root
  have hf:=hok.fit
  have hn0:n0∈b.ls:=by rw [hls];simp
  have e0:b.ls.headD pnZ=n0:=by rw [hls];rfl
  unfold upP at h ⊢
  by_cases hw:bY b.ls ss=[]
  · rw [if_pos hw] at h;simp at h
  · rw [if_neg hw] at h ⊢
    rw [e0] at h ⊢
    have h1:=upK_bdB (B:=60) (fun x hx=>(hf x hx).imp fun _ _=>fit_bound) ((hf n0 hn0).imp fun _ _=>fit_bound) ss.length h
    have h2:=upK_lit hs (fun x hx=>(hf x hx).imp fun _ _=>fit_lit) ((hf n0 hn0).imp fun _ _=>fit_lit) ss.length h
    exact(h1.and h2).imp fun hd ks ⟨k1,k2⟩=>⟨k2.1,k2.2.1,by have:=k1.2;omega,k2.2.2⟩
theorem pathN_size {l:List UInt8}:∀ s∈aK l,s.size≤60:=fun s hs=>by
  unfold aK at hs
  split at hs
  · rename_i hc
    obtain⟨h1,h2⟩:=hc
    unfold dY at h1
    rw [if_neg h2] at h1
    split at h1
    · omega
    · split at h1
      · omega
      · rename_i h3
        have h3:=Decidable.not_not.1 h3
        obtain⟨q,hq,rfl⟩:=List.mem_map.1 hs
        have:=List.all_eq_true.1 h3 q hq
        have h9:=name_len (s:=⟨q.toArray⟩) (by rw [Lib.toList_data];exact this)
        omega
  · cases hs
def uN (b:BX) (dir:Bool) (n u:PN) (ss other:List ByteArray):BX×Int :=
  if ¬iB b u ss=0 then (b,iB b u ss) else vZ b (.mk { n.h with opq:=dir && fO b.ls other } n.ks) (mV b u ss) other
def tV (b:BX) (dir:Bool) (ss other:List ByteArray):BX×Int :=
  if ¬(upP b.ls b.us b.gs ss).2=0 then (b,(upP b.ls b.us b.gs ss).2)
  else if ¬(upP ((upP b.ls b.us b.gs ss).1 :: b.ls.tail) b.us b.gs (other.take (other.length - 1))).2=0 then (b,(upP ((upP b.ls b.us b.gs ss).1 :: b.ls.tail) b.us b.gs (other.take (other.length - 1))).2)
  else uN b dir ((dN (upP b.ls b.us b.gs ss).1 ss).getD pnZ) (upP ((upP b.ls b.us b.gs ss).1 :: b.ls.tail) b.us b.gs (other.take (other.length - 1))).1 ss other
def tM (b:BX) (at_ to:SP) (ss other:List ByteArray):BX×Int :=
  if to.is=true∧(at_.th.dir=true∨to.th.dir=true) then (b,6)
  else if to.is=true∧¬eM b to=0 then (b,eM b to)
  else if at_.th.dir=true∧(0<at_.lay∨(at_.n.h.opq=false∧fO b.ls ss=true)) then (b,14)
  else if 6<other.length+jD at_.n then (b,2)
  else tV b at_.th.dir ss other
def rM (b:BX) (p q:ByteArray):BX×Int :=
  if p=⟨#[47]⟩∨q=⟨#[47]⟩ then (b,15)
  else if ¬dY (aC p)=0 then (b,dY (aC p)) else if ¬dY (aC q)=0 then (b,dY (aC q))
  else if ¬cS b (aC p)=0 then (b,cS b (aC p))
  else if ¬eM b (aV b (aC p))=0 then (b,eM b (aV b (aC p)))
  else if ¬(cC b (aK (aC q))).2=0 then (b,(cC b (aK (aC q))).2)
  else if p=q then (b,0)
  else if nY (aK (aC p)) (aK (aC q))=true then (b,3)
  else if iL b.c (aV b (aC q)).par 2=false then (b,9)
  else tM b (aV b (aC p)) (aV b (aC q)) (aK (aC p)) (aK (aC q))
section
variable {B : Base} {V : aI} {L : List Box}
theorem src_od {sz m g o:Nat} {cs news:List Value} (ho:bX L g cs) (hl:news.length=m * sz) (hc:∀ j u,news[j]?=some u→cs[o+j]?=some u):cG B V L sz (some ⟨g,o,none⟩) m news:=fun w hs =>
  ⟨hl,fun _=>⟨g,o,rfl,fun j u hj=>by rw [hs.cell ho];exact hc j u hj⟩⟩
theorem src_lower {q m e:Nat} {x0:LN} {xt:List LN} {rest:List Value} (ho:bX L q ((x0 :: xt).flatMap lnC ++ rest)) (hm:(x0 :: xt).length=m) (hme:m≤e):cG B V L 8 (xL (some ⟨q,0,none⟩) e 1 8) (m - 1) (xt.flatMap lnC):=by
  have hl:(xt.flatMap lnC).length=(m - 1) * 8:=by rw [kA lnC lG,←hm];rfl
  unfold xL
  split
  · rename_i h1
    intro w hs
    exact⟨hl,fun h9=>absurd h9 (by omega)⟩
  · show cG B V L 8 (some ((⟨q,0,none⟩:Addr).add (1 * 8))) _ _
    rw [jN]
    refine src_od ho hl fun j u hj=>?_
    rw [show (x0 :: xt).flatMap lnC=lnC x0 ++ xt.flatMap lnC from rfl,List.append_assoc,show 0+1 * 8+j=(lnC x0).length+j by rw [lG],List.getElem?_append_right (by omega),Nat.add_sub_cancel_left,List.getElem?_append_left (List.getElem?_eq_some_iff.1 hj).1]
    exact hj
theorem src_lower9 {A:Option Addr} {q m e:Nat} {x0:LN} {xt:List LN} {rest:List Value} (hA:A=xL (some ⟨q,0,none⟩) e 1 8) (ho:bX L q ((x0 :: xt).flatMap lnC ++ rest)) (hm:(x0 :: xt).length=m) (hme:m≤e):cG B V L 8 A (m - 1) (xt.flatMap lnC):=by
  rw [hA];exact src_lower ho hm hme
end
end
section
theorem nb {b:Bool} (h:(!b)=true):b=false:=by simpa using h
theorem nbf {b:Bool} (h:(!b)=false):¬b=false:=by simpa using h
theorem nf {b:Bool} (h:b=false):¬b=true:=by rw [h];decide
theorem nor2 {p q:Prop} (h:¬p) (k:¬q):¬(p∨q):=fun h9=>h9.elim h k
theorem look_deep {b:BX} (hok:bK b) (ss:List ByteArray) (par:TH):Deep 7 (fF b ss par).n:=by
  cases hw:bY b.ls ss with
  | nil=>rw [rH hw];exact .mk (by simp)
  | cons f t =>
    rw [kG hw]
    exact walkP_deep (fun x hx=>by obtain⟨u,hu⟩:=hok.tree x hx;exact tree_deep hu) ss f (by rw [hw];simp)
theorem spot_deep {b:BX} (hok:bK b) (ss:List ByteArray):∀ k,Deep 7 (eN b ss k).1.n
  | 0=>look_deep hok _ _
  | k+1=>by
    have ih:=spot_deep hok ss k
    rw [eN]
    (repeat' split)<;>first|exact ih|exact look_deep hok _ _
theorem cut_bound {x:PN}:∀ {l:List ByteArray} {n:PN},cA (fB 200) n→pF true x n l=0→cA sX (pN true x n l)
  | [],n,_,h=>by simp [pF] at h
  | [s],n,hm,_=>by
    rw [pN]
    have h0:=hm.here
    refine .mk ⟨by have:=h0.1;omega,by have:=edit_len (cut:=true) (x:=x) (ks:=n.ks) (s:=s);have:=h0.2;omega⟩ fun k hk=>?_
    have hk2:k∈n.ks:=by
      unfold gB at hk
      rw [if_pos rfl,List.append_nil] at hk
      rcases List.mem_append.1 hk with h|h
      · exact List.mem_of_mem_take h
      · exact List.mem_of_mem_drop h
    exact(hm.kid hk2).imp fun _ _=>gK (by omega)
  | s :: t :: l,n,hm,h=>by
    obtain⟨hk,m,hm2,h3⟩:=vN.1 h
    rw [vD hm2]
    have h0:=hm.here
    refine .mk ⟨by have:=h0.1;omega,by have:=edit_len (cut:=false) (x:=pN true x m (t :: l)) (ks:=n.ks) (s:=s);have:=h0.2;omega⟩ fun k hk=>?_
    rcases pI hk with h9|h9
    · exact(hm.kid h9).imp fun _ _=>gK (by omega)
    · rw [h9];exact cut_bound (hm.kid (lC hm2)) h3
theorem gone_mid {b:BX} {u:PN} {ss:List ByteArray} (h:cA (fB 200) u) (hf:iB b u ss=0):cA sX (mV b u ss):=by
  unfold iB at hf
  unfold mV
  split
  · rename_i hb
    rw [if_pos hb] at hf
    exact(rX (.mk ⟨Nat.zero_le _,Nat.zero_le _⟩ (by simp)) hf h).imp fun _ _=>gK (by omega)
  · rename_i hb
    rw [if_neg hb] at hf
    exact cut_bound h hf
attribute [local irreducible] AtQ GoC GoL GoW QO QP Fn RV bX aL VLe cG bT
theorem move_c (V:aI) (p:Nat) (b:BX) (Bs:List Box) (hok:bK b) (h:eO V p b Bs) (s t:ByteArray) (hs:s.size≤1000000) (ht:t.size≤1000000):FnB Tryz.prog 71 [.pointer (some ⟨p,0,none⟩),.string s,.string t] V Bs (ChB p (rM b s t)):=by
  obtain⟨I,L1,rfl,hW⟩:=h
  have hSp:=fun V2=>yF V2 (aC s) (by show s.data.toList.length≤1000000;rw [Array.length_toList];exact hs)
  rw [show (⟨(aC s).toArray⟩:ByteArray)=s from fJ s] at hSp
  have hSq:=fun V2=>yF V2 (aC t) (by show t.data.toList.length≤1000000;rw [Array.length_toList];exact ht)
  rw [show (⟨(aC t).toArray⟩:ByteArray)=t from fJ t] at hSq
  have hT:=fun V2 (hV2:VLe V V2)=>tB (V:=V2) (p:=p) hok ⟨I,L1,rfl,hW.le hV2⟩ s hs
  have hTo:=fun V2 (hV2:VLe V V2) A m e (hs:bZ V2 A m (aK (aC t))) (hme:m≤e)=>to_b (V:=V2) (p:=p) hok ⟨I,L1,rfl,hW.le hV2⟩ A m e _ hs hme
  have hm1:=fH hok (aC s)
  have hm2:=kH hok (aK (aC s)) (aK (aC s)).length
  have hm3:=fH hok (aC t)
  have hm4:=kH hok (aK (aC t)) (aK (aC t)).length
  have hTk:=fun V2 (hV2:VLe V V2) x=>takes_b (V:=V2) (p:=p) hok ⟨I,L1,rfl,hW.le hV2⟩ x (aV b (aC s)).lay (aV b (aC s)) hm2 hm1
  have hTk2:=fun V2 (hV2:VLe V V2) x=>takes_b (V:=V2) (p:=p) hok ⟨I,L1,rfl,hW.le hV2⟩ x (cC b (aK (aC t))).1.lay (cC b (aK (aC t))).1 hm4 hm3
  have hMay:=fun V2 (hV2:VLe V V2)=>May_c V2 b.c I.A I.n I.k (hW.xs.le hV2) hok.d (cC b (aK (aC t))).1.par hm4 2 (.inr (.inl rfl))
  have hf1:=fD (aC s)
  have hf2:=fD (aC t)
  have hMM:rM b s t=if s=⟨#[47]⟩∨t=⟨#[47]⟩ then (b,15)
      else if ¬dY (aC s)=0 then (b,dY (aC s)) else if ¬dY (aC t)=0 then (b,dY (aC t))
      else if ¬cS b (aC s)=0 then (b,cS b (aC s))
      else if ¬eM b (aV b (aC s))=0 then (b,eM b (aV b (aC s)))
      else if ¬(cC b (aK (aC t))).2=0 then (b,(cC b (aK (aC t))).2)
      else if s=t then (b,0)
      else if nY (aK (aC s)) (aK (aC t))=true then (b,3)
      else if iL b.c (cC b (aK (aC t))).1.par 2=false then (b,9)
      else tM b (aV b (aC s)) (cC b (aK (aC t))).1 (aK (aC s)) (aK (aC t)):=rfl
  generalize hmay:iL b.c (cC b (aK (aC t))).1.par 2=my at *
  generalize hunder:nY (aK (aC s)) (aK (aC t))=un at *
  (refine bI Tryz.func71 rfl Tryz.ntmps71 rfl ?_;intro w0)
  repeat' (first|(refine aE ?_;first|(refine aD ?_;(first|(refine aM rfl ⟨Tryz.call145⟩ rfl rfl (hSp _) ?_;rintro v V1 hV1 ⟨A1,n1,c1,rfl,hS1,hc1⟩)|(refine aM rfl ⟨Tryz.call145⟩ rfl rfl (hSq _) ?_;rintro v V2 hV2 ⟨A2,n2,c2,rfl,hS2,hc2'⟩)|(refine aW rfl ⟨Tryz.call142⟩ rfl bF rfl (hT _ vl9) ?_;rintro v V3 B3 hV3 ⟨rfl,hR⟩;rcases hR with ⟨ht0,A,n,k,x,rfl,hs3,hnk,hxN,hxn⟩|⟨ht0,A,n,k,x,lay,par,th,rfl⟩)|(refine aW rfl ⟨Tryz.call151⟩ rfl bF rfl (hTk _ vl9 x) ?_;rintro v V4 B4 hV4 ⟨rfl,rfl⟩)|(refine aW rfl ⟨Tryz.call146⟩ rfl bF rfl (hTo _ vl9 _ _ _ (hS2.le vl9) hc2') ?_;rintro v V5 B5 hV5 ⟨rfl,(⟨h0,x2,rfl,hx2N,hx2n⟩|⟨h0,rfl⟩)⟩)|refine aN rfl (aG ⟨Tryz.call155⟩ rfl ((Under_c _ _ _ _ _ _ _ _ _ (hs3.le vl9) (hS2.le vl9)).mono fun v V' _ h9=>h9.trans (congrArg Value.bool hunder))) ?_|refine aN rfl (aG ⟨Tryz.call144⟩ rfl (hMay _ vl9)) ?_))|(refine dG ?_;refine aO rfl siz_214 rfl rfl rfl rfl bG gG rfl ?_)|(refine al9 ?_;intro γ)|refine pu9 ?_)|refine fX ?_|(refine aJ rfl rfl rfl ?_ ?_<;>intro hq<;>try exact no9)|refine dX [0,1,2,3,4,5,6,7,8,9,10,11,12,13,14,15,16,17,18,19,20,21,23] rfl ?_|(refine aA rfl ?_ ?_<;>intro hq<;>try exact no9)|(refine bP rfl ?_ ?_<;>intro hq)|refine bN (id:=22) mixed (by kernel_rfl) ?_)
  all_goals first
    | (exfalso;exact absurd ht0 (by assumption))
    | (exfalso;exact absurd (by assumption) ht0)
    | (exfalso;exact absurd h0 (by assumption))
    | (exfalso;exact absurd (by assumption) h0)
    | (rw [hMM];(refine eY ?_;(refine bC Tryz.results71 (aB rfl) (show List.Sublist (⟨p,113,bxC I b⟩ :: L1) _ from sl9) ?_);(repeat (first|rw [if_pos (by first|assumption|exact nb (by assumption)|exact .inl (by assumption)|exact .inr (by assumption))]|rw [if_neg (by first|assumption|exact not_not_intro (by assumption)|exact nf (by assumption)|exact nbf (by assumption)|exact nor2 (by assumption) (by assumption))]));first|exact⟨rfl,I,_,rfl,hW.le vl9⟩|exact⟨dE _ rfl,I,_,rfl,hW.le vl9⟩|exact⟨dA.symm,I,_,rfl,hW.le vl9⟩))
    | skip
  rw [hMM]
  (repeat (first|rw [if_pos (by first|assumption|exact nb (by assumption)|exact .inl (by assumption)|exact .inr (by assumption))]|rw [if_neg (by first|assumption|exact not_not_intro (by assumption)|exact nf (by assumption)|exact nbf (by assumption)|exact nor2 (by assumption) (by assumption))]))
  have hSA:∀ X,aV b (aC s)=X→Deep 7 X.n:=fun X hX=>by rw [←hX];exact spot_deep hok _ _
  have hpos1:=rF (qP ht0) (rN (s:=s) (by assumption))
  have hpos2:=rF (l:=aC t) (nn (by assumption)) (rN (s:=t) (by assumption))
  have hsz1:∀ s9∈aK (aC s),s9.size≤60:=pathN_size
  have hown:=hW.owned (p:=p) hok
  clear hSp hSq hT hTo hTk hMay hm1 hm2 hm3 hm4 hMM hmay hunder
  generalize hsa:aV b (aC s)=sa at *
  generalize (cC b (aK (aC t))).1=sb at *
  have hde:Deep 7 sa.n:=hSA sa rfl
  clear hSA
  have hM2:tM b sa sb (aK (aC s)) (aK (aC t))=if sb.is=true∧(sa.th.dir=true∨sb.th.dir=true) then (b,6)
      else if sb.is=true∧¬eM b sb=0 then (b,eM b sb)
      else if sa.th.dir=true∧(0<sa.lay∨(sa.n.h.opq=false∧fO b.ls (aK (aC s))=true)) then (b,14)
      else if 6<(aK (aC t)).length+jD sa.n then (b,2)
      else tV b sa.th.dir (aK (aC s)) (aK (aC t)):=rfl
  refine fC (fun F V' L'=>∃ (γ11:Nat),VLe V5 V'∧¬(sb.is=true∧(sa.th.dir=true∨sb.th.dir=true))∧¬(sb.is=true∧¬eM b sb=0)∧⟨γ11,214,foC x sa.lay sa.par sa.th⟩ :: ⟨p,113,bxC I b⟩ :: L1=L'∧F=[(0,.pointer (some ⟨p,0,none⟩)),(9,.slice A2 n2 c2),(10,.slice A n k),(11,.pointer (some ⟨γ11,0,none⟩))]) ?_ ?_
  · repeat' (first|(refine aE ?_;first|(refine aD ?_;(refine aW rfl ⟨Tryz.call151⟩ rfl bF rfl (hTk2 _ vl9 x2) ?_;rintro v V6 B6 hV6 ⟨rfl,rfl⟩))|refine pu9 ?_)|refine fX ?_|(refine bU rfl rfl rfl ?_ ?_<;>intro hq)|refine dX [24,25,26,27,28,29] rfl ?_|(refine aA rfl ?_ ?_<;>intro hq<;>try exact no9)|(refine bP rfl ?_ ?_<;>intro hq))
    all_goals first
      | (refine oV ?_;refine gZ _ ⟨_,vl9,?_,?_,rfl,rfl⟩ bH slc9
         · first
           | exact fun h9=>nf (by assumption) h9.1
           | exact fun h9=>h9.2.elim (nf (by assumption)) (nf (by assumption))
         · first
           | exact fun h9=>nf (by assumption) h9.1
           | exact fun h9=>absurd h9.2 (by assumption))
      | (rw [hM2]
         (refine bC Tryz.results71 (aB rfl) (show List.Sublist (⟨p,113,bxC I b⟩ :: L1) _ from sl9) ?_)
         first
         | (rw [if_pos ⟨by assumption,by first|exact .inl (by assumption)|exact .inr (by assumption)⟩];exact⟨dE _ rfl,I,_,rfl,hW.le vl9⟩)
         | (rw [if_neg (fun h9=>h9.2.elim (nf (by assumption)) (nf (by assumption))),if_pos ⟨by assumption,by assumption⟩];exact⟨rfl,I,_,rfl,hW.le vl9⟩))
  rintro F V6 L' ⟨γ11,hV6,hc1,hc2,rfl,rfl⟩
  rw [hM2,if_neg hc1,if_neg hc2]
  clear hM2 hTk2
  have hop:sa.n.h.opq=x.h.opq:=by rw [←hxn];rfl
  rw [hop]
  have hBe:=fun V2 (hV2:VLe V V2) A m e hs hme=>BelowB_c (p:=p) hok (hW.le hV2) A m e (aK (aC s)) hs hme
  have hBe2:=fun V2 (hV2:VLe V V2) A m e hs hme=>BelowB_c (p:=p) hok (hW.le hV2) A m e (aK (aC t)) hs hme
  generalize fO b.ls (aK (aC s))=be at *
  have hVV6:VLe V V6:=((((hV1.trans hV2).trans hV3).trans hV4).trans hV5).trans hV6
  have hs6:=hs3.le ((hV4.trans hV5).trans hV6)
  have ht6:=hS2.le (((hV3.trans hV4).trans hV5).trans hV6)
  have hx6:=hxN.le ((hV4.trans hV5).trans hV6)
  repeat' (first|(refine aE ?_;first|refine st9 ?_|(refine al9 ?_;intro γ)|refine pu9 ?_)|refine gx9 ?_|refine cL (id:=30) ?_)
  refine fC (fun F V' L'=>∃ (γ14:Nat),VLe V6 V'∧¬(sa.th.dir=true∧(0<sa.lay∨(x.h.opq=false∧be=true)))∧⟨γ14,70,lnC x⟩ :: ⟨γ11,214,foC x sa.lay sa.par sa.th⟩ :: ⟨p,113,bxC I b⟩ :: L1=L'∧F=[(0,.pointer (some ⟨p,0,none⟩)),(9,.slice A2 n2 c2),(10,.slice A n k),(11,.pointer (some ⟨γ11,0,none⟩)),(14,.pointer (some ⟨γ14,0,none⟩))]) ?_ ?_
  · repeat' (first|(refine aE ?_;first|(refine aD ?_;(refine aW rfl ⟨Tryz.call156⟩ rfl bF rfl (hBe _ vl9 _ _ _ (hs6.le vl9) hnk) ?_;rintro v V7 B7 hV7 ⟨rfl,rfl⟩))|refine pu9 ?_)|refine fX ?_|(refine aJ rfl rfl rfl ?_ ?_<;>intro hq<;>try exact no9)|(refine bU rfl rfl rfl ?_ ?_<;>intro hq)|refine dX [31,32] rfl ?_|(refine bP rfl ?_ ?_<;>intro hq))
    all_goals first
      | (refine oV ?_;refine gZ _ ⟨_,vl9,?_,rfl,rfl⟩ bH slc9
         first
         | exact fun h9=>nf (by assumption) h9.1
         | exact fun h9=>h9.2.elim (by assumption) fun h8=>nf (by assumption) h8.2
         | exact fun h9=>h9.2.elim (by assumption) fun h8=>absurd h8.1 (by simpa using hq))
      | (refine eY ?_;(refine bC Tryz.results71 (aB rfl) (show List.Sublist (⟨p,113,bxC I b⟩ :: L1) _ from sl9) ?_)
         rw [if_pos (by first|exact⟨by assumption,.inl (by assumption)⟩|exact⟨by assumption,.inr ⟨nb (by assumption),by assumption⟩⟩)]
         exact⟨dE _ rfl,I,_,rfl,hW.le vl9⟩)
  rintro F V7 L' ⟨γ14,hV7,hc3,rfl,rfl⟩
  rw [if_neg hc3]
  have hhx:jD sa.n=jD x.n:=by rw [hxn]
  have hdx:Deep 7 x.n:=by rw [hxn];exact hde
  have hHe:=height_c 7 (by omega) V7 x (hx6.le hV7) hdx
  have hhb:=oN hdx
  have hn1:=hs3.1.1
  have hn2:=hS2.1.1
  rw [hhx]
  repeat' (first|(refine aE ?_;first|(refine aD ?_;refine aN rfl (aG ⟨Tryz.call157⟩ rfl (hHe)) ?_)|refine pu9 ?_)|refine bV ?_|(refine aA rfl ?_ ?_<;>intro hq<;>try exact no9))
  all_goals first
    | (refine eY ?_;(refine bC Tryz.results71 (aB rfl) (show List.Sublist (⟨p,113,bxC I b⟩ :: L1) _ from sl9) ?_)
       rw [if_pos (by omega)];exact⟨dE 2 rfl,I,_,rfl,hW.le vl9⟩)
    | skip
  rw [if_neg (by omega)]
  clear hHe hBe
  have hVV7:=hVV6.trans hV7
  have hU:=UpB_c (p:=p) hok (hW.le hVV7) A n k _ (hs6.le hV7) hnk (by omega)
  have hli:=up_light hok hsz1 (by omega)
  have hub:=up_mid hok (ss:=aK (aC s)) (by omega)
  have hM3:tV b sa.th.dir (aK (aC s)) (aK (aC t))=if ¬(upP b.ls b.us b.gs (aK (aC s))).2=0 then (b,(upP b.ls b.us b.gs (aK (aC s))).2)
      else if ¬(upP ((upP b.ls b.us b.gs (aK (aC s))).1 :: b.ls.tail) b.us b.gs ((aK (aC t)).take ((aK (aC t)).length - 1))).2=0 then (b,(upP ((upP b.ls b.us b.gs (aK (aC s))).1 :: b.ls.tail) b.us b.gs ((aK (aC t)).take ((aK (aC t)).length - 1))).2)
      else uN b sa.th.dir ((dN (upP b.ls b.us b.gs (aK (aC s))).1 (aK (aC s))).getD pnZ) (upP ((upP b.ls b.us b.gs (aK (aC s))).1 :: b.ls.tail) b.us b.gs ((aK (aC t)).take ((aK (aC t)).length - 1))).1 (aK (aC s)) (aK (aC t)):=rfl
  rw [hM3]
  clear hM3
  generalize upP b.ls b.us b.gs (aK (aC s))=up at *
  refine dD (fun F V' L'=>∃ (γ15:Nat) (y:LN),VLe V7 V'∧aX V' y∧y.n=up.1∧⟨γ15,70,lnC y⟩ :: ⟨γ14,70,lnC x⟩ :: ⟨γ11,214,foC x sa.lay sa.par sa.th⟩ :: ⟨p,113,bxC I b⟩ :: L1=L'∧F=[(0,.pointer (some ⟨p,0,none⟩)),(8,bT up.2),(9,.slice A2 n2 c2),(10,.slice A n k),(11,.pointer (some ⟨γ11,0,none⟩)),(14,.pointer (some ⟨γ14,0,none⟩)),(15,.pointer (some ⟨γ15,0,none⟩))]) ?_ ?_
  · refine bM (id:=35) _ mixed (List.Sublist.refl _) ?_;refine gt9 0 ?_;refine gt9 1 ?_;refine gt9 2 ?_;refine gt9 3 ?_;refine gt9 4 ?_;refine gt9 5 ?_;refine gt9 6 ?_;refine gt9 7 ?_;refine gt9 8 ?_;(refine dF (i:=9) (j:=13) (by kernel_rfl) rfl rfl rfl rfl vl9 vl9 bD ?_ ?_<;>first|((refine aW rfl ⟨Tryz.call152⟩ rfl bF rfl (hU) ?_;rintro v V8 B8 hV8 ⟨rfl,y,rfl,hyN,hyn⟩);refine gt9 10 ?_;refine gt9 11 ?_;refine gt9 12 ?_;refine aY (i:=13) rfl ?_;(refine bS rfl zer_70 rfl ?_;intro γ);refine aY (i:=14) rfl ?_;refine aO rfl siz_70 rfl rfl rfl rfl bG dC rfl ?_;refine gt9 15 ?_;refine aU (by kernel_rfl) vl9 vl9 bD ?_)|((refine bS rfl zer_70 rfl ?_;intro γ);refine aY (i:=9) rfl ?_;(refine aW rfl ⟨Tryz.call152⟩ rfl bF rfl (hU) ?_;rintro v V8 B8 hV8 ⟨rfl,y,rfl,hyN,hyn⟩);refine gt9 10 ?_;refine gt9 11 ?_;refine gt9 12 ?_;refine aY (i:=14) rfl ?_;refine aO rfl siz_70 rfl rfl rfl rfl bG dC rfl ?_;refine gt9 15 ?_;refine aU (by kernel_rfl) vl9 vl9 bD ?_))
    all_goals exact bR _ ⟨_,y,hV8,hyN,hyn,rfl,rfl⟩ bH sp9
  rintro F V8 L' ⟨γ15,y,hV8,hyN,hyn,rfl,rfl⟩
  by_cases hu:up.2=0
  rotate_left
  · rw [if_pos hu]
    repeat' (first|(refine aE ?_;refine pu9 ?_)|refine bV ?_|(refine aA rfl ?_ ?_<;>intro hq<;>try exact no9))
    all_goals first
      | (exfalso;exact absurd (by assumption) hu)
      | (refine eY ?_;(refine bC Tryz.results71 (aB rfl) (show List.Sublist (⟨p,113,bxC I b⟩ :: L1) _ from sl9) ?_)
         exact⟨rfl,I,_,rfl,hW.le vl9⟩)
  rw [if_neg (not_not_intro hu)]
  have hli:=hli hu
  have hub:=hub hu
  have hVV8:=hVV7.trans hV8
  have hs8:=hs6.le (hV7.trans hV8)
  have ht8:=ht6.le (hV7.trans hV8)
  have hFd:=Find_c V8 y hyN (by rw [hyn];exact hub.imp fun _ _=>lT) A n k _ hs8
  rw [hyn] at hFd
  repeat' (first|(refine aE ?_;first|(refine aD ?_;(refine aM rfl ⟨Tryz.call158⟩ rfl rfl (hFd) ?_;rintro v V9 hV9 ⟨z,rfl,hzN,hzn⟩))|refine st9 ?_|refine pu9 ?_)|refine bV ?_|(refine aA rfl ?_ ?_<;>intro hq<;>try exact no9))
  all_goals first
    | (exfalso;exact absurd hu (by assumption))
    | skip
  have e0:∀ l,l=lnC z→spl (lnC x) 0 l=lnC z:=fun l hl=>by rw [hl];exact gY rfl
  rw [e0 _ (by rfl)]
  clear e0
  rw [←hzn]
  have hfz:cA dZ z.n:=by
    rw [hzn]
    cases hf:dN up.1 (aK (aC s)) with
    | none=>exact .mk ⟨Nat.zero_le _,Nat.zero_le _⟩ (by simp)
    | some w=>exact pQ (hub.imp fun _ _=>lT) hf
  obtain⟨q,x0,xt,rest,hK,hx,hL1,hlen,hme,hml,hm0⟩:=hW.open_ hok
  subst hL1
  have hxl:(x0 :: xt).length=I.m:=by rw [←hx];exact hW.len
  have hVV9:=hVV8.trans hV9
  have him4:=hW.m4 hok
  have hoxt:=ones_ln xt
  have hIK:xL I.K I.e (Int.toNat 1) 8=xL (some ⟨q,0,none⟩) I.e 1 8:=by rw [hK];rfl
  refine dD (fun F V' L'=>∃ (A3:Option Addr) (n3 c3:Nat),dP V' A3 n3 (y :: xt)∧VLe V9 V'∧⟨γ15,70,lnC y⟩ :: ⟨γ14,70,lnC z⟩ :: ⟨γ11,214,foC x sa.lay sa.par sa.th⟩ :: ⟨p,113,bxC I b⟩ :: [⟨q,70,(x0 :: xt).flatMap lnC ++ rest⟩]=L'∧F=[(0,.pointer (some ⟨p,0,none⟩)),(9,.slice A2 n2 c2),(10,.slice A n k),(11,.pointer (some ⟨γ11,0,none⟩)),(14,.pointer (some ⟨γ14,0,none⟩)),(15,.pointer (some ⟨γ15,0,none⟩)),(16,.slice A3 n3 c3)]) ?_ ?_
  · refine bM (id:=39) _ mixed (List.Sublist.refl _) ?_;refine gt9 0 ?_;refine gt9 2 ?_;refine gt9 3 ?_;refine gt9 4 ?_;refine gt9 5 ?_;refine fP 6 rfl rfl (gM und_30 siz_70 rfl rfl (by omega)) ?_;refine aY (i:=1) rfl ?_;(refine aP rfl und_30 siz_70 zec_70 rfl rfl rfl rfl rfl rfl rfl ?_;intro γ);refine aY (i:=7) rfl ?_;(refine aT rfl und_30 inf_70 rfl rfl rfl (cU.close (f:=lnC) (xs:=[y]) (rest:=[]) lG rfl rfl (Nat.le_refl _) (by unfold maxLen;omega)) bF (src_lower9 hIK bB hxl hme) bG (by omega) rfl rfl ?_;intro A3 c3 L3 hr3);refine gt9 8 ?_;refine aU (by kernel_rfl) vl9 vl9 bD ?_
    all_goals
      refine eA hr3 bF ?_ (by intro x9 hx9;obtain⟨cs9,h9⟩:=hown x9 hx9;exact⟨cs9,by repeat (first|exact h9|apply iE|apply own_skip)⟩)
      intro V10 hV10 hc10
      exact bR _ ⟨A3,_,c3,dP.of (xs:=y :: xt) (by rw [List.flatMap_cons];simpa using hc10) (by have h9:xt.length+1=I.m:=hxl;show xt.length+1=1+(I.m - 1);omega) (by show 1+(I.m - 1)≤maxLen;unfold maxLen;omega) (by
        intro w hw
        rcases List.mem_cons.1 hw with rfl|hw
        · exact hyN.le (hV9.trans hV10)
        · exact(hW.ls w (by rw [hx];exact List.mem_cons_of_mem _ hw)).le (hVV9.trans hV10)),hV10,rfl,rfl⟩ bH sp9
  rintro F V10 L' ⟨A3,n3,c3,hN3,hV10,rfl,rfl⟩
  have hl3:=hN3.1.1
  have hVV10:=hVV9.trans hV10
  have htl:(y :: xt).map LN.n=up.1 :: b.ls.tail:=by
    rw [List.map_cons,hyn,←hW.eq,hx];rfl
  have hli2:∀ w∈y :: xt,cA eW w.n:=fun w hw=>by
    rcases List.mem_cons.1 hw with rfl|hw
    · rw [hyn];exact hli
    · exact hok.light _ (by rw [←hW.eq,hx];exact List.mem_map_of_mem (f:=LN.n) (List.mem_cons_of_mem _ hw))
  have ht10:=ht8.le (hV9.trans hV10)
  have hs10:=hs8.le (hV9.trans hV10)
  have e9:(((n2:Nat):Int) - 1).toNat=(aK (aC t)).length - 1:=by omega
  have hU2:=Up_c V10 A3 n3 c3 (y :: xt) hN3 (by rw [←hl3];show xt.length+1≤1000;have h9:xt.length+1=I.m:=hxl;omega) hli2 I.M (hW.M.le hVV10) A2 (((n2:Nat):Int) - 1).toNat c2 ((aK (aC t)).take ((aK (aC t)).length - 1)) (by rw [e9];exact jZ ht10 (by omega)) (by omega) (by omega)
  rw [htl,hW.us,hW.gs] at hU2
  have hub2:(upP (up.1 :: b.ls.tail) b.us b.gs ((aK (aC t)).take ((aK (aC t)).length - 1))).2=0→cA (fB 200) (upP (up.1 :: b.ls.tail) b.us b.gs ((aK (aC t)).take ((aK (aC t)).length - 1))).1:=fun h9 =>
    up_bd9 (by rw [←htl];intro w hw;obtain⟨w2,hw2,rfl⟩:=List.mem_map.1 hw;exact hli2 w2 hw2) hli (by rw [List.length_take];omega) h9
  generalize upP (up.1 :: b.ls.tail) b.us b.gs ((aK (aC t)).take ((aK (aC t)).length - 1))=up2 at *
  repeat' (first|refine gx9 ?_|fail)
  refine dD (fun F V' L'=>∃ (y2:LN),VLe V10 V'∧aX V' y2∧y2.n=up2.1∧⟨γ15,70,lnC y2⟩ :: ⟨γ14,70,lnC z⟩ :: ⟨γ11,214,foC x sa.lay sa.par sa.th⟩ :: ⟨p,113,bxC I b⟩ :: [⟨q,70,(x0 :: xt).flatMap lnC ++ rest⟩]=L'∧F=[(0,.pointer (some ⟨p,0,none⟩)),(8,bT up2.2),(9,.slice A2 n2 c2),(10,.slice A n k),(11,.pointer (some ⟨γ11,0,none⟩)),(14,.pointer (some ⟨γ14,0,none⟩)),(15,.pointer (some ⟨γ15,0,none⟩))]) ?_ ?_
  · refine bM (id:=40) _ mixed (List.Sublist.cons _ (List.Sublist.refl _)) ?_;refine gt9 0 ?_;refine gt9 1 ?_;refine gt9 2 ?_;refine gt9 3 ?_;refine gt9 4 ?_;refine gt9 5 ?_;refine gt9 6 ?_;refine gt9 7 ?_;refine gt9 8 ?_;refine fP 9 rfl rfl (dS und_47 siz_9 rfl rfl (by omega)) ?_;refine aY (i:=10) rfl ?_;(refine aM rfl ⟨Tryz.call152⟩ rfl rfl (hU2) ?_;rintro v V11 hV11 ⟨y2,rfl,hy2N,hy2n⟩);refine gt9 11 ?_;refine gt9 12 ?_;refine gt9 13 ?_;refine aY (i:=14) rfl ?_;refine aO rfl siz_70 rfl rfl rfl rfl bG dC rfl ?_;refine gt9 15 ?_;refine aU (by kernel_rfl) vl9 vl9 bD ?_
    all_goals exact bR _ ⟨y2,hV11,hy2N,hy2n,rfl,rfl⟩ bH sp9
  rintro F V11 L' ⟨y2,hV11,hy2N,hy2n,rfl,rfl⟩
  have hVV11:=hVV10.trans hV11
  by_cases hu2:up2.2=0
  rotate_left
  · rw [if_pos hu2]
    repeat' (first|(refine aE ?_;refine pu9 ?_)|refine bV ?_|(refine aA rfl ?_ ?_<;>intro hq<;>try exact no9))
    all_goals first
      | (exfalso;exact absurd (by assumption) hu2)
      | (refine eY ?_;(refine bC Tryz.results71 (aB rfl) (List.Sublist.cons _ (List.Sublist.cons _ (List.Sublist.cons _ (List.Sublist.refl _)))) ?_)
         exact⟨rfl,I,_,rfl,hW.le hVV11⟩)
  rw [if_neg (not_not_intro hu2)]
  have hub2:=hub2 hu2
  have ht11:=ht10.le hV11
  have hs11:=hs10.le hV11
  have hz11:=hzN.le (hV10.trans hV11)
  have hM4:uN b sa.th.dir z.n up2.1 (aK (aC s)) (aK (aC t))=if ¬iB b up2.1 (aK (aC s))=0 then (b,iB b up2.1 (aK (aC s))) else vZ b (.mk { z.n.h with opq:=sa.th.dir && fO b.ls (aK (aC t)) } z.n.ks) (mV b up2.1 (aK (aC s))) (aK (aC t)):=rfl
  rw [hM4]
  clear hM4 hU2 hU hFd
  have hWo:=fun V6 (hV6:VLe V11 V6)=>without_c V6 p b I _ hok (hW.le (hVV11.trans hV6)) y2 (hy2N.le hV6) (by rw [hy2n];exact hub2.imp fun _ _=>gK (by omega)) A n k _ (hs11.le hV6) hnk
  rw [hy2n] at hWo
  have hgm:∀ g9,mV b up2.1 (aK (aC s))=g9→iB b up2.1 (aK (aC s))=0→cA sX g9:=fun g9 h9 h8=>by rw [←h9];exact gone_mid hub2 h8
  generalize mV b up2.1 (aK (aC s))=gn at *
  generalize iB b up2.1 (aK (aC s))=gf at *
  have hgm:=hgm gn rfl
  have hBe3:=fun V2 (hV2:VLe V11 V2)=>hBe2 V2 (hVV11.trans hV2) A2 n2 c2 (ht11.le hV2) hc2'
  clear hBe2
  generalize fO b.ls (aK (aC t))=be2 at *
  have hG:=fun V3 (hV3:VLe V11 V3) (w:LN) (hw:aX V3 w)=>xW V3 p b _ hok ⟨I,_,rfl,hW.le (hVV11.trans hV3)⟩ w hw
  repeat' (first|(refine aE ?_;refine pu9 ?_)|refine gx9 ?_|refine cL (id:=41) ?_|(refine aA rfl ?_ ?_<;>intro hq<;>try exact no9))
  all_goals first
    | (exfalso;exact absurd hu2 (by assumption))
    | skip
  refine dD (fun F V' L'=>∃ (oo:Bool),VLe V11 V'∧(sa.th.dir && be2)=oo∧⟨γ15,70,lnC y2⟩ :: ⟨γ14,70,lnC { z with h:={ z.h with opq:=oo } }⟩ :: ⟨p,113,bxC I b⟩ :: [⟨q,70,(x0 :: xt).flatMap lnC ++ rest⟩]=L'∧F=[(0,.pointer (some ⟨p,0,none⟩)),(9,.slice A2 n2 c2),(10,.slice A n k),(14,.pointer (some ⟨γ14,0,none⟩)),(15,.pointer (some ⟨γ15,0,none⟩))]) ?_ ?_
  · repeat' (first|(refine aE ?_;first|(refine aD ?_;(refine aW rfl ⟨Tryz.call156⟩ rfl bF rfl (hBe3 _ vl9) ?_;rintro v V12 B12 hV12 ⟨rfl,rfl⟩))|refine st9 ?_|refine pu9 ?_)|refine gx9 ?_|(refine bU rfl rfl rfl ?_ ?_<;>intro hq)|refine cL (id:=43) ?_)
    all_goals first
      | (refine oV ?_;refine gZ _ ⟨false,vl9,?_,rfl,rfl⟩ bH slc9;rw [show sa.th.dir=false by assumption];rfl)
      | (refine oV ?_;refine gZ _ ⟨be2,vl9,?_,rfl,rfl⟩ bH slc9;rw [show sa.th.dir=true by assumption];rfl)
  rintro F V12 L' ⟨oo,hV12,hoo,rfl,rfl⟩
  rw [hoo]
  have hzo:aX V12 { z with h:={ z.h with opq:=oo } }:=node_opq (hz11.le hV12)
  have hzon:(LN.n { z with h:={ z.h with opq:=oo } })=.mk { z.n.h with opq:=oo } z.n.ks:=rfl
  have hzos:cA dZ (PN.mk { z.n.h with opq:=oo } z.n.ks):=.mk hfz.here fun k hk=>hfz.kid hk
  repeat' (first|(refine aE ?_;first|(refine aD ?_;(refine aW rfl ⟨Tryz.call153⟩ rfl bF rfl (hWo _ vl9) ?_;rintro v V13 B13 hV13 ⟨rfl,y3,rfl,hy3N,hy3n⟩))|refine st9 ?_|refine pu9 ?_)|refine gx9 ?_|refine cL (id:=44) ?_)
  have e0:∀ l,l=lnC y3→spl (lnC y2) 0 l=lnC y3:=fun l hl=>by rw [hl];exact gY rfl
  rw [e0 _ (by rfl)]
  clear e0 hWo
  have hPu:=fun h8:gf=0=>Put_c V13 y3 hy3N (by rw [hy3n h8];exact hgm h8) A2 n2 c2 _ (ht11.le (hV12.trans hV13)) hc2' _ (hzo.le hV13) (by rw [hzon];exact hzos)
  rw [hzon] at hPu
  generalize (PN.mk { z.n.h with opq:=oo } z.n.ks)=n1 at *
  by_cases hgf:gf=0
  rotate_left
  · rw [if_pos hgf]
    repeat' (first|(refine aE ?_;refine pu9 ?_)|refine gx9 ?_|refine dX [45,46] rfl ?_|(refine aA rfl ?_ ?_<;>intro hq<;>try exact no9))
    all_goals first
      | (exfalso;exact absurd (by assumption) hgf)
      | (refine eY ?_;(refine bC Tryz.results71 (aB rfl) (List.Sublist.cons _ (List.Sublist.cons _ (List.Sublist.refl _))) ?_)
         exact⟨rfl,I,_,rfl,hW.le (hVV11.trans (hV12.trans hV13))⟩)
  rw [if_neg (not_not_intro hgf)]
  have hPu:=hPu hgf
  rw [hy3n hgf] at hPu
  unfold vZ
  repeat' (first|(refine aE ?_;first|(refine aD ?_;(refine aM rfl ⟨Tryz.call159⟩ rfl rfl (hPu) ?_;rintro v V14 hV14 ⟨x5,rfl,hx5N,hx5n⟩))|refine st9 ?_|refine pu9 ?_)|refine gx9 ?_|refine dX [45,47] rfl ?_|(refine aA rfl ?_ ?_<;>intro hq<;>try exact no9))
  all_goals first
    | (exfalso;exact absurd hgf (by assumption))
    | skip
  have e0:∀ l,l=lnC x5→spl (lnC y3) 0 l=lnC x5:=fun l hl=>by rw [hl];exact gY rfl
  rw [e0 _ (by rfl)]
  by_cases hpf:pF false n1 gn (aK (aC t))=0
  · rw [if_neg (not_not_intro hpf)]
    rw [tS,if_pos hpf] at hx5n
    have hG2:=hG V14 vl9 x5 hx5N
    rw [hx5n] at hG2
    repeat' (first|(refine aE ?_;first|(refine aD ?_;(refine aW rfl ⟨Tryz.call154⟩ rfl bF rfl (hG2) ?_;rintro v V15 B15 hV15 ⟨rfl,hB15⟩))|refine pu9 ?_)|refine bV ?_|(refine aA rfl ?_ ?_<;>intro hq<;>try exact no9))
    all_goals first
      | (exfalso;exact absurd hpf (by assumption))
      | (refine eY ?_;(refine bC Tryz.results71 (aB rfl) (List.Sublist.cons _ (List.Sublist.cons _ (List.Sublist.refl _))) ?_)
         exact⟨rfl,hB15⟩)
  · rw [if_pos hpf]
    repeat' (first|(refine aE ?_;refine pu9 ?_)|refine bV ?_|(refine aA rfl ?_ ?_<;>intro hq<;>try exact no9))
    all_goals first
      | (exfalso;exact absurd (by assumption) hpf)
      | (refine eY ?_;(refine bC Tryz.results71 (aB rfl) (List.Sublist.cons _ (List.Sublist.cons _ (List.Sublist.refl _))) ?_)
         exact⟨rfl,I,_,rfl,hW.le (hVV11.trans (hV12.trans (hV13.trans hV14)))⟩)
end
section
def chT (r:BX×Int):BX×(TD×Int):=(r.1,tdZ,r.2)
noncomputable def doP (b:BX) (c:CL):BX×(TD×Int) :=
  if 1≤c.op∧c.op≤3 then (b,iY b c) else if c.op=4 then chT (gJ b c) else if c.op=5 then chT (kJ b c)
  else if c.op=6 then chT (eL b c.path) else if c.op=7 then chT (rM b c.path c.other) else if c.op=8 then chT (nQ b (aC c.path) c.a)
  else if c.op=9 then chT (sZ b (aC c.path) c.a c.b) else if c.op=10 then chT (mN b (aC c.path) c.name c.data false)
  else if c.op=11 then chT (mN b (aC c.path) c.name c.data true) else if c.op=12 then (b,rK b c) else if c.op=13 then chT (beP b c.a c.b)
  else if c.op=14 then (b,{ tdZ with size:=eF (b.ls.headD pnZ) },0) else (b,tdZ,3)
theorem list_pos {b:BX} (hok:bK b) (ss:List ByteArray):∀ s∈gQ (bY b.ls ss),0<s.size:=fun s hs=>by
  have h1:=(pP.1 hs).1
  obtain⟨f,hf,hk⟩:=List.mem_flatMap.1 h1
  have hk2:s∈f.1.ks.map Prod.fst:=hk
  obtain⟨k,hk3,rfl⟩:=List.mem_map.1 hk2
  have h9:∀ k∈f.1.ks,eX k.1.toList=true:=(fZ hok.names ss f hf).here
  exact name_pos (h9 _ hk3)
theorem look_pos {b:BX} (hok:bK b) (c:CL):∀ s∈(iY b c).1.names,0<s.size:=by
  unfold iY
  split
  · simp [tdZ]
  · split
    · simp
    · split
      · simp [tdZ]
      · split
        · simp [tdZ]
        · exact list_pos hok _
theorem kS.off {r:TD×Int} {ev v:Value} {V:aI} {gs:List Nat} (hc:qX V gs) (hp:∀ s∈r.1.names,0<s.size) (h:kS r ev v V):kS r ev v (V.off gs):=by
  obtain⟨A,n,c,h1,h2,h3⟩:=h
  exact⟨A,n,c,h1,h2.off hc hp,h3⟩
theorem look_b {V:aI} {p:Nat} {b:BX} {Bs:List Box} (hok:bK b) (h:eO V p b Bs) (c:CL) (hc:c.path.size≤1000000):FnB Tryz.prog 67 [.pointer (some ⟨p,0,none⟩),clV c] V Bs fun v V' Bs'=>Bs'=Bs∧kS (iY b c) (bT (iY b c).2) v V' :=
  eO.read hok h (fun v V gs hc hR=>kS.off hc (look_pos hok c) hR) fun V' I hV hB=>look_c V' p b I hok hB c hc
def DoR (p:Nat) (r:BX×(TD×Int)) (v:Value) (V':aI) (Bs':List Box):Prop:=kS r.2 (bT r.2.2) v V'∧eO V' p r.1 Bs'
theorem DoR.ch {p:Nat} {r:BX×Int} {v:Value} {V':aI} {Bs':List Box} (hB:eO V' p r.1 Bs') (hv:v=.tuple #[tdV tdZ none 0 0,bT r.2]):DoR p (chT r) v V' Bs':=⟨by rw [hv];exact kS.zero,hB⟩
def oR (c:CL):Prop:=c.path.size≤1000000∧c.other.size≤1000000∧c.name.size≤1000000∧c.data.size≤1000000
attribute [local irreducible] AtQ GoC GoL GoW QO QP Fn RV bX aL VLe cG bT
theorem Do_4 (V:aI) (p:Nat) (b:BX) (Bs:List Box) (hok:bK b) (h:eO V p b Bs) (c:CL) (hc:oR c) (ho:c.op=4):FnB Tryz.prog 18 [.pointer (some ⟨p,0,none⟩),clV c] V Bs (DoR p (doP b c)):=by
  have hC:=put_c V p b Bs hok h c hc.1
  have e:doP b c=chT (gJ b c):=by unfold doP;(repeat (first|rw [if_pos (by omega)]|rw [if_neg (by omega)]))
  rw [e]
  clear e
  (refine bI Tryz.func18 rfl Tryz.ntmps18 rfl ?_;intro w0)
  repeat' (first|(refine aE ?_;first|(refine aD ?_;(refine aW rfl ⟨Tryz.call68⟩ rfl bF rfl (hC) ?_;rintro v V2 B2 hV2 ⟨rfl,hB2⟩))|refine st9 ?_|(refine al9 ?_;intro γ)|refine pu9 ?_)|refine bW ?_|(refine aA rfl ?_ ?_<;>intro hq<;>try exact no9))
  all_goals
    (refine dB Tryz.results18 (aS agg_49 rfl bB (by exact rfl)) (aB rfl) (List.Sublist.cons _ (List.Sublist.cons _ (List.Sublist.refl _))) ?_)
    exact DoR.ch hB2 rfl
theorem Do_5 (V:aI) (p:Nat) (b:BX) (Bs:List Box) (hok:bK b) (h:eO V p b Bs) (c:CL) (hc:oR c) (ho:c.op=5):FnB Tryz.prog 18 [.pointer (some ⟨p,0,none⟩),clV c] V Bs (DoR p (doP b c)):=by
  have hC:=mkdir_c V p b Bs hok h c hc.1
  have e:doP b c=chT (kJ b c):=by unfold doP;(repeat (first|rw [if_pos (by omega)]|rw [if_neg (by omega)]))
  rw [e]
  clear e
  (refine bI Tryz.func18 rfl Tryz.ntmps18 rfl ?_;intro w0)
  repeat' (first|(refine aE ?_;first|(refine aD ?_;(refine aW rfl ⟨Tryz.call69⟩ rfl bF rfl (hC) ?_;rintro v V2 B2 hV2 ⟨rfl,hB2⟩))|refine st9 ?_|(refine al9 ?_;intro γ)|refine pu9 ?_)|refine bW ?_|(refine aA rfl ?_ ?_<;>intro hq<;>try exact no9))
  all_goals
    (refine dB Tryz.results18 (aS agg_49 rfl bB (by exact rfl)) (aB rfl) (List.Sublist.cons _ (List.Sublist.cons _ (List.Sublist.refl _))) ?_)
    exact DoR.ch hB2 rfl
theorem Do_6 (V:aI) (p:Nat) (b:BX) (Bs:List Box) (hok:bK b) (h:eO V p b Bs) (c:CL) (hc:oR c) (ho:c.op=6):FnB Tryz.prog 18 [.pointer (some ⟨p,0,none⟩),clV c] V Bs (DoR p (doP b c)):=by
  have hC:=remove_c V p b Bs hok h c.path hc.1
  have e:doP b c=chT (eL b c.path):=by unfold doP;(repeat (first|rw [if_pos (by omega)]|rw [if_neg (by omega)]))
  rw [e]
  clear e
  (refine bI Tryz.func18 rfl Tryz.ntmps18 rfl ?_;intro w0)
  repeat' (first|(refine aE ?_;first|(refine aD ?_;(refine aW rfl ⟨Tryz.call70⟩ rfl bF rfl (hC) ?_;rintro v V2 B2 hV2 ⟨rfl,hB2⟩))|refine st9 ?_|(refine al9 ?_;intro γ)|refine pu9 ?_)|refine bW ?_|(refine aA rfl ?_ ?_<;>intro hq<;>try exact no9))
  all_goals
    (refine dB Tryz.results18 (aS agg_49 rfl bB (by exact rfl)) (aB rfl) (List.Sublist.cons _ (List.Sublist.cons _ (List.Sublist.refl _))) ?_)
    exact DoR.ch hB2 rfl
theorem Do_7 (V:aI) (p:Nat) (b:BX) (Bs:List Box) (hok:bK b) (h:eO V p b Bs) (c:CL) (hc:oR c) (ho:c.op=7):FnB Tryz.prog 18 [.pointer (some ⟨p,0,none⟩),clV c] V Bs (DoR p (doP b c)):=by
  have hC:=move_c V p b Bs hok h c.path c.other hc.1 hc.2.1
  have e:doP b c=chT (rM b c.path c.other):=by unfold doP;(repeat (first|rw [if_pos (by omega)]|rw [if_neg (by omega)]))
  rw [e]
  clear e
  (refine bI Tryz.func18 rfl Tryz.ntmps18 rfl ?_;intro w0)
  repeat' (first|(refine aE ?_;first|(refine aD ?_;(refine aW rfl ⟨Tryz.call71⟩ rfl bF rfl (hC) ?_;rintro v V2 B2 hV2 ⟨rfl,hB2⟩))|refine st9 ?_|(refine al9 ?_;intro γ)|refine pu9 ?_)|refine bW ?_|(refine aA rfl ?_ ?_<;>intro hq<;>try exact no9))
  all_goals
    (refine dB Tryz.results18 (aS agg_49 rfl bB (by exact rfl)) (aB rfl) (List.Sublist.cons _ (List.Sublist.cons _ (List.Sublist.refl _))) ?_)
    exact DoR.ch hB2 rfl
theorem Do_8 (V:aI) (p:Nat) (b:BX) (Bs:List Box) (hok:bK b) (h:eO V p b Bs) (c:CL) (hc:oR c) (ho:c.op=8):FnB Tryz.prog 18 [.pointer (some ⟨p,0,none⟩),clV c] V Bs (DoR p (doP b c)):=by
  have hC:=mode_c V p b Bs hok h c hc.1
  have e:doP b c=chT (nQ b (aC c.path) c.a):=by unfold doP;(repeat (first|rw [if_pos (by omega)]|rw [if_neg (by omega)]))
  rw [e]
  clear e
  (refine bI Tryz.func18 rfl Tryz.ntmps18 rfl ?_;intro w0)
  repeat' (first|(refine aE ?_;first|(refine aD ?_;(refine aW rfl ⟨Tryz.call72⟩ rfl bF rfl (hC) ?_;rintro v V2 B2 hV2 ⟨rfl,hB2⟩))|refine st9 ?_|(refine al9 ?_;intro γ)|refine pu9 ?_)|refine bW ?_|(refine aA rfl ?_ ?_<;>intro hq<;>try exact no9))
  all_goals
    (refine dB Tryz.results18 (aS agg_49 rfl bB (by exact rfl)) (aB rfl) (List.Sublist.cons _ (List.Sublist.cons _ (List.Sublist.refl _))) ?_)
    exact DoR.ch hB2 rfl
theorem Do_9 (V:aI) (p:Nat) (b:BX) (Bs:List Box) (hok:bK b) (h:eO V p b Bs) (c:CL) (hc:oR c) (ho:c.op=9):FnB Tryz.prog 18 [.pointer (some ⟨p,0,none⟩),clV c] V Bs (DoR p (doP b c)):=by
  have hC:=own_c V p b Bs hok h c.path hc.1 c.a c.b
  have e:doP b c=chT (sZ b (aC c.path) c.a c.b):=by unfold doP;(repeat (first|rw [if_pos (by omega)]|rw [if_neg (by omega)]))
  rw [e]
  clear e
  (refine bI Tryz.func18 rfl Tryz.ntmps18 rfl ?_;intro w0)
  repeat' (first|(refine aE ?_;first|(refine aD ?_;(refine aW rfl ⟨Tryz.call73⟩ rfl bF rfl (hC) ?_;rintro v V2 B2 hV2 ⟨rfl,hB2⟩))|refine st9 ?_|(refine al9 ?_;intro γ)|refine pu9 ?_)|refine bW ?_|(refine aA rfl ?_ ?_<;>intro hq<;>try exact no9))
  all_goals
    (refine dB Tryz.results18 (aS agg_49 rfl bB (by exact rfl)) (aB rfl) (List.Sublist.cons _ (List.Sublist.cons _ (List.Sublist.refl _))) ?_)
    exact DoR.ch hB2 rfl
theorem Do_10 (V:aI) (p:Nat) (b:BX) (Bs:List Box) (hok:bK b) (h:eO V p b Bs) (c:CL) (hc:oR c) (ho:c.op=10):FnB Tryz.prog 18 [.pointer (some ⟨p,0,none⟩),clV c] V Bs (DoR p (doP b c)):=by
  have hC:=set_c V p b Bs hok h c hc.1 (by have:=hc.2.2.1;omega) (by have:=hc.2.2.2;unfold maxLen;omega) false
  have e:doP b c=chT (mN b (aC c.path) c.name c.data false):=by unfold doP;(repeat (first|rw [if_pos (by omega)]|rw [if_neg (by omega)]))
  rw [e]
  clear e
  (refine bI Tryz.func18 rfl Tryz.ntmps18 rfl ?_;intro w0)
  repeat' (first|(refine aE ?_;first|(refine aD ?_;(refine aW rfl ⟨Tryz.call74⟩ rfl bF rfl (hC) ?_;rintro v V2 B2 hV2 ⟨rfl,hB2⟩))|refine st9 ?_|(refine al9 ?_;intro γ)|refine pu9 ?_)|refine bW ?_|(refine aA rfl ?_ ?_<;>intro hq<;>try exact no9))
  all_goals
    (refine dB Tryz.results18 (aS agg_49 rfl bB (by exact rfl)) (aB rfl) (List.Sublist.cons _ (List.Sublist.cons _ (List.Sublist.refl _))) ?_)
    exact DoR.ch hB2 rfl
theorem Do_11 (V:aI) (p:Nat) (b:BX) (Bs:List Box) (hok:bK b) (h:eO V p b Bs) (c:CL) (hc:oR c) (ho:c.op=11):FnB Tryz.prog 18 [.pointer (some ⟨p,0,none⟩),clV c] V Bs (DoR p (doP b c)):=by
  have hC:=set_c V p b Bs hok h c hc.1 (by have:=hc.2.2.1;omega) (by have:=hc.2.2.2;unfold maxLen;omega) true
  have e:doP b c=chT (mN b (aC c.path) c.name c.data true):=by unfold doP;(repeat (first|rw [if_pos (by omega)]|rw [if_neg (by omega)]))
  rw [e]
  clear e
  (refine bI Tryz.func18 rfl Tryz.ntmps18 rfl ?_;intro w0)
  repeat' (first|(refine aE ?_;first|(refine aD ?_;(refine aW rfl ⟨Tryz.call74⟩ rfl bF rfl (hC) ?_;rintro v V2 B2 hV2 ⟨rfl,hB2⟩))|refine st9 ?_|(refine al9 ?_;intro γ)|refine pu9 ?_)|refine bW ?_|(refine aA rfl ?_ ?_<;>intro hq<;>try exact no9))
  all_goals
    (refine dB Tryz.results18 (aS agg_49 rfl bB (by exact rfl)) (aB rfl) (List.Sublist.cons _ (List.Sublist.cons _ (List.Sublist.refl _))) ?_)
    exact DoR.ch hB2 rfl
theorem Do_13 (V:aI) (p:Nat) (b:BX) (Bs:List Box) (hok:bK b) (h:eO V p b Bs) (c:CL) (hc:oR c) (ho:c.op=13):FnB Tryz.prog 18 [.pointer (some ⟨p,0,none⟩),clV c] V Bs (DoR p (doP b c)):=by
  have hC:=be_c V p b Bs hok h c.a c.b
  have e:doP b c=chT (beP b c.a c.b):=by unfold doP;(repeat (first|rw [if_pos (by omega)]|rw [if_neg (by omega)]))
  rw [e]
  clear e
  (refine bI Tryz.func18 rfl Tryz.ntmps18 rfl ?_;intro w0)
  repeat' (first|(refine aE ?_;first|(refine aD ?_;(refine aW rfl ⟨Tryz.call76⟩ rfl bF rfl (hC) ?_;rintro v V2 B2 hV2 ⟨rfl,hB2⟩))|refine st9 ?_|(refine al9 ?_;intro γ)|refine pu9 ?_)|refine bW ?_|(refine aA rfl ?_ ?_<;>intro hq<;>try exact no9))
  all_goals
    (refine dB Tryz.results18 (aS agg_49 rfl bB (by exact rfl)) (aB rfl) (List.Sublist.cons _ (List.Sublist.cons _ (List.Sublist.refl _))) ?_)
    exact DoR.ch hB2 rfl
theorem Do_look (V:aI) (p:Nat) (b:BX) (Bs:List Box) (hok:bK b) (h:eO V p b Bs) (c:CL) (hc:oR c) (ho:1≤c.op∧c.op≤3):FnB Tryz.prog 18 [.pointer (some ⟨p,0,none⟩),clV c] V Bs (DoR p (doP b c)):=by
  have hC:=look_b hok h c hc.1
  have e:doP b c=(b,iY b c):=by unfold doP;(repeat (first|rw [if_pos (by omega)]|rw [if_neg (by omega)]))
  rw [e]
  clear e
  (refine bI Tryz.func18 rfl Tryz.ntmps18 rfl ?_;intro w0)
  repeat' (first|(refine aE ?_;first|(refine aD ?_;(refine aW rfl ⟨Tryz.call67⟩ rfl bF rfl (hC) ?_;rintro v V2 B2 hV2 ⟨rfl,A2,n2,c2,rfl,hS2,hn2⟩))|refine st9 ?_|(refine al9 ?_;intro γ)|refine pu9 ?_)|refine bW ?_|(refine aA rfl ?_ ?_<;>intro hq<;>try exact no9))
  all_goals
    (refine dB Tryz.results18 (aS agg_49 rfl bB (by exact rfl)) (aB rfl) (List.Sublist.cons _ (List.Sublist.cons _ (List.Sublist.refl _))) ?_)
    exact⟨⟨A2,n2,c2,rfl,hS2,hn2⟩,h.le vl9⟩
theorem Do_get (V:aI) (p:Nat) (b:BX) (Bs:List Box) (hok:bK b) (h:eO V p b Bs) (c:CL) (hc:oR c) (ho:c.op=12):FnB Tryz.prog 18 [.pointer (some ⟨p,0,none⟩),clV c] V Bs (DoR p (doP b c)):=by
  have hC:=get_c V p b Bs hok h c hc.1 (by have:=hc.2.2.1;omega)
  have e:doP b c=(b,rK b c):=by unfold doP;(repeat (first|rw [if_pos (by omega)]|rw [if_neg (by omega)]))
  rw [e]
  clear e
  (refine bI Tryz.func18 rfl Tryz.ntmps18 rfl ?_;intro w0)
  repeat' (first|(refine aE ?_;first|(refine aD ?_;(refine aW rfl ⟨Tryz.call75⟩ rfl bF rfl (hC) ?_;rintro v V2 B2 hV2 ⟨rfl,A2,n2,c2,rfl,hS2,hn2⟩))|refine st9 ?_|(refine al9 ?_;intro γ)|refine pu9 ?_)|refine bW ?_|(refine aA rfl ?_ ?_<;>intro hq<;>try exact no9))
  all_goals
    (refine dB Tryz.results18 (aS agg_49 rfl bB (by exact rfl)) (aB rfl) (List.Sublist.cons _ (List.Sublist.cons _ (List.Sublist.refl _))) ?_)
    exact⟨⟨A2,n2,c2,rfl,hS2,hn2⟩,h.le vl9⟩
theorem Do_charge (V:aI) (p:Nat) (b:BX) (Bs:List Box) (hok:bK b) (h:eO V p b Bs) (c:CL) (ho:c.op=14):FnB Tryz.prog 18 [.pointer (some ⟨p,0,none⟩),clV c] V Bs (DoR p (doP b c)):=by
  have e:doP b c=(b,{ tdZ with size:=eF (b.ls.headD pnZ) },0):=by unfold doP;(repeat (first|rw [if_pos (by omega)]|rw [if_neg (by omega)]))
  rw [e]
  clear e
  have h0:=h
  obtain⟨I,L1,rfl,hW⟩:=h
  obtain⟨q,x0,xt,rest,hK,hx,hL1,hlen,hme,hml,hm0⟩:=hW.open_ hok
  have hx0:aX V x0:=hW.ls x0 (by rw [hx];simp)
  have hhd:b.ls.headD pnZ=x0.n:=by rw [←hW.eq,hx];rfl
  have hBl:=QBlocks_c V x0 hx0
  rw [hhd]
  subst hL1
  (refine bI Tryz.func18 rfl Tryz.ntmps18 rfl ?_;intro w0)
  repeat' (first|(refine aE ?_;first|(refine aD ?_;refine aN rfl (aG ⟨Tryz.call77⟩ rfl (hBl)) ?_)|(refine cK ?_;refine aR (bL (k:=0) und_30 siz_70 rfl hK rfl hm0) ?_)|refine st9 ?_|(refine al9 ?_;intro γ)|refine pu9 ?_)|refine bW ?_|(refine aA rfl ?_ ?_<;>intro hq<;>try exact no9))
  all_goals
    (refine dB Tryz.results18 (aS agg_49 rfl bB (by exact rfl)) (aB rfl) (List.Sublist.cons _ (List.Sublist.cons _ (List.Sublist.refl _))) ?_)
    exact⟨⟨none,0,0,by rw [dA];rfl,bZ.nil,Nat.le_refl _⟩,h0.le vl9⟩
theorem Do_none (V:aI) (p:Nat) (b:BX) (Bs:List Box) (hok:bK b) (h:eO V p b Bs) (c:CL) (ho:c.op<1∨14<c.op):FnB Tryz.prog 18 [.pointer (some ⟨p,0,none⟩),clV c] V Bs (DoR p (doP b c)):=by
  have e:doP b c=(b,tdZ,3):=by unfold doP;(repeat (first|rw [if_pos (by omega)]|rw [if_neg (by omega)]))
  rw [e]
  clear e
  (refine bI Tryz.func18 rfl Tryz.ntmps18 rfl ?_;intro w0)
  repeat' (first|(refine aE ?_;first|refine st9 ?_|(refine al9 ?_;intro γ)|refine pu9 ?_)|refine bW ?_|(refine aA rfl ?_ ?_<;>intro hq<;>try exact no9))
  all_goals
    (refine dB Tryz.results18 (aS agg_49 rfl bB (by exact rfl)) (aB rfl) (List.Sublist.cons _ (List.Sublist.cons _ (List.Sublist.refl _))) ?_)
    exact⟨⟨none,0,0,by show _=Value.tuple #[_,bT 3];rw [dU (by decide)];rfl,bZ.nil,Nat.le_refl _⟩,h.le vl9⟩
theorem Do_c (V:aI) (p:Nat) (b:BX) (Bs:List Box) (hok:bK b) (h:eO V p b Bs) (c:CL) (hc:oR c):FnB Tryz.prog 18 [.pointer (some ⟨p,0,none⟩),clV c] V Bs (DoR p (doP b c)):=by
  by_cases h0:c.op<1∨14<c.op
  · exact Do_none V p b Bs hok h c h0
  by_cases h1:1≤c.op∧c.op≤3
  · exact Do_look V p b Bs hok h c hc h1
  by_cases h4:c.op=4
  · exact Do_4 V p b Bs hok h c hc h4
  by_cases h5:c.op=5
  · exact Do_5 V p b Bs hok h c hc h5
  by_cases h6:c.op=6
  · exact Do_6 V p b Bs hok h c hc h6
  by_cases h7:c.op=7
  · exact Do_7 V p b Bs hok h c hc h7
  by_cases h8:c.op=8
  · exact Do_8 V p b Bs hok h c hc h8
  by_cases h9:c.op=9
  · exact Do_9 V p b Bs hok h c hc h9
  by_cases h10:c.op=10
  · exact Do_10 V p b Bs hok h c hc h10
  by_cases h11:c.op=11
  · exact Do_11 V p b Bs hok h c hc h11
  by_cases h13:c.op=13
  · exact Do_13 V p b Bs hok h c hc h13
  by_cases h12:c.op=12
  · exact Do_get V p b Bs hok h c hc h12
  exact Do_charge V p b Bs hok h c (by omega)
end
section
def eJ:List Int→Int
  | []=>0
  | e :: l=>if ¬e=0 then e else eJ l
theorem xO:∀ (l m:List Int),eJ (l ++ m)=if ¬eJ l=0 then eJ l else eJ m
  | [],m=>by rw [List.nil_append,eJ,if_neg (by simp)]
  | e :: l,m=>by
    rw [List.cons_append,eJ,eJ,xO l m]
    by_cases h:e=0
    · rw [if_neg (not_not_intro h),if_neg (not_not_intro h)]
    · rw [if_pos h,if_pos h,if_pos h]
theorem firstF_drop {l:List Int} {k:Nat} {e:Int} (h:l[k]?=some e):eJ (l.drop k)=if ¬e=0 then e else eJ (l.drop (k+1)):=by
  obtain⟨hk,he⟩:=List.getElem?_eq_some_iff.1 h
  rw [List.drop_eq_getElem_cons hk,eJ,he]
abbrev erC (e:Int):List Value:=[bT e]
theorem er_len (e:Int):(erC e).length=1:=rfl
theorem one_er (e:Int):iO (bT e)=true:=by
  by_cases h:e=0
  · rw [h,dA];rfl
  · rw [dU h];rfl
theorem ones_er (l:List Int):∀ u∈l.flatMap erC,iO u=true:=fun u hu=>by
  obtain⟨e,_,he⟩:=List.mem_flatMap.1 hu
  rw [List.mem_singleton.1 he];exact one_er e
structure CF where
  M:LM
  c:CR
  A:Option Addr
  n:Nat
  k:Nat
  q:Int
  B:Option Addr
  m:Nat
  e:Nat
  lo:List Int
abbrev cfC (x:CF):List Value:=[.slice x.M.A x.M.n x.M.c,.slice x.M.B x.M.m x.M.e,.int .i64 x.c.u,.int .i64 x.c.g,.slice x.A x.n x.k,.int .i64 x.c.d,.int .i64 x.q,.slice x.B x.m x.e]
abbrev cfV (x:CF):Value:=.agg #[.slice x.M.A x.M.n x.M.c,.slice x.M.B x.M.m x.M.e,.int .i64 x.c.u,.int .i64 x.c.g,.slice x.A x.n x.k,.int .i64 x.c.d,.int .i64 x.q,.slice x.B x.m x.e]
structure CfV (V:aI) (x:CF):Prop where
  M:mS V x.M
  xs:eV V x.A x.n x.c.xs
  lo:eV V x.B x.m x.lo
theorem CfV.le {V V':aI} {x:CF} (h:CfV V x) (hv:VLe V V'):CfV V' x:=⟨h.M.le hv,h.xs.le hv,h.lo.le hv⟩
def uL (us gs:List PR) (c:CR):Prop:=(eS us c.u).isSome=false∨(eS gs c.g).isSome=false
instance (us gs : List PR) (c : CR) : Decidable (uL us gs c) := by unfold uL; infer_instance
def vY (x:CF):List Int:=[cN x.M.us,cN x.M.gs,fR x.c.u x.c.g x.c.d x.c.xs] ++ if x.q<1∨64<x.q then [1] else []
def cfgL (x:CF) (ls:List PN):List Int:=if 3<ls.length then vY x ++ [2] else (vY x ++ ls.map (dK false)) ++ if uL x.M.us x.M.gs x.c then [11] else []
def pD (x:CF) (ls:List PN):Int:=eJ (cfgL x ls)
theorem er_cells (e:Int):(bT e).cells=#[bT e]:=by
  by_cases h:e=0
  · rw [h,dA];rfl
  · rw [dU h];rfl
theorem fill_er3 {a b c:Int} {z:Value}:qK (fun i=>some (i * 1,1)) [z,z,z] [(0,bT a),(1,bT b),(2,bT c)]=some [bT a,bT b,bT c]:=by
  simp only [qK,er_cells];rfl
theorem fill_er1 {a:Int} {z:Value}:qK (fun i=>some (i * 1,1)) [z] [(0,bT a)]=some [bT a]:=by
  simp only [qK,er_cells];rfl
theorem er_row {A:Option Addr} {n c E:Nat} {es:List Int} {k:Int} {L:List Box} (hk:k≠0) (h:cU A n c E 1 (es.flatMap erC ++ [Value.iface 120 (.int .i64 k)]) L):cU A n c E 1 ((es ++ [k]).flatMap erC) L:=by
  rw [List.flatMap_append,List.flatMap_cons,List.flatMap_nil,List.append_nil,erC,dU hk];exact h
attribute [local irreducible] AtQ GoC GoL GoW QO QP Fn RV bX aL VLe cG bT
theorem first_c (V:aI) (A:Option Addr) (n c:Nat) (es:List Int) (h:eT V 1 erC A n es):Fn Tryz.prog 64 [.slice A n c] V fun v _=>v=bT (eJ es):=by
  have hl:=h.1
  have hm:=h.max
  (refine aH Tryz.func64 rfl Tryz.ntmps64 rfl ?_;intro w0)
  repeat' (first|(refine aE ?_;refine pu9 ?_)|refine bW ?_|fail)
  refine bQ (fun F V' L' m=>∃ k:Nat,V=V'∧[]=L'∧k≤n∧eJ es=eJ (es.drop k)∧m=n - k∧F=[(5,.slice A n c),(6,.int .i64 (n:Int)),(7,.int .i64 (k:Int))]) (m:=n) ⟨0,rfl,rfl,Nat.zero_le _,rfl,by omega,rfl⟩ bH rfl sl9 ?_
  rintro F V' L' m ⟨k,rfl,rfl,hkn,hf,rfl,rfl⟩
  by_cases hlt:k<n
  · obtain⟨b,off,e,rfl,he,hc⟩:=h.at_ hlt
    have hd:=firstF_drop he
    have hc0:=kL (j:=0) hc rfl
    repeat' (first|(refine aE ?_;refine pu9 ?_)|refine bW ?_|(refine aA rfl ?_ ?_<;>intro hq<;>try exact no9))
    all_goals first
      | (refine eY ?_;(refine aQ Tryz.results64 (aB rfl) ?_);rw [hf,hd,if_pos hq])
      | (refine oV ?_;refine aZ _ (n - (k+1)) ⟨k+1,rfl,rfl,by omega,by rw [hf,hd,if_neg hq],rfl,rfl⟩ (by omega) bH sl9)
  · repeat' (first|(refine aE ?_;refine pu9 ?_)|refine dR ?_|(refine aA rfl ?_ ?_<;>intro hq<;>try exact no9))
    all_goals
      (refine aQ Tryz.results64 (aB rfl) ?_)
      rw [hf,List.drop_of_length_le (by omega)];exact dA.symm
theorem Check9_c (V:aI) (x:CF) (hx:CfV V x) (A:Option Addr) (n c:Nat) (ls:List LN) (h:dP V A n ls):Fn Tryz.prog 16 [cfV x,.slice A n c] V fun v _=>v=bT (pD x (ls.map LN.n)):=by
  have hl:=h.1.1
  have hm:=h.1.max
  have c1:=fun V2 (hV2:VLe V V2)=>yK V2 x.M.A x.M.n x.M.c x.M.us (hx.M.1.le hV2) hx.M.2.1
  have c2:=fun V2 (hV2:VLe V V2)=>yK V2 x.M.B x.M.m x.M.e x.M.gs (hx.M.2.2.1.le hV2) hx.M.2.2.2
  have c3:=fun V2 (hV2:VLe V V2)=>Check_c V2 x.c.u x.c.g x.c.d x.A x.n x.k x.c.xs (hx.xs.le hV2)
  have hc1:vY x=[cN x.M.us,cN x.M.gs,fR x.c.u x.c.g x.c.d x.c.xs] ++ if x.q<1∨64<x.q then [1] else []:=rfl
  generalize cN x.M.us=m1 at *
  generalize cN x.M.gs=m2 at *
  generalize fR x.c.u x.c.g x.c.d x.c.xs=m3 at *
  (refine aH Tryz.func16 rfl Tryz.ntmps16 rfl ?_;intro w0)
  repeat' (first|(refine aE ?_;first|(refine al9 ?_;intro γ)|refine pu9 ?_)|refine bV ?_|fail)
  refine dD (fun F V' L'=>∃ (γ2 γ5:Nat),VLe V V'∧[⟨γ5,39,[bT m1,bT m2,bT m3]⟩,⟨γ2,29,cfC x⟩]=L'∧F=[(1,.slice A n c),(2,.pointer (some ⟨γ2,0,none⟩)),(5,.slice (some ⟨γ5,0,none⟩) 3 3)]) ?_ ?_
  · refine bM (id:=1) _ mixed (List.Sublist.refl _) ?_;refine gt9 0 ?_;refine gt9 1 ?_;refine gt9 2 ?_;refine gt9 4 ?_;refine gt9 5 ?_;refine gt9 6 ?_;refine gt9 8 ?_;refine gt9 9 ?_;refine aY (i:=3) rfl ?_;(first|refine aN rfl (aG ⟨Tryz.call62⟩ rfl (c1 _ vl9)) ?_|refine aN rfl (aG ⟨Tryz.call62⟩ rfl (c2 _ vl9)) ?_|refine aN rfl (aG ⟨Tryz.call63⟩ rfl (c3 _ vl9)) ?_);refine aY (i:=7) rfl ?_;(first|refine aN rfl (aG ⟨Tryz.call62⟩ rfl (c1 _ vl9)) ?_|refine aN rfl (aG ⟨Tryz.call62⟩ rfl (c2 _ vl9)) ?_|refine aN rfl (aG ⟨Tryz.call63⟩ rfl (c3 _ vl9)) ?_);refine aY (i:=10) rfl ?_;(first|refine aN rfl (aG ⟨Tryz.call62⟩ rfl (c1 _ vl9)) ?_|refine aN rfl (aG ⟨Tryz.call62⟩ rfl (c2 _ vl9)) ?_|refine aN rfl (aG ⟨Tryz.call63⟩ rfl (c3 _ vl9)) ?_);refine aY (i:=11) rfl ?_;(first|(refine aP rfl und_124 siz_39 zec_39 rfl rfl rfl rfl fill_er3 rfl rfl ?_;intro γ)|(refine aP rfl und_124 siz_39 zec_39 rfl rfl rfl rfl rfl rfl rfl ?_;intro γ));refine gt9 12 ?_;refine aU (by kernel_rfl) vl9 vl9 bD ?_
    all_goals (first|exact bR _ ⟨_,_,VLe.refl _,rfl,rfl⟩ bH sp9|trace_state)
  rintro F V1 L' ⟨γ2,γ5,hV1,rfl,rfl⟩
  have hr0:cU (some ⟨γ5,0,none⟩) 3 3 39 1 ([m1,m2,m3].flatMap erC) [⟨γ5,39,[bT m1,bT m2,bT m3]⟩]:=cU.close (f:=erC) (xs:=[m1,m2,m3]) (rest:=[]) er_len rfl rfl (Nat.le_refl _) (by unfold maxLen;omega)
  refine gA ?_;refine iK ?_;refine dD (fun F V' L'=>∃ (A5:Option Addr) (n5 c5:Nat) (L5:List Box),V1=V'∧cU A5 n5 c5 39 1 ((vY x).flatMap erC) L5∧n5=(vY x).length∧L5 ++ [⟨γ2,29,cfC x⟩]=L'∧F=[(1,.slice A n c),(2,.pointer (some ⟨γ2,0,none⟩)),(5,.slice A5 n5 c5)]) ?_ ?_
  · repeat' (first|(refine aE ?_;first|(refine aD ?_;(refine aT rfl und_124 inf_39 rfl rfl rfl hr0 bF (cZ bB rfl) bG (by omega) rfl rfl ?_;intro A3 c3 L3 hr3))|(refine cJ ?_;(refine aP rfl und_124 siz_39 zec_39 rfl rfl rfl rfl rfl rfl rfl ?_;intro γ))|refine pu9 ?_)|refine fX ?_|(refine aJ rfl rfl rfl ?_ ?_<;>intro hq<;>try exact no9)|refine dX [2,3] rfl ?_|(refine aA rfl ?_ ?_<;>intro hq<;>try exact no9))
    all_goals first
      | (refine oV ?_
         rw [if_pos (by omega)] at hc1
         refine bR _ ⟨A3,_,c3,L3,rfl,?_,?_,rfl,rfl⟩ bH sp9
         · rw [hc1];exact er_row (by decide) hr3
         · rw [hc1];rfl)
      | (refine oV ?_
         rw [if_neg (by omega),List.append_nil] at hc1
         refine bR _ ⟨_,_,_,_,rfl,by rw [hc1];exact hr0,by rw [hc1];rfl,rfl,rfl⟩ bH sp9)
  rintro F V' L' ⟨A5,n5,c5,L5,rfl,hr5,hn5,rfl,rfl⟩
  have hn5b:n5≤4:=by rw [hn5,hc1];split<;>simp
  clear hc1 hr0 c1 c2 c3
  by_cases h3:3<n
  · have e9:pD x (ls.map LN.n)=eJ (vY x ++ [2]):=by unfold pD cfgL;rw [if_pos (by rw [List.length_map];omega)]
    rw [e9]
    repeat' (first|(refine aE ?_;first|(refine aD ?_;(first|(refine aT rfl und_124 inf_39 rfl rfl rfl hr5 bF (cZ bB rfl) bG (by omega) rfl rfl ?_;intro A6 c6 L6 hr6;refine lE rfl (er_row (by decide) hr6) bF ?_;intro V6 hV6 hc6;have hE:=eT.of_cells (xs:=vY x ++ [2]) hc6 er_len (by rw [List.length_append,hn5];rfl) (by unfold maxLen;omega))|refine aN rfl (aG ⟨Tryz.call64⟩ rfl (first_c _ _ _ _ _ hE)) ?_))|(refine cJ ?_;(refine aP rfl und_124 siz_39 zec_39 rfl rfl rfl rfl rfl rfl rfl ?_;intro γ))|refine pu9 ?_)|refine bV ?_|(refine aA rfl ?_ ?_<;>intro hq<;>try exact no9))
    all_goals first
      | exact no9
      | (refine eY ?_;(refine aQ Tryz.results16 (aB rfl) ?_);rfl)
  have e9:pD x (ls.map LN.n)=eJ ((vY x ++ (ls.map LN.n).map (dK false)) ++ if uL x.M.us x.M.gs x.c then [11] else []):=by unfold pD cfgL;rw [if_neg (by rw [List.length_map];omega)]
  rw [e9]
  clear e9
  have hlm:((ls.map LN.n).map (dK false)).length=n:=by simp [hl]
  repeat' (first|(refine aE ?_;refine pu9 ?_)|refine bW ?_|(refine aA rfl ?_ ?_<;>intro hq<;>try exact no9))
  all_goals try exact no9
  refine bQ (fun F V' L' m=>∃ (k:Nat) (A':Option Addr) (n' c':Nat) (Lk:List Box),VLe V1 V'∧cU A' n' c' 39 1 ((vY x ++ ((ls.map LN.n).map (dK false)).take k).flatMap erC) Lk∧n'=n5+k∧Lk ++ [⟨γ2,29,cfC x⟩]=L'∧k≤n∧m=n - k∧F=[(2,.pointer (some ⟨γ2,0,none⟩)),(5,.slice A' n' c'),(44,.slice A n c),(45,.int .i64 (n:Int)),(46,.int .i64 (k:Int))]) (m:=n) ⟨0,A5,n5,c5,L5,VLe.refl _,by rw [List.take_zero,List.append_nil];exact hr5,rfl,rfl,Nat.zero_le _,by omega,rfl⟩ bH rfl sl9 ?_
  rintro F V' L' m ⟨k,A',n',c',Lk,hV',hrk,hn',rfl,hkn,rfl,rfl⟩
  by_cases hlt:k<n
  · obtain⟨b1,o1,y,rfl,hy,hc,hyN⟩:=(h.le (hV1.trans hV')).at_ hlt
    have hT:=fun V2 (hV2:VLe V' V2)=>TCheck_c V2 y (hyN.le hV2) false
    have hke:((ls.map LN.n).map (dK false))[k]?=some (dK false y.n):=by rw [List.getElem?_map,List.getElem?_map,hy];rfl
    have htk:((ls.map LN.n).map (dK false)).take (k+1)=((ls.map LN.n).map (dK false)).take k ++ [dK false y.n]:=by rw [List.take_add_one,hke];rfl
    generalize dK false y.n=ty at *
    have hone:∀ u∈[bT ty],iO u=true:=ones_er [ty]
    repeat' (first|(refine aE ?_;first|(refine aD ?_;(first|refine aN rfl (aG ⟨Tryz.call65⟩ rfl (hT _ vl9)) ?_|(refine aT rfl und_124 inf_39 rfl rfl rfl hrk bF (cZ bB rfl) bG (by omega) rfl rfl ?_;intro A6 c6 L6 hr6)))|(refine cJ ?_;(first|(refine aP rfl und_124 siz_39 zec_39 rfl rfl rfl rfl fill_er1 rfl rfl ?_;intro γ)|(refine aP rfl und_124 siz_39 zec_39 rfl rfl rfl rfl rfl rfl rfl ?_;intro γ)))|refine st9 ?_|(refine al9 ?_;intro γ)|refine pu9 ?_)|refine bW ?_|(refine aA rfl ?_ ?_<;>intro hq<;>try exact no9))
    all_goals
      refine aZ _ (n - (k+1)) ⟨k+1,A6,n'+1,c6,L6,vl9,?_,by omega,rfl,by omega,rfl,rfl⟩ (by omega) bH sl9
      rw [htk,←List.append_assoc,List.flatMap_append];exact hr6
  · obtain rfl:k=n:=by omega
    rw [List.take_of_length_le (by omega)] at hrk
    have hal:(vY x ++ (ls.map LN.n).map (dK false)).length=n':=by rw [List.length_append,hlm];omega
    generalize hall:vY x ++ (ls.map LN.n).map (dK false)=al at *
    have hn8:n'≤8:=by omega
    have hMl:=hx.M.le (hV1.trans hV')
    have t1:=fun V2 (hV2:VLe V' V2)=>mL V2 x.M.A x.M.n x.M.c x.M.us (hMl.1.le hV2) hMl.2.1 x.c.u
    have t2:=fun V2 (hV2:VLe V' V2)=>mL V2 x.M.B x.M.m x.M.e x.M.gs (hMl.2.2.1.le hV2) hMl.2.2.2 x.c.g
    have hun:uL x.M.us x.M.gs x.c↔((eS x.M.us x.c.u).isSome=false∨(eS x.M.gs x.c.g).isSome=false):=Iff.rfl
    have q1:qB (eS x.M.us x.c.u)=.tuple #[.int .i64 ((eS x.M.us x.c.u).getD 0),.bool (eS x.M.us x.c.u).isSome]:=rfl
    have q2:qB (eS x.M.gs x.c.g)=.tuple #[.int .i64 ((eS x.M.gs x.c.g).getD 0),.bool (eS x.M.gs x.c.g).isSome]:=rfl
    rw [q1] at t1
    rw [q2] at t2
    clear q1 q2
    generalize (eS x.M.us x.c.u).isSome=s1 at *
    generalize (eS x.M.gs x.c.g).isSome=s2 at *
    generalize (eS x.M.us x.c.u).getD 0=d1 at *
    generalize (eS x.M.gs x.c.g).getD 0=d2 at *
    repeat' (first|(refine aE ?_;first|(refine aD ?_;(first|refine aN rfl (aG ⟨Tryz.call66⟩ rfl (t1 _ vl9)) ?_|refine aN rfl (aG ⟨Tryz.call66⟩ rfl (t2 _ vl9)) ?_|(refine aT rfl und_124 inf_39 rfl rfl rfl hrk bF (cZ bB rfl) bG (by omega) rfl rfl ?_;intro A6 c6 L6 hr6)))|(refine cJ ?_;(refine aP rfl und_124 siz_39 zec_39 rfl rfl rfl rfl rfl rfl rfl ?_;intro γ))|refine pu9 ?_)|refine gxce9 ?_|(refine bU rfl rfl rfl ?_ ?_<;>intro hq)|refine dX [7,11,12,13,14] rfl ?_|(refine aA rfl ?_ ?_<;>intro hq<;>try exact no9)|(refine bP rfl ?_ ?_<;>intro hq))
    all_goals first
      | (have e1:uL x.M.us x.M.gs x.c:=hun.2 (by first|exact .inl (nb (by assumption))|exact .inr (nb (by assumption)))
         rw [if_pos e1]
         refine kR (er_row (by decide) hr6) bF ?_
         intro V6 hV6 hc6
         have hE:=eT.of_cells (xs:=al ++ [11]) hc6 er_len (by rw [List.length_append,hal];rfl) (by unfold maxLen;omega)
         repeat' (first|(refine aE ?_;first|(refine aD ?_;refine aN rfl (aG ⟨Tryz.call64⟩ rfl (first_c _ _ _ _ _ hE)) ?_)|refine pu9 ?_)|refine bV ?_|fail)
         (refine aQ Tryz.results16 (aB rfl) ?_)
         rfl)
      | (have e1:¬uL x.M.us x.M.gs x.c:=fun h9=>(hun.1 h9).elim (nbf (by assumption)) (nbf (by assumption))
         rw [if_neg e1,List.append_nil]
         refine kR hrk bF ?_
         intro V6 hV6 hc6
         have hE:=eT.of_cells (xs:=al) hc6 er_len hal (by unfold maxLen;omega)
         repeat' (first|(refine aE ?_;first|(refine aD ?_;refine aN rfl (aG ⟨Tryz.call64⟩ rfl (first_c _ _ _ _ _ hE)) ?_)|refine pu9 ?_)|refine bV ?_|fail)
         (refine aQ Tryz.results16 (aB rfl) ?_)
         rfl)
end
section
theorem ones_of9 {α:Type} (f:α→List Value) (hf:∀ x,(f x).all iO=true) (xs:List α):∀ u∈xs.flatMap f,iO u=true:=fun u hu=>by
  obtain⟨x,_,hx⟩:=List.mem_flatMap.1 hu
  exact List.all_eq_true.1 (hf x) u hx
attribute [local irreducible] AtQ GoC GoL GoW QO QP Fn RV bX aL VLe cG bT
theorem ownMaps_c (V:aI) (M:LM) (hM:mS V M) (h1:M.n≤1000) (h2:M.m≤1000):Fn Tryz.prog 55 [lmV M] V fun v V'=>∃ M':LM,v=lmV M'∧mS V' M'∧M'.us=M.us∧M'.gs=M.gs:=by
  have c1:=hM.1.1.cells pr_len
  have c2:=hM.2.2.1.1.cells pr_len
  have o1:=ones_of9 prC (fun _=>rfl) M.us
  have o2:=ones_of9 prC (fun _=>rfl) M.gs
  have l1:=hM.1.1.1
  have l2:=hM.2.2.1.1.1
  (refine aH Tryz.func55 rfl Tryz.ntmps55 rfl ?_;intro w0)
  repeat' (first|(refine aE ?_;first|(refine al9 ?_;intro γ))|refine bV ?_|fail)
  refine dD (fun F V' L'=>∃ (γ2:Nat) (A1 A2:Option Addr) (c1 c2:Nat) (L1 L2:List Box),V=V'∧cU A1 (0+M.n) c1 197 3 ([] ++ M.us.flatMap prC) L1∧cU A2 (0+M.m) c2 197 3 ([] ++ M.gs.flatMap prC) L2∧L1 ++ (L2 ++ [⟨γ2,24,[.slice A1 (0+M.n) c1,.slice A2 (0+M.m) c2]⟩])=L'∧F=[(2,.pointer (some ⟨γ2,0,none⟩))]) ?_ ?_
  · refine bM (id:=1) _ mixed (List.Sublist.cons _ (List.Sublist.refl _)) ?_;refine gt9 0 ?_;refine gt9 1 ?_;refine gt9 3 ?_;refine gt9 4 ?_;refine aY (i:=2) rfl ?_;(refine aT rfl und_22 inf_197 rfl rfl rfl cU.nil dT (fW c1) bG (by omega) rfl rfl ?_;intro A3 c3 L3 hr3);refine aY (i:=5) rfl ?_;(refine aT rfl und_22 inf_197 rfl rfl rfl cU.nil dT (fW c2) bG (by omega) rfl rfl ?_;intro A4 c4 L4 hr4);refine gt9 6 ?_;refine aY (i:=7) rfl ?_;refine aO rfl siz_24 rfl rfl rfl rfl bG dC rfl ?_;refine aU (by kernel_rfl) vl9 vl9 bD ?_
    all_goals exact bR _ ⟨_,A3,A4,c3,c4,L3,L4,rfl,hr3,hr4,rfl,rfl⟩ bH sp9
  rintro F V' L' ⟨γ2,A3,A4,c3,c4,L3,L4,rfl,hr3,hr4,rfl,rfl⟩
  repeat' (first|refine gx9 ?_|fail)
  all_goals
    refine eA hr3 bF ?_
    intro V3 hV3 hc3
    refine eA hr4 bF ?_
    intro V4 hV4 hc4
    have k3:=hr3.cap
    have k4:=hr4.cap
    (refine aQ Tryz.results55 (aS agg_24 rfl bB (by exact rfl)) ?_)
    rw [List.nil_append] at hc3 hc4
    exact⟨⟨A3,0+M.n,c3,M.us,A4,0+M.m,c4,M.gs⟩,rfl,⟨⟨eT.of_cells (hc3.le hV4) pr_len (show M.us.length=0+M.n by omega) (show 0+M.n≤maxLen by unfold maxLen;omega),hM.1.2⟩,k3,⟨eT.of_cells hc4 pr_len (show M.gs.length=0+M.m by omega) (show 0+M.m≤maxLen by unfold maxLen;omega),hM.2.2.1.2⟩,k4⟩,rfl,rfl⟩
theorem ownCred_c (V:aI) (c:CR) (A:Option Addr) (n k:Nat) (h:eV V A n c.xs) (hn:n≤1000):Fn Tryz.prog 56 [mU c.u c.g A n k c.d] V fun v V'=>∃ (A':Option Addr) (k':Nat),v=mU c.u c.g A' n k' c.d∧eV V' A' n c.xs:=by
  have hsrc:=h.2.2
  have hl:=h.1
  (refine aH Tryz.func56 rfl Tryz.ntmps56 rfl ?_;intro w0)
  repeat' (first|(refine aE ?_;first|(refine aD ?_;(refine aT rfl und_25 inf_3 rfl rfl rfl cU.nil dT (fW hsrc) bG (by omega) rfl rfl ?_;intro A' k' L1 hr))|refine st9 ?_|(refine al9 ?_;intro γ)|refine pu9 ?_)|refine bV ?_|fail)
  all_goals
    refine eA hr bF ?_
    intro V2 hV2 hc2
    (refine aQ Tryz.results56 (aS agg_27 rfl bB (by exact rfl)) ?_)
    have hi:=qT hl (by omega) hc2
    exact⟨A',k',by simp only [Nat.zero_add];rfl,hi⟩
end
section
def uP (c:CR):Hd:=⟨2,493,c.u,c.g,false,[],⟨#[]⟩⟩
def newB (us gs:List PR) (c:CR) (q:Int) (ls:List PN):BX:=⟨us,gs,c,q,(cT true us gs (.mk (uP c) [])).getD pnZ :: ls⟩
theorem cfg_ok {x:CF} {ls:List PN} (h:pD x ls=0):ls.length≤3∧cN x.M.us=0∧cN x.M.gs=0∧fR x.c.u x.c.g x.c.d x.c.xs=0∧(1≤x.q∧x.q≤64)∧(∀ y∈ls,dK false y=0)∧¬uL x.M.us x.M.gs x.c:=by
  have hz:∀ {l:List Int},eJ l=0→∀ e∈l,e=0:=fun {l}=>by
    induction l with
    | nil=>intro _ e he;cases he
    | cons a l ih =>
      intro h e he
      rw [eJ] at h
      split at h
      · rename_i h1;exact absurd h h1
      · rename_i h1
        rcases List.mem_cons.1 he with rfl|he
        · exact Decidable.not_not.1 h1
        · exact ih h e he
  unfold pD at h
  have h1:=hz h
  unfold cfgL at h1
  by_cases h3:3<ls.length
  · rw [if_pos h3] at h1
    exact absurd (h1 2 (by simp)) (by decide)
  · rw [if_neg h3] at h1
    have h2:∀ e∈vY x,e=0:=fun e he=>h1 e (by simp [he])
    unfold vY at h2
    refine⟨by omega,h2 _ (by simp),h2 _ (by simp),h2 _ (by simp),?_,fun y hy=>h1 (dK false y) (List.mem_append_left _ (List.mem_append_right _ (List.mem_map_of_mem hy))),fun hu=>?_⟩
    · by_cases hq:x.q<1∨64<x.q
      · rw [if_pos hq] at h2
        exact absurd (h2 1 (by simp)) (by decide)
      · omega
    · rw [if_pos hu] at h1
      exact absurd (h1 11 (by simp)) (by decide)
theorem sR {us gs:List PR} {c:CR} (h:¬uL us gs c):∃ z,cT true us gs (.mk (uP c) [])=some z:=by
  unfold uL at h
  cases h1:eS us c.u with
  | none=>exact absurd (.inl (by rw [h1];rfl)) h
  | some u =>
    cases h2:eS gs c.g with
    | none=>exact absurd (.inr (by rw [h2];rfl)) h
    | some g=>exact⟨_,lL (n:=.mk (uP c) []) (u:=u) (g:=g) h1 h2⟩
theorem tree_small {u:Bool} {n:PN} (h:dK u n=0):cA dZ n:=(pK h).1.imp fun _ _=>fit_small
attribute [local irreducible] AtQ GoC GoL GoW QO QP Fn RV bX aL VLe cG bT
theorem New_bx (V:aI) (x:CF) (hx:CfV V x) (A:Option Addr) (n c:Nat) (ls:List LN) (h:dP V A n ls):FnB Tryz.prog 13 [cfV x,.slice A n c] V [] fun v V' Bs'=>(¬pD x (ls.map LN.n)=0∧v=.tuple #[.pointer none,bT (pD x (ls.map LN.n))]∧Bs'=[])∨(pD x (ls.map LN.n)=0∧∃ p,v=.tuple #[.pointer (some ⟨p,0,none⟩),bT 0]∧eO V' p (newB x.M.us x.M.gs x.c x.q (ls.map LN.n)) Bs'):=by
  have hC:=Check9_c V x hx A n c ls h
  have hok:=fun h9=>cfg_ok (x:=x) (ls:=ls.map LN.n) h9
  generalize pD x (ls.map LN.n)=cf at *
  have hl:=h.1.1
  (refine bI Tryz.func13 rfl Tryz.ntmps13 rfl ?_;intro w0)
  repeat' (first|(refine aE ?_;first|(refine aD ?_;refine aN rfl (aG ⟨Tryz.call16⟩ rfl (hC)) ?_)|(refine al9 ?_;intro γ)|refine pu9 ?_)|refine bV ?_|(refine aA rfl ?_ ?_<;>intro hq<;>try exact no9))
  all_goals first
    | (refine eY ?_;(refine dB Tryz.results13 (aB rfl) (aB rfl) (List.nil_sublist _) ?_)
       exact .inl ⟨hq,rfl,rfl⟩)
    | skip
  have hcf:cf=0:=by omega
  subst hcf
  obtain⟨k1',k2,k3,k4,k5,k6,k7⟩:=hok rfl
  clear hok hC
  obtain⟨z,hz⟩:=sR k7
  have hn1:x.M.n≤1000:=by have:=(jG k2).1;have:=hx.M.1.1.1;omega
  have hn2:x.M.m≤1000:=by have:=(jG k3).1;have:=hx.M.2.2.1.1.1;omega
  have hn3:x.n≤1000:=by have:=fI k4;have:=hx.xs.1;omega
  have hOM:=fun V2 (hV2:VLe V V2)=>ownMaps_c V2 x.M (hx.M.le hV2) hn1 hn2
  have hOC:=fun V2 (hV2:VLe V V2)=>ownCred_c V2 x.c x.A x.n x.k (hx.xs.le hV2) hn3
  refine dD (fun F V' L'=>∃ (γ2 γ7:Nat) (M':LM) (A':Option Addr) (k':Nat),VLe V V'∧mS V' M'∧M'.us=x.M.us∧M'.gs=x.M.gs∧eV V' A' x.n x.c.xs∧[⟨γ7,113,[.slice M'.A M'.n M'.c,.slice M'.B M'.m M'.e,.int .i64 x.c.u,.int .i64 x.c.g,.slice A' x.n k',.int .i64 x.c.d,.int .i64 x.q,.slice none 0 0]⟩,⟨γ2,29,cfC x⟩]=L'∧F=[(1,.slice A n c),(2,.pointer (some ⟨γ2,0,none⟩)),(7,.pointer (some ⟨γ7,0,none⟩))]) ?_ ?_
  · refine bM (id:=4) _ mixed (List.Sublist.refl _) ?_;refine gt9 0 ?_;refine gt9 1 ?_;refine gt9 3 ?_;refine gt9 4 ?_;refine gt9 6 ?_;refine gt9 7 ?_;refine aY (i:=2) rfl ?_;(first|(refine aM rfl ⟨Tryz.call55⟩ rfl rfl (hOM _ vl9) ?_;rintro v V1 hV1 ⟨M1,rfl,hM1,hM1u,hM1g⟩)|(refine aM rfl ⟨Tryz.call56⟩ rfl rfl (hOC _ vl9) ?_;rintro v V2 hV2 ⟨A1,k1,rfl,hI1⟩));refine aY (i:=5) rfl ?_;(first|(refine aM rfl ⟨Tryz.call55⟩ rfl rfl (hOM _ vl9) ?_;rintro v V1 hV1 ⟨M1,rfl,hM1,hM1u,hM1g⟩)|(refine aM rfl ⟨Tryz.call56⟩ rfl rfl (hOC _ vl9) ?_;rintro v V2 hV2 ⟨A1,k1,rfl,hI1⟩));refine gt9 8 ?_;refine aY (i:=9) rfl ?_;(refine gw_box rfl rfl rfl rfl ?_;intro γ);refine gt9 10 ?_;refine aU (by kernel_rfl) vl9 vl9 bD ?_
    all_goals exact bR _ ⟨_,_,M1,A1,k1,vl9,hM1.le vl9,hM1u,hM1g,hI1.le vl9,rfl,rfl⟩ bH sp9
  rintro F V1 L' ⟨γ2,γ7,M1,A1,kk,hV1,hM1,hM1u,hM1g,hI1,rfl,rfl⟩
  have hN:aX V1 (kX 2 493 x.c.u x.c.g false ⟨#[]⟩):=iR (Nat.zero_le _)
  have hOut:=rW V1 M1 hM1 _ hN (.mk ⟨Nat.zero_le _,Nat.zero_le _⟩ (by simp))
  rw [hM1u,hM1g,show (kX 2 493 x.c.u x.c.g false ⟨#[]⟩).n=.mk (uP x.c) [] from rfl,hz] at hOut
  repeat' (first|refine gx9 ?_|fail)
  refine dD (fun F V' L'=>∃ (γ8:Nat) (y:LN),VLe V1 V'∧aX V' y∧y.n=z∧[⟨γ8,70,lnC y⟩,⟨γ7,113,[.slice M1.A M1.n M1.c,.slice M1.B M1.m M1.e,.int .i64 x.c.u,.int .i64 x.c.g,.slice A1 x.n kk,.int .i64 x.c.d,.int .i64 x.q,.slice none 0 0]⟩]=L'∧F=[(1,.slice A n c),(6,bT 0),(7,.pointer (some ⟨γ7,0,none⟩)),(8,.pointer (some ⟨γ8,0,none⟩))]) ?_ ?_
  · refine bM (id:=5) _ mixed (List.Sublist.refl _) ?_;refine gt9 0 ?_;refine gt9 1 ?_;refine gt9 2 ?_;refine gt9 3 ?_;refine gt9 4 ?_;refine gt9 5 ?_;refine gt9 6 ?_;refine gt9 7 ?_;refine gt9 8 ?_;refine gt9 9 ?_;refine gt9 10 ?_;(refine dF (i:=11) (j:=15) (by kernel_rfl) rfl rfl rfl rfl vl9 vl9 bD ?_ ?_<;>first|((refine aM rfl ⟨Tryz.call57⟩ rfl rfl (hOut) ?_;rintro v V2 hV2 ⟨y,rfl,hyN,hyn⟩);refine gt9 12 ?_;refine gt9 13 ?_;refine gt9 14 ?_;refine aY (i:=15) rfl ?_;(refine bS rfl zer_70 rfl ?_;intro γ);refine aY (i:=16) rfl ?_;refine aO rfl siz_70 rfl rfl rfl rfl bG dC rfl ?_;refine gt9 17 ?_;refine aU (by kernel_rfl) vl9 vl9 bD ?_)|((refine bS rfl zer_70 rfl ?_;intro γ);refine aY (i:=11) rfl ?_;(refine aM rfl ⟨Tryz.call57⟩ rfl rfl (hOut) ?_;rintro v V2 hV2 ⟨y,rfl,hyN,hyn⟩);refine gt9 12 ?_;refine gt9 13 ?_;refine gt9 14 ?_;refine aY (i:=16) rfl ?_;refine aO rfl siz_70 rfl rfl rfl rfl bG dC rfl ?_;refine gt9 17 ?_;refine aU (by kernel_rfl) vl9 vl9 bD ?_))
    all_goals exact bR _ ⟨_,y,hV2,hyN,hyn,rfl,rfl⟩ bH sp9
  rintro F V2 L' ⟨γ8,y,hV2,hyN,hyn,rfl,rfl⟩
  have ho1:=tD y
  repeat' (first|(refine aE ?_;refine pu9 ?_)|refine cD ?_|fail)
  all_goals first
    | (exfalso;exact absurd rfl (by assumption))
    | skip
  refine dD (fun F V' L'=>∃ (A3:Option Addr) (c3:Nat) (L3:List Box),V2=V'∧cU A3 1 c3 70 8 ([y].flatMap lnC) L3∧⟨γ7,113,[.slice M1.A M1.n M1.c,.slice M1.B M1.m M1.e,.int .i64 x.c.u,.int .i64 x.c.g,.slice A1 x.n kk,.int .i64 x.c.d,.int .i64 x.q,.slice A3 1 c3]⟩ :: L3=L'∧F=[(1,.slice A n c),(7,.pointer (some ⟨γ7,0,none⟩))]) ?_ ?_
  · refine bM (id:=8) _ mixed (List.Sublist.cons_cons _ (List.nil_sublist _)) ?_;refine gt9 0 ?_;refine gt9 1 ?_;refine gt9 2 ?_;refine gt9 3 ?_;refine gt9 5 ?_;(refine dF (i:=4) (j:=6) (by kernel_rfl) rfl rfl rfl rfl vl9 vl9 bD ?_ ?_<;>first|((first|refine aR (bE one_30 rfl bB (by exact rfl)) ?_|refine aR (bE one_30 rfl bB (by assumption)) ?_|refine aR (cI one_30 rfl (by assumption)) ?_);refine aY (i:=6) rfl ?_;(refine aP rfl und_30 siz_70 zec_70 rfl rfl rfl rfl rfl rfl rfl ?_;intro γ);refine aY (i:=7) rfl ?_;(refine aT rfl und_30 inf_70 rfl rfl rfl cU.nil dT (cZ bB rfl) bG (by omega) rfl rfl ?_;intro A3 c3 L3 hr3);refine gt9 8 ?_;refine gt9 9 ?_;refine aY (i:=10) rfl ?_;refine aO rfl siz_30 rfl rfl rfl rfl bG dC rfl ?_;refine aU (by kernel_rfl) vl9 vl9 bD ?_)|((refine aP rfl und_30 siz_70 zec_70 rfl rfl rfl rfl rfl rfl rfl ?_;intro γ);refine aY (i:=4) rfl ?_;(first|refine aR (bE one_30 rfl bB (by exact rfl)) ?_|refine aR (bE one_30 rfl bB (by assumption)) ?_|refine aR (cI one_30 rfl (by assumption)) ?_);refine aY (i:=7) rfl ?_;(refine aT rfl und_30 inf_70 rfl rfl rfl cU.nil dT (cZ bB rfl) bG (by omega) rfl rfl ?_;intro A3 c3 L3 hr3);refine gt9 8 ?_;refine gt9 9 ?_;refine aY (i:=10) rfl ?_;refine aO rfl siz_30 rfl rfl rfl rfl bG dC rfl ?_;refine aU (by kernel_rfl) vl9 vl9 bD ?_))
    all_goals exact bR _ ⟨A3,c3,L3,rfl,hr3,rfl,rfl⟩ bH sp9
  rintro F V' L' ⟨A3,c3,L3,rfl,hr3,rfl,rfl⟩
  have hnl:n≤3:=by rw [←hl];simpa using k1'
  repeat' (first|(refine aE ?_;refine pu9 ?_)|refine bW ?_|fail)
  refine bQ (fun F V' L' m=>∃ (k:Nat) (ys:List LN) (A':Option Addr) (c':Nat) (LA:List Box),VLe V2 V'∧cU A' (k+1) c' 70 8 ((y :: ys).flatMap lnC) LA∧ys.map LN.n=(ls.take k).map LN.n∧(∀ w∈ys,aX V' w)∧⟨γ7,113,[.slice M1.A M1.n M1.c,.slice M1.B M1.m M1.e,.int .i64 x.c.u,.int .i64 x.c.g,.slice A1 x.n kk,.int .i64 x.c.d,.int .i64 x.q,.slice A' (k+1) c']⟩ :: LA=L'∧k≤n∧m=n - k∧F=[(7,.pointer (some ⟨γ7,0,none⟩)),(55,.slice A n c),(56,.int .i64 (n:Int)),(57,.int .i64 (k:Int))]) (m:=n) ⟨0,[],A3,c3,L3,VLe.refl _,hr3,by rw [List.take_zero],by simp,rfl,Nat.zero_le _,by omega,rfl⟩ bH rfl sl9 ?_
  rintro F V' L' m ⟨k,ys,A',c',LA,hV',hr,hyz,hyN2,rfl,hk,rfl,rfl⟩
  by_cases hlt:k<n
  · obtain⟨b,off,w,hA,hw,hc,hwN⟩:=(h.le ((hV1.trans hV2).trans hV')).at_ hlt
    have hO:=fun V9 (hV9:VLe V' V9)=>Own_v V9 w (hwN.le hV9) (tree_small (k6 w.n (List.mem_map_of_mem (List.mem_of_getElem? hw))))
    repeat' (first|(refine aE ?_;first|(refine cK ?_;refine aR (bL und_30 siz_70 rfl hA rfl hlt) ?_)|refine st9 ?_|(refine al9 ?_;intro γ)|refine pu9 ?_)|refine bW ?_|(refine aA rfl ?_ ?_<;>intro hq<;>try exact no9))
    refine dD (fun F V9 L'=>∃ (v:LN) (A4:Option Addr) (c4:Nat) (L4:List Box),VLe V' V9∧cU A4 (k+1+1) c4 70 8 ((y :: ys).flatMap lnC ++ lnC v) L4∧v.n=w.n∧aX V9 v∧⟨γ7,113,[.slice M1.A M1.n M1.c,.slice M1.B M1.m M1.e,.int .i64 x.c.u,.int .i64 x.c.g,.slice A1 x.n kk,.int .i64 x.c.d,.int .i64 x.q,.slice A4 (k+1+1) c4]⟩ :: L4=L'∧F=[(7,.pointer (some ⟨γ7,0,none⟩)),(55,.slice A n c),(56,.int .i64 (n:Int)),(57,.int .i64 (k:Int))]) ?_ ?_
    · refine bM (id:=12) _ mixed (List.Sublist.cons_cons _ (List.nil_sublist _)) ?_;refine gt9 0 ?_;refine gt9 1 ?_;refine gt9 2 ?_;refine gt9 3 ?_;refine gt9 5 ?_;(refine dF (i:=4) (j:=6) (by kernel_rfl) rfl rfl rfl rfl vl9 vl9 bD ?_ ?_<;>first|((first|refine aR (bE one_30 rfl bB (by exact rfl)) ?_|refine aR (bE one_30 rfl bB (by assumption)) ?_|refine aR (cI one_30 rfl (by assumption)) ?_);refine aY (i:=6) rfl ?_;(refine aM rfl ⟨Tryz.call54⟩ rfl rfl (hO _ vl9) ?_;rintro v V9 hV9 ⟨v9,rfl,hvn,hvN⟩;have ho9:=tD v9);refine aY (i:=7) rfl ?_;(refine aP rfl und_30 siz_70 zec_70 rfl rfl rfl rfl rfl rfl rfl ?_;intro γ);refine aY (i:=8) rfl ?_;(refine aT rfl und_30 inf_70 rfl rfl rfl hr bF (cZ bB rfl) bG (by omega) rfl rfl ?_;intro A4 c4 L4 hr4);refine gt9 9 ?_;refine gt9 10 ?_;refine aY (i:=11) rfl ?_;refine aO rfl siz_30 rfl rfl rfl rfl bG dC rfl ?_;refine aU (by kernel_rfl) vl9 vl9 bD ?_)|((refine aM rfl ⟨Tryz.call54⟩ rfl rfl (hO _ vl9) ?_;rintro v V9 hV9 ⟨v9,rfl,hvn,hvN⟩;have ho9:=tD v9);(refine dF (i:=4) (j:=7) (by kernel_rfl) rfl rfl rfl rfl vl9 vl9 bD ?_ ?_<;>first|((first|refine aR (bE one_30 rfl bB (by exact rfl)) ?_|refine aR (bE one_30 rfl bB (by assumption)) ?_|refine aR (cI one_30 rfl (by assumption)) ?_);refine aY (i:=7) rfl ?_;(refine aP rfl und_30 siz_70 zec_70 rfl rfl rfl rfl rfl rfl rfl ?_;intro γ);refine aY (i:=8) rfl ?_;(refine aT rfl und_30 inf_70 rfl rfl rfl hr bF (cZ bB rfl) bG (by omega) rfl rfl ?_;intro A4 c4 L4 hr4);refine gt9 9 ?_;refine gt9 10 ?_;refine aY (i:=11) rfl ?_;refine aO rfl siz_30 rfl rfl rfl rfl bG dC rfl ?_;refine aU (by kernel_rfl) vl9 vl9 bD ?_)|((refine aP rfl und_30 siz_70 zec_70 rfl rfl rfl rfl rfl rfl rfl ?_;intro γ);refine aY (i:=4) rfl ?_;(first|refine aR (bE one_30 rfl bB (by exact rfl)) ?_|refine aR (bE one_30 rfl bB (by assumption)) ?_|refine aR (cI one_30 rfl (by assumption)) ?_);refine aY (i:=8) rfl ?_;(refine aT rfl und_30 inf_70 rfl rfl rfl hr bF (cZ bB rfl) bG (by omega) rfl rfl ?_;intro A4 c4 L4 hr4);refine gt9 9 ?_;refine gt9 10 ?_;refine aY (i:=11) rfl ?_;refine aO rfl siz_30 rfl rfl rfl rfl bG dC rfl ?_;refine aU (by kernel_rfl) vl9 vl9 bD ?_))))
      all_goals exact bR _ ⟨v9,A4,c4,L4,vl9,hr4,hvn,hvN.le vl9,rfl,rfl⟩ bH sp9
    rintro F V9 L' ⟨v,A4,c4,L4,hV9,hr4,hvn,hvN,rfl,rfl⟩
    repeat' (first|(refine aE ?_;refine pu9 ?_)|refine bV ?_|fail)
    all_goals
      refine aZ _ (n - (k+1)) ⟨k+1,ys ++ [v],A4,c4,L4,vl9,?_,?_,fun u hu=>?_,rfl,by omega,rfl,rfl⟩ (by omega) bH sl9
      · rw [show (y :: (ys ++ [v])).flatMap lnC=(y :: ys).flatMap lnC ++ lnC v by rw [←List.cons_append,List.flatMap_append];simp];exact hr4
      · rw [List.take_add_one,hw,List.map_append,List.map_append,hyz];simp [hvn]
      · rcases List.mem_append.1 hu with hu|hu
        · exact(hyN2 u hu).le hV9
        · rw [List.mem_singleton.1 hu];exact hvN
  · obtain rfl:k=n:=by omega
    rw [List.take_of_length_le (by omega)] at hyz
    have hyl:ys.length=k:=by have:=congrArg List.length hyz;simpa [hl] using this
    repeat' (first|(refine aE ?_;refine pu9 ?_)|refine dR ?_|(refine aA rfl ?_ ?_<;>intro hq<;>try exact no9))
    all_goals
      (refine dB Tryz.results13 (aB rfl) (aB rfl) (List.Sublist.refl _) ?_)
      refine .inr ⟨rfl,γ7,by rw [dA],⟨M1,A1,x.n,kk,A',k+1,c',y :: ys⟩,LA,rfl,hM1.le vl9,hM1u,hM1g,hI1.le vl9,trivial,hr,?_,by rw [List.length_cons,hyl],?_⟩
      · intro u hu
        rcases List.mem_cons.1 hu with rfl|hu
        · exact hyN.le hV'
        · exact hyN2 u hu
      · show y.n :: ys.map LN.n=(cT true x.M.us x.M.gs (.mk (uP x.c) [])).getD pnZ :: ls.map LN.n
        rw [hz,hyz,hyn];rfl
end
section
def credB (c:CR):List UInt8:=b16 c.u ++ b16 c.g ++ [b8 c.d,b8 (c.xs.length:Int)]
def boxL (b:BX):List UInt8:=credB b.c ++ b.c.xs.flatMap b16 ++ iS (b.ls.headD pnZ)
def NodeR (n:PN) (v:Value) (V':aI):Prop:=∃ y:LN,v=lnV y∧aX V' y∧y.n=n
theorem BoxI.head {V:aI} {b:BX} {I:BI} (hok:bK b) (h:BoxI V b I):∃ (q o:Nat) (x0:LN),I.K=some ⟨q,o,none⟩∧0<I.m∧aL V q (o+0 * 8) (lnC x0)∧aX V x0∧b.ls.headD pnZ=x0.n∧∃ t,I.xs=x0 :: t:=by
  have hm:0<I.m:=by rw [←h.len];exact hok.l1
  obtain⟨q,o,x0,hA,hx,hc,hN⟩:=h.ls.at_ hm
  obtain⟨t,ht⟩:∃ t,I.xs=x0 :: t:=by
    cases hxs:I.xs with
    | nil=>rw [hxs] at hx;cases hx
    | cons a t=>rw [hxs] at hx;simp at hx;exact⟨t,by rw [hx]⟩
  exact⟨q,o,x0,hA,hm,hc,hN,by rw [←h.eq,ht];rfl,t,ht⟩
theorem b16_len (n:Int):(b16 n).length=2:=rfl
theorem flat16_len (l:List Int):(l.flatMap b16).length=2 * l.length:=by
  induction l with
  | nil=>rfl
  | cons x l ih=>rw [List.flatMap_cons,List.length_append,ih,b16_len,List.length_cons];omega
theorem bytes_few (n:PN):(iS n).length≤100000:=by
  unfold iS
  split
  · rename_i h
    have:=(pK h).2;omega
  · simp
attribute [local irreducible] AtQ GoC GoL GoW QO QP Fn RV bX aL VLe cG bT
theorem btwo_c (V:aI) (n:Int) (hn:0≤n):Fn Tryz.prog 91 [.int .i64 n] V fun v _=>v=.string ⟨(b16 n).toArray⟩:=by
  (refine aH Tryz.func91 rfl Tryz.ntmps91 rfl ?_;intro w0)
  repeat' (first|(refine aE ?_;first|(refine cX ?_;(first|refine aR (q_shr8 rfl rfl hn) ?_|refine aR (q_shr rfl rfl (by omega)) ?_))|(refine gL ?_;(first|refine aR (jH (us:=b16 n) und_145 und_5 und_9 rfl (cZ bB rfl)) ?_|refine aR (fS und_3 und_5 rfl) ?_))|(refine cJ ?_;(refine aP rfl und_145 siz_5 zec_5 rfl rfl rfl rfl rfl rfl rfl ?_;intro γ))|refine pu9 ?_)|refine bV ?_|fail)
  all_goals (refine aQ Tryz.results91 (aB rfl) ?_)
  all_goals rfl
theorem Upper_v (V:aI) (p:Nat) (b:BX) (I:BI) (hok:bK b) (h:mZ V p b I):Fn Tryz.prog 28 [.pointer (some ⟨p,0,none⟩)] V (NodeR (b.ls.headD pnZ)):=by
  obtain⟨hcM,hcC,hcq,hcl⟩:=h.parts
  obtain⟨q,o,x0,hK,hm0,hc0,hN0,hhd,t,ht⟩:=h.2.head hok
  have hO:=fun V2 (hV2:VLe V V2)=>Own_v V2 x0 (hN0.le hV2) (hok.smallL h.2 x0 (by rw [ht];simp))
  rw [hhd]
  (refine aH Tryz.func28 rfl Tryz.ntmps28 rfl ?_;intro w0)
  repeat' (first|(refine aE ?_;first|(refine cK ?_;refine aR (bL (k:=0) und_30 siz_70 rfl hK rfl hm0) ?_)|(refine aD ?_;(refine aM rfl ⟨Tryz.call54⟩ rfl rfl (hO _ vl9) ?_;rintro v V2 hV2 ⟨y,rfl,hyn,hyN⟩))|refine st9 ?_|(refine al9 ?_;intro γ)|refine pu9 ?_)|refine bV ?_|fail)
  all_goals
    (refine aQ Tryz.results28 (aS agg_70 rfl bB (by exact rfl)) ?_)
    exact⟨y,rfl,hyN,hyn⟩
theorem Upper_b {V:aI} {p:Nat} {b:BX} {Bs:List Box} (hok:bK b) (h:eO V p b Bs):FnB Tryz.prog 28 [.pointer (some ⟨p,0,none⟩)] V Bs fun v V' Bs'=>Bs'=Bs∧NodeR (b.ls.headD pnZ) v V' :=
  eO.read hok h (fun v V gs hc ⟨y,h1,h2,h3⟩=>⟨y,h1,h2.off hc,h3⟩) fun V' I hV hB=>Upper_v V' p b I hok hB
def CredR (c:CR) (v:Value) (V':aI):Prop:=∃ (A:Option Addr) (n k:Nat),v=mU c.u c.g A n k c.d∧eV V' A n c.xs
theorem Cred_b (V:aI) (p:Nat) (b:BX) (Bs:List Box) (hok:bK b) (h:eO V p b Bs):FnB Tryz.prog 30 [.pointer (some ⟨p,0,none⟩)] V Bs fun v V' Bs'=>Bs'=Bs∧CredR b.c v V':=by
  obtain⟨I,L1,rfl,hW⟩:=h
  have hn:I.n≤1000:=by have:=fI hok.c;have:=hW.xs.1;omega
  have hO:=fun V2 (hV2:VLe V V2)=>ownCred_c V2 b.c I.A I.n I.k (hW.xs.le hV2) hn
  (refine bI Tryz.func30 rfl Tryz.ntmps30 rfl ?_;intro w0)
  repeat' (first|(refine aE ?_;first|(refine aD ?_;(refine aM rfl ⟨Tryz.call56⟩ rfl rfl (hO _ vl9) ?_;rintro v V2 hV2 ⟨A1,k1,rfl,hI⟩))|refine st9 ?_|(refine al9 ?_;intro γ)|refine pu9 ?_)|refine bV ?_|fail)
  all_goals
    (refine bC Tryz.results30 (aS agg_27 rfl bB (by exact rfl)) (show List.Sublist (⟨p,113,bxC I b⟩ :: L1) _ from sl9) ?_)
    exact⟨rfl,A1,_,k1,rfl,hI⟩
theorem Bytes_v (V:aI) (p:Nat) (b:BX) (I:BI) (hok:bK b) (h:mZ V p b I):Fn Tryz.prog 24 [.pointer (some ⟨p,0,none⟩)] V fun v _=>v=.string ⟨(boxL b).toArray⟩:=by
  obtain⟨hcM,hcC,hcq,hcl⟩:=h.parts
  obtain⟨q,o,x0,hK,hm0,hc0,hN0,hhd,t,ht⟩:=h.2.head hok
  have hz:=fI hok.c
  have hxl:=h.2.xs.1
  have gu:V ⟨p,0+2+0,none⟩=some (.int .i64 b.c.u):=kL (j:=0) hcC rfl
  have gg:V ⟨p,0+2+1,none⟩=some (.int .i64 b.c.g):=kL (j:=1) hcC rfl
  have gx:V ⟨p,0+2+2,none⟩=some (.slice I.A I.n I.k):=kL (j:=2) hcC rfl
  have gd:V ⟨p,0+2+3,none⟩=some (.int .i64 b.c.d):=kL (j:=3) hcC rfl
  (refine aH Tryz.func24 rfl Tryz.ntmps24 rfl ?_;intro w0)
  have hfl0:∀ x∈([]:List Nat),x<w0.heap.size:=by simp
  repeat' (first|(refine aE ?_;refine pu9 ?_)|refine bV ?_|fail)
  refine gc_grow ([(0,.pointer (some ⟨p,0,none⟩))]) mixed (by repeat (first|exact List.forall_mem_nil _|refine List.forall_mem_cons.2 ⟨?_,?_⟩|exact rfl|(rw [hflag];exact rfl))) ?_;(apply cP (n:=0) [] rfl rfl rfl (by kernel_rfl);(focus (intro V' hV;refine cF ?_;intro K hK;refine aR (kV rfl) ?_;refine cW rfl ?_;exact cY hK rfl (VLe.refl _) rfl));(try dsimp only [List.cons_append,List.nil_append]));(apply cP (n:=1) [0] rfl rfl rfl (by kernel_rfl);(focus (intro V' hV;refine cQ (j:=0) (d:=8) rfl rfl ?_;refine cF ?_;intro K hK;(first|refine aR (iC rfl) ?_|refine aR (jI rfl) ?_);refine cW rfl ?_;exact cY hK rfl (VLe.refl _) rfl));(try dsimp only [List.cons_append,List.nil_append]));(apply cP (n:=2) [1] rfl rfl rfl (by kernel_rfl);(focus (intro V' hV;refine cQ (j:=1) (d:=9) rfl rfl ?_;refine cF ?_;intro K hK;refine aR (eE fld_113_1 rfl) ?_;refine cW rfl ?_;exact cY hK rfl (VLe.refl _) rfl));(try dsimp only [List.cons_append,List.nil_append]));(apply cP (n:=3) [2] rfl rfl rfl (by kernel_rfl);(focus (intro V' hV;refine cQ (j:=2) (d:=10) rfl rfl ?_;refine cF ?_;intro K hK;refine aR (eE fld_27_0 rfl) ?_;refine cW rfl ?_;exact cY hK rfl (VLe.refl _) rfl));(try dsimp only [List.cons_append,List.nil_append]));(apply cP (n:=4) [3] rfl rfl rfl (by kernel_rfl);(focus (intro V' hV;refine cQ (j:=3) (d:=11) rfl rfl ?_;refine cF ?_;intro K hK;refine aR (cI one_3 rfl (fA vl9 gu)) ?_;refine cW rfl ?_;exact cY hK rfl (VLe.refl _) rfl));(try dsimp only [List.cons_append,List.nil_append]));(apply cP (n:=5) [4] rfl rfl rfl (by kernel_rfl);(focus (intro V' hV;refine cQ (j:=4) (d:=12) rfl rfl ?_;refine cF ?_;intro K hK;refine aN rfl (aG ⟨Tryz.call91⟩ rfl (btwo_c _ _ (by omega))) ?_;refine cW rfl ?_;exact cY hK rfl (VLe.refl _) rfl));(try dsimp only [List.cons_append,List.nil_append]));(apply cP (n:=6) [] rfl rfl rfl (by kernel_rfl);(focus (intro V' hV;refine cF ?_;intro K hK;refine aR (kV rfl) ?_;refine cW rfl ?_;exact cY hK rfl (VLe.refl _) rfl));(try dsimp only [List.cons_append,List.nil_append]));(apply cP (n:=7) [6] rfl rfl rfl (by kernel_rfl);(focus (intro V' hV;refine cQ (j:=6) (d:=14) rfl rfl ?_;refine cF ?_;intro K hK;(first|refine aR (iC rfl) ?_|refine aR (jI rfl) ?_);refine cW rfl ?_;exact cY hK rfl (VLe.refl _) rfl));(try dsimp only [List.cons_append,List.nil_append]));(apply cP (n:=8) [7] rfl rfl rfl (by kernel_rfl);(focus (intro V' hV;refine cQ (j:=7) (d:=15) rfl rfl ?_;refine cF ?_;intro K hK;refine aR (eE fld_113_1 rfl) ?_;refine cW rfl ?_;exact cY hK rfl (VLe.refl _) rfl));(try dsimp only [List.cons_append,List.nil_append]));(apply cP (n:=9) [8] rfl rfl rfl (by kernel_rfl);(focus (intro V' hV;refine cQ (j:=8) (d:=16) rfl rfl ?_;refine cF ?_;intro K hK;refine aR (eE fld_27_1 rfl) ?_;refine cW rfl ?_;exact cY hK rfl (VLe.refl _) rfl));(try dsimp only [List.cons_append,List.nil_append]));(apply cP (n:=10) [9] rfl rfl rfl (by kernel_rfl);(focus (intro V' hV;refine cQ (j:=9) (d:=17) rfl rfl ?_;refine cF ?_;intro K hK;refine aR (cI one_3 rfl (fA vl9 gg)) ?_;refine cW rfl ?_;exact cY hK rfl (VLe.refl _) rfl));(try dsimp only [List.cons_append,List.nil_append]));(apply cP (n:=11) [10] rfl rfl rfl (by kernel_rfl);(focus (intro V' hV;refine cQ (j:=10) (d:=18) rfl rfl ?_;refine cF ?_;intro K hK;refine aN rfl (aG ⟨Tryz.call91⟩ rfl (btwo_c _ _ (by omega))) ?_;refine cW rfl ?_;exact cY hK rfl (VLe.refl _) rfl));(try dsimp only [List.cons_append,List.nil_append]));(apply cP (n:=12) [5,11] rfl rfl rfl (by kernel_rfl);(focus (intro V' hV;refine cQ (j:=5) (d:=13) rfl rfl ?_;refine cQ (j:=11) (d:=19) rfl rfl ?_;refine cF ?_;intro K hK;(first|refine aR (jU rfl rfl (by simp [b16])) ?_|refine aR (tX rfl rfl (by first|omega|(simp only [ByteArray.size_append,ByteArray.size_extract];omega)|fail)) ?_);refine cW rfl ?_;exact cY hK rfl (VLe.refl _) rfl));(try dsimp only [List.cons_append,List.nil_append]));(apply cP (n:=13) [] rfl rfl rfl (by kernel_rfl);(focus (intro V' hV;refine cF ?_;intro K hK;refine aR (kV rfl) ?_;refine cW rfl ?_;exact cY hK rfl (VLe.refl _) rfl));(try dsimp only [List.cons_append,List.nil_append]));(apply cP (n:=14) [13] rfl rfl rfl (by kernel_rfl);(focus (intro V' hV;refine cQ (j:=13) (d:=21) rfl rfl ?_;refine cF ?_;intro K hK;(first|refine aR (iC rfl) ?_|refine aR (jI rfl) ?_);refine cW rfl ?_;exact cY hK rfl (VLe.refl _) rfl));(try dsimp only [List.cons_append,List.nil_append]));(apply cP (n:=15) [14] rfl rfl rfl (by kernel_rfl);(focus (intro V' hV;refine cQ (j:=14) (d:=22) rfl rfl ?_;refine cF ?_;intro K hK;refine aR (eE fld_113_1 rfl) ?_;refine cW rfl ?_;exact cY hK rfl (VLe.refl _) rfl));(try dsimp only [List.cons_append,List.nil_append]));(apply cP (n:=16) [15] rfl rfl rfl (by kernel_rfl);(focus (intro V' hV;refine cQ (j:=15) (d:=23) rfl rfl ?_;refine cF ?_;intro K hK;refine aR (eE fld_27_3 rfl) ?_;refine cW rfl ?_;exact cY hK rfl (VLe.refl _) rfl));(try dsimp only [List.cons_append,List.nil_append]));(apply cP (n:=17) [16] rfl rfl rfl (by kernel_rfl);(focus (intro V' hV;refine cQ (j:=16) (d:=24) rfl rfl ?_;refine cF ?_;intro K hK;refine aR (cI one_3 rfl (fA vl9 gd)) ?_;refine cW rfl ?_;exact cY hK rfl (VLe.refl _) rfl));(try dsimp only [List.cons_append,List.nil_append]));(apply cP (n:=18) [17] rfl rfl rfl (by kernel_rfl);(focus (intro V' hV;refine cQ (j:=17) (d:=25) rfl rfl ?_;refine cF ?_;intro K hK;(first|refine aR (fS und_3 und_5 rfl) ?_|refine aR (jH (us:=[_,_]) und_145 und_5 und_9 rfl (xI (by assumption) rfl)) ?_);refine cW rfl ?_;exact cY hK rfl (VLe.refl _) rfl));(try dsimp only [List.cons_append,List.nil_append]));(apply cP (n:=19) [] rfl rfl rfl (by kernel_rfl);(focus (intro V' hV;refine cF ?_;intro K hK;refine aR (kV rfl) ?_;refine cW rfl ?_;exact cY hK rfl (VLe.refl _) rfl));(try dsimp only [List.cons_append,List.nil_append]));(apply cP (n:=20) [19] rfl rfl rfl (by kernel_rfl);(focus (intro V' hV;refine cQ (j:=19) (d:=27) rfl rfl ?_;refine cF ?_;intro K hK;(first|refine aR (iC rfl) ?_|refine aR (jI rfl) ?_);refine cW rfl ?_;exact cY hK rfl (VLe.refl _) rfl));(try dsimp only [List.cons_append,List.nil_append]));(apply cP (n:=21) [20] rfl rfl rfl (by kernel_rfl);(focus (intro V' hV;refine cQ (j:=20) (d:=28) rfl rfl ?_;refine cF ?_;intro K hK;refine aR (eE fld_113_1 rfl) ?_;refine cW rfl ?_;exact cY hK rfl (VLe.refl _) rfl));(try dsimp only [List.cons_append,List.nil_append]));(apply cP (n:=22) [21] rfl rfl rfl (by kernel_rfl);(focus (intro V' hV;refine cQ (j:=21) (d:=29) rfl rfl ?_;refine cF ?_;intro K hK;refine aR (eE fld_27_2 rfl) ?_;refine cW rfl ?_;exact cY hK rfl (VLe.refl _) rfl));(try dsimp only [List.cons_append,List.nil_append]));(apply cP (n:=23) [22] rfl rfl rfl (by kernel_rfl);(focus (intro V' hV;refine cQ (j:=22) (d:=30) rfl rfl ?_;refine cF ?_;intro K hK;refine aR (cI one_25 rfl (fA vl9 gx)) ?_;refine cW rfl ?_;exact cY hK rfl (VLe.refl _) rfl));(try dsimp only [List.cons_append,List.nil_append]));(apply cP (n:=24) [23] rfl rfl rfl (by kernel_rfl);(focus (intro V' hV;refine cQ (j:=23) (d:=31) rfl rfl ?_;refine cF ?_;intro K hK;refine aR (wF rfl und_25 rfl) ?_;refine cW rfl ?_;exact cY hK rfl (VLe.refl _) rfl));(try dsimp only [List.cons_append,List.nil_append]));(apply cP (n:=25) [24] rfl rfl rfl (by kernel_rfl);(focus (intro V' hV;refine cQ (j:=24) (d:=32) rfl rfl ?_;refine cF ?_;intro K hK;(first|refine aR (fS und_3 und_5 rfl) ?_|refine aR (jH (us:=[_,_]) und_145 und_5 und_9 rfl (xI (by assumption) rfl)) ?_);refine cW rfl ?_;exact cY hK rfl (VLe.refl _) rfl));(try dsimp only [List.cons_append,List.nil_append]));(apply grow_new (n:=26) [18,25] rfl rfl rfl (by kernel_rfl);(focus (intro V' hV;refine cQ (j:=18) (d:=26) rfl rfl ?_;refine cQ (j:=25) (d:=33) rfl rfl ?_;refine cF ?_;intro K hK;(refine pT rfl hfl0 und_145 siz_5 zec_5 rfl rfl rfl rfl rfl rfl rfl ?_;intro γ V2 hV2 hg2);refine cW rfl ?_;exact cY hK rfl hV2 ⟨_,rfl,hg2⟩));(try dsimp only [List.cons_append,List.nil_append]));(apply cP (n:=27) [26] rfl rfl rfl (by kernel_rfl);(focus (intro V' hV;refine deps_new (j:=26) (d:=34) rfl rfl ?_;intro g26 hg26;refine cF ?_;intro K hK;(first|refine aR (fS und_3 und_5 rfl) ?_|refine aR (jH (us:=[_,_]) und_145 und_5 und_9 rfl (xI (by assumption) rfl)) ?_);refine cW rfl ?_;exact cY hK rfl (VLe.refl _) rfl));(try dsimp only [List.cons_append,List.nil_append]));(apply cP (n:=28) [12,27] rfl rfl rfl (by kernel_rfl);(focus (intro V' hV;refine cQ (j:=12) (d:=20) rfl rfl ?_;refine cQ (j:=27) (d:=35) rfl rfl ?_;refine cF ?_;intro K hK;(first|refine aR (jU rfl rfl (by simp [b16])) ?_|refine aR (tX rfl rfl (by first|omega|(simp only [ByteArray.size_append,ByteArray.size_extract];omega)|fail)) ?_);refine cW rfl ?_;exact cY hK rfl (VLe.refl _) rfl));(try dsimp only [List.cons_append,List.nil_append]));refine grow_last (n:=29) [28] rfl rfl rfl rfl (by kernel_rfl) (by kernel_rfl) (by kernel_rfl) ?_;intro VG hVG;refine cQ (j:=28) (d:=36) rfl rfl ?_;refine cF ?_
  have gu:=fA hVG gu
  have gg:=fA hVG gg
  have gx:=fA hVG gx
  have gd:=fA hVG gd
  repeat' (first|(refine aE ?_;refine pu9 ?_)|refine bW ?_|fail)
  refine bQ (fun F V' L' m=>∃ k:Nat,VLe V V'∧[]=L'∧k≤I.n∧m=I.n - k∧F=[(0,.pointer (some ⟨p,0,none⟩)),(3,.string ⟨(credB b.c ++ (b.c.xs.take k).flatMap b16).toArray⟩),(41,.slice I.A I.n I.k),(42,.int .i64 (I.n:Int)),(43,.int .i64 (k:Int))]) (m:=I.n) ⟨0,hVG,rfl,Nat.zero_le _,by omega,by rw [List.take_zero,List.flatMap_nil,List.append_nil,credB,hxl]⟩ bH rfl sl9 ?_
  rintro F V' L' m ⟨k,hV',rfl,hk,rfl,rfl⟩
  have hfl:((b.c.xs.take k).flatMap b16).length≤8:=by rw [flat16_len,List.length_take];omega
  have hcl9:(credB b.c).length=6:=rfl
  by_cases hlt:k<I.n
  · obtain⟨b1,o1,w,hA1,hw,hcw⟩:=(h.2.xs.le hV').at_ hlt
    have hw0:0≤w:=(gF_ids _ _ hz.2.2.2.2 w (List.mem_of_getElem? hw)).1
    have htk:(b.c.xs.take (k+1)).flatMap b16=(b.c.xs.take k).flatMap b16 ++ b16 w:=by rw [List.take_add_one,hw,List.flatMap_append];simp
    repeat' (first|(refine aE ?_;first|(refine aD ?_;refine aN rfl (aG ⟨Tryz.call91⟩ rfl (btwo_c _ _ hw0)) ?_)|(refine cX ?_;refine aR (jU rfl rfl (by rw [List.length_append,b16_len];omega)) ?_)|(refine cK ?_;refine aR (bL und_25 siz_3 rfl hA1 rfl hlt) ?_)|refine pu9 ?_)|refine bW ?_|(refine aA rfl ?_ ?_<;>intro hq<;>try exact no9))
    all_goals
      refine aZ _ (I.n - (k+1)) ⟨k+1,vl9,rfl,by omega,rfl,by rw [htk,←List.append_assoc]⟩ (by omega) bH sl9
  · obtain rfl:k=I.n:=by omega
    rw [List.take_of_length_le (by omega)] at hfl ⊢
    have hB:=fun V2 (hV2:VLe V V2)=>Bytes_tc V2 x0 (hN0.le hV2)
    have hbl:(iS x0.n).length≤100000:=bytes_few _
    have gl:=fA hV' hcl
    have hc9:=hc0.le hV'
    repeat' (first|(refine aE ?_;first|(refine aD ?_;refine aN rfl (aG ⟨Tryz.call92⟩ rfl (hB _ vl9)) ?_)|(refine cX ?_;refine aR (jU rfl rfl (by rw [List.length_append];omega)) ?_)|(refine cK ?_;refine aR (bL (k:=0) und_30 siz_70 rfl hK rfl hm0) ?_)|refine pu9 ?_)|refine dR ?_|(refine aA rfl ?_ ?_<;>intro hq<;>try exact no9))
    all_goals
      (refine aQ Tryz.results24 (aB rfl) ?_)
      rw [boxL,hhd]
theorem Bytes_b {V:aI} {p:Nat} {b:BX} {Bs:List Box} (hok:bK b) (h:eO V p b Bs):FnB Tryz.prog 24 [.pointer (some ⟨p,0,none⟩)] V Bs fun v V' Bs'=>Bs'=Bs∧v=.string ⟨(boxL b).toArray⟩ :=
  eO.read hok h (fun v V gs hc h=>h) fun V' I hV hB=>Bytes_v V' p b I hok hB
end
section
structure fG (b:BX) (r:BX×Int):Prop where
  ok:bK r.1
  us:r.1.us=b.us
  gs:r.1.gs=b.gs
  q:r.1.q=b.q
  lo:0≤r.2
  hi:r.2≤17
theorem fG.err {b:BX} (hok:bK b) {e:Int} (h0:0≤e) (h1:e≤17):fG b (b,e):=⟨hok,rfl,rfl,rfl,h0,h1⟩
theorem vE (upper:Bool) (n:PN):0≤dK upper n∧dK upper n≤7:=by
  have:=kM upper 0 0 n (by omega)
  unfold dK;split<;>omega
theorem vB {b:BX} (hok:bK b) (u:PN):fG b (iZ b u):=by
  have h9:=growOk hok u
  have hb:=vE true u
  unfold iZ at h9 ⊢
  split
  · exact fG.err hok hb.1 (by omega)
  · split
    · exact fG.err hok (by decide) (by decide)
    · rename_i h1 h2
      rw [if_neg h1,if_neg h2] at h9
      exact⟨h9,rfl,rfl,rfl,by simp,by simp⟩
theorem good_putG {b:BX} (hok:bK b) (x u:PN) (ss:List ByteArray):fG b (vZ b x u ss):=by
  have:=uR false x ss u
  unfold vZ
  split
  · exact fG.err hok (by omega) (by omega)
  · exact vB hok _
theorem sK {b:BX} (hok:bK b) (ss:List ByteArray) (f:Hd→Hd):fG b (fV b ss f):=by
  have:=oQ b.ls b.us b.gs ss
  unfold fV
  split
  · exact fG.err hok (by omega) (by omega)
  · split
    · exact vB hok _
    · split
      · have:=uR false (.mk (f ((dN (upP b.ls b.us b.gs ss).1 ss).getD pnZ).h) ((dN (upP b.ls b.us b.gs ss).1 ss).getD pnZ).ks) ss (upP b.ls b.us b.gs ss).1
        exact fG.err hok (by omega) (by omega)
      · exact vB hok _
theorem gX (b:BX) (l:List UInt8):0≤cS b l∧cS b l≤9:=by
  have h1:=mO l
  have h2:=mR b (aK l) (aK l).length
  unfold cS cC
  (repeat' split)<;>omega
theorem spotF_bd (b:BX) (l:List UInt8):0≤pA b l∧pA b l≤9:=by
  have h1:=mO l
  have h2:=mR b (aK l) (aK l).length
  unfold pA cC
  split<;>omega
theorem sC (b:BX) (s:SP):0≤eM b s∧eM b s≤10:=by
  unfold eM;(repeat' split)<;>omega
theorem attrsF_bd (b:BX) (t:TH) (nm:ByteArray) (w:Int):0≤gE b t nm w∧gE b t nm w≤10:=by
  unfold gE;(repeat' split)<;>omega
theorem good_make {b:BX} (hok:bK b) (ss:List ByteArray) (par:TH) (kind mode:Int) (dt:ByteArray):fG b (iQ b ss par kind mode dt):=by
  unfold iQ
  split
  · exact fG.err hok (by decide) (by decide)
  · split
    · exact fG.err hok (by decide) (by decide)
    · split
      · exact fG.err hok (by decide) (by decide)
      · unfold uK
        have:=oQ b.ls b.us b.gs (ss.take (ss.length - 1))
        split
        · exact fG.err hok (by omega) (by omega)
        · exact good_putG hok _ _ _
theorem good_put {b:BX} (hok:bK b) (c:CL):fG b (gJ b c):=by
  have h1:=spotF_bd b (aC c.path)
  unfold gJ
  (repeat' split)<;>first|exact fG.err hok (by decide) (by decide)|exact fG.err hok (by omega) (by omega)|exact good_make hok _ _ _ _ _|exact sK hok _ _
theorem good_mkdir {b:BX} (hok:bK b) (c:CL):fG b (kJ b c):=by
  have h1:=spotF_bd b (aC c.path)
  unfold kJ
  (repeat' split)<;>first|exact fG.err hok (by decide) (by decide)|exact fG.err hok (by omega) (by omega)|exact good_make hok _ _ _ _ _
theorem goneF_bd (b:BX) (u:PN) (ss:List ByteArray):0≤iB b u ss∧iB b u ss≤17:=by
  have h1:=uR false whiteN ss u
  have h2:=uR true pnZ ss u
  unfold iB;split<;>omega
theorem good_remove {b:BX} (hok:bK b) (s:ByteArray):fG b (eL b s):=by
  have h1:=gX b (aC s)
  have h2:=sC b (aV b (aC s))
  have h3:=oQ b.ls b.us b.gs ((aK (aC s)).take ((aK (aC s)).length - 1))
  have h4:=goneF_bd b (upP b.ls b.us b.gs ((aK (aC s)).take ((aK (aC s)).length - 1))).1 (aK (aC s))
  unfold eL gone2
  (repeat' split)<;>first|exact fG.err hok (by decide) (by decide)|exact fG.err hok (by omega) (by omega)|exact vB hok _
theorem good_move {b:BX} (hok:bK b) (s t:ByteArray):fG b (rM b s t):=by
  have h1:=gX b (aC s)
  have h2:=sC b (aV b (aC s))
  have h3:=sC b (aV b (aC t))
  have h4:=mO (aC s)
  have h5:=mO (aC t)
  have h6:=mR b (aK (aC t)) (aK (aC t)).length
  have h7:=oQ b.ls b.us b.gs (aK (aC s))
  have h8:=oQ ((upP b.ls b.us b.gs (aK (aC s))).1 :: b.ls.tail) b.us b.gs ((aK (aC t)).take ((aK (aC t)).length - 1))
  have h9:=goneF_bd b (upP ((upP b.ls b.us b.gs (aK (aC s))).1 :: b.ls.tail) b.us b.gs ((aK (aC t)).take ((aK (aC t)).length - 1))).1 (aK (aC s))
  unfold rM cC
  split
  · exact fG.err hok (by first|decide|omega) (by first|decide|omega)
  split
  · exact fG.err hok (by first|decide|omega) (by first|decide|omega)
  split
  · exact fG.err hok (by first|decide|omega) (by first|decide|omega)
  split
  · exact fG.err hok (by first|decide|omega) (by first|decide|omega)
  split
  · exact fG.err hok (by first|decide|omega) (by first|decide|omega)
  split
  · exact fG.err hok (by first|decide|omega) (by first|decide|omega)
  split
  · exact fG.err hok (by first|decide|omega) (by first|decide|omega)
  split
  · exact fG.err hok (by first|decide|omega) (by first|decide|omega)
  split
  · exact fG.err hok (by first|decide|omega) (by first|decide|omega)
  unfold tM
  split
  · exact fG.err hok (by first|decide|omega) (by first|decide|omega)
  split
  · exact fG.err hok (by first|decide|omega) (by first|decide|omega)
  split
  · exact fG.err hok (by first|decide|omega) (by first|decide|omega)
  split
  · exact fG.err hok (by first|decide|omega) (by first|decide|omega)
  unfold tV
  split
  · exact fG.err hok (by first|decide|omega) (by first|decide|omega)
  split
  · exact fG.err hok (by first|decide|omega) (by first|decide|omega)
  unfold uN
  split
  · exact fG.err hok (by first|decide|omega) (by first|decide|omega)
  exact good_putG hok _ _ _
theorem good_mode {b:BX} (hok:bK b) (l:List UInt8) (m:Int):fG b (nQ b l m):=by
  have h1:=gX b l
  unfold nQ
  (repeat' split)<;>first|exact fG.err hok (by decide) (by decide)|exact fG.err hok (by omega) (by omega)|exact sK hok _ _
theorem good_own {b:BX} (hok:bK b) (l:List UInt8) (u g:Int):fG b (sZ b l u g):=by
  have h1:=gX b l
  unfold sZ uE
  (repeat' split)<;>first|exact fG.err hok (by decide) (by decide)|exact fG.err hok (by omega) (by omega)|exact sK hok _ _
theorem good_be {b:BX} (hok:bK b) (u g:Int):fG b (beP b u g):=by
  have h1:=becF_bd b.c.u b.c.g b.c.d b.c.xs u g
  unfold beP
  split
  · exact fG.err hok (by omega) (by omega)
  · rename_i h
    split
    · exact fG.err hok (by decide) (by decide)
    · exact⟨beOk hok (Decidable.not_not.1 h),rfl,rfl,rfl,by simp,by simp⟩
theorem good_attr {b:BX} (hok:bK b) (l:List UInt8) (nm vl:ByteArray) (drop:Bool):fG b (mN b l nm vl drop):=by
  have h1:=gX b l
  have h2:=attrsF_bd b (aV b l).th nm 2
  have h3:=getF_bd (aV b l).n.h.attrs nm
  have h4:=setF_bd (aV b l).n.h.attrs nm vl
  have h5:0≤(xU (aV b l).n.h.attrs nm vl drop).1∧(xU (aV b l).n.h.attrs nm vl drop).1≤5:=by unfold xU;split<;>omega
  unfold mN
  (repeat' split)<;>first|exact fG.err hok (by decide) (by decide)|exact fG.err hok (by omega) (by omega)|exact sK hok _ _
theorem good_do {b:BX} (hok:bK b) (c:CL):fG b ((doP b c).1,(doP b c).2.2):=by
  have h1:=gX b (aC c.path)
  have h2:=attrsF_bd b (aV b (aC c.path)).th c.name 4
  have h3:=getF_bd (aV b (aC c.path)).n.h.attrs c.name
  have hl:0≤(iY b c).2∧(iY b c).2≤17:=by unfold iY;(repeat' split)<;>first|exact⟨h1.1,show _≤(17:Int) by omega⟩|exact⟨h2.1,show _≤(17:Int) by omega⟩|exact⟨h3.1,show _≤(17:Int) by omega⟩|exact(show (0:Int)≤0∧(0:Int)≤17 from ⟨by decide,by decide⟩)|exact(show (0:Int)≤7∧(7:Int)≤17 from ⟨by decide,by decide⟩)|exact(show (0:Int)≤9∧(9:Int)≤17 from ⟨by decide,by decide⟩)|exact(show (0:Int)≤4∧(4:Int)≤17 from ⟨by decide,by decide⟩)
  have hg:0≤(rK b c).2∧(rK b c).2≤17:=by unfold rK;(repeat' split)<;>first|exact⟨h1.1,show _≤(17:Int) by omega⟩|exact⟨h2.1,show _≤(17:Int) by omega⟩|exact⟨h3.1,show _≤(17:Int) by omega⟩|exact(show (0:Int)≤0∧(0:Int)≤17 from ⟨by decide,by decide⟩)|exact(show (0:Int)≤7∧(7:Int)≤17 from ⟨by decide,by decide⟩)|exact(show (0:Int)≤9∧(9:Int)≤17 from ⟨by decide,by decide⟩)|exact(show (0:Int)≤4∧(4:Int)≤17 from ⟨by decide,by decide⟩)
  have ch:∀ r:BX×Int,fG b r→fG b ((chT r).1,(chT r).2.2):=fun r h=>h
  unfold doP
  by_cases o0:1≤c.op∧c.op≤3
  · rw [if_pos o0];exact fG.err hok hl.1 hl.2
  rw [if_neg o0]
  by_cases o1:c.op=4
  · rw [if_pos o1];exact ch _ (good_put hok c)
  rw [if_neg o1]
  by_cases o2:c.op=5
  · rw [if_pos o2];exact ch _ (good_mkdir hok c)
  rw [if_neg o2]
  by_cases o3:c.op=6
  · rw [if_pos o3];exact ch _ (good_remove hok _)
  rw [if_neg o3]
  by_cases o4:c.op=7
  · rw [if_pos o4];exact ch _ (good_move hok _ _)
  rw [if_neg o4]
  by_cases o5:c.op=8
  · rw [if_pos o5];exact ch _ (good_mode hok _ _)
  rw [if_neg o5]
  by_cases o6:c.op=9
  · rw [if_pos o6];exact ch _ (good_own hok _ _ _)
  rw [if_neg o6]
  by_cases o7:c.op=10
  · rw [if_pos o7];exact ch _ (good_attr hok _ _ _ _)
  rw [if_neg o7]
  by_cases o8:c.op=11
  · rw [if_pos o8];exact ch _ (good_attr hok _ _ _ _)
  rw [if_neg o8]
  by_cases o9:c.op=12
  · rw [if_pos o9];exact fG.err hok hg.1 hg.2
  rw [if_neg o9]
  by_cases o10:c.op=13
  · rw [if_pos o10];exact ch _ (good_be hok _ _)
  rw [if_neg o10]
  by_cases o11:c.op=14
  · rw [if_pos o11];exact fG.err hok (show (0:Int)≤0 by decide) (show (0:Int)≤17 by decide)
  rw [if_neg o11]
  exact fG.err hok (show (0:Int)≤3 by decide) (show (3:Int)≤17 by decide)
end
section
def dM (b:BX):BX:={ b with q:=64 }
def upB (b:BX):PN:=b.ls.headD pnZ
theorem look_rich (b:BX) (ss:List ByteArray) (t:TH):fF (dM b) ss t=fF b ss t:=rfl
theorem spotK_rich (b:BX) (ss:List ByteArray):∀ k,eN (dM b) ss k=eN b ss k
  | 0=>rfl
  | k+1=>by
    rw [eN,eN,spotK_rich b ss k,look_rich]
    rfl
theorem tC (b:BX) (ss:List ByteArray):cC (dM b) ss=cC b ss:=spotK_rich b ss _
theorem kD (b:BX) (l:List UInt8):cS (dM b) l=cS b l:=by unfold cS;rw [tC]
theorem fM (b:BX) (l:List UInt8):aV (dM b) l=aV b l:=by unfold aV;rw [tC]
theorem spotF_rich (b:BX) (l:List UInt8):pA (dM b) l=pA b l:=by unfold pA;rw [tC]
structure Qt (b:BX) (r r':BX×Int):Prop where
  bad:¬r.2=0→r.1=b
  same:¬r'.2=0→r.2=r'.2
  over:r'.2=0→b.q<eF (upB r'.1)→r.2=12
  fits:r'.2=0→eF (upB r'.1)≤b.q→r.2=0∧r'.1=dM r.1
theorem Qt.err {b:BX} (hb:eF (upB b)≤b.q) (e:Int):Qt b (b,e) (dM b,e) :=
  ⟨fun _=>rfl,fun _=>rfl,fun _ h=>absurd hb (by have h:b.q<eF (upB b):=h;omega),fun h _=>⟨h,rfl⟩⟩
theorem qt_grow {b:BX} (hq:b.q≤64) (hb:eF (upB b)≤b.q) (u:PN):Qt b (iZ b u) (iZ (dM b) u):=by
  unfold iZ
  by_cases h1:dK true u=0
  · rw [if_neg (not_not_intro h1),if_neg (not_not_intro h1)]
    by_cases h2:b.q<eF u
    · rw [if_pos h2]
      by_cases h3:(dM b).q<eF u
      · rw [if_pos h3];exact Qt.err hb 12
      · rw [if_neg h3]
        exact⟨fun _=>rfl,fun h=>absurd rfl h,fun _ _=>rfl,fun _ h=>absurd h2 (by have h:eF u≤b.q:=h;omega)⟩
    · rw [if_neg h2,if_neg (by show ¬(64:Int)<_;omega)]
      exact⟨fun h=>absurd rfl h,fun h=>absurd rfl h,fun _ h=>absurd h h2,fun _ _=>⟨rfl,rfl⟩⟩
  · rw [if_pos h1,if_pos h1];exact Qt.err hb _
section
variable {b : BX} (hq : b.q ≤ 64) (hb : eF (upB b) ≤ b.q)
include hq hb
theorem qt_putG (x u:PN) (ss:List ByteArray):Qt b (vZ b x u ss) (vZ (dM b) x u ss):=by
  unfold vZ
  split
  · exact Qt.err hb _
  · exact qt_grow hq hb _
theorem xX (ss:List ByteArray) (f:Hd→Hd):Qt b (fV b ss f) (fV (dM b) ss f):=by
  have e1:(dM b).ls=b.ls:=rfl
  have e2:(dM b).us=b.us:=rfl
  have e3:(dM b).gs=b.gs:=rfl
  unfold fV
  rw [e1,e2,e3]
  split
  · exact Qt.err hb _
  · split
    · exact qt_grow hq hb _
    · split
      · exact Qt.err hb _
      · exact qt_grow hq hb _
theorem qt_make (ss:List ByteArray) (par:TH) (kind mode:Int) (dt:ByteArray):Qt b (iQ b ss par kind mode dt) (iQ (dM b) ss par kind mode dt):=by
  have e0:(dM b).c=b.c:=rfl
  have e1:(dM b).ls=b.ls:=rfl
  have e2:(dM b).us=b.us:=rfl
  have e3:(dM b).gs=b.gs:=rfl
  have e4:oP (dM b) par kind mode dt=oP b par kind mode dt:=rfl
  unfold iQ
  rw [e0,e2,e3,e4]
  split
  · exact Qt.err hb _
  · split
    · exact Qt.err hb _
    · cases hm:cT true b.us b.gs (.mk (oP b par kind mode dt) []) with
      | none=>exact Qt.err hb _
      | some x =>
        show Qt b (uK b ss kind x) (uK (dM b) ss kind x)
        unfold uK
        rw [e1,e2,e3]
        split
        · exact Qt.err hb _
        · exact qt_putG hq hb _ _ _
theorem qt_put (c:CL):Qt b (gJ b c) (gJ (dM b) c):=by
  have e0:(dM b).c=b.c:=rfl
  unfold gJ
  rw [spotF_rich,fM,e0]
  (repeat' split)<;>first|exact Qt.err hb _|exact qt_make hq hb _ _ _ _ _|exact xX hq hb _ _
theorem qt_mkdir (c:CL):Qt b (kJ b c) (kJ (dM b) c):=by
  unfold kJ
  rw [spotF_rich,fM]
  (repeat' split)<;>first|exact Qt.err hb _|exact qt_make hq hb _ _ _ _ _
theorem qt_remove (s:ByteArray):Qt b (eL b s) (eL (dM b) s):=by
  have e1:(dM b).ls=b.ls:=rfl
  have e2:(dM b).us=b.us:=rfl
  have e3:(dM b).gs=b.gs:=rfl
  have e4:∀ s,eM (dM b) s=eM b s:=fun s=>rfl
  have e5:∀ u ss,iB (dM b) u ss=iB b u ss:=fun u ss=>rfl
  have e6:∀ u ss,mV (dM b) u ss=mV b u ss:=fun u ss=>rfl
  unfold eL gone2
  rw [kD,fM,e1,e2,e3,e4]
  (repeat' (first|rw [e5]|rw [e6]))
  (repeat' split)<;>first|exact Qt.err hb _|exact qt_grow hq hb _
theorem qt_move (s t:ByteArray):Qt b (rM b s t) (rM (dM b) s t):=by
  have e0:(dM b).c=b.c:=rfl
  have e1:(dM b).ls=b.ls:=rfl
  have e2:(dM b).us=b.us:=rfl
  have e3:(dM b).gs=b.gs:=rfl
  have e4:∀ s,eM (dM b) s=eM b s:=fun s=>rfl
  have e5:∀ u ss,iB (dM b) u ss=iB b u ss:=fun u ss=>rfl
  have e6:∀ u ss,mV (dM b) u ss=mV b u ss:=fun u ss=>rfl
  have h4:∀ dir n u ss other,Qt b (uN b dir n u ss other) (uN (dM b) dir n u ss other):=fun dir n u ss other=>by
    unfold uN
    rw [e1,e5,e6]
    split
    · exact Qt.err hb _
    · exact qt_putG hq hb _ _ _
  have h3:∀ dir ss other,Qt b (tV b dir ss other) (tV (dM b) dir ss other):=fun dir ss other=>by
    unfold tV
    rw [e1,e2,e3]
    split
    · exact Qt.err hb _
    · split
      · exact Qt.err hb _
      · exact h4 _ _ _ _ _
  have h2:∀ a to ss other,Qt b (tM b a to ss other) (tM (dM b) a to ss other):=fun a to ss other=>by
    unfold tM
    rw [e1,e4]
    (repeat' split)<;>first|exact Qt.err hb _|exact h3 _ _ _
  unfold rM
  rw [kD,fM,fM,tC,e0,e4]
  (repeat' split)<;>first|exact Qt.err hb _|exact h2 _ _ _ _
theorem qt_mode (l:List UInt8) (m:Int):Qt b (nQ b l m) (nQ (dM b) l m):=by
  have e0:(dM b).c=b.c:=rfl
  unfold nQ
  rw [kD,fM,e0]
  (repeat' split)<;>first|exact Qt.err hb _|exact xX hq hb _ _
theorem qt_own (l:List UInt8) (u g:Int):Qt b (sZ b l u g) (sZ (dM b) l u g):=by
  have h2:∀ u g,Qt b (uE b l u g) (uE (dM b) l u g):=fun u g=>by
    have e0:∀ t,tP (dM b) t u g=tP b t u g:=fun _=>rfl
    have e2:(dM b).us=b.us:=rfl
    have e3:(dM b).gs=b.gs:=rfl
    by_cases hm:tP b (aV b l).th u g
    · have hm':tP (dM b) (aV (dM b) l).th u g:=by rw [fM];exact hm
      unfold uE
      rw [if_neg (not_not_intro hm),if_neg (not_not_intro hm'),e2,e3]
      cases hx:cT true b.us b.gs (idN u g) with
      | none=>exact Qt.err hb _
      | some x=>exact xX hq hb _ _
    · have hm':¬tP (dM b) (aV (dM b) l).th u g:=by rw [fM];exact hm
      unfold uE
      rw [if_pos hm,if_pos hm']
      exact Qt.err hb _
  unfold sZ
  rw [kD,fM]
  (repeat' split)<;>first|exact Qt.err hb _|exact h2 _ _
theorem qt_be (u g:Int):Qt b (beP b u g) (beP (dM b) u g):=by
  have _:=hq
  have e0:(dM b).c=b.c:=rfl
  have e2:(dM b).us=b.us:=rfl
  have e3:(dM b).gs=b.gs:=rfl
  unfold beP
  rw [e0,e2,e3]
  split
  · exact Qt.err hb _
  · split
    · exact Qt.err hb _
    · exact⟨fun h=>absurd rfl h,fun h=>absurd rfl h,fun _ h=>absurd (show eF (upB b)≤b.q from hb) (by have h:b.q<eF (upB b):=h;omega),fun _ _=>⟨rfl,rfl⟩⟩
theorem qt_attr (l:List UInt8) (nm vl:ByteArray) (drop:Bool):Qt b (mN b l nm vl drop) (mN (dM b) l nm vl drop):=by
  have e4:∀ t n w,gE (dM b) t n w=gE b t n w:=fun _ _ _=>rfl
  unfold mN
  rw [kD,fM,e4]
  (repeat' split)<;>first|exact Qt.err hb _|exact xX hq hb _ _
end
theorem lookT_rich (b:BX) (c:CL):iY (dM b) c=iY b c:=by
  have e0:(dM b).c=b.c:=rfl
  have e1:(dM b).ls=b.ls:=rfl
  unfold iY
  rw [kD,fM,e0,e1]
theorem getP_rich (b:BX) (c:CL):rK (dM b) c=rK b c:=by
  have e4:∀ t n w,gE (dM b) t n w=gE b t n w:=fun _ _ _=>rfl
  unfold rK
  rw [kD,fM,e4]
theorem qt_do {b:BX} (hq:b.q≤64) (hb:eF (upB b)≤b.q) (c:CL):Qt b ((doP b c).1,(doP b c).2.2) ((doP (dM b) c).1,(doP (dM b) c).2.2)∧(doP (dM b) c).2.1=(doP b c).2.1:=by
  have e1:(dM b).ls=b.ls:=rfl
  have ch:∀ r r':BX×Int,Qt b r r'→Qt b ((chT r).1,(chT r).2.2) ((chT r').1,(chT r').2.2)∧(chT r').2.1=(chT r).2.1:=fun r r' h=>⟨h,rfl⟩
  unfold doP
  rw [lookT_rich,getP_rich,e1]
  by_cases o0:1≤c.op∧c.op≤3
  · rw [if_pos o0,if_pos o0];exact⟨Qt.err hb _,rfl⟩
  rw [if_neg o0,if_neg o0]
  by_cases o1:c.op=4
  · rw [if_pos o1,if_pos o1];exact ch _ _ (qt_put hq hb c)
  rw [if_neg o1,if_neg o1]
  by_cases o2:c.op=5
  · rw [if_pos o2,if_pos o2];exact ch _ _ (qt_mkdir hq hb c)
  rw [if_neg o2,if_neg o2]
  by_cases o3:c.op=6
  · rw [if_pos o3,if_pos o3];exact ch _ _ (qt_remove hq hb _)
  rw [if_neg o3,if_neg o3]
  by_cases o4:c.op=7
  · rw [if_pos o4,if_pos o4];exact ch _ _ (qt_move hq hb _ _)
  rw [if_neg o4,if_neg o4]
  by_cases o5:c.op=8
  · rw [if_pos o5,if_pos o5];exact ch _ _ (qt_mode hq hb _ _)
  rw [if_neg o5,if_neg o5]
  by_cases o6:c.op=9
  · rw [if_pos o6,if_pos o6];exact ch _ _ (qt_own hq hb _ _ _)
  rw [if_neg o6,if_neg o6]
  by_cases o7:c.op=10
  · rw [if_pos o7,if_pos o7];exact ch _ _ (qt_attr hq hb _ _ _ _)
  rw [if_neg o7,if_neg o7]
  by_cases o8:c.op=11
  · rw [if_pos o8,if_pos o8];exact ch _ _ (qt_attr hq hb _ _ _ _)
  rw [if_neg o8,if_neg o8]
  by_cases o9:c.op=12
  · rw [if_pos o9,if_pos o9];exact⟨Qt.err hb _,rfl⟩
  rw [if_neg o9,if_neg o9]
  by_cases o10:c.op=13
  · rw [if_pos o10,if_pos o10];exact ch _ _ (qt_be hq hb _ _)
  rw [if_neg o10,if_neg o10]
  by_cases o11:c.op=14
  · rw [if_pos o11,if_pos o11];exact⟨Qt.err hb _,rfl⟩
  rw [if_neg o11,if_neg o11]
  exact⟨Qt.err hb _,rfl⟩
theorem Qt.room {b:BX} {r r':BX×Int} (hb:eF (upB b)≤b.q) (h:Qt b r r'):eF (upB r.1)≤b.q:=by
  by_cases h1:r.2=0
  · by_cases h2:r'.2=0
    · by_cases h3:b.q<eF (upB r'.1)
      · have:=h.over h2 h3;omega
      · obtain⟨_,h4⟩:=h.fits h2 (by omega)
        have:upB r'.1=upB r.1:=by rw [h4];rfl
        rw [←this];omega
    · have:=h.same h2;omega
  · rw [h.bad h1];exact hb
end
section
theorem look_bd9 {xs:List PR} (h:∀ r∈xs,bdR r) {x y:Int} (hl:jS xs x=some y):0≤y∧y≤65535:=by
  obtain⟨r,hr,hi,rfl⟩:=look_some hl
  have:=h r hr
  unfold bdR at this;unfold inR at hi;omega
theorem yB {m:List PR} {x y:Int} (h:eS m x=some y):0≤y∧y≤65535:=by
  unfold eS at h
  by_cases hf:cN m=0
  · rw [if_pos hf] at h
    exact look_bd9 (fun r hr=>(jG hf).2.1 r hr) h
  · rw [if_neg hf] at h;cases h
theorem root_tree9 {u g:Int} (hu:0≤u∧u≤65535) (hg:0≤g∧g≤65535):dK true (.mk ⟨2,493,u,g,false,[],⟨#[]⟩⟩ [])=0:=by
  have h0:jJ ⟨2,493,u,g,false,[],⟨#[]⟩⟩ (decide (0<([]:PKs).length)) true (decide (0=0))=0:=by
    unfold jJ
    rw [if_neg (by show ¬¬((2:Int)=1∨(2:Int)=2∨(2:Int)=3);decide),if_neg (by show ¬¬((0≤(493:Int)∧(493:Int)≤4095)∧(0≤u∧u≤65535)∧(0≤g∧g≤65535));omega)]
    rfl
  unfold dK
  rw [if_neg (by show ¬¬(2:Int)=2;decide),cH,if_neg (by omega),if_neg (not_not_intro h0),dO]
theorem root_tree {us gs:List PR} {c:CR} {z:PN} (h:cT true us gs (.mk (uP c) [])=some z):dK true z=0:=by
  obtain⟨u,g,rfl,h1,h2⟩:=vP h
  exact root_tree9 (yB (m:=us) h1) (yB (m:=gs) h2)
theorem newOk {x:CF} {ls:List PN} (h:pD x ls=0):bK (newB x.M.us x.M.gs x.c x.q ls):=by
  obtain⟨k1,k2,k3,k4,k5,k6,k7⟩:=cfg_ok h
  obtain⟨z,hz⟩:=sR k7
  refine⟨k4,k5,by show 0<ls.length+1;omega,by show ls.length+1≤4;omega,fun y hy=>?_,fun j y hj hy=>?_⟩
  · have hy:(((cT true x.M.us x.M.gs (.mk (uP x.c) [])).getD pnZ) :: ls)[0]?=some y:=hy
    rw [hz] at hy
    cases hy
    exact root_tree hz
  · have hy:(((cT true x.M.us x.M.gs (.mk (uP x.c) [])).getD pnZ) :: ls)[j]?=some y:=hy
    obtain⟨i,rfl⟩:∃ i,j=i+1:=⟨j - 1,by omega⟩
    rw [List.getElem?_cons_succ] at hy
    exact k6 y (List.mem_of_getElem? hy)
end
section
structure Rd where
  l:List UInt8
  bad:Bool
def takeR (st:Rd) (n:Nat):List UInt8×Rd:=if st.bad=true∨st.l.length<n then ([],⟨st.l,true⟩) else (st.l.take n,⟨st.l.drop n,false⟩)
def oneV:List UInt8→Int
  | []=>0
  | b :: _=>(b.toNat:Int)
def pairV:List UInt8→Int
  | [a,b]=>(a.toNat:Int) * 256+(b.toNat:Int)
  | _=>0
def byteR (st:Rd):Int×Rd:=(oneV (takeR st 1).1,(takeR st 1).2)
def twoQ (st:Rd):Int×Rd:=(pairV (takeR st 2).1,(takeR st 2).2)
end
section
attribute [local irreducible] AtQ GoC GoL GoW QO QP Fn RV bX aL VLe cG bT
end
end Go.Proofs.YtejkmomfpidnbabGreat
