/- Walks and plain laws, part 10: what functions compute, proved once each (ReadE2, ReadE3, ReadQ, BxX, FlatE, FlatE2, FlatE3, Within, BxJ, FlatE4, ReadE4, RwX, CopyE3, PathE4, RwE, RwB, LayE3, LayE4). -/
import Derived.Test.YtejkmomfpidnbabGreatPart9
import Derived.Test.YtejkmomfpidnbabGreatPart3
import Derived.Test.YtejkmomfpidnbabGreatPart4
import Derived.Test.YtejkmomfpidnbabGreatPart6
import Derived.Test.YtejkmomfpidnbabGreatPart7
import Derived.Test.YtejkmomfpidnbabGreatPart1
import Derived.Test.YtejkmomfpidnbabGreatPart5
set_option linter.unusedSimpArgs false
set_option linter.unusedVariables false
set_option maxRecDepth 100000
set_option maxHeartbeats 40000000
namespace Go.Proofs.YtejkmomfpidnbabGreat
open Go.RowKit
section
section
variable {P : Program} {B : Base} {N : Nat} {Q : Exit → Act → World → Prop} {k : List kI} {F : List (Nat × Value)} {V : aI} {L L' : List Box} {c : Code}
end
attribute [local irreducible] AtQ GoC GoL GoW QO QP Fn RV bX aL VLe cG bT
end
section
attribute [local irreducible] AtQ GoC GoL GoW QO QP Fn RV bX aL VLe cG bT
end
section
open Go.RowKit
end
section
open Go.RowKit
end
section
structure Nok (x:LN):Prop where
  K:x.K=none
  nk:x.nk=0
  ck:x.ck=0
  ks:x.ks=[]
theorem Nok.n {x:LN} (h:Nok x):x.n=.mk x.h []:=by
  have:x.n=.mk x.h x.ks:=rfl
  rw [this,h.ks]
def nokL (h:Hd) (A:Option Addr) (n c:Nat):LN:=⟨h,A,n,c,none,0,0,[]⟩
theorem Nok.is {x:LN} (h:Nok x):x=nokL x.h x.A x.na x.ca:=by
  obtain⟨hh,A,n,c,K,nk,ck,ks⟩:=x
  obtain⟨h1,h2,h3,h4⟩:=h
  simp only at h1 h2 h3 h4
  subst h1 h2 h3 h4;rfl
theorem nok_node {V:aI} {h:Hd} {A:Option Addr} {n c:Nat} (ha:eH V A n h.attrs) (hc:n≤c) (hd:h.data.size≤maxLen):aX V (nokL h A n c):=aX.of (es:=[]) ha hc hd (Nat.le_refl _) ⟨eT.nil,by simp⟩ rfl
attribute [local irreducible] AtQ GoC GoL GoW QO QP Fn RV bX aL VLe cG bT
theorem Own0_c (V:aI) (x:LN) (hx:aX V x) (h0:Nok x) (hs:x.h.attrs.length≤100000):Fn Tryz.prog 54 [lnV x] V fun v V2=>∃ y:LN,v=lnV y∧y.h=x.h∧Nok y∧aX V2 y:=by
  obtain⟨ha,hca,hd,hck,es,hk,hks⟩:=hx.inv
  have hn0:=h0.nk
  have hal:=ha.1.1
  have hsrc:=ha.1.cells pa_len
  have h1:=ones_pa x.h.attrs
  (refine aH Tryz.func54 rfl Tryz.ntmps54 rfl ?_;intro w0)
  repeat' (first|(refine aE ?_;first|(refine aD ?_;(refine aT rfl und_67 inf_271 rfl rfl rfl cU.nil (vU dT) (fW hsrc) bG (by omega) rfl rfl ?_;intro A1 c1 L1 hr1;rw [Nat.zero_add] at hr1 ⊢;rw [List.nil_append] at hr1))|refine st9 ?_|(refine al9 ?_;intro γ)|refine pu9 ?_)|refine bW ?_|fail)
  rename_i γ1
  have hcap1:=hr1.cap
  refine kR hr1 bF ?_
  intro V2 hV2 hc2
  have ha2:eH V2 A1 x.na x.h.attrs:=uO hc2 hal (by unfold maxLen;omega) ha.2
  refine bQ (fun F V3 L' m=>V2=V3∧[⟨γ,70,lnC ⟨hZ,none,0,0,none,0,0,[]⟩⟩,⟨γ1,70,[.int .i64 x.h.kind,.int .i64 x.h.mode,.int .i64 x.h.user,.int .i64 x.h.group,.bool x.h.opq,.slice A1 x.na c1,.string x.h.data,.slice x.K x.nk x.ck]⟩]=L'∧m=0∧F=[(1,.pointer (some ⟨γ1,0,none⟩)),(2,.pointer (some ⟨γ,0,none⟩)),(3,.slice none 0 0),(11,.slice x.K x.nk x.ck),(12,.int .i64 x.nk),(13,.int .i64 0)]) (m:=0) ⟨rfl,rfl,rfl,rfl⟩ bH rfl sl9 ?_
  rintro F V3 L' m ⟨rfl,rfl,rfl,rfl⟩
  repeat' (first|(refine aE ?_;first|refine st9 ?_|refine pu9 ?_)|refine dR ?_|(refine aA rfl ?_ ?_<;>intro hq<;>try exact no9))
  all_goals try exact no9
  all_goals
    (refine aQ Tryz.results54 (aS agg_70 rfl bB (by exact rfl)) ?_)
    exact⟨⟨x.h,A1,x.na,c1,none,0,0,[]⟩,rfl,rfl,⟨rfl,rfl,rfl,rfl⟩,nok_node ha2 hcap1 hd⟩
end
section
def MadeBy (g:Hd→Int→Hd) (f:FuncId) (cs fs:List Value) (V:aI):Prop:=∀ V0,VLe V V0→∀ (x:LN) (lay:Int),aX V0 x→Nok x→x.h.attrs.length≤100000→Fn Tryz.prog f (fs ++ [lnV x,.int .i64 lay] ++ cs) V0 fun v V2=>∃ y:LN,v=lnV y∧y.h=g x.h lay∧Nok y∧aX V2 y
theorem ones_k9 (e:LK):∀ u∈lkC e,iO u=true:=fun u hu=>tK [e] u (by simpa using hu)
attribute [local irreducible] AtQ GoC GoL GoW QO QP Fn RV bX aL VLe cG bT
theorem MFlat_c {g:Hd→Int→Hd} {f:FuncId} {cs fs:List Value} (he:kW Tryz.prog f) {V:aI} (hg:MadeBy g f cs fs V):∀ (d:Nat) (V0:aI),VLe V V0→∀ (A:Option Addr) (n c:Nat) (ls:List LF),dL V0 A n ls→0<n→n≤10→(∀ x∈ls.map fz,Deep d x.1)→(∀ x∈ls.map fz,cA dZ x.1)→Fn Tryz.prog 205 [.slice A n c,.func (.func f) fs.toArray cs.toArray] V0 fun v V2=>∃ y:LN,v=lnV y∧aX V2 y∧y.n=eQ g d (ls.map fz):=by
  intro d
  induction d with
  | zero =>
    intro V0 hV0 A n c ls hF hn0 hn hd hs
    have hl:=hF.1.1
    cases ls with
    | nil=>simp at hl;omega
    | cons x t=>exact(hd (fz x) (by simp)).zero.elim
  | succ d ih =>
    intro V0 hV0 A n c ls hF hn0 hn hd hs
    have hl:=hF.1.1
    obtain⟨x,t,rfl⟩:∃ x t,ls=x :: t:=by
      cases ls with
      | nil=>simp at hl;omega
      | cons x t=>exact⟨x,t,rfl⟩
    obtain⟨b,off,x',rfl,hx',hc,hN⟩:=hF.at_ hn0
    obtain rfl:x=x':=by simpa using hx'
    obtain⟨hc8,hc9⟩:=uQ hc
    obtain⟨ha,hca,hdt,hck,es,hK,hks⟩:=hN.inv
    have hat:x.x.h.attrs.length≤100000:=(hs (fz x) (by simp)).here.1
    have hxN:aX V0 ⟨{ x.x.h with opq:=false },x.x.A,x.x.na,x.x.ca,none,0,0,[]⟩:=aX.of (es:=[]) ha hca hdt (Nat.le_refl _) ⟨eT.nil,by simp⟩ rfl
    have hO:=Own0_c V0 _ hxN ⟨rfl,rfl,rfl,rfl⟩ hat
    (refine aH Tryz.func205 rfl Tryz.ntmps205 rfl ?_;intro w0)
    repeat' (first|(refine aE ?_;first|(refine cK ?_;refine aR (fL (k:=0) und_272 siz_306 rfl rfl hn0) ?_)|refine st9 ?_|(refine al9 ?_;intro γ)|refine pu9 ?_)|refine bV ?_|fail)
    refine bM (id:=4) _ mixed (List.nil_sublist _) ?_;refine gt9 0 ?_;refine gt9 3 ?_;refine fP 4 rfl rfl (fL (k:=0) und_272 siz_306 rfl rfl hn0) ?_;refine gt9 5 ?_;refine gt9 6 ?_;refine aY (i:=1) rfl ?_;refine aR (pG agg_70 rfl bB (by exact rfl)) ?_;refine aY (i:=2) rfl ?_;(refine aM rfl ⟨Tryz.call54⟩ rfl rfl (hO) ?_;rintro v V3 hV3 ⟨y,rfl,hyh,hyk,hyN⟩;have hgc:=hg V3 (hV0.trans hV3) y x.lay hyN hyk (by rw [hyh];exact hat));refine aY (i:=7) rfl ?_;(refine gw_callv rfl he rfl rfl rfl hgc ?_;rintro v V4 hV4 ⟨⟨zh,zA,zn,zc,zK,znk,zck,zks⟩,rfl,hzh,⟨hz1,hz2,hz3,hz4⟩,hzN⟩;simp only at hzh hz1 hz2 hz3 hz4;subst hz1 hz2 hz3 hz4);refine aY (i:=8) rfl ?_;refine aO rfl siz_70 rfl rfl rfl rfl bG dC rfl ?_;refine aU (by kernel_rfl) vl9 vl9 bD ?_
    rename_i γ4
    have hF4:=hF.le (hV3.trans hV4)
    have hnf:=names_few (r:=(x :: t).map fz) hs
    rw [List.length_map,hl] at hnf
    have hL:=MList_c V4 _ n c (x :: t) hF4 (by omega) (by omega)
    obtain⟨hza,hzca,hzd,_,_,_,_⟩:=hzN.inv
    repeat' (first|(refine aE ?_;first|(refine aD ?_;(refine aM rfl ⟨Tryz.call226⟩ rfl rfl (hL) ?_;rintro v V5 hV5 ⟨A5,n5,c5,rfl,hS5,hc5⟩))|refine pu9 ?_)|refine bW ?_|fail)
    have hsl:=hS5.1.1
    have hll:=pJ ((x :: t).map fz)
    refine bQ (fun F V' L' m=>∃ (k:Nat) (acc:List LK) (A':Option Addr) (c':Nat) (LA:List Box),VLe V5 V'∧LA ++ [⟨γ,70,[.int .i64 zh.kind,.int .i64 zh.mode,.int .i64 zh.user,.int .i64 zh.group,.bool zh.opq,.slice zA zn zc,.string zh.data,.slice A' k c']⟩,⟨γ4,70,lnC ⟨hZ,none,0,0,none,0,0,[]⟩⟩]=L'∧k≤n5∧cU A' k c' 156 9 (acc.flatMap lkC) LA∧acc.length=k∧acc.map kz=((gQ ((x :: t).map fz)).take k).map (fun nm=>(nm,eQ g d (cO ((x :: t).map fz) nm)))∧(∀ e∈acc,e.nm.size≤maxLen∧aX V' e.x)∧m=n5 - k∧F=[(0,.slice (some ⟨b,off,none⟩) n c),(1,.func (.func f) fs.toArray cs.toArray),(4,.pointer (some ⟨γ4,0,none⟩)),(5,.pointer (some ⟨γ,0,none⟩)),(23,.slice A5 n5 c5),(24,.int .i64 n5),(25,.int .i64 (k:Int))]) (m:=n5) ⟨0,[],none,0,[],VLe.refl _,rfl,Nat.zero_le _,cU.nil,rfl,rfl,by simp,by omega,rfl⟩ bH rfl sl9 ?_
    rintro F V9 L' m ⟨k,acc,A',c',LA,hV9,rfl,hkn,hr,hal,hak,haN,rfl,rfl⟩
    have h0V:=hV3.trans (hV4.trans (hV5.trans hV9))
    by_cases hlt:k<n5
    · obtain⟨b6,o6,nm,hA5,hx6,hc6,hms⟩:=(hS5.le hV9).at_ hlt
      have hmem:=List.mem_of_getElem? hx6
      have hpos:=(pP.1 hmem).2
      have hStp:=Step_c V9 _ n c (x :: t) (hF4.le (hV5.trans hV9)) (by omega) nm
      have hstl:=stepP_len ((x :: t).map fz) nm
      rw [List.length_map,hl] at hstl
      have hih:∀ V6,VLe V9 V6→∀ (A6:Option Addr) (n6 c6:Nat) (gs:List LF),dL V6 A6 n6 gs→gs.map fz=cO ((x :: t).map fz) nm→Fn Tryz.prog 205 [.slice A6 n6 c6,.func (.func f) fs.toArray cs.toArray] V6 fun v V2=>∃ y:LN,v=lnV y∧aX V2 y∧y.n=eQ g d (cO ((x :: t).map fz) nm):=fun V6 hV6 A6 n6 c6 gs hG hgz=>by
        have hgl:=hG.1.1
        have hgl2:=congrArg List.length hgz
        rw [List.length_map,hgl] at hgl2
        have:=ih V6 ((hV0.trans h0V).trans hV6) A6 n6 c6 gs hG (by omega) (by omega) (by rw [hgz];exact wM hd) (by rw [hgz];exact stepP_all hs)
        rw [hgz] at this
        exact this
      repeat' (first|(refine aE ?_;first|(refine cK ?_;refine aR (bL und_47 siz_9 rfl hA5 rfl hlt) ?_)|refine pu9 ?_)|refine bW ?_|(refine aA rfl ?_ ?_<;>intro hq<;>try exact no9))
      all_goals try exact no9
      refine bM (id:=8) _ mixed (List.nil_sublist _) ?_;refine gt9 0 ?_;refine gt9 2 ?_;refine gt9 3 ?_;refine gt9 4 ?_;refine gt9 6 ?_;(refine dF (i:=1) (j:=5) (by kernel_rfl) rfl rfl rfl rfl vl9 vl9 bD ?_ ?_<;>first|((first|refine aR (bE one_68 rfl bB (by exact rfl)) ?_|refine aR (bE one_68 rfl bB (by assumption)) ?_|refine aR (cI one_68 rfl (by assumption)) ?_);refine aY (i:=5) rfl ?_;(refine aM rfl ⟨Tryz.call234⟩ rfl rfl (hStp) ?_;rintro v V6 hV6 ⟨A6,n6,c6,gs,rfl,hG6,hc6',hgz⟩;have hih6:=hih V6 hV6 A6 n6 c6 gs hG6 hgz);refine aY (i:=7) rfl ?_;(refine aM rfl ⟨Tryz.call205⟩ rfl rfl (hih6) ?_;rintro v V7 hV7 ⟨y,rfl,hyN,hyn⟩;have ho1:=ones_k9 ⟨nm,y⟩);refine gt9 8 ?_;refine aY (i:=9) rfl ?_;(refine aP rfl und_68 siz_156 zec_156 rfl rfl rfl rfl rfl rfl rfl ?_;intro γ);refine aY (i:=10) rfl ?_;(refine aT rfl und_68 inf_156 rfl rfl rfl hr bF (cZ bB rfl) bG (by omega) rfl rfl ?_;intro A8 c8 L8 hr8);refine gt9 11 ?_;refine aY (i:=12) rfl ?_;refine aO rfl siz_68 rfl rfl rfl rfl bG dC rfl ?_;refine aU (by kernel_rfl) vl9 vl9 bD ?_)|((refine aM rfl ⟨Tryz.call234⟩ rfl rfl (hStp) ?_;rintro v V6 hV6 ⟨A6,n6,c6,gs,rfl,hG6,hc6',hgz⟩;have hih6:=hih V6 hV6 A6 n6 c6 gs hG6 hgz);(refine dF (i:=1) (j:=7) (by kernel_rfl) rfl rfl rfl rfl vl9 vl9 bD ?_ ?_<;>first|((first|refine aR (bE one_68 rfl bB (by exact rfl)) ?_|refine aR (bE one_68 rfl bB (by assumption)) ?_|refine aR (cI one_68 rfl (by assumption)) ?_);refine aY (i:=7) rfl ?_;(refine aM rfl ⟨Tryz.call205⟩ rfl rfl (hih6) ?_;rintro v V7 hV7 ⟨y,rfl,hyN,hyn⟩;have ho1:=ones_k9 ⟨nm,y⟩);refine gt9 8 ?_;refine aY (i:=9) rfl ?_;(refine aP rfl und_68 siz_156 zec_156 rfl rfl rfl rfl rfl rfl rfl ?_;intro γ);refine aY (i:=10) rfl ?_;(refine aT rfl und_68 inf_156 rfl rfl rfl hr bF (cZ bB rfl) bG (by omega) rfl rfl ?_;intro A8 c8 L8 hr8);refine gt9 11 ?_;refine aY (i:=12) rfl ?_;refine aO rfl siz_68 rfl rfl rfl rfl bG dC rfl ?_;refine aU (by kernel_rfl) vl9 vl9 bD ?_)|((refine aM rfl ⟨Tryz.call205⟩ rfl rfl (hih6) ?_;rintro v V7 hV7 ⟨y,rfl,hyN,hyn⟩;have ho1:=ones_k9 ⟨nm,y⟩);refine gt9 8 ?_;(refine dF (i:=1) (j:=9) (by kernel_rfl) rfl rfl rfl rfl vl9 vl9 bD ?_ ?_<;>first|((first|refine aR (bE one_68 rfl bB (by exact rfl)) ?_|refine aR (bE one_68 rfl bB (by assumption)) ?_|refine aR (cI one_68 rfl (by assumption)) ?_);refine aY (i:=9) rfl ?_;(refine aP rfl und_68 siz_156 zec_156 rfl rfl rfl rfl rfl rfl rfl ?_;intro γ);refine aY (i:=10) rfl ?_;(refine aT rfl und_68 inf_156 rfl rfl rfl hr bF (cZ bB rfl) bG (by omega) rfl rfl ?_;intro A8 c8 L8 hr8);refine gt9 11 ?_;refine aY (i:=12) rfl ?_;refine aO rfl siz_68 rfl rfl rfl rfl bG dC rfl ?_;refine aU (by kernel_rfl) vl9 vl9 bD ?_)|((refine aP rfl und_68 siz_156 zec_156 rfl rfl rfl rfl rfl rfl rfl ?_;intro γ);refine aY (i:=1) rfl ?_;(first|refine aR (bE one_68 rfl bB (by exact rfl)) ?_|refine aR (bE one_68 rfl bB (by assumption)) ?_|refine aR (cI one_68 rfl (by assumption)) ?_);refine aY (i:=10) rfl ?_;(refine aT rfl und_68 inf_156 rfl rfl rfl hr bF (cZ bB rfl) bG (by omega) rfl rfl ?_;intro A8 c8 L8 hr8);refine gt9 11 ?_;refine aY (i:=12) rfl ?_;refine aO rfl siz_68 rfl rfl rfl rfl bG dC rfl ?_;refine aU (by kernel_rfl) vl9 vl9 bD ?_))))))
      all_goals
        repeat' (first|(refine aE ?_;refine pu9 ?_)|refine bV ?_|fail)
        refine aZ _ (n5 - (k+1)) ⟨k+1,acc ++ [⟨nm,y⟩],A8,c8,L8,vl9,rfl,by omega,by rw [List.flatMap_append];exact hr8,by rw [List.length_append,hal];rfl,?_,?_,rfl,rfl⟩ (by omega) bH sl9
        · rw [List.map_append,hak,List.take_add_one,hx6,List.map_append]
          simp [kz,hyn]
        · intro e he
          rcases List.mem_append.1 he with he|he
          · exact⟨(haN e he).1,(haN e he).2.le vl9⟩
          · rw [List.mem_singleton] at he;subst he
            exact⟨hms,hyN⟩
    · obtain rfl:k=n5:=by omega
      have hcap:=hr.cap
      refine kR hr bF ?_
      intro V8 hV8 hc8'
      have hKd:eI V8 A' k acc:=⟨eT.of_cells hc8' nV hal (by unfold maxLen;omega),fun e he=>⟨(haN e he).1,(haN e he).2.le hV8⟩⟩
      repeat' (first|(refine aE ?_;first|refine st9 ?_|refine pu9 ?_)|refine dR ?_|(refine aA rfl ?_ ?_<;>intro hq<;>try exact no9))
      all_goals try exact no9
      all_goals
        (refine aQ Tryz.results205 (aS agg_70 rfl bB (by exact rfl)) ?_)
        refine⟨⟨zh,zA,zn,zc,A',k,c',acc.map kz⟩,rfl,aX.of (hza.le (hV5.trans (hV9.trans hV8))) hzca hzd hcap (eI.le vl9 hKd) rfl,?_⟩
        have e1:((⟨zh,zA,zn,zc,A',k,c',acc.map kz⟩:LN)).n=.mk zh (acc.map kz):=rfl
        rw [e1,hak,List.take_of_length_le (by omega),hzh,hyh]
        rfl
end
section
structure FuncTy (P:Program) (T:TypeId):Prop where
  h:∃ a b c,P.underlying T=some (.func a b c)
section
variable {P : Program} {B : Base} {N : Nat} {F : List (Nat × Value)} {V : aI} {L : List Box}
variable {d : Option Tmp} {ty : TypeId} {pos : String} {af : Array Edge} {gd : Option (Nat × Bool)} {x : Operand} {t ty2 : TypeId}
theorem run_fnil_f (w:World) (d:Nat) (f:Go.Fn) (xs ys:Array Value) (h:∃ a b c,P.underlying t=some (.func a b c)):(Op.equalIn (d+1) t (.func f xs ys) .nilFunc).run P w=.ok false w:=by
  obtain⟨a,b,c,h⟩:=h
  simp [Op.equalIn,run_underlying h]
theorem q_fnil_f {f:Go.Fn} {xs ys:Array Value} (hp:FuncTy P t) (hx:evF F x=some (.func f xs ys)):QP P B N V L ⟨d,.binOp .eql t x (.const .nilFunc) ty2,ty,pos,af,gd⟩ F (.bool false):=by
  refine tL (y:=.const .nilFunc) hx rfl (fun w=>by simp [eqGuard]) (fun w=>?_)
  simp only [binOp]
  simp [Op.equal,Op.maxDepth,run_fnil_f w 9999 f xs ys hp.h]
end
theorem made_ty:FuncTy Tryz.prog 160:=⟨_,_,_,Tryz.underlying160⟩
def FlatR (g:Hd→Int→Hd) (d:Nat) (r:List PF) (v:Value) (V':aI):Prop:=(r=[]∧v=.tuple #[lnV lnZ,.bool false])∨(r≠[]∧∃ y,v=.tuple #[lnV y,.bool true]∧aX V' y∧y.n=eQ g d r)
theorem roots_len (l:List PN):(jE l).length≤l.length:=by
  have:=qF (iA 0 l)
  rw [layP_len] at this;exact this
theorem roots_all {p:Hd→PKs→Prop} {l:List PN} (h:∀ x∈l,cA p x):∀ f∈jE l,cA p f.1:=fun f hf=>h _ (uA (gO hf))
theorem map_n {p:PN→Prop} {xs:List LN} (h:∀ x∈xs,p x.n):∀ y∈xs.map LN.n,p y:=fun y hy=>by
  obtain⟨x,hx,rfl⟩:=List.mem_map.1 hy
  exact h x hx
attribute [local irreducible] AtQ GoC GoL GoW QO QP Fn RV bX aL VLe cG bT
theorem FlatF_c {g:Hd→Int→Hd} {f:FuncId} {cs fs:List Value} (he:kW Tryz.prog f) {V:aI} (hg:MadeBy g f cs fs V) (A:Option Addr) (n c:Nat) (xs:List LN) (h:dP V A n xs) (hn:n≤10) (hsm:∀ x∈xs,cA dZ x.n) (d:Nat) (hd:∀ x∈xs,Deep d x.n):Fn Tryz.prog 99 [.slice A n c,.func (.func f) fs.toArray cs.toArray] V (FlatR g d (jE (xs.map LN.n))):=by
  have hl:=h.1.1
  have hR:=Roots_c V A n c xs h (by omega)
  have hrl:=roots_len (xs.map LN.n)
  rw [List.length_map,hl] at hrl
  have hrd:=roots_deep (map_n hd)
  have hra:=roots_all (map_n hsm)
  generalize jE (xs.map LN.n)=r at *
  (refine aH Tryz.func99 rfl Tryz.ntmps99 rfl ?_;intro w0)
  repeat' (first|(refine aE ?_;first|(refine aD ?_;(refine aM rfl ⟨Tryz.call203⟩ rfl rfl (hR) ?_;rintro v V1 hV1 ⟨A1,n1,c1,gs,rfl,hG,hc1,rfl⟩;have hgl:=hG.1.1;rw [List.length_map,hgl] at hrl))|(refine cX ?_;refine aR (q_fnil_f made_ty rfl) ?_)|refine st9 ?_|(refine al9 ?_;intro γ)|refine pu9 ?_)|refine cD ?_|(refine aA rfl ?_ ?_<;>intro hq<;>try exact no9))
  · (refine bA Tryz.results99 (aS agg_70 rfl bB (by exact rfl)) (aB rfl) ?_)
    obtain rfl:gs=[]:=List.eq_nil_of_length_eq_zero (by omega)
    exact .inl ⟨rfl,rfl⟩
  · have hM:=MFlat_c he hg d V1 hV1 A1 n1 c1 gs hG (by omega) (by omega) hrd hra
    repeat' (first|(refine aE ?_;first|(refine aD ?_;(refine aM rfl ⟨Tryz.call205⟩ rfl rfl (hM) ?_;rintro v V2 hV2 ⟨y,rfl,hyN,hyn⟩))|refine st9 ?_|refine pu9 ?_)|refine gx9 ?_|fail)
    all_goals
      (refine bA Tryz.results99 (aS agg_70 rfl bB (by exact rfl)) (aB rfl) ?_)
      refine .inr ⟨?_,y,rfl,hyN,hyn⟩
      intro e
      have:=congrArg List.length e
      rw [List.length_map,hgl] at this
      simp at this;omega
end
section
def InR (x:LN) (r:Option PN) (v:Value) (V':aI):Prop:=∃ y:LN,v=.tuple #[lnV y,bT (movF r)]∧Nok y∧aX V' y∧y.h=(r.getD pnZ).h
attribute [local irreducible] AtQ GoC GoL GoW QO QP Fn RV bX aL VLe cG bT
theorem InsideK_c (V:aI) (M:LM) (hM:mS V M) (x:LN) (hx:aX V x) (hk:Nok x) (hat:x.h.attrs.length≤100000):Fn Tryz.prog 101 [lmV M,lnV x] V (InR x (cT false M.us M.gs x.n)):=by
  cases h1:jM M.us x.h.user with
  | none =>
    have hm:=rG (out:=false) (us:=M.us) (gs:=M.gs) (n:=x.n) h1
    have c1:=fun V' (hV:VLe V V')=>(by have h:=lM V' M.A M.n M.c M.us (hM.le hV).1 hM.2.1 x.h.user;rw [h1] at h;exact h:Fn Tryz.prog 206 [.slice M.A M.n M.c,.int .i64 x.h.user] V' fun v _=>v=.tuple #[.int .i64 0,.bool false])
    have c2:=fun V' (hV:VLe V V')=>lM V' M.B M.m M.e M.gs (hM.le hV).2.2.1 hM.2.2.2 x.h.group
    rw [hm]
    (refine aH Tryz.func101 rfl Tryz.ntmps101 rfl ?_;intro w0)
    repeat' (first|(refine aE ?_;first|(refine aD ?_;(first|refine aN rfl (aG ⟨Tryz.call206⟩ rfl (c1 _ vl9)) ?_|refine aN rfl (aG ⟨Tryz.call206⟩ rfl (c2 _ vl9)) ?_|(refine aM rfl ⟨Tryz.call54⟩ rfl rfl (Own0_c _ x (hx.le vl9) hk hat) ?_;rintro v V2 hV2 ⟨y,rfl,hyh,hyk,hyN⟩)))|refine st9 ?_|(refine al9 ?_;intro γ)|refine pu9 ?_)|refine cD ?_|fail)
    all_goals (refine bA Tryz.results101 (aS agg_70 rfl bB (by exact rfl)) (aB rfl) ?_)
    all_goals exact⟨lnZ,by rw [←dU (e:=11) (by decide)];rfl,⟨rfl,rfl,rfl,rfl⟩,aX.zero,rfl⟩
  | some u =>
    have c1:=fun V' (hV:VLe V V')=>(by have h:=lM V' M.A M.n M.c M.us (hM.le hV).1 hM.2.1 x.h.user;rw [h1] at h;exact h:Fn Tryz.prog 206 [.slice M.A M.n M.c,.int .i64 x.h.user] V' fun v _=>v=.tuple #[.int .i64 u,.bool true])
    cases h2:jM M.gs x.h.group with
    | none =>
      have hm:=rC (out:=false) (us:=M.us) (gs:=M.gs) (n:=x.n) h2
      have c2:=fun V' (hV:VLe V V')=>(by have h:=lM V' M.B M.m M.e M.gs (hM.le hV).2.2.1 hM.2.2.2 x.h.group;rw [h2] at h;exact h:Fn Tryz.prog 206 [.slice M.B M.m M.e,.int .i64 x.h.group] V' fun v _=>v=.tuple #[.int .i64 0,.bool false])
      rw [hm]
      (refine aH Tryz.func101 rfl Tryz.ntmps101 rfl ?_;intro w0)
      repeat' (first|(refine aE ?_;first|(refine aD ?_;(first|refine aN rfl (aG ⟨Tryz.call206⟩ rfl (c1 _ vl9)) ?_|refine aN rfl (aG ⟨Tryz.call206⟩ rfl (c2 _ vl9)) ?_|(refine aM rfl ⟨Tryz.call54⟩ rfl rfl (Own0_c _ x (hx.le vl9) hk hat) ?_;rintro v V2 hV2 ⟨y,rfl,hyh,hyk,hyN⟩)))|refine st9 ?_|(refine al9 ?_;intro γ)|refine pu9 ?_)|refine cD ?_|fail)
      all_goals (refine bA Tryz.results101 (aS agg_70 rfl bB (by exact rfl)) (aB rfl) ?_)
      all_goals exact⟨lnZ,by rw [←dU (e:=11) (by decide)];rfl,⟨rfl,rfl,rfl,rfl⟩,aX.zero,rfl⟩
    | some g =>
      have hm:=lL (out:=false) (us:=M.us) (gs:=M.gs) (n:=x.n) h1 h2
      have c2:=fun V' (hV:VLe V V')=>(by have h:=lM V' M.B M.m M.e M.gs (hM.le hV).2.2.1 hM.2.2.2 x.h.group;rw [h2] at h;exact h:Fn Tryz.prog 206 [.slice M.B M.m M.e,.int .i64 x.h.group] V' fun v _=>v=.tuple #[.int .i64 g,.bool true])
      rw [hm]
      (refine aH Tryz.func101 rfl Tryz.ntmps101 rfl ?_;intro w0)
      repeat' (first|(refine aE ?_;first|(refine aD ?_;(first|refine aN rfl (aG ⟨Tryz.call206⟩ rfl (c1 _ vl9)) ?_|refine aN rfl (aG ⟨Tryz.call206⟩ rfl (c2 _ vl9)) ?_|(refine aM rfl ⟨Tryz.call54⟩ rfl rfl (Own0_c _ x (hx.le vl9) hk hat) ?_;rintro v V2 hV2 ⟨y,rfl,hyh,hyk,hyN⟩)))|refine st9 ?_|(refine al9 ?_;intro γ)|refine pu9 ?_)|refine cD ?_|fail)
      all_goals (refine bA Tryz.results101 (aS agg_70 rfl bB (by exact rfl)) (aB rfl) ?_)
      all_goals exact⟨{ y with h:={ y.h with user:=u,group:=g } },by rw [show movF (some _)=0 from rfl,dA];rfl,⟨hyk.K,hyk.nk,hyk.ck,hyk.ks⟩,sD (hyN.le vl9),by rw [hyh];rfl⟩
end
section
def flatB (b:BX):PN:=eQ (gP b.us b.gs) 7 (jE b.ls)
def MapsOk (b:BX):Prop:=cN b.us=0∧cN b.gs=0
theorem MapsOk.few {b:BX} (h:MapsOk b):b.us.length≤1000∧b.gs.length≤1000:=by
  have h1:=(jG h.1).1
  have h2:=(jG h.2).1
  omega
theorem bK.deep {b:BX} (h:bK b):∀ x∈b.ls,Deep 7 x:=fun x hx=>by obtain⟨u,hu⟩:=h.tree x hx;exact tree_deep hu
theorem bK.roots {b:BX} (h:bK b):jE b.ls≠[]:=by
  obtain⟨n0,t,hl,hk⟩:=h.root
  rw [hl,iG hk];simp
attribute [local irreducible] AtQ GoC GoL GoW QO QP Fn RV bX aL VLe cG bT
theorem flat_made {V:aI} {p:Nat} {b:BX} {I:BI} (h:mZ V p b I) {g:Nat} (hg:V ⟨g,0,none⟩=some (.pointer (some ⟨p,0,none⟩))):MadeBy (gP b.us b.gs) 100 [.pointer (some ⟨g,0,none⟩)] [] V:=by
  intro V0 hV0 x lay hx hok ha
  show Fn _ _ [lnV x,.int .i64 lay,.pointer (some ⟨g,0,none⟩)] V0 _
  obtain⟨hcM,hcC,hcq,hcl⟩:=(h.le hV0).parts
  have hg0:=fA hV0 hg
  have hI:=fun V' (hV:VLe V0 V')=>InsideK_c V' I.M ((h.2.M.le hV0).le hV) x (hx.le hV) hok ha
  rw [h.2.us,h.2.gs] at hI
  by_cases hl:0<lay
  · (refine aH Tryz.func100 rfl Tryz.ntmps100 rfl ?_;intro w0)
    repeat' (first|(refine aE ?_;first|refine st9 ?_|(refine al9 ?_;intro γ)|refine pu9 ?_)|refine bV ?_|(refine aA rfl ?_ ?_<;>intro hq<;>try exact no9))
    all_goals try exact no9
    all_goals
      (refine aQ Tryz.results100 (aS agg_70 rfl bB (by exact rfl)) ?_)
      exact⟨x,rfl,by rw [gP_low hl],hok,hx.le vl9⟩
  · (refine aH Tryz.func100 rfl Tryz.ntmps100 rfl ?_;intro w0)
    repeat' (first|(refine aE ?_;first|(refine al9 ?_;intro γ)|refine pu9 ?_)|refine bV ?_|(refine aA rfl ?_ ?_<;>intro hq<;>try exact no9))
    all_goals try exact no9
    refine dD (fun F V' L'=>∃ (γ5 γ6:Nat) (zs:List Value) (y:LN),VLe V0 V'∧aX V' y∧Nok y∧y.h=gP b.us b.gs x.h lay∧[⟨γ6,70,lnC y⟩,⟨γ5,70,lnC lnZ⟩]=L'∧F=[(5,.pointer (some ⟨γ5,0,none⟩)),(6,.pointer (some ⟨γ6,0,none⟩))]) ?_ ?_
    · refine bM (id:=3) _ mixed (List.Sublist.refl _) ?_;refine gt9 0 ?_;refine gt9 1 ?_;refine gt9 2 ?_;refine gt9 3 ?_;refine gt9 4 ?_;(refine dF (i:=5) (j:=9) (by kernel_rfl) rfl rfl rfl rfl vl9 vl9 bD ?_ ?_<;>first|((refine aM rfl ⟨Tryz.call101⟩ rfl rfl (hI _ vl9) ?_;rintro v V2 hV2 ⟨y,rfl,hyk,hyN,hyh⟩);refine gt9 6 ?_;refine gt9 7 ?_;refine gt9 8 ?_;refine aY (i:=9) rfl ?_;(refine bS rfl zer_70 rfl ?_;intro γ);refine aY (i:=10) rfl ?_;refine aO rfl siz_70 rfl rfl rfl rfl bG dC rfl ?_;refine gt9 11 ?_;refine aU (by kernel_rfl) vl9 vl9 bD ?_)|((refine bS rfl zer_70 rfl ?_;intro γ);refine aY (i:=5) rfl ?_;(refine aM rfl ⟨Tryz.call101⟩ rfl rfl (hI _ vl9) ?_;rintro v V2 hV2 ⟨y,rfl,hyk,hyN,hyh⟩);refine gt9 6 ?_;refine gt9 7 ?_;refine gt9 8 ?_;refine aY (i:=10) rfl ?_;refine aO rfl siz_70 rfl rfl rfl rfl bG dC rfl ?_;refine gt9 11 ?_;refine aU (by kernel_rfl) vl9 vl9 bD ?_))
      all_goals exact bR _ ⟨_,_,[],y,hV2,hyN,hyk,by rw [hyh,hok.n];exact(if_neg hl).symm,rfl,rfl⟩ bH sp9
    rintro F V2 L' ⟨γ5,γ6,zs,y,hV2,hyN,hyk,hyh,rfl,rfl⟩
    repeat' (first|(refine aE ?_;first|refine st9 ?_|refine pu9 ?_)|refine bV ?_|fail)
    all_goals
      (refine aQ Tryz.results100 (aS agg_70 rfl bB (by exact rfl)) ?_)
      exact⟨y,rfl,hyh,hyk,hyN⟩
theorem Flat_v (V:aI) (p:Nat) (b:BX) (I:BI) (hok:bK b) (h:mZ V p b I):Fn Tryz.prog 31 [.pointer (some ⟨p,0,none⟩)] V (NodeR (flatB b)):=by
  (refine aH Tryz.func31 rfl Tryz.ntmps31 rfl ?_;intro w0)
  repeat' (first|(refine aE ?_;first|(refine al9 ?_;intro γ))|refine gx9 ?_|refine cL (id:=0) ?_)
  refine kO (gH.next _ _ _ _ _ (gH.here _ _ _ _)) ?_
  intro V1 hV1 hg1
  have h1:=h.le hV1
  have hm4:I.m≤4:=by rw [←h.2.len];exact hok.l4
  obtain⟨hcM,hcC,hcq,hcl⟩:=h1.parts
  have hg0:=aL.at0 hg1
  have hF:=FlatF_c (V:=V1) (g:=gP b.us b.gs) ⟨Tryz.call100⟩ (flat_made h1 hg0) I.K I.m I.e I.xs h1.2.ls (by omega) (hok.smallL h.2) 7 (fun x hx=>hok.deep _ (by rw [←h.2.eq];exact List.mem_map_of_mem (f:=LN.n) hx))
  rw [h.2.eq] at hF
  repeat' (first|(refine aE ?_;first|(refine aD ?_;(refine aM rfl ⟨Tryz.call99⟩ rfl rfl (hF) ?_;rintro v V2 hV2 (⟨hx,_⟩|⟨_,y,rfl,hyN,hyn⟩);exact absurd hx hok.roots))|refine st9 ?_|(refine al9 ?_;intro γ)|refine pu9 ?_)|refine bV ?_|fail)
  all_goals
    (refine aQ Tryz.results31 (aS agg_70 rfl bB (by exact rfl)) ?_)
    exact⟨y,rfl,hyN,hyn⟩
theorem Flat_b {V:aI} {p:Nat} {b:BX} {Bs:List Box} (hok:bK b) (h:eO V p b Bs):FnB Tryz.prog 31 [.pointer (some ⟨p,0,none⟩)] V Bs fun v V' Bs'=>Bs'=Bs∧NodeR (flatB b) v V' :=
  eO.read hok h (fun v V gs hc ⟨y,h1,h2,h3⟩=>⟨y,h1,h2.off hc,h3⟩) fun V' I hV hB=>Flat_v V' p b I hok hB
theorem Copy_bx (V:aI) (p:Nat) (b:BX) (I:BI) (hok:bK b) (hmo:MapsOk b) (h:mZ V p b I):FnB Tryz.prog 23 [.pointer (some ⟨p,0,none⟩)] V [] fun v V' Bs'=>∃ g,v=.pointer (some ⟨g,0,none⟩)∧eO V' g b Bs':=by
  have hb0:=h.1
  obtain⟨hcM,hcC,hcq,hcl⟩:=h.parts
  have hz:=fI hok.c
  have hn3:I.n≤1000:=by have:=h.2.xs.1;omega
  have hm4:I.m≤4:=by rw [←h.2.len];exact hok.l4
  have hl:=h.2.ls.1.1
  obtain⟨hmu,hmg⟩:=hmo.few
  rw [←h.2.us] at hmu
  rw [←h.2.gs] at hmg
  have hn1:I.M.n≤1000:=by have:=h.2.M.1.1.1;omega
  have hn2:I.M.m≤1000:=by have:=h.2.M.2.2.1.1.1;omega
  have hOM:=fun V2 (hV2:VLe V V2)=>ownMaps_c V2 I.M (h.2.M.le hV2) hn1 hn2
  have hOC:=fun V2 (hV2:VLe V V2)=>ownCred_c V2 b.c I.A I.n I.k (h.2.xs.le hV2) hn3
  (refine bI Tryz.func23 rfl Tryz.ntmps23 rfl ?_;intro w0)
  repeat' (first|(refine aE ?_;first|(refine k_load ?_;refine aR (lR agg_113 rfl hb0 (by exact rfl)) ?_)|(refine aD ?_;(first|(refine aM rfl ⟨Tryz.call55⟩ rfl rfl (hOM _ vl9) ?_;rintro v V1 hV1 ⟨M1,rfl,hM1,hM1u,hM1g⟩;have hcC1:=hcC.le hV1;have hcl1:=fA hV1 hcl)|(refine aM rfl ⟨Tryz.call56⟩ rfl rfl (hOC _ vl9) ?_;rintro v V2 hV2 ⟨A1,k1,rfl,hI1⟩;have hcl2:=fA hV2 hcl1)))|refine st9 ?_|(refine al9 ?_;intro γ)|refine pu9 ?_)|refine bV ?_|fail)
  have h2:=h.2.up (hV1.trans hV2)
  repeat' (first|refine oC ?_)
  refine bQ (fun F V' L' m=>∃ (γ3 k:Nat) (ys:List LN) (A':Option Addr) (c':Nat) (LA:List Box),VLe V2 V'∧cU A' k c' 70 8 (ys.flatMap lnC) LA∧ys.map LN.n=(I.xs.take k).map LN.n∧(∀ w∈ys,aX V' w)∧⟨γ3,113,[.slice M1.A M1.n M1.c,.slice M1.B M1.m M1.e,.int .i64 b.c.u,.int .i64 b.c.g,.slice A1 I.n k1,.int .i64 b.c.d,.int .i64 b.q,.slice A' k c']⟩ :: LA=L'∧k≤I.m∧m=I.m - k∧F=[(3,.pointer (some ⟨γ3,0,none⟩)),(25,.slice I.K I.m I.e),(26,.int .i64 (I.m:Int)),(27,.int .i64 (k:Int))]) (m:=I.m) ⟨_,0,[],none,0,[],VLe.refl _,cU.nil,by rw [List.take_zero],by simp,rfl,Nat.zero_le _,by omega,rfl⟩ bH rfl sl9 ?_
  rintro F V' L' m ⟨γ3,k,ys,A',c',LA,hV',hr,hyz,hyN2,rfl,hk,rfl,rfl⟩
  by_cases hlt:k<I.m
  · obtain⟨bb,off,w,hA,hw,hc,hwN⟩:=(h2.ls.le hV').at_ hlt
    have hO:=fun V9 (hV9:VLe V' V9)=>Own_v V9 w (hwN.le hV9) (hok.smallL h.2 w (List.mem_of_getElem? hw))
    repeat' (first|(refine aE ?_;first|(refine cK ?_;refine aR (bL und_30 siz_70 rfl hA rfl hlt) ?_)|refine st9 ?_|(refine al9 ?_;intro γ)|refine pu9 ?_)|refine bW ?_|(refine aA rfl ?_ ?_<;>intro hq<;>try exact no9))
    refine dD (fun F V9 L'=>∃ (v:LN) (A4:Option Addr) (c4:Nat) (L4:List Box),VLe V' V9∧cU A4 (k+1) c4 70 8 (ys.flatMap lnC ++ lnC v) L4∧v.n=w.n∧aX V9 v∧⟨γ3,113,[.slice M1.A M1.n M1.c,.slice M1.B M1.m M1.e,.int .i64 b.c.u,.int .i64 b.c.g,.slice A1 I.n k1,.int .i64 b.c.d,.int .i64 b.q,.slice A4 (k+1) c4]⟩ :: L4=L'∧F=[(3,.pointer (some ⟨γ3,0,none⟩)),(25,.slice I.K I.m I.e),(26,.int .i64 (I.m:Int)),(27,.int .i64 (k:Int))]) ?_ ?_
    · refine bM (id:=8) _ mixed (List.Sublist.cons_cons _ (List.nil_sublist _)) ?_;refine gt9 0 ?_;refine gt9 2 ?_;(refine dF (i:=1) (j:=3) (by kernel_rfl) rfl rfl rfl rfl vl9 vl9 bD ?_ ?_<;>first|((first|refine aR (bE one_30 rfl bB (by exact rfl)) ?_|refine aR (bE one_30 rfl bB (by assumption)) ?_|refine aR (cI one_30 rfl (by assumption)) ?_);refine aY (i:=3) rfl ?_;(refine aM rfl ⟨Tryz.call54⟩ rfl rfl (hO _ vl9) ?_;rintro v V9 hV9 ⟨v9,rfl,hvn,hvN⟩;have ho9:=tD v9);refine aY (i:=4) rfl ?_;(refine aP rfl und_30 siz_70 zec_70 rfl rfl rfl rfl rfl rfl rfl ?_;intro γ);refine aY (i:=5) rfl ?_;(refine aT rfl und_30 inf_70 rfl rfl rfl hr bF (cZ bB rfl) bG (by omega) rfl rfl ?_;intro A4 c4 L4 hr4);refine gt9 6 ?_;refine aY (i:=7) rfl ?_;refine aO rfl siz_30 rfl rfl rfl rfl bG dC rfl ?_;refine aU (by kernel_rfl) vl9 vl9 bD ?_)|((refine aM rfl ⟨Tryz.call54⟩ rfl rfl (hO _ vl9) ?_;rintro v V9 hV9 ⟨v9,rfl,hvn,hvN⟩;have ho9:=tD v9);(refine dF (i:=1) (j:=4) (by kernel_rfl) rfl rfl rfl rfl vl9 vl9 bD ?_ ?_<;>first|((first|refine aR (bE one_30 rfl bB (by exact rfl)) ?_|refine aR (bE one_30 rfl bB (by assumption)) ?_|refine aR (cI one_30 rfl (by assumption)) ?_);refine aY (i:=4) rfl ?_;(refine aP rfl und_30 siz_70 zec_70 rfl rfl rfl rfl rfl rfl rfl ?_;intro γ);refine aY (i:=5) rfl ?_;(refine aT rfl und_30 inf_70 rfl rfl rfl hr bF (cZ bB rfl) bG (by omega) rfl rfl ?_;intro A4 c4 L4 hr4);refine gt9 6 ?_;refine aY (i:=7) rfl ?_;refine aO rfl siz_30 rfl rfl rfl rfl bG dC rfl ?_;refine aU (by kernel_rfl) vl9 vl9 bD ?_)|((refine aP rfl und_30 siz_70 zec_70 rfl rfl rfl rfl rfl rfl rfl ?_;intro γ);refine aY (i:=1) rfl ?_;(first|refine aR (bE one_30 rfl bB (by exact rfl)) ?_|refine aR (bE one_30 rfl bB (by assumption)) ?_|refine aR (cI one_30 rfl (by assumption)) ?_);refine aY (i:=5) rfl ?_;(refine aT rfl und_30 inf_70 rfl rfl rfl hr bF (cZ bB rfl) bG (by omega) rfl rfl ?_;intro A4 c4 L4 hr4);refine gt9 6 ?_;refine aY (i:=7) rfl ?_;refine aO rfl siz_30 rfl rfl rfl rfl bG dC rfl ?_;refine aU (by kernel_rfl) vl9 vl9 bD ?_))))
      all_goals exact bR _ ⟨v9,A4,c4,L4,vl9,hr4,hvn,hvN.le vl9,rfl,rfl⟩ bH sp9
    rintro F V9 L' ⟨v,A4,c4,L4,hV9,hr4,hvn,hvN,rfl,rfl⟩
    repeat' (first|(refine aE ?_;refine pu9 ?_)|refine bV ?_|fail)
    all_goals
      refine aZ _ (I.m - (k+1)) ⟨γ3,k+1,ys ++ [v],A4,c4,L4,vl9,?_,?_,fun u hu=>?_,rfl,by omega,rfl,rfl⟩ (by omega) bH sl9
      · rw [show (ys ++ [v]).flatMap lnC=ys.flatMap lnC ++ lnC v by rw [List.flatMap_append];simp];exact hr4
      · rw [List.take_add_one,hw,List.map_append,List.map_append,hyz];simp [hvn]
      · rcases List.mem_append.1 hu with hu|hu
        · exact(hyN2 u hu).le hV9
        · rw [List.mem_singleton.1 hu];exact hvN
  · obtain rfl:k=I.m:=by omega
    rw [List.take_of_length_le (by omega)] at hyz
    have hyl:ys.length=I.m:=by have:=congrArg List.length hyz;simpa [hl] using this
    repeat' (first|(refine aE ?_;refine pu9 ?_)|refine dR ?_|(refine aA rfl ?_ ?_<;>intro hq<;>try exact no9))
    all_goals
      (refine bC Tryz.results23 (aB rfl) (List.Sublist.refl _) ?_)
      exact⟨γ3,rfl,⟨M1,A1,I.n,k1,A',I.m,c',ys⟩,LA,rfl,hM1.le vl9,hM1u.trans h.2.us,hM1g.trans h.2.gs,hI1.le vl9,trivial,hr,hyN2,hyl,hyz.trans h.2.eq⟩
end
section
def gW (wi:Bool) (us gs:List PR):Hd→Int→Hd:=fun h lay=>if wi=true∧lay=0 then ((cT false us gs (.mk h [])).getD pnZ).h else h
theorem gW_not {wi:Bool} {us gs:List PR} {h:Hd} {lay:Int} (hn:¬(wi=true∧lay=0)):gW wi us gs h lay=h:=if_neg hn
theorem gW_is {us gs:List PR} {h:Hd} {lay:Int} (h0:lay=0):gW true us gs h lay=((cT false us gs (.mk h [])).getD pnZ).h:=if_pos ⟨rfl,h0⟩
theorem walk_snoc2 {l:List PN} {ss:List ByteArray} {s:ByteArray}:bY l (ss ++ [s])=cO (bY l ss) s:=by unfold bY;rw [List.foldl_append];rfl
def MovK (x:LN) (r:Option PN) (ev:Value) (v:Value) (V':aI):Prop:=∃ y:LN,v=.tuple #[lnV y,ev]∧aX V' y∧y.n=r.getD pnZ∧(y=lnZ∨(y.K=x.K∧y.nk=x.nk∧y.ck=x.ck∧y.ks=x.ks))
theorem MovK.nok {x:LN} (hx:Nok x) {us gs:List PR} {b:Value} {v:Value} {V':aI} (h:MovK x (cT false us gs x.n) b v V'):∃ y:LN,v=.tuple #[lnV y,b]∧Nok y∧aX V' y∧y.h=((cT false us gs (.mk x.h [])).getD pnZ).h:=by
  obtain⟨y,h1,h2,h3,h4⟩:=h
  refine⟨y,h1,?_,h2,?_⟩
  · rcases h4 with rfl|⟨e1,e2,e3,e4⟩
    · exact⟨rfl,rfl,rfl,rfl⟩
    · exact⟨by rw [e1,hx.K],by rw [e2,hx.nk],by rw [e3,hx.ck],by rw [e4,hx.ks]⟩
  · rw [←hx.n,←h3];rfl
attribute [local irreducible] AtQ GoC GoL GoW QO QP Fn RV bX aL VLe cG bT
theorem MovedK_c (V:aI) (M:LM) (hM:mS V M) (x:LN) (hx:aX V x):Fn Tryz.prog 61 [lmV M,lnV x,.bool false] V (MovK x (cT false M.us M.gs x.n) (.bool (cT false M.us M.gs x.n).isSome)):=by
  cases h1:jM M.us x.h.user with
  | none =>
    have hm:=rG (out:=false) (us:=M.us) (gs:=M.gs) (n:=x.n) h1
    have c1:=fun V' (hV:VLe V V')=>(by have h:=fE V' M.A M.n M.c M.us (hM.le hV).1 x.h.user;rw [h1] at h;exact h:Fn Tryz.prog 134 [.slice M.A M.n M.c,.int .i64 x.h.user] V' fun v _=>v=.tuple #[.int .i64 0,.bool false])
    have c2:=fun V' (hV:VLe V V')=>fE V' M.B M.m M.e M.gs (hM.le hV).2.2.1 x.h.group
    rw [hm]
    (refine aH Tryz.func61 rfl Tryz.ntmps61 rfl ?_;intro w0)
    repeat' (first|(refine aE ?_;first|(refine aD ?_;(first|refine aN rfl (aG ⟨Tryz.call134⟩ rfl (c1 _ vl9)) ?_|refine aN rfl (aG ⟨Tryz.call134⟩ rfl (c2 _ vl9)) ?_))|refine st9 ?_|(refine al9 ?_;intro γ)|refine pu9 ?_)|refine cD ?_|fail)
    all_goals (refine bA Tryz.results61 (aS agg_70 rfl bB (by exact rfl)) (aB rfl) ?_)
    all_goals exact⟨lnZ,rfl,aX.zero,rfl,.inl rfl⟩
  | some u =>
    have c1:=fun V' (hV:VLe V V')=>(by have h:=fE V' M.A M.n M.c M.us (hM.le hV).1 x.h.user;rw [h1] at h;exact h:Fn Tryz.prog 134 [.slice M.A M.n M.c,.int .i64 x.h.user] V' fun v _=>v=.tuple #[.int .i64 u,.bool true])
    cases h2:jM M.gs x.h.group with
    | none =>
      have hm:=rC (out:=false) (us:=M.us) (gs:=M.gs) (n:=x.n) h2
      have c2:=fun V' (hV:VLe V V')=>(by have h:=fE V' M.B M.m M.e M.gs (hM.le hV).2.2.1 x.h.group;rw [h2] at h;exact h:Fn Tryz.prog 134 [.slice M.B M.m M.e,.int .i64 x.h.group] V' fun v _=>v=.tuple #[.int .i64 0,.bool false])
      rw [hm]
      (refine aH Tryz.func61 rfl Tryz.ntmps61 rfl ?_;intro w0)
      repeat' (first|(refine aE ?_;first|(refine aD ?_;(first|refine aN rfl (aG ⟨Tryz.call134⟩ rfl (c1 _ vl9)) ?_|refine aN rfl (aG ⟨Tryz.call134⟩ rfl (c2 _ vl9)) ?_))|refine st9 ?_|(refine al9 ?_;intro γ)|refine pu9 ?_)|refine cD ?_|fail)
      all_goals (refine bA Tryz.results61 (aS agg_70 rfl bB (by exact rfl)) (aB rfl) ?_)
      all_goals exact⟨lnZ,rfl,aX.zero,rfl,.inl rfl⟩
    | some g =>
      have hm:=lL (out:=false) (us:=M.us) (gs:=M.gs) (n:=x.n) h1 h2
      have c2:=fun V' (hV:VLe V V')=>(by have h:=fE V' M.B M.m M.e M.gs (hM.le hV).2.2.1 x.h.group;rw [h2] at h;exact h:Fn Tryz.prog 134 [.slice M.B M.m M.e,.int .i64 x.h.group] V' fun v _=>v=.tuple #[.int .i64 g,.bool true])
      rw [hm]
      (refine aH Tryz.func61 rfl Tryz.ntmps61 rfl ?_;intro w0)
      repeat' (first|(refine aE ?_;first|(refine aD ?_;(first|refine aN rfl (aG ⟨Tryz.call134⟩ rfl (c1 _ vl9)) ?_|refine aN rfl (aG ⟨Tryz.call134⟩ rfl (c2 _ vl9)) ?_))|refine st9 ?_|(refine al9 ?_;intro γ)|refine pu9 ?_)|refine cD ?_|fail)
      all_goals (refine bA Tryz.results61 (aS agg_70 rfl bB (by exact rfl)) (aB rfl) ?_)
      all_goals exact⟨{ x with h:={ x.h with user:=u,group:=g } },rfl,sD (hx.le vl9),rfl,.inr ⟨rfl,rfl,rfl,rfl⟩⟩
theorem RFlat_c (V:aI) (A:Option Addr) (n c:Nat) (xs:List LN) (h:dP V A n xs) (hn:n≤10) (hsm:∀ x∈xs,cA dZ x.n) (M:LM) (hM:mS V M) (wi:Bool):∀ (d:Nat) (V0:aI),VLe V V0→∀ (B:Option Addr) (m e:Nat) (ss:List ByteArray),bZ V0 B m ss→m≤e→m+d≤1000→(∀ f∈bY (xs.map LN.n) ss,Deep d f.1)→Fn Tryz.prog 197 [.slice A n c,.slice B m e,lmV M,.bool wi] V0 (FlatR (gW wi M.us M.gs) d (bY (xs.map LN.n) ss)):=by
  have hl:=h.1.1
  intro d
  induction d with
  | zero =>
    intro V0 hV0 B m e ss hs hme hmd hd
    have hr:bY (xs.map LN.n) ss=[]:=by
      cases hw:bY (xs.map LN.n) ss with
      | nil=>rfl
      | cons f t=>exact(hd f (by rw [hw];simp)).zero.elim
    have hL:=yG V0 A n c xs (h.le hV0) (by omega) B m e ss hs
    rw [hr] at hL ⊢
    (refine aH Tryz.func197 rfl Tryz.ntmps197 rfl ?_;intro w0)
    repeat' (first|(refine aE ?_;first|(refine aD ?_;(refine aM rfl ⟨Tryz.call241⟩ rfl rfl (hL) ?_;rintro v V1 hV1 (⟨_,rfl⟩|⟨_,_,_,hx,_⟩);rotate_left;cases hx))|refine st9 ?_|(refine al9 ?_;intro γ)|refine pu9 ?_)|refine cD ?_|fail)
    all_goals (refine bA Tryz.results197 (aS agg_70 rfl bB (by exact rfl)) (aB rfl) ?_)
    exact .inl ⟨rfl,rfl⟩
  | succ d ih =>
    intro V0 hV0 B m e ss hs hme hmd hd
    have hL:=yG V0 A n c xs (h.le hV0) (by omega) B m e ss hs
    have hsl:=hs.1.1
    rcases hw:bY (xs.map LN.n) ss with _|⟨f0,t0⟩
    · rw [hw] at hL
      (refine aH Tryz.func197 rfl Tryz.ntmps197 rfl ?_;intro w0)
      repeat' (first|(refine aE ?_;first|(refine aD ?_;(refine aM rfl ⟨Tryz.call241⟩ rfl rfl (hL) ?_;rintro v V1 hV1 (⟨_,rfl⟩|⟨_,_,_,hx,_⟩);rotate_left;cases hx))|refine st9 ?_|(refine al9 ?_;intro γ)|refine pu9 ?_)|refine cD ?_|fail)
      all_goals (refine bA Tryz.results197 (aS agg_70 rfl bB (by exact rfl)) (aB rfl) ?_)
      exact .inl ⟨rfl,rfl⟩
    · have hall:=fZ (p:=dZ) (map_n hsm) ss
      have hnl:(dW (bY (xs.map LN.n) ss)).length≤1000000:=by
        have h1:=names_few hall
        have h2:=nM (xs.map LN.n) ss
        rw [List.length_map,hl] at h2
        omega
      have hLi:=fun V' (hV:VLe V0 V')=>RList_c V' A n c xs (h.le (hV0.trans hV)) (by omega) B m e ss (hs.le hV) (by omega) hnl
      rw [hw] at hL hLi
      have hst:=fun nm=>walk_snoc2 (l:=xs.map LN.n) (ss:=ss) (s:=nm)
      rw [hw] at hst hd
      (refine aH Tryz.func197 rfl Tryz.ntmps197 rfl ?_;intro w0)
      repeat' (first|(refine aE ?_;first|(refine aD ?_;(first|(refine aM rfl ⟨Tryz.call241⟩ rfl rfl (hL) ?_;rintro v V1 hV1 (⟨hx,_⟩|⟨f,t,y,hx,rfl,hyN,hyn⟩);cases hx;cases hx)|(refine aM rfl ⟨Tryz.call175⟩ rfl rfl (hLi _ vl9) ?_;rintro v V2 hV2 ⟨A2,n2,c2,rfl,hS2,hc2⟩)))|refine st9 ?_|(refine al9 ?_;intro γ)|refine pu9 ?_)|refine fX ?_|refine dX [0,1,2,4,5,6] rfl ?_)
      rename_i g6 g8

      have hbN:aX V2 (bareL y):=bare_node (hyN.le hV2)
      have hyh:y.h=f0.1.h:=by rw [←hyn];rfl
      have hkl:=pJ (f0 :: t0)
      have hM2:=hM.le (hV0.trans (hV1.trans hV2))
      refine fC (fun F V' L'=>∃ z:LN,VLe V2 V'∧Nok z∧aX V' z∧z.h=gW wi M.us M.gs { f0.1.h with opq:=false } f0.2∧[⟨γ,70,lnC z⟩,⟨g8,70,lnC lnZ⟩,⟨g6,24,[.slice M.A M.n M.c,.slice M.B M.m M.e]⟩]=L'∧F=[(0,.slice A n c),(1,.slice B m e),(3,.bool wi),(6,.pointer (some ⟨g6,0,none⟩)),(8,.pointer (some ⟨g8,0,none⟩)),(10,.pointer (some ⟨γ,0,none⟩)),(13,.slice A2 n2 c2)]) ?_ ?_
      · have hMv:=MovedK_c V2 M hM2 (bareL y) hbN
        cases wi
        · repeat' (first|(refine aE ?_;refine pu9 ?_)|refine cD ?_|fail)
          all_goals exact gZ _ ⟨bareL y,VLe.refl _,⟨rfl,rfl,rfl,rfl⟩,hbN,by rw [gW_not (by simp),←hyh],rfl,rfl⟩ bH sl9
        · repeat' (first|(refine aE ?_;first|(refine aD ?_;(refine aM rfl ⟨Tryz.call61⟩ rfl rfl (hMv) ?_;rintro v V3 hV3 hmk;obtain⟨z,rfl,hzk,hzN,hzh⟩:=hmk.nok ⟨rfl,rfl,rfl,rfl⟩))|refine st9 ?_|refine pu9 ?_)|refine bV ?_|(refine aA rfl ?_ ?_<;>intro hq<;>try exact no9))
          · exact gZ _ ⟨z,hV3,hzk,hzN,by rw [gW_is hq,hzh,←hyh],rfl,rfl⟩ bH sl9
          · exact gZ _ ⟨bareL y,VLe.refl _,⟨rfl,rfl,rfl,rfl⟩,hbN,by rw [gW_not (by rintro ⟨_,h0⟩;exact hq h0),←hyh],rfl,rfl⟩ bH sl9
      · rintro F V3 L' ⟨z,hV3,hzk,hzN,hzg,rfl,rfl⟩
        repeat' (first|(refine aE ?_;refine pu9 ?_)|refine bW ?_|fail)
        obtain⟨zh,zA,zn,zc,zK,znk,zck,zks⟩:=z
        obtain⟨hz1,hz2,hz3,hz4⟩:=hzk
        simp only at hz1 hz2 hz3 hz4 hzg
        subst hz1 hz2 hz3 hz4
        have hV13:=hV1.trans (hV2.trans hV3)
        have hS3:=hS2.le hV3
        have hll:=hS3.1.1
        rw [hw] at hnl
        have hn26:n2≤1000000:=by rw [←hll];exact Nat.le_trans hkl hnl
        obtain⟨hza,hzca,hzd,_,_,_,_⟩:=hzN.inv
        refine bQ (fun F V' L' m'=>∃ (k:Nat) (acc:List LK) (A':Option Addr) (c':Nat) (LA:List Box),VLe V3 V'∧LA ++ [⟨γ,70,[.int .i64 zh.kind,.int .i64 zh.mode,.int .i64 zh.user,.int .i64 zh.group,.bool zh.opq,.slice zA zn zc,.string zh.data,.slice A' k c']⟩,⟨g8,70,lnC lnZ⟩,⟨g6,24,[.slice M.A M.n M.c,.slice M.B M.m M.e]⟩]=L'∧k≤n2∧cU A' k c' 156 9 (acc.flatMap lkC) LA∧acc.length=k∧acc.map kz=((gQ (f0 :: t0)).take k).map (fun nm=>(nm,eQ (gW wi M.us M.gs) d (cO (f0 :: t0) nm)))∧(∀ e∈acc,e.nm.size≤maxLen∧aX V' e.x)∧m'=n2 - k∧F=[(0,.slice A n c),(1,.slice B m e),(3,.bool wi),(6,.pointer (some ⟨g6,0,none⟩)),(8,.pointer (some ⟨g8,0,none⟩)),(10,.pointer (some ⟨γ,0,none⟩)),(13,.slice A2 n2 c2),(14,.int .i64 (k:Int))]) (m:=n2) ⟨0,[],none,0,[],VLe.refl _,rfl,Nat.zero_le _,cU.nil,rfl,rfl,by simp,by omega,rfl⟩ bH rfl sl9 ?_
        rintro F V9 L' m' ⟨k,acc,A',c',LA,hV9,rfl,hkn,hr,hal,hak,haN,rfl,rfl⟩
        have h0V:=hV13.trans hV9
        by_cases hlt:k<n2
        · obtain⟨b6,o6,nm,hA2,hx6,hc6,hms⟩:=(hS3.le hV9).at_ hlt
          have hmem:=List.mem_of_getElem? hx6
          have hpos:=(pP.1 hmem).2
          have hss0:=hs.le h0V
          have hss:eU V9 1 B m (ss.map Value.string):=by rw [←pM];exact hss0.1.cells (fun _=>rfl)
          have hih:∀ V6,VLe V9 V6→∀ (A6:Option Addr) (m6 c6:Nat),eU V6 1 A6 m6 ((ss.map Value.string) ++ [Value.string nm])→m6=0+m+1→m6≤c6→Fn Tryz.prog 197 [.slice A n c,.slice A6 m6 c6,lmV M,.bool wi] V6 fun v V2=>∃ y:LN,v=.tuple #[lnV y,.bool true]∧aX V2 y∧y.n=eQ (gW wi M.us M.gs) d (cO (f0 :: t0) nm):=fun V6 hV6 A6 m6 c6 hc hm6 h6=>by
            subst hm6
            have hdp:bZ V6 A6 (0+m+1) (ss ++ [nm]):=bZ.of (by rw [List.map_append];exact hc) (by simp [hsl]) (by unfold maxLen;omega) fun s hs'=>by
              rcases List.mem_append.1 hs' with h1|h1
              · exact hs.2 s h1
              · rw [List.mem_singleton.1 h1];exact hms
            have h9:=ih V6 ((hV0.trans h0V).trans hV6) A6 (0+m+1) c6 _ hdp h6 (by omega) (by rw [hst];exact wM hd)
            rw [hst] at h9
            refine h9.mono fun v V7 hV7 hh=>?_
            rcases hh with ⟨hx,_⟩|⟨_,hh⟩
            · rw [hx] at hpos;exact absurd rfl hpos
            · exact hh
          clear ih hL hLi
          repeat' (first|(refine aE ?_;refine pu9 ?_)|refine bW ?_|(refine aA rfl ?_ ?_<;>intro hq<;>try exact no9))
          refine dD (fun F V' L'=>∃ (g15:Nat) (y:LN),VLe V9 V'∧aX V' y∧y.n=eQ (gW wi M.us M.gs) d (cO (f0 :: t0) nm)∧⟨g15,70,lnC y⟩ :: (LA ++ [⟨γ,70,[.int .i64 zh.kind,.int .i64 zh.mode,.int .i64 zh.user,.int .i64 zh.group,.bool zh.opq,.slice zA zn zc,.string zh.data,.slice A' k c']⟩,⟨g8,70,lnC lnZ⟩,⟨g6,24,[.slice M.A M.n M.c,.slice M.B M.m M.e]⟩])=L'∧F=[(0,.slice A n c),(1,.slice B m e),(3,.bool wi),(6,.pointer (some ⟨g6,0,none⟩)),(8,.pointer (some ⟨g8,0,none⟩)),(10,.pointer (some ⟨γ,0,none⟩)),(13,.slice A2 n2 c2),(14,.int .i64 (k:Int)),(15,.pointer (some ⟨g15,0,none⟩))]) ?_ ?_
          · refine bM (id:=12) _ mixed (List.Sublist.refl _) ?_;refine gt9 0 ?_;refine gt9 1 ?_;refine gt9 3 ?_;refine gt9 4 ?_;refine fP 5 rfl rfl (bL und_47 siz_9 rfl hA2 rfl hlt) ?_;refine gt9 6 ?_;refine gt9 9 ?_;refine gt9 10 ?_;(refine gh_three (i1:=2) (i2:=7) (i3:=15) (by kernel_rfl) rfl rfl rfl rfl rfl rfl vl9 vl9 bD ?_ ?_ ?_<;>first|((refine aT rfl und_47 inf_9 rfl rfl rfl cU.nil dT (fW hss) bG (by omega) rfl rfl ?_;intro A3 c3 L3 hr3);(refine dF (i:=7) (j:=15) (by kernel_rfl) rfl rfl rfl rfl vl9 vl9 bD ?_ ?_<;>first|((refine aP rfl und_47 siz_9 zec_9 rfl rfl rfl rfl rfl rfl rfl ?_;intro γ);(refine dF (i:=8) (j:=15) (by kernel_rfl) rfl rfl rfl rfl vl9 vl9 bD ?_ ?_<;>first|((refine aT rfl und_47 inf_9 rfl rfl rfl hr3 bF (cZ bB rfl) bG (by omega) rfl rfl ?_;intro A4 c4 L4 hr4;have hcap4:=hr4.cap;refine lE rfl hr4 bF ?_;intro V4 hV4 hc4;have hih4:=hih V4 hV4 A4 _ c4 hc4 rfl hcap4);(refine dF (i:=11) (j:=15) (by kernel_rfl) rfl rfl rfl rfl vl9 vl9 bD ?_ ?_<;>first|((refine aM rfl ⟨Tryz.call197⟩ rfl rfl (hih4) ?_;rintro v V5 hV5 ⟨y,rfl,hyN,hyn⟩);refine gt9 12 ?_;refine gt9 13 ?_;refine gt9 14 ?_;refine aY (i:=15) rfl ?_;(refine bS rfl zer_70 rfl ?_;intro γ);refine aY (i:=16) rfl ?_;refine aO rfl siz_70 rfl rfl rfl rfl bG dC rfl ?_;refine gt9 17 ?_;refine aU (by kernel_rfl) vl9 vl9 bD ?_)|((refine bS rfl zer_70 rfl ?_;intro γ);refine aY (i:=11) rfl ?_;(refine aM rfl ⟨Tryz.call197⟩ rfl rfl (hih4) ?_;rintro v V5 hV5 ⟨y,rfl,hyN,hyn⟩);refine gt9 12 ?_;refine gt9 13 ?_;refine gt9 14 ?_;refine aY (i:=16) rfl ?_;refine aO rfl siz_70 rfl rfl rfl rfl bG dC rfl ?_;refine gt9 17 ?_;refine aU (by kernel_rfl) vl9 vl9 bD ?_)))|((refine bS rfl zer_70 rfl ?_;intro γ);refine aY (i:=8) rfl ?_;(refine aT rfl und_47 inf_9 rfl rfl rfl hr3 bF (cZ bB rfl) bG (by omega) rfl rfl ?_;intro A4 c4 L4 hr4;have hcap4:=hr4.cap;refine lE rfl hr4 bF ?_;intro V4 hV4 hc4;have hih4:=hih V4 hV4 A4 _ c4 hc4 rfl hcap4);refine aY (i:=11) rfl ?_;(refine aM rfl ⟨Tryz.call197⟩ rfl rfl (hih4) ?_;rintro v V5 hV5 ⟨y,rfl,hyN,hyn⟩);refine gt9 12 ?_;refine gt9 13 ?_;refine gt9 14 ?_;refine aY (i:=16) rfl ?_;refine aO rfl siz_70 rfl rfl rfl rfl bG dC rfl ?_;refine gt9 17 ?_;refine aU (by kernel_rfl) vl9 vl9 bD ?_)))|((refine bS rfl zer_70 rfl ?_;intro γ);refine aY (i:=7) rfl ?_;(refine aP rfl und_47 siz_9 zec_9 rfl rfl rfl rfl rfl rfl rfl ?_;intro γ);refine aY (i:=8) rfl ?_;(refine aT rfl und_47 inf_9 rfl rfl rfl hr3 bF (cZ bB rfl) bG (by omega) rfl rfl ?_;intro A4 c4 L4 hr4;have hcap4:=hr4.cap;refine lE rfl hr4 bF ?_;intro V4 hV4 hc4;have hih4:=hih V4 hV4 A4 _ c4 hc4 rfl hcap4);refine aY (i:=11) rfl ?_;(refine aM rfl ⟨Tryz.call197⟩ rfl rfl (hih4) ?_;rintro v V5 hV5 ⟨y,rfl,hyN,hyn⟩);refine gt9 12 ?_;refine gt9 13 ?_;refine gt9 14 ?_;refine aY (i:=16) rfl ?_;refine aO rfl siz_70 rfl rfl rfl rfl bG dC rfl ?_;refine gt9 17 ?_;refine aU (by kernel_rfl) vl9 vl9 bD ?_)))|((refine aP rfl und_47 siz_9 zec_9 rfl rfl rfl rfl rfl rfl rfl ?_;intro γ);(refine dF (i:=2) (j:=15) (by kernel_rfl) rfl rfl rfl rfl vl9 vl9 bD ?_ ?_<;>first|((refine aT rfl und_47 inf_9 rfl rfl rfl cU.nil dT (fW hss) bG (by omega) rfl rfl ?_;intro A3 c3 L3 hr3);(refine dF (i:=8) (j:=15) (by kernel_rfl) rfl rfl rfl rfl vl9 vl9 bD ?_ ?_<;>first|((refine aT rfl und_47 inf_9 rfl rfl rfl hr3 bF (cZ bB rfl) bG (by omega) rfl rfl ?_;intro A4 c4 L4 hr4;have hcap4:=hr4.cap;refine lE rfl hr4 bF ?_;intro V4 hV4 hc4;have hih4:=hih V4 hV4 A4 _ c4 hc4 rfl hcap4);(refine dF (i:=11) (j:=15) (by kernel_rfl) rfl rfl rfl rfl vl9 vl9 bD ?_ ?_<;>first|((refine aM rfl ⟨Tryz.call197⟩ rfl rfl (hih4) ?_;rintro v V5 hV5 ⟨y,rfl,hyN,hyn⟩);refine gt9 12 ?_;refine gt9 13 ?_;refine gt9 14 ?_;refine aY (i:=15) rfl ?_;(refine bS rfl zer_70 rfl ?_;intro γ);refine aY (i:=16) rfl ?_;refine aO rfl siz_70 rfl rfl rfl rfl bG dC rfl ?_;refine gt9 17 ?_;refine aU (by kernel_rfl) vl9 vl9 bD ?_)|((refine bS rfl zer_70 rfl ?_;intro γ);refine aY (i:=11) rfl ?_;(refine aM rfl ⟨Tryz.call197⟩ rfl rfl (hih4) ?_;rintro v V5 hV5 ⟨y,rfl,hyN,hyn⟩);refine gt9 12 ?_;refine gt9 13 ?_;refine gt9 14 ?_;refine aY (i:=16) rfl ?_;refine aO rfl siz_70 rfl rfl rfl rfl bG dC rfl ?_;refine gt9 17 ?_;refine aU (by kernel_rfl) vl9 vl9 bD ?_)))|((refine bS rfl zer_70 rfl ?_;intro γ);refine aY (i:=8) rfl ?_;(refine aT rfl und_47 inf_9 rfl rfl rfl hr3 bF (cZ bB rfl) bG (by omega) rfl rfl ?_;intro A4 c4 L4 hr4;have hcap4:=hr4.cap;refine lE rfl hr4 bF ?_;intro V4 hV4 hc4;have hih4:=hih V4 hV4 A4 _ c4 hc4 rfl hcap4);refine aY (i:=11) rfl ?_;(refine aM rfl ⟨Tryz.call197⟩ rfl rfl (hih4) ?_;rintro v V5 hV5 ⟨y,rfl,hyN,hyn⟩);refine gt9 12 ?_;refine gt9 13 ?_;refine gt9 14 ?_;refine aY (i:=16) rfl ?_;refine aO rfl siz_70 rfl rfl rfl rfl bG dC rfl ?_;refine gt9 17 ?_;refine aU (by kernel_rfl) vl9 vl9 bD ?_)))|((refine bS rfl zer_70 rfl ?_;intro γ);refine aY (i:=2) rfl ?_;(refine aT rfl und_47 inf_9 rfl rfl rfl cU.nil dT (fW hss) bG (by omega) rfl rfl ?_;intro A3 c3 L3 hr3);refine aY (i:=8) rfl ?_;(refine aT rfl und_47 inf_9 rfl rfl rfl hr3 bF (cZ bB rfl) bG (by omega) rfl rfl ?_;intro A4 c4 L4 hr4;have hcap4:=hr4.cap;refine lE rfl hr4 bF ?_;intro V4 hV4 hc4;have hih4:=hih V4 hV4 A4 _ c4 hc4 rfl hcap4);refine aY (i:=11) rfl ?_;(refine aM rfl ⟨Tryz.call197⟩ rfl rfl (hih4) ?_;rintro v V5 hV5 ⟨y,rfl,hyN,hyn⟩);refine gt9 12 ?_;refine gt9 13 ?_;refine gt9 14 ?_;refine aY (i:=16) rfl ?_;refine aO rfl siz_70 rfl rfl rfl rfl bG dC rfl ?_;refine gt9 17 ?_;refine aU (by kernel_rfl) vl9 vl9 bD ?_)))|((refine bS rfl zer_70 rfl ?_;intro γ);(refine dF (i:=2) (j:=7) (by kernel_rfl) rfl rfl rfl rfl vl9 vl9 bD ?_ ?_<;>first|((refine aT rfl und_47 inf_9 rfl rfl rfl cU.nil dT (fW hss) bG (by omega) rfl rfl ?_;intro A3 c3 L3 hr3);refine aY (i:=7) rfl ?_;(refine aP rfl und_47 siz_9 zec_9 rfl rfl rfl rfl rfl rfl rfl ?_;intro γ);refine aY (i:=8) rfl ?_;(refine aT rfl und_47 inf_9 rfl rfl rfl hr3 bF (cZ bB rfl) bG (by omega) rfl rfl ?_;intro A4 c4 L4 hr4;have hcap4:=hr4.cap;refine lE rfl hr4 bF ?_;intro V4 hV4 hc4;have hih4:=hih V4 hV4 A4 _ c4 hc4 rfl hcap4);refine aY (i:=11) rfl ?_;(refine aM rfl ⟨Tryz.call197⟩ rfl rfl (hih4) ?_;rintro v V5 hV5 ⟨y,rfl,hyN,hyn⟩);refine gt9 12 ?_;refine gt9 13 ?_;refine gt9 14 ?_;refine aY (i:=16) rfl ?_;refine aO rfl siz_70 rfl rfl rfl rfl bG dC rfl ?_;refine gt9 17 ?_;refine aU (by kernel_rfl) vl9 vl9 bD ?_)|((refine aP rfl und_47 siz_9 zec_9 rfl rfl rfl rfl rfl rfl rfl ?_;intro γ);refine aY (i:=2) rfl ?_;(refine aT rfl und_47 inf_9 rfl rfl rfl cU.nil dT (fW hss) bG (by omega) rfl rfl ?_;intro A3 c3 L3 hr3);refine aY (i:=8) rfl ?_;(refine aT rfl und_47 inf_9 rfl rfl rfl hr3 bF (cZ bB rfl) bG (by omega) rfl rfl ?_;intro A4 c4 L4 hr4;have hcap4:=hr4.cap;refine lE rfl hr4 bF ?_;intro V4 hV4 hc4;have hih4:=hih V4 hV4 A4 _ c4 hc4 rfl hcap4);refine aY (i:=11) rfl ?_;(refine aM rfl ⟨Tryz.call197⟩ rfl rfl (hih4) ?_;rintro v V5 hV5 ⟨y,rfl,hyN,hyn⟩);refine gt9 12 ?_;refine gt9 13 ?_;refine gt9 14 ?_;refine aY (i:=16) rfl ?_;refine aO rfl siz_70 rfl rfl rfl rfl bG dC rfl ?_;refine gt9 17 ?_;refine aU (by kernel_rfl) vl9 vl9 bD ?_))))
            all_goals exact bR _ ⟨_,y,hV4.trans hV5,hyN,hyn,rfl,rfl⟩ bH sp9
          · rintro F V10 L' ⟨g15,y,hV10,hyN,hyn,rfl,rfl⟩
            have ho1:=ones_k9 ⟨nm,y⟩
            have hc10:=fA hV10 hc6
            repeat' (first|(refine sG ?_;(first|refine gA ?_|refine sF rfl ?_)))
            refine bM (id:=13) _ mixed (List.Sublist.cons_cons _ (List.nil_sublist _)) ?_;refine gt9 0 ?_;refine gt9 2 ?_;refine gt9 3 ?_;refine fP 4 rfl rfl (bL und_47 siz_9 rfl hA2 rfl hlt) ?_;refine gt9 5 ?_;refine gt9 6 ?_;refine gt9 7 ?_;(refine dF (i:=1) (j:=8) (by kernel_rfl) rfl rfl rfl rfl vl9 vl9 bD ?_ ?_<;>first|((first|refine aR (bE one_68 rfl bB (by exact rfl)) ?_|refine aR (bE one_68 rfl bB (by assumption)) ?_|refine aR (cI one_68 rfl (by assumption)) ?_);refine aY (i:=8) rfl ?_;(refine aP rfl und_68 siz_156 zec_156 rfl rfl rfl rfl rfl rfl rfl ?_;intro γ);refine aY (i:=9) rfl ?_;(refine aT rfl und_68 inf_156 rfl rfl rfl hr bF (cZ bB rfl) bG (by omega) rfl rfl ?_;intro A8 c8 L8 hr8);refine gt9 10 ?_;refine aY (i:=11) rfl ?_;refine aO rfl siz_68 rfl rfl rfl rfl bG dC rfl ?_;refine aU (by kernel_rfl) vl9 vl9 bD ?_)|((refine aP rfl und_68 siz_156 zec_156 rfl rfl rfl rfl rfl rfl rfl ?_;intro γ);refine aY (i:=1) rfl ?_;(first|refine aR (bE one_68 rfl bB (by exact rfl)) ?_|refine aR (bE one_68 rfl bB (by assumption)) ?_|refine aR (cI one_68 rfl (by assumption)) ?_);refine aY (i:=9) rfl ?_;(refine aT rfl und_68 inf_156 rfl rfl rfl hr bF (cZ bB rfl) bG (by omega) rfl rfl ?_;intro A8 c8 L8 hr8);refine gt9 10 ?_;refine aY (i:=11) rfl ?_;refine aO rfl siz_68 rfl rfl rfl rfl bG dC rfl ?_;refine aU (by kernel_rfl) vl9 vl9 bD ?_))
            all_goals
              repeat' (first|(refine aE ?_;refine pu9 ?_)|refine bV ?_|fail)
              refine aZ _ (n2 - (k+1)) ⟨k+1,acc ++ [⟨nm,y⟩],A8,c8,L8,hV9.trans hV10,rfl,by omega,by rw [List.flatMap_append];exact hr8,by rw [List.length_append,hal];rfl,?_,?_,rfl,rfl⟩ (by omega) bH sl9
              · rw [List.map_append,hak,List.take_add_one,hx6,List.map_append]
                simp [kz,hyn]
              · intro e he
                rcases List.mem_append.1 he with he|he
                · exact⟨(haN e he).1,(haN e he).2.le hV10⟩
                · rw [List.mem_singleton] at he;subst he
                  exact⟨hms,hyN⟩
        · obtain rfl:k=n2:=by omega
          have hcap:=hr.cap
          refine kR hr bF ?_
          intro V8 hV8 hc8'
          have hKd:eI V8 A' k acc:=⟨eT.of_cells hc8' nV hal (by unfold maxLen;omega),fun e he=>⟨(haN e he).1,(haN e he).2.le hV8⟩⟩
          repeat' (first|(refine aE ?_;first|refine st9 ?_|refine pu9 ?_)|refine dR ?_|(refine aA rfl ?_ ?_<;>intro hq<;>try exact no9))
          all_goals try exact no9
          all_goals
            (refine bA Tryz.results197 (aS agg_70 rfl bB (by exact rfl)) (aB rfl) ?_)
            refine .inr ⟨by simp,⟨zh,zA,zn,zc,A',k,c',acc.map kz⟩,rfl,aX.of (hza.le (hV9.trans hV8)) hzca hzd hcap (eI.le (VLe.refl _) hKd) rfl,?_⟩
            have e1:((⟨zh,zA,zn,zc,A',k,c',acc.map kz⟩:LN)).n=.mk zh (acc.map kz):=rfl
            rw [e1,hak,List.take_of_length_le (by omega),hzg]
            rfl
end
section
attribute [local irreducible] AtQ GoC GoL GoW QO QP Fn RV bX aL VLe cG bT
end
section
theorem jA {e:Int} {l:List Int}:eJ (e :: l)=if ¬e=0 then e else eJ l:=by rw [eJ]
theorem cfgF_eq (x:CF) (ls:List PN):pD x ls=if ¬cN x.M.us=0 then cN x.M.us else if ¬cN x.M.gs=0 then cN x.M.gs else if ¬fR x.c.u x.c.g x.c.d x.c.xs=0 then fR x.c.u x.c.g x.c.d x.c.xs
    else if x.q<1∨64<x.q then 1 else if 3<ls.length then 2 else if ¬eJ (ls.map (dK false))=0 then eJ (ls.map (dK false)) else if uL x.M.us x.M.gs x.c then 11 else 0:=by
  have h1:∀ m:List Int,eJ (vY x ++ m)=if ¬cN x.M.us=0 then cN x.M.us else if ¬cN x.M.gs=0 then cN x.M.gs else if ¬fR x.c.u x.c.g x.c.d x.c.xs=0 then fR x.c.u x.c.g x.c.d x.c.xs else if x.q<1∨64<x.q then 1 else eJ m:=fun m=>by
    unfold vY
    show eJ (cN x.M.us :: cN x.M.gs :: fR x.c.u x.c.g x.c.d x.c.xs :: ((if x.q<1∨64<x.q then [1] else []) ++ m))=_
    rw [jA,jA,jA]
    by_cases h:x.q<1∨64<x.q
    · rw [if_pos h,if_pos h,List.cons_append,jA,if_pos (show ¬(1:Int)=0 by decide)]
    · rw [if_neg h,if_neg h,List.nil_append]
  unfold pD cfgL
  by_cases h3:3<ls.length
  · rw [if_pos h3,h1,if_pos h3,jA,if_pos (show ¬(2:Int)=0 by decide)]
  · rw [if_neg h3,List.append_assoc,h1,if_neg h3,xO]
    by_cases hu:uL x.M.us x.M.gs x.c
    · rw [if_pos hu,if_pos hu,jA,if_pos (show ¬(11:Int)=0 by decide)]
    · rw [if_neg hu,if_neg hu];rfl
theorem moved_unm {us gs:List PR} {c:CR} {h:Hd} (h1:h.user=c.u) (h2:h.group=c.g):(cT true us gs (.mk h [])).isSome=!decide (uL us gs c):=by
  have e1:hz true us (PN.mk h []).h.user=eS us c.u:=by rw [PN.h_mk,h1];rfl
  have e2:hz true gs (PN.mk h []).h.group=eS gs c.g:=by rw [PN.h_mk,h2];rfl
  by_cases hu:uL us gs c
  · rw [decide_eq_true hu]
    rcases hu with hu|hu
    · rw [rG (e1.trans (Option.not_isSome_iff_eq_none.1 (by rw [hu];decide)))];rfl
    · rw [rC (e2.trans (Option.not_isSome_iff_eq_none.1 (by rw [hu];decide)))];rfl
  · rw [decide_eq_false hu]
    cases k1:eS us c.u with
    | none=>exact absurd (.inl (by rw [k1];rfl)) hu
    | some u =>
      cases k2:eS gs c.g with
      | none=>exact absurd (.inr (by rw [k2];rfl)) hu
      | some g=>rw [lL (e1.trans k1) (e2.trans k2)];rfl
theorem gW_gP {us gs:List PR} {h:Hd} {lay:Int} (hl:0≤lay):gW true us gs h lay=gP us gs h lay:=by
  by_cases h0:lay=0
  · rw [gW_is h0,h0,gP_up]
  · rw [gW_not (fun k=>h0 k.2),gP_low (by omega)]
theorem flat_gW {us gs:List PR}:∀ (d:Nat) (r:List PF),(∀ f∈r,0≤f.2)→eQ (gW true us gs) d r=eQ (gP us gs) d r
  | 0,_,_=>rfl
  | _+1,[],_=>rfl
  | d+1,f :: t,h=>by
    rw [eQ,eQ,gW_gP (h f (by simp))]
    exact congrArg (PN.mk _) (List.map_congr_left fun nm _=>by rw [flat_gW d _ (step_lay h)])
def hd4 (l:List UInt8):Rd:=(byteR (byteR (twoQ (twoQ ⟨l,false⟩).2).2).2).2
end
section
def RPutY (p:PN) (v:Value) (V':aI):Prop:=∃ z:LN,v=.tuple #[lnV z,.int .i64 0]∧aX V' z∧z.n=p
theorem jW.y {cut:Bool} {x n:PN} {l:List ByteArray} (h:pF cut x n l=0) {v:Value} {V':aI} (k:jW cut x n l v V'):RPutY (pN cut x n l) v V':=by
  obtain⟨z,h1,h2,h3⟩:=k
  rw [h] at h1;rw [show tS cut x n l=pN cut x n l from if_pos h] at h3
  exact⟨z,h1,h2,h3⟩
attribute [local irreducible] AtQ GoC GoL GoW QO QP Fn RV bX aL VLe cG bT
theorem RUp_c (V:aI) (A:Option Addr) (n c:Nat) (xs:List LN) (h:dP V A n xs) (hn:n≤1000) (hli:∀ x∈xs,cA eW x.n) (M:LM) (hM:mS V M) (B:Option Addr) (m e:Nat) (ss:List ByteArray) (hs:bZ V B m ss) (hme:m≤e) (hm:m≤100) :
    Fn Tryz.prog 182 [.slice A n c,lmV M,.slice B m e] V (UpR (upP (xs.map LN.n) M.us M.gs ss) (.int .i64 (upP (xs.map LN.n) M.us M.gs ss).2)):=by
  have hl:=h.1.1
  have sl:=hs.1.1
  have hsm:∀ x∈xs,cA dZ x.n:=fun x hx=>(hli x hx).imp fun _ _=>kE
  have hall:=fun ss=>fZ (p:=eW) (l:=xs.map LN.n) (fun x hx=>by obtain⟨y,hy,rfl⟩:=List.mem_map.1 hx;exact hli y hy) ss
  have hL:=fun V' (hV:VLe V V')=>yG V' A n c xs (h.le hV) hn B m e ss (hs.le hV)
  have hb:=oQ (xs.map LN.n) M.us M.gs ss
  (refine aH Tryz.func182 rfl Tryz.ntmps182 rfl ?_;intro w0)
  rcases hw:bY (xs.map LN.n) ss with _|⟨f0,t0⟩
  · have hup:upP (xs.map LN.n) M.us M.gs ss=(pnZ,5):=by unfold upP;rw [if_pos hw]
    rw [hw] at hL
    repeat' (first|(refine aE ?_;first|(refine aD ?_;(refine aM rfl ⟨Tryz.call241⟩ rfl rfl (hL _ vl9) ?_;rintro v V1 hV1 (⟨_,rfl⟩|⟨_,_,_,hx,_⟩);rotate_left;cases hx))|refine st9 ?_|(refine al9 ?_;intro γ)|refine pu9 ?_)|refine cD ?_|fail)
    all_goals (refine bA Tryz.results182 (aS agg_70 rfl bB (by exact rfl)) (aB rfl) ?_)
    rw [hup];exact UpR.zero rfl
  · have hx0:=walk_head hw
    rw [List.length_map] at hx0
    obtain⟨x0,xt,rfl⟩:∃ x0 xt,xs=x0 :: xt:=by
      cases xs with
      | nil=>simp at hx0
      | cons x t=>exact⟨x,t,rfl⟩
    have hu0:((x0 :: xt).map LN.n).headD pnZ=x0.n:=rfl
    rw [hw] at hL
    obtain⟨b0,o0,x0',hA0,hx0',hc0,hN0⟩:=h.at_ (k:=0) (by rw [←hl];simp)
    obtain rfl:x0=x0':=by simpa using hx0'
    repeat' (first|(refine aE ?_;first|(refine aD ?_;(refine aM rfl ⟨Tryz.call241⟩ rfl rfl (hL _ vl9) ?_;rintro v V1 hV1 (⟨hx,_⟩|⟨f,t,y,_,rfl,hyN,hyn⟩);cases hx;have hc1:=hc0.le hV1;clear hL))|(refine cK ?_;refine aR (bL (k:=0) und_30 siz_70 rfl hA0 rfl (by omega)) ?_)|refine st9 ?_|(refine al9 ?_;intro γ)|refine pu9 ?_)|refine cV ?_|fail)
    have hV2:VLe V1 V1:=VLe.refl _
    have hy0n:x0.n=x0.n:=rfl
    have hy0N:=hN0.le hV1
    rename_i g4 g6 lf g8
    have hz:bY ((x0 :: xt).map LN.n) ss=f0 :: t0:=hw
    generalize hxs:(x0 :: xt).map LN.n=ps at *
    refine bQ (fun F V' L' m'=>∃ (k:Nat) (u:LN),VLe V1 V'∧[⟨γ,70,lnC u⟩,⟨g6,70,lnC lnZ⟩,⟨g4,24,[.slice M.A M.n M.c,.slice M.B M.m M.e]⟩]=L'∧k≤m∧aX V' u∧u.n=(upK ps M.us M.gs ss x0.n k).1∧(upK ps M.us M.gs ss x0.n k).2=0∧cA (fB (80+k)) u.n∧m'=m - k∧F=[(0,.slice A n c),(2,.slice B m e),(4,.pointer (some ⟨g4,0,none⟩)),(6,.pointer (some ⟨g6,0,none⟩)),(11,.pointer (some ⟨γ,0,none⟩)),(12,.int .i64 ((k+1:Nat):Int))]) (m:=m) ⟨0,x0,vl9,rfl,Nat.zero_le _,hy0N.le vl9,by rw [hy0n];rfl,rfl,by rw [hy0n];exact(hli x0 (by simp)).imp fun _ _=>mD,by omega,rfl⟩ bH rfl (List.Sublist.cons_cons _ (List.Sublist.cons _ (List.Sublist.refl _))) ?_
    have hV02:VLe V V1:=by first|exact vl9|exact hV1.trans hV2
    rintro F V' L' m' ⟨k,u,hV',rfl,hkm,huN,hun,hu2,hub,rfl,rfl⟩
    have hVV:VLe V V':=hV02.trans hV'
    by_cases hlt:k<m
    · have hstr:=strs_take (hs.le hVV) (k:=k+1) (by omega)
      have hL2:=yG V' A n c (x0 :: xt) (h.le hVV) hn B (k+1) e (ss.take (k+1)) hstr
      rw [hxs] at hL2
      have hon:=sM (l:=ps) (us:=M.us) (gs:=M.gs) (ss:=ss) (u0:=x0.n) hu2
      rw [←hun] at hon
      have hend:=fun (r:PN×Int) (hr:nG ps M.us M.gs (ss.take (k+1)) u.n=r) (hn0:¬r.2=0)=>up_end (us:=M.us) (gs:=M.gs) hw hu0 hu2 (by rw [←hun];exact hr) hn0 sl hlt
      rcases hwk:bY ps (ss.take (k+1)) with _|⟨f1,t1⟩
      · rw [hwk] at hL2
        rw [nO hwk] at hon
        repeat' (first|(refine aE ?_;first|(refine aD ?_;(refine aM rfl ⟨Tryz.call241⟩ rfl rfl (hL2) ?_;rintro v V3 hV3 (⟨_,rfl⟩|⟨_,_,_,hx,_⟩);rotate_left;cases hx))|(refine eG ?_;(first|refine aR (cE (h:=k+1) und_47 siz_9 rfl rfl (by omega)) ?_|refine aR (cE und_47 siz_9 rfl rfl (by omega)) ?_|refine aR (dS und_47 siz_9 rfl rfl (by omega)) ?_))|refine st9 ?_|(refine al9 ?_;intro γ)|refine pu9 ?_)|refine dQ ?_|(refine aA rfl ?_ ?_<;>intro hq<;>try exact no9))
        refine aZ _ (m - (k+1)) ⟨k+1,u,vl9,rfl,by omega,huN.le vl9,by rw [hon],by rw [hon],hub.imp fun _ _=>iD (by omega),rfl,rfl⟩ (by omega) bH (List.Sublist.cons _ (List.Sublist.refl _))
      · have hlf:=hall (ss.take (k+1)) f1 (by rw [hwk];simp)
        rw [hwk] at hL2
        by_cases hf0:f1.2=0
        · rw [lS hwk hf0] at hon
          repeat' (first|(refine aE ?_;first|(refine aD ?_;(refine aM rfl ⟨Tryz.call241⟩ rfl rfl (hL2) ?_;rintro v V3 hV3 (⟨hx,_⟩|⟨f2,t2,y2,hx2,rfl,hy2N,hy2n⟩);cases hx;cases hx2))|(refine eG ?_;(first|refine aR (cE (h:=k+1) und_47 siz_9 rfl rfl (by omega)) ?_|refine aR (cE und_47 siz_9 rfl rfl (by omega)) ?_|refine aR (dS und_47 siz_9 rfl rfl (by omega)) ?_))|refine st9 ?_|(refine al9 ?_;intro γ)|refine pu9 ?_)|refine pW ?_|(refine aA rfl ?_ ?_<;>intro hq<;>try exact no9))
          all_goals first
            | (exfalso;exact hq hf0)
            | skip
          refine aZ _ (m - (k+1)) ⟨k+1,u,vl9,rfl,by omega,huN.le vl9,by rw [hon],by rw [hon],hub.imp fun _ _=>iD (by omega),rfl,rfl⟩ (by omega) bH (List.Sublist.cons _ (List.Sublist.refl _))
        · have hlb:cA eW (jT f1.1):=rQ (fun hd ks hh=>⟨hh.1,hh.2.1,by simp,by simp⟩) hlf
          have hsb:cA dZ (jT f1.1):=hlb.imp fun _ _=>kE
          have hOut:=fun V9 (y2:LN) hN (hn2:y2.n=f1.1) hM9=>sB V9 M hM9 (bareL y2) (bare_node hN)
          cases hmv:cT true M.us M.gs (jT f1.1) with
          | none =>
            have hr:=hend _ (oK hwk hf0 hmv) (by simp)
            repeat' (first|(refine aE ?_;first|(refine aD ?_;(first|(refine aM rfl ⟨Tryz.call241⟩ rfl rfl (hL2) ?_;rintro v V3 hV3 (⟨hx,_⟩|⟨f2,t2,y2,hx2,rfl,hy2N,hy2n⟩);cases hx;cases hx2;have hOu:=hOut V3 y2 hy2N hy2n (hM.le (hVV.trans hV3));rw [bare_n hy2n,hmv] at hOu)|(refine aM rfl ⟨Tryz.call61⟩ rfl rfl (hOu) ?_;rintro v V4 hV4 ⟨y3,rfl,hy3N,hy3n⟩)))|(refine eG ?_;(first|refine aR (cE (h:=k+1) und_47 siz_9 rfl rfl (by omega)) ?_|refine aR (cE und_47 siz_9 rfl rfl (by omega)) ?_|refine aR (dS und_47 siz_9 rfl rfl (by omega)) ?_))|refine st9 ?_|(refine al9 ?_;intro γ)|refine pu9 ?_)|refine cV ?_|(refine aA rfl ?_ ?_<;>intro hq<;>try exact no9))
            all_goals first
              | (exfalso;exact hf0 hq)
              | skip
            all_goals
              (refine bA Tryz.results182 (aS agg_70 rfl bB (by exact rfl)) (aB rfl) ?_)
              rw [hr];exact UpR.zero rfl
          | some p =>
            have hlp:cA eW p:=pE (fun hd ks u g hh=>hh) hmv hlb
            have hsp:cA dZ p:=hlp.imp fun _ _=>kE
            have hbp:cA (fB (80+k)) p:=hlp.imp fun _ _ hh=>iD (by omega) (mD hh)
            have hmu:cA sX u.n:=hub.imp fun _ _=>gK (by omega)
            repeat' (first|(refine aE ?_;first|(refine aD ?_;(first|(refine aM rfl ⟨Tryz.call241⟩ rfl rfl (hL2) ?_;rintro v V3 hV3 (⟨hx,_⟩|⟨f2,t2,y2,hx2,rfl,hy2N,hy2n⟩);cases hx;cases hx2;have hOu:=hOut V3 y2 hy2N hy2n (hM.le (hVV.trans hV3));rw [bare_n hy2n,hmv] at hOu)|(refine aM rfl ⟨Tryz.call61⟩ rfl rfl (hOu) ?_;rintro v V4 hV4 ⟨y3,rfl,hy3N,hy3n⟩)))|(refine eG ?_;(first|refine aR (cE (h:=k+1) und_47 siz_9 rfl rfl (by omega)) ?_|refine aR (cE und_47 siz_9 rfl rfl (by omega)) ?_|refine aR (dS und_47 siz_9 rfl rfl (by omega)) ?_))|refine st9 ?_|(refine al9 ?_;intro γ)|refine pu9 ?_)|refine cV ?_|(refine aA rfl ?_ ?_<;>intro hq<;>try exact no9))
            all_goals first
              | (exfalso;exact hf0 hq)
              | (exfalso;exact absurd hq (by decide))
              | (exfalso;exact hq rfl)
              | skip
            replace hy3n:y3.n=p:=hy3n
            have hP:=RPut_c false y3 (ss.take (k+1)) V4 u B (k+1) e hy3N (huN.le vl9) hmu (hstr.le vl9) (by omega)
            rw [hy3n] at hP
            by_cases p1:pF false p u.n (ss.take (k+1))=0
            · rw [lZ hwk hf0 hmv p1] at hon
              replace hP:=hP.mono fun v V' _ hh=>jW.y p1 hh
              refine bM (id:=15) _ mixed (List.Sublist.refl _) ?_;refine gt9 0 ?_;refine gt9 1 ?_;refine gt9 2 ?_;refine fP 3 rfl rfl (cE (h:=k+1) und_47 siz_9 rfl rfl (by omega)) ?_;refine gt9 4 ?_;(refine dF (i:=5) (j:=9) (by kernel_rfl) rfl rfl rfl rfl vl9 vl9 bD ?_ ?_<;>first|((refine aM rfl ⟨Tryz.call189⟩ rfl rfl (hP) ?_;rintro v V5 hV5 ⟨y4,rfl,hy4N,hy4n⟩);refine gt9 6 ?_;refine gt9 7 ?_;refine gt9 8 ?_;refine aY (i:=9) rfl ?_;(refine bS rfl zer_70 rfl ?_;intro γ);refine aY (i:=10) rfl ?_;refine aO rfl siz_70 rfl rfl rfl rfl bG dC rfl ?_;refine gt9 11 ?_;refine aU (by kernel_rfl) vl9 vl9 bD ?_)|((refine bS rfl zer_70 rfl ?_;intro γ);refine aY (i:=5) rfl ?_;(refine aM rfl ⟨Tryz.call189⟩ rfl rfl (hP) ?_;rintro v V5 hV5 ⟨y4,rfl,hy4N,hy4n⟩);refine gt9 6 ?_;refine gt9 7 ?_;refine gt9 8 ?_;refine aY (i:=10) rfl ?_;refine aO rfl siz_70 rfl rfl rfl rfl bG dC rfl ?_;refine gt9 11 ?_;refine aU (by kernel_rfl) vl9 vl9 bD ?_))
              repeat' (first|(refine aE ?_;first|refine st9 ?_|refine pu9 ?_)|refine cD ?_|fail)
              all_goals first
                | (exfalso;exact absurd hq (by decide))
                | skip
              all_goals (refine aZ _ (m - (k+1)) ⟨k+1,y4,vl9,rfl,by omega,hy4N,by rw [hon];exact hy4n,by rw [hon],by rw [hy4n];exact rX hbp p1 hub,rfl,rfl⟩ (by omega) bH (List.Sublist.cons _ (List.Sublist.cons _ (List.Sublist.cons _ (List.Sublist.refl _)))))
            · have hr:=hend _ (lQ hwk hf0 hmv p1) p1
              refine bM (id:=15) _ mixed (List.Sublist.refl _) ?_;refine gt9 0 ?_;refine gt9 1 ?_;refine gt9 2 ?_;refine fP 3 rfl rfl (cE (h:=k+1) und_47 siz_9 rfl rfl (by omega)) ?_;refine gt9 4 ?_;(refine dF (i:=5) (j:=9) (by kernel_rfl) rfl rfl rfl rfl vl9 vl9 bD ?_ ?_<;>first|((refine aM rfl ⟨Tryz.call189⟩ rfl rfl (hP) ?_;rintro v V5 hV5 ⟨y4,rfl,hy4N,hy4n⟩);refine gt9 6 ?_;refine gt9 7 ?_;refine gt9 8 ?_;refine aY (i:=9) rfl ?_;(refine bS rfl zer_70 rfl ?_;intro γ);refine aY (i:=10) rfl ?_;refine aO rfl siz_70 rfl rfl rfl rfl bG dC rfl ?_;refine gt9 11 ?_;refine aU (by kernel_rfl) vl9 vl9 bD ?_)|((refine bS rfl zer_70 rfl ?_;intro γ);refine aY (i:=5) rfl ?_;(refine aM rfl ⟨Tryz.call189⟩ rfl rfl (hP) ?_;rintro v V5 hV5 ⟨y4,rfl,hy4N,hy4n⟩);refine gt9 6 ?_;refine gt9 7 ?_;refine gt9 8 ?_;refine aY (i:=10) rfl ?_;refine aO rfl siz_70 rfl rfl rfl rfl bG dC rfl ?_;refine gt9 11 ?_;refine aU (by kernel_rfl) vl9 vl9 bD ?_))
              repeat' (first|(refine aE ?_;first|refine st9 ?_|refine pu9 ?_)|refine bV ?_|(refine aA rfl ?_ ?_<;>intro hq<;>try exact no9))
              all_goals first
                | (exfalso;have hpb:=uR false p (ss.take (k+1)) u.n;omega)
                | skip
              all_goals
                (refine bA Tryz.results182 (aS agg_70 rfl bB (by exact rfl)) (aB rfl) ?_)
                rw [hr];exact UpR.zero rfl
    · obtain rfl:k=m:=by omega
      have hup:upP ps M.us M.gs ss=upK ps M.us M.gs ss x0.n k:=by unfold upP;rw [if_neg (by rw [hw];simp),hu0,sl]
      repeat' (first|(refine aE ?_;first|refine st9 ?_|refine pu9 ?_)|refine dR ?_|(refine aA rfl ?_ ?_<;>intro hq<;>try exact no9))
      all_goals (refine bA Tryz.results182 (aS agg_70 rfl bB (by exact rfl)) (aB rfl) ?_)
      all_goals exact⟨u,by rw [hup,hu2];rfl,huN,by rw [hup];exact hun⟩
end
section
theorem drop_mid {l:List UInt8} {a i:Nat} (h:a≤i):l.drop a=(l.drop a).take (i - a) ++ l.drop i:=by
  have:=List.take_append_drop (i - a) (l.drop a)
  rw [List.drop_drop,show a+(i - a)=i by omega] at this
  exact this.symm
theorem drop_get9 {l:List UInt8} {i:Nat} {b:UInt8} (h:l[i]?=some b):l.drop i=b :: l.drop (i+1):=by
  obtain⟨hi,rfl⟩:=List.getElem?_eq_some_iff.1 h
  exact List.drop_eq_getElem_cons hi
theorem take_mid {l:List UInt8} {a i:Nat} {b:UInt8} (h:a≤i) (hb:l[i]?=some b):(l.drop a).take (i+1 - a)=(l.drop a).take (i - a) ++ [b]:=by
  rw [show i+1 - a=(i - a)+1 by omega,List.take_add_one,List.getElem?_drop,show a+(i - a)=i by omega,hb];rfl
attribute [local irreducible] AtQ GoC GoL GoW QO QP Fn RV bX aL VLe cG bT
theorem uI (V:aI) (l:List UInt8) (hl:l.length≤1000000):Fn Tryz.prog 177 [.string ⟨l.toArray⟩] V (gV l (.int .i64 (dY l))):=by
  have hsz:=nH l
  by_cases hroot:l=[47]
  · subst hroot
    (refine aH Tryz.func177 rfl Tryz.ntmps177 rfl ?_;intro w0)
    repeat' (first|(refine aE ?_;refine pu9 ?_)|refine cD ?_|fail)
    all_goals first
      | (exfalso;exact hq rfl)
      | ((refine bA Tryz.results177 (aB rfl) (aB rfl) ?_);rw [pathF_root];exact gV.root)
  by_cases hbad:l=[]∨¬l.head?=some 47∨79<l.length
  · have hf:=pathF_bad hroot hbad
    cases l with
    | nil =>
      (refine aH Tryz.func177 rfl Tryz.ntmps177 rfl ?_;intro w0)
      repeat' (first|(refine aE ?_;refine pu9 ?_)|refine cD ?_|fail)
      all_goals first
        | ((refine bA Tryz.results177 (aB rfl) (aB rfl) ?_);rw [hf];exact gV.err (by omega))
        | (exfalso;first|exact hq rfl|exact hroot ((sL (m:=[47])).1 hq))
    | cons a r =>
      have hc:(⟨(a :: r).toArray⟩:ByteArray)[((0:Int)).toNat]?=some a:=by rw [vR,mF];rfl
      have hb:¬a=47∨79<(a :: r).length:=by
        rcases hbad with h|h|h
        · cases h
        · left;rintro rfl;exact h rfl
        · exact .inr h
      (refine aH Tryz.func177 rfl Tryz.ntmps177 rfl ?_;intro w0)
      repeat' (first|(refine aE ?_;first|(refine mX ?_;refine aR (kF und_9 rfl rfl (by omega) (by assumption)) ?_)|refine pu9 ?_)|refine cV ?_|(refine aJ rfl rfl rfl ?_ ?_<;>intro hq<;>try exact no9)|(refine aA rfl ?_ ?_<;>intro hq<;>try exact no9))
      all_goals first
        | ((refine bA Tryz.results177 (aB rfl) (aB rfl) ?_);rw [hf];exact gV.err (by omega))
        | (exfalso;exact hroot ((sL (m:=[47])).1 hq))
        | (exfalso;rename_i hb1;rw [hsz] at *;rcases hb with hb|hb;exact hb (u8_47.1 (by omega));omega)
  obtain⟨r,rfl⟩:∃ r,l=47 :: r:=by
    cases l with
    | nil=>exact absurd (.inl rfl) hbad
    | cons a r =>
      refine⟨r,?_⟩
      by_cases ha:a=47
      · rw [ha]
      · exact absurd (.inr (.inl (by simpa using ha))) hbad
  have hr0:¬r=[]:=fun e=>hroot (by rw [e])
  have hr78:r.length≤78:=by
    refine Nat.not_lt.1 fun h=>hbad (.inr (.inr ?_));simp only [List.length_cons];omega
  have hc:(⟨(47 :: r).toArray⟩:ByteArray)[((0:Int)).toNat]?=some 47:=by rw [vR,mF];rfl
  clear hbad
  generalize hlr:(47 :: r:List UInt8)=l at *
  have hd1:l.drop 1=r:=by rw [←hlr];rfl
  have hll:l.length=r.length+1:=by rw [←hlr];rfl
  have hne:¬(⟨l.toArray⟩:ByteArray)=⟨#[]⟩:=fun e=>by have h:=(sL (m:=[])).1 e;rw [h] at hll;simp at hll
  (refine aH Tryz.func177 rfl Tryz.ntmps177 rfl ?_;intro w0)
  repeat' (first|(refine aE ?_;first|(refine mX ?_;refine aR (kF und_9 rfl rfl (by omega) (by assumption)) ?_)|refine pu9 ?_)|refine cV ?_|(refine aJ rfl rfl rfl ?_ ?_<;>intro hq<;>try exact no9)|(refine aA rfl ?_ ?_<;>intro hq<;>try exact no9))
  · exfalso;exact hroot ((sL (m:=[47])).1 hq)
  all_goals first
    | (exfalso;rw [hsz] at hq;omega)
    | (exfalso;exact hne hq)
    | exact no9
    | skip
  refine bQ (fun F V' L' m=>∃ (i a:Nat) (ps:List (List UInt8)) (A:Option Addr) (n c:Nat) (LA:List Box),V=V'∧LA=L'∧cU A n c 9 1 ((baL ps).flatMap strC) LA∧ps.length=n∧xK ps=true∧((a≤i∧i≤l.length∧(∀ c∈(l.drop a).take (i - a),¬c=47)∧parts r=ps ++ parts (l.drop a))∨(i=l.length+1∧parts r=ps))∧n≤i∧m=l.length+1 - i∧F=[(0,.string ⟨l.toArray⟩),(4,.slice A n c),(5,.int .i64 a),(6,.int .i64 i)]) (m:=l.length) ⟨1,1,[],none,0,0,[],rfl,rfl,cU.nil,rfl,rfl,.inl ⟨Nat.le_refl _,by omega,by simp,by rw [hd1];rfl⟩,by omega,by omega,rfl⟩ bH rfl sl9 ?_
  rintro F V' L' m ⟨i,a,ps,A,n,c,LA,rfl,rfl,hr,hn,hall,hst,hni,rfl,rfl⟩
  rcases hst with ⟨hai,hil,hno,hps⟩|⟨hil,hps⟩
  · have hsplit:i=l.length∨l[i]?=some 47→parts (l.drop a)=(l.drop a).take (i - a) :: (if i=l.length then [] else parts (l.drop (i+1))):=by
      rintro (h|h)
      · rw [if_pos h]
        have:(l.drop a).take (i - a)=l.drop a:=List.take_of_length_le (by rw [List.length_drop];omega)
        rw [this] at hno ⊢
        exact parts_no hno
      · have hi2:¬i=l.length:=fun e=>by rw [List.getElem?_eq_none (by omega)] at h;cases h
        rw [if_neg hi2]
        conv=>lhs;rw [drop_mid hai,drop_get9 h]
        exact parts_at hno
    have hN:=pC V ⟨((l.drop a).take (i - a)).toArray⟩ (by rw [nH,List.length_take,List.length_drop];omega)
    rw [mF] at hN
    have fin:i=l.length∨l[i]?=some 47→parts r=(ps ++ [(l.drop a).take (i - a)]) ++ (if i=l.length then [] else parts (l.drop (i+1))):=fun h=>by rw [hps,hsplit h];simp
    clear hsplit
    by_cases hend:i=l.length
    · replace fin:=fin (.inl hend)
      rw [if_pos hend,List.append_nil] at fin
      repeat' (first|(refine aE ?_;first|(refine aD ?_;(first|refine aN rfl (aG ⟨Tryz.call221⟩ rfl (hN)) ?_|(refine aT rfl und_47 inf_9 rfl rfl rfl hr bF (cZ bB rfl) bG (by omega) rfl rfl ?_;intro A2 c2 L2 hr2;have hcap:=hr2.cap)))|(refine eG ?_;(first|refine aR (q_sslice_m und_9 rfl rfl rfl hai hil) ?_|refine aR (yC und_9 rfl rfl rfl (by omega) (by omega)) ?_|refine aR (q_sslice_i und_9 rfl rfl rfl (by omega) (by omega)) ?_))|(refine cJ ?_;(refine aP rfl und_47 siz_9 zec_9 rfl rfl rfl rfl rfl rfl rfl ?_;intro γ))|refine pu9 ?_)|refine cV ?_|(refine aJ rfl rfl rfl ?_ ?_<;>intro hq<;>try exact no9)|(refine aA rfl ?_ ?_<;>intro hq<;>try exact no9)|(refine bP rfl ?_ ?_<;>intro hq))
      all_goals try exact no9
      · (refine bA Tryz.results177 (aB rfl) (aB rfl) ?_)
        have hf:=sS hr0 hr78 (by rw [fin];exact allN_no (pnot_t hq))
        rw [←hlr,hf];exact gV.err (by omega)
      · refine aZ _ (l.length+1 - (i+1)) ⟨i+1,i+1,ps ++ [(l.drop a).take (i - a)],A2,n+1,c2,L2,rfl,rfl,by rw [baL_snoc];exact hr2,by simp [hn],rP hall (pnot_f hq),.inr ⟨by omega,fin⟩,by omega,rfl,rfl⟩ (by omega) bH sl9
    · by_cases h47:l[i]?=some 47
      · replace fin:=fin (.inr h47)
        rw [if_neg hend] at fin
        have hcc:(⟨l.toArray⟩:ByteArray)[((i:Int)).toNat]?=some 47:=by rw [Int.toNat_natCast,vR,mF];exact h47
        repeat' (first|(refine aE ?_;first|(refine aD ?_;(first|refine aN rfl (aG ⟨Tryz.call221⟩ rfl (hN)) ?_|(refine aT rfl und_47 inf_9 rfl rfl rfl hr bF (cZ bB rfl) bG (by omega) rfl rfl ?_;intro A2 c2 L2 hr2;have hcap:=hr2.cap)))|(refine mX ?_;refine aR (kF und_9 rfl rfl (by omega) (by assumption)) ?_)|(refine eG ?_;(first|refine aR (q_sslice_m und_9 rfl rfl rfl hai hil) ?_|refine aR (yC und_9 rfl rfl rfl (by omega) (by omega)) ?_|refine aR (q_sslice_i und_9 rfl rfl rfl (by omega) (by omega)) ?_))|(refine cJ ?_;(refine aP rfl und_47 siz_9 zec_9 rfl rfl rfl rfl rfl rfl rfl ?_;intro γ))|refine pu9 ?_)|refine cV ?_|(refine aJ rfl rfl rfl ?_ ?_<;>intro hq<;>try exact no9)|(refine aA rfl ?_ ?_<;>intro hq<;>try exact no9)|(refine bP rfl ?_ ?_<;>intro hq))
        all_goals try exact no9
        · (refine bA Tryz.results177 (aB rfl) (aB rfl) ?_)
          have hf:=sS hr0 hr78 (by rw [fin,List.append_assoc];exact allN_no (pnot_t hq))
          rw [←hlr,hf];exact gV.err (by omega)
        · refine aZ _ (l.length+1 - (i+1)) ⟨i+1,i+1,ps ++ [(l.drop a).take (i - a)],A2,n+1,c2,L2,rfl,rfl,by rw [baL_snoc];exact hr2,by simp [hn],rP hall (pnot_f hq),.inl ⟨Nat.le_refl _,by omega,by simp,fin⟩,by omega,rfl,rfl⟩ (by omega) bH sl9
      · clear fin
        obtain⟨b,hb⟩:∃ b,l[i]?=some b:=⟨_,List.getElem?_eq_getElem (by omega)⟩
        have hb47:¬b=47:=fun e=>h47 (by rw [hb,e])
        have hbn:¬(b.toNat:Int)=47:=fun e=>hb47 (u8_47.1 e)
        have hcc:(⟨l.toArray⟩:ByteArray)[((i:Int)).toNat]?=some b:=by rw [Int.toNat_natCast,vR,mF];exact hb
        repeat' (first|(refine aE ?_;first|(refine mX ?_;refine aR (kF und_9 rfl rfl (by omega) (by assumption)) ?_)|refine pu9 ?_)|refine pW ?_|(refine aJ rfl rfl rfl ?_ ?_<;>intro hq<;>try exact no9)|(refine aA rfl ?_ ?_<;>intro hq<;>try exact no9))
        all_goals try exact no9
        have hno2:∀ c∈(l.drop a).take (i+1 - a),¬c=47:=by
          rw [take_mid hai hb]
          intro c hc
          rcases List.mem_append.1 hc with hc|hc
          · exact hno c hc
          · rw [List.mem_singleton.1 hc];exact hb47
        refine aZ _ (l.length+1 - (i+1)) ⟨i+1,a,ps,A,n,c,LA,rfl,rfl,hr,hn,hall,.inl ⟨by omega,by omega,hno2,hps⟩,by omega,rfl,rfl⟩ (by omega) bH sl9
  · have hcap:=hr.cap
    repeat' (first|(refine aE ?_;refine pu9 ?_)|refine dR ?_|(refine aA rfl ?_ ?_<;>intro hq<;>try exact no9))
    all_goals try exact no9
    · (refine bA Tryz.results177 (aB rfl) (aB rfl) ?_)
      have hf:=pathF_many hr0 hr78 (by rw [hps];exact hall) (by rw [hps];omega)
      rw [←hlr,hf];exact gV.err (by omega)
    · refine eA hr bF ?_
      intro V2 hV2 hc2
      (refine bA Tryz.results177 (aB rfl) (aB rfl) ?_)
      have h6:¬6<ps.length:=by omega
      rw [←hlr,pathF_ok hr0 hr78 (by rw [hps];exact hall) (by rw [hps];exact h6)]
      exact gV.ok hr0 hr78 hps hall h6 hc2 hn hcap
end
section
section
variable {B : Base} {N : Nat} {F : List (Nat × Value)} {V : aI} {L : List Box}
variable {d : Option Tmp} {ty : TypeId} {pos : String} {af : Array Edge} {gd : Option (Nat × Bool)}
theorem yM {x0:Operand} {A:Option Addr} {n c:Nat} (h0:evF F x0=some (.slice A n c)) :
    QP Tryz.prog B N V L ⟨d,.build 244 #[(0,x0)],ty,pos,af,gd⟩ F (.agg #[.slice A n c,.bool false,.int .i64 0,.int .i64 0,.int .i64 0,.int .i64 0,.bool false,.slice none 0 0,.string ⟨#[]⟩,.slice none 0 0,.int .i64 0,.bool false,.int .i64 0,.int .i64 0,.int .i64 0,.bool false,.bool false,.int .i64 0,.int .i64 0,.int .i64 0,.bool false]) :=
  q_build (ps:=[(0,x0)]) (vs:=[(0,.slice A n c)]) (us:=[.slice A n c,.bool false,.int .i64 0,.int .i64 0,.int .i64 0,.int .i64 0,.bool false,.slice none 0 0,.string ⟨#[]⟩,.slice none 0 0,.int .i64 0,.bool false,.int .i64 0,.int .i64 0,.int .i64 0,.bool false,.bool false,.int .i64 0,.int .i64 0,.int .i64 0,.bool false]) bld_244 (by simp [evP,h0]) (by kernel_rfl)
end
abbrev spW (A:Option Addr) (n c:Nat) (is:Value) (x:LN) (lay:Value) (th par:TH):List Value:=[.slice A n c,is,.int .i64 x.h.kind,.int .i64 x.h.mode,.int .i64 x.h.user,.int .i64 x.h.group,.bool x.h.opq,.slice x.A x.na x.ca,.string x.h.data,.slice x.K x.nk x.ck,lay,.bool th.dir,.int .i64 th.mode,.int .i64 th.user,.int .i64 th.group,.bool th.mapped,.bool par.dir,.int .i64 par.mode,.int .i64 par.user,.int .i64 par.group,.bool par.mapped]
abbrev spC (A:Option Addr) (n c:Nat) (is:Bool) (x:LN) (lay:Int) (th par:TH):List Value:=spW A n c (.bool is) x (.int .i64 lay) th par
abbrev spV (A:Option Addr) (n c:Nat) (is:Bool) (x:LN) (lay:Int) (th par:TH):Value:=.agg (spC A n c is x lay th par).toArray
def RToR (A:Option Addr) (n c:Nat) (r:SP×Int) (v:Value) (V':aI):Prop:=(r.2=0∧∃ x:LN,v=.tuple #[spV A n c r.1.is x r.1.lay r.1.th r.1.par,.int .i64 0]∧aX V' x∧x.n=r.1.n)∨(¬r.2=0∧v=.tuple #[spV none 0 0 false lnZ 0 thZ thZ,.int .i64 r.2])
section
variable {A : Option Addr} {n c : Nat} {is lay v : Value} {x y : LN} {th par t : TH}
theorem sp_par:spl (spW A n c is x lay th par) (0+16) (List.take 5 (List.drop (0+11) (spW A n c is x lay th par)))=spW A n c is x lay th th:=rfl
theorem sp_node:spl (spW A n c is x lay th par) (0+2) (lnC y)=spW A n c is y lay th par:=rfl
theorem sp_lay:spl (spW A n c is x lay th par) (0+10) [v]=spW A n c is x v th par:=rfl
theorem sp_is:spl (spW A n c is x lay th par) (0+1) [v]=spW A n c v x lay th par:=rfl
theorem sp_th:spl (spW A n c is x lay th par) (0+11) (thC t)=spW A n c is x lay t par:=rfl
end
theorem uS {y:LN}:spl [Value.int .i64 0,Value.int .i64 0,Value.int .i64 0,Value.int .i64 0,Value.bool false,Value.slice none 0 0,Value.string { data:=#[] },Value.slice none 0 0] 0 (lnC y)=lnC y:=rfl
attribute [local irreducible] AtQ GoC GoL GoW QO QP Fn RV bX aL VLe cG bT
attribute [local irreducible] FnB
theorem rwalk_c (V:aI) (p:Nat) (b:BX) (I:BI) (hok:bK b) (h:mZ V p b I) (B:Option Addr) (m e:Nat) (ss:List ByteArray) (hs:bZ V B m ss) (hme:m≤e):Fn Tryz.prog 178 [.pointer (some ⟨p,0,none⟩),.slice B m e] V (RToR B m e (cC b ss)):=by
  have sl:=hs.1.1
  have sm:=hs.1.max
  have hd:=hok.d
  obtain⟨n0,t0,hls,hkd0⟩:=hok.root
  (refine aH Tryz.func178 rfl Tryz.ntmps178 rfl ?_;intro w0)
  repeat' (first|(refine aE ?_;first|(refine xV ?_;refine aR (yM rfl) ?_)|(refine dG ?_;refine aO rfl siz_244 rfl rfl rfl rfl bG gG rfl ?_)|(refine al9 ?_;intro γ)|refine pu9 ?_)|refine gx9 ?_|refine dX [0,1] rfl ?_)
  rename_i g4
  obtain⟨g6,rfl⟩:∃ g6,g6=γ:=⟨γ,rfl⟩
  repeat' (first|(refine aE ?_;refine pu9 ?_)|refine bW ?_|fail)
  refine bQ (fun F V' L' m'=>∃ (k:Nat) (is:Bool) (x:LN) (lay:Int) (th par:TH) (s9:SP),VLe V V'∧aX V' x∧(0≤th.mode∧th.mode≤4095)∧eN b ss k=(if (fF b (ss.take k) th).is=false∧k<m then (s9,5) else (fF b (ss.take k) th,0))∧[⟨g6,244,spC B m e is x lay th par⟩,⟨g4,244,spC none 0 0 false lnZ 0 thZ thZ⟩]=L'∧k≤m∧m'=m+1 - k∧F=[(0,.pointer (some ⟨p,0,none⟩)),(1,.slice B m e),(4,.pointer (some ⟨g4,0,none⟩)),(6,.pointer (some ⟨g6,0,none⟩)),(7,.int .i64 (k:Int))]) (m:=m+1) ⟨0,false,lnZ,0,thZ,thZ,⟨false,pnZ,0,thZ,thZ⟩,VLe.refl _,aX.zero,⟨by decide,by decide⟩,?_,rfl,Nat.zero_le _,by omega,rfl⟩ bH rfl sl9 ?_
  · rw [eN,List.take_zero,if_neg]
    rintro ⟨h9,_⟩
    unfold fF at h9
    rw [show bY b.ls []=(n0,0) :: (if n0.h.opq=true then [] else dI (iA 1 t0)) by show jE b.ls=_;rw [hls];exact iG hkd0] at h9
    cases h9
  rintro F V' L' m' ⟨k,is,x,lay,th,par,s9,hV',hxN,hth,hsp,rfl,hkm,rfl,rfl⟩
  have hb':=h.le hV'
  obtain⟨hcM,hcC,hcq,hcl⟩:=hb'.parts
  have hI:=hb'.2
  have hm4:I.m≤4:=by rw [←hI.len];exact hok.l4
  have hstr:=jZ (hs.le hV') (k:=k) (by omega)
  have hLk:=yG V' I.K I.m I.e I.xs hI.ls (by omega) B k e _ hstr
  rw [hI.eq] at hLk
  have hstop:=fun (h9:¬(eN b ss k).2=0)=>xE h9 (ss.length - k)
  rw [show k+(ss.length - k)=ss.length by omega] at hstop
  have hSn:=fun (V2:aI) (hV2:VLe V' V2) (z:LN) (hz:aX V2 z) (u:Bool) (h0:Hd) (hh:z.h=h0) (th9:TH) (ht:pB u b.us b.gs h0=th9)=>(by
    have h9:=RSeen_c V2 I.M (hI.M.le hV2) z hz u
    rw [hI.us,hI.gs,hh] at h9
    have e:seenV u b.us b.gs h0=thV th9:=by rw [←ht];rfl
    rw [e] at h9
    exact h9:Fn Tryz.prog 242 [lmV I.M,lnV z,.bool u] V2 fun v _=>v=thV th9)
  rcases hw:bY b.ls (ss.take k) with _|⟨f,t⟩
  · rw [hw] at hLk
    rw [rH hw] at hsp
    have hS:=fun V2 (hV2:VLe V' V2)=>hSn V2 hV2 lnZ aX.zero true hZ rfl _ rfl
    clear hSn
    generalize pB true b.us b.gs hZ=th2 at hsp hS
    by_cases hlt:k<m
    · rw [if_pos ⟨rfl,hlt⟩] at hsp
      have hend:cC b ss=(s9,5):=by
        have:=hstop (by rw [hsp];show ¬(5:Int)=0;decide)
        rw [hsp] at this;exact this
      repeat' (first|(refine aE ?_;first|(refine xV ?_;refine aR (yM rfl) ?_)|(refine dG ?_;refine aO rfl siz_244 rfl rfl rfl rfl bG gG rfl ?_)|(refine aD ?_;(refine aM rfl ⟨Tryz.call241⟩ rfl rfl (hLk) ?_;rintro v V1 hV1 (⟨_,rfl⟩|⟨_,_,_,hx,_⟩);rotate_left;cases hx))|refine pu9 ?_)|refine gxb9 ?_|refine dX [3,6,7] rfl ?_|(refine aA rfl ?_ ?_<;>intro hq<;>try exact no9)|(refine bM (id:=5) _ mixed (List.Sublist.refl _) ?_;refine gt9 0 ?_;refine gt9 1 ?_;refine gt9 2 ?_;refine gt9 3 ?_;refine gt9 4 ?_;refine gt9 5 ?_;refine fP 6 rfl rfl (cE und_47 siz_9 rfl rfl (by omega)) ?_;(refine dF (i:=7) (j:=12) (by kernel_rfl) rfl rfl rfl rfl vl9 vl9 bD ?_ ?_<;>first|((first|refine aR (wF rfl und_47 rfl) ?_|(refine aM rfl ⟨Tryz.call241⟩ rfl rfl (hLk) ?_;rintro v V1 hV1 (⟨_,rfl⟩|⟨_,_,_,hx,_⟩);rotate_left;cases hx));refine gt9 8 ?_;refine gt9 9 ?_;refine gt9 10 ?_;refine gt9 11 ?_;refine aY (i:=12) rfl ?_;(refine bS rfl zer_70 rfl ?_;intro γ);refine aY (i:=13) rfl ?_;refine aO rfl siz_70 rfl rfl rfl rfl bG dC rfl ?_;refine gt9 14 ?_;refine gt9 15 ?_;refine aU (by kernel_rfl) vl9 vl9 bD ?_)|((refine bS rfl zer_70 rfl ?_;intro γ);refine aY (i:=7) rfl ?_;(first|refine aR (wF rfl und_47 rfl) ?_|(refine aM rfl ⟨Tryz.call241⟩ rfl rfl (hLk) ?_;rintro v V1 hV1 (⟨_,rfl⟩|⟨_,_,_,hx,_⟩);rotate_left;cases hx));refine gt9 8 ?_;refine gt9 9 ?_;refine gt9 10 ?_;refine gt9 11 ?_;refine aY (i:=13) rfl ?_;refine aO rfl siz_70 rfl rfl rfl rfl bG dC rfl ?_;refine gt9 14 ?_;refine gt9 15 ?_;refine aU (by kernel_rfl) vl9 vl9 bD ?_))))
      all_goals
        (refine bA Tryz.results178 (aS agg_244 rfl bB (by exact rfl)) (aB rfl) ?_)
        exact .inr ⟨by rw [hend];show ¬(5:Int)=0;decide,by rw [hend];rfl⟩
    · rw [if_neg (fun h9=>hlt h9.2)] at hsp
      obtain rfl:k=m:=by omega
      have hend:cC b ss=(⟨false,pnZ,0,th2,th⟩,0):=by unfold cC;rw [sl];exact hsp
      repeat' (first|(refine aE ?_;first|(refine aD ?_;(refine aM rfl ⟨Tryz.call241⟩ rfl rfl (hLk) ?_;rintro v V1 hV1 (⟨_,rfl⟩|⟨_,_,_,hx,_⟩);rotate_left;cases hx))|refine pu9 ?_)|refine gxb9 ?_|refine dX [3,6] rfl ?_|(refine aA rfl ?_ ?_<;>intro hq<;>try exact no9)|(refine bM (id:=5) _ mixed (List.Sublist.refl _) ?_;refine gt9 0 ?_;refine gt9 1 ?_;refine gt9 2 ?_;refine gt9 3 ?_;refine gt9 4 ?_;refine gt9 5 ?_;refine fP 6 rfl rfl (cE und_47 siz_9 rfl rfl (by omega)) ?_;(refine dF (i:=7) (j:=12) (by kernel_rfl) rfl rfl rfl rfl vl9 vl9 bD ?_ ?_<;>first|((first|refine aR (wF rfl und_47 rfl) ?_|(refine aM rfl ⟨Tryz.call241⟩ rfl rfl (hLk) ?_;rintro v V1 hV1 (⟨_,rfl⟩|⟨_,_,_,hx,_⟩);rotate_left;cases hx));refine gt9 8 ?_;refine gt9 9 ?_;refine gt9 10 ?_;refine gt9 11 ?_;refine aY (i:=12) rfl ?_;(refine bS rfl zer_70 rfl ?_;intro γ);refine aY (i:=13) rfl ?_;refine aO rfl siz_70 rfl rfl rfl rfl bG dC rfl ?_;refine gt9 14 ?_;refine gt9 15 ?_;refine aU (by kernel_rfl) vl9 vl9 bD ?_)|((refine bS rfl zer_70 rfl ?_;intro γ);refine aY (i:=7) rfl ?_;(first|refine aR (wF rfl und_47 rfl) ?_|(refine aM rfl ⟨Tryz.call241⟩ rfl rfl (hLk) ?_;rintro v V1 hV1 (⟨_,rfl⟩|⟨_,_,_,hx,_⟩);rotate_left;cases hx));refine gt9 8 ?_;refine gt9 9 ?_;refine gt9 10 ?_;refine gt9 11 ?_;refine aY (i:=13) rfl ?_;refine aO rfl siz_70 rfl rfl rfl rfl bG dC rfl ?_;refine gt9 14 ?_;refine gt9 15 ?_;refine aU (by kernel_rfl) vl9 vl9 bD ?_))))
      all_goals try exact no9
      all_goals rw [uS]
      repeat' (first|(refine aE ?_;first|refine st9 ?_|refine pu9 ?_)|refine gx9 ?_|refine cL (id:=8) ?_)
      all_goals rw [sp_par]
      repeat' (first|(refine aE ?_;first|refine st9 ?_|refine pu9 ?_)|refine gx9 ?_|refine cL (id:=9) ?_)
      all_goals rw [sp_node]
      repeat' (first|(refine aE ?_;first|refine st9 ?_|refine pu9 ?_)|refine gx9 ?_|refine cL (id:=10) ?_)
      all_goals rw [sp_lay]
      repeat' (first|(refine aE ?_;first|refine st9 ?_|refine pu9 ?_)|refine bV ?_|fail)
      all_goals rw [sp_is]
      all_goals
        have hcM1:=hcM.le hV1
        refine bM (id:=12) _ mixed (List.Sublist.cons_cons _ (List.nil_sublist _)) ?_;refine gt9 0 ?_;refine gt9 1 ?_;refine gt9 2 ?_;refine gt9 3 ?_;refine gt9 4 ?_;refine gt9 5 ?_;refine gt9 6 ?_;refine aY (i:=7) rfl ?_;refine aN rfl (aG ⟨Tryz.call242⟩ rfl (hS _ vl9)) ?_;refine gt9 8 ?_;refine aY (i:=9) rfl ?_;refine aO rfl siz_212 rfl rfl rfl rfl bG dC rfl ?_;refine aU (by kernel_rfl) vl9 vl9 bD ?_
      all_goals rw [sp_th]
      repeat' (first|(refine aE ?_;first|(refine dG ?_;refine aO rfl siz_244 rfl rfl rfl rfl bG gG rfl ?_)|refine pu9 ?_)|refine dR ?_|(refine aA rfl ?_ ?_<;>intro hq<;>try exact no9))
      all_goals
        (refine bA Tryz.results178 (aS agg_244 rfl bB (by exact rfl)) (aB rfl) ?_)
        refine .inl ⟨by rw [hend],lnZ,?_,aX.zero,by rw [hend];rfl⟩
        rw [hend];rfl
  · rw [hw] at hLk
    rw [kG hw] at hsp
    obtain⟨X,hX⟩:=wS b.ls (ss.take k)
    rw [hw] at hX
    have hkd:=(iJ hX.symm).1
    rw [if_neg (by rintro ⟨h9,_⟩;cases h9)] at hsp
    obtain⟨fn,fl⟩:=f
    have hthm:0≤(pB (decide (fl=0)) b.us b.gs fn.h).mode∧(pB (decide (fl=0)) b.us b.gs fn.h).mode≤4095:=by
      have:=pL hok ss k
      rw [hsp] at this;exact this
    have hS0:=fun (V2:aI) (hV2:VLe V' V2) (y:LN) (hy:aX V2 y) (hh:y.h=fn.h)=>hSn V2 hV2 y hy (decide (fl=0)) fn.h hh _ rfl
    clear hSn
    generalize pB (decide (fl=0)) b.us b.gs fn.h=th2 at hsp hS0 hthm
    repeat' (first|(refine aE ?_;first|(refine aD ?_;(refine aM rfl ⟨Tryz.call241⟩ rfl rfl (hLk) ?_;rintro v V1 hV1 (⟨hx,_⟩|⟨f',t',y,hx,rfl,hyN,hyn⟩);cases hx;cases hx))|refine pu9 ?_)|refine gxcb9 ?_|refine dX [3,6] rfl ?_|(refine aA rfl ?_ ?_<;>intro hq<;>try exact no9)|(refine bM (id:=5) _ mixed (List.Sublist.refl _) ?_;refine gt9 0 ?_;refine gt9 1 ?_;refine gt9 2 ?_;refine gt9 3 ?_;refine gt9 4 ?_;refine gt9 5 ?_;refine fP 6 rfl rfl (cE und_47 siz_9 rfl rfl (by omega)) ?_;(refine dF (i:=7) (j:=12) (by kernel_rfl) rfl rfl rfl rfl vl9 vl9 bD ?_ ?_<;>first|((first|refine aR (wF rfl und_47 rfl) ?_|(refine aM rfl ⟨Tryz.call241⟩ rfl rfl (hLk) ?_;rintro v V1 hV1 (⟨hx,_⟩|⟨f',t',y,hx,rfl,hyN,hyn⟩);cases hx;cases hx));refine gt9 8 ?_;refine gt9 9 ?_;refine gt9 10 ?_;refine gt9 11 ?_;refine aY (i:=12) rfl ?_;(refine bS rfl zer_70 rfl ?_;intro γ);refine aY (i:=13) rfl ?_;refine aO rfl siz_70 rfl rfl rfl rfl bG dC rfl ?_;refine gt9 14 ?_;refine gt9 15 ?_;refine aU (by kernel_rfl) vl9 vl9 bD ?_)|((refine bS rfl zer_70 rfl ?_;intro γ);refine aY (i:=7) rfl ?_;(first|refine aR (wF rfl und_47 rfl) ?_|(refine aM rfl ⟨Tryz.call241⟩ rfl rfl (hLk) ?_;rintro v V1 hV1 (⟨hx,_⟩|⟨f',t',y,hx,rfl,hyN,hyn⟩);cases hx;cases hx));refine gt9 8 ?_;refine gt9 9 ?_;refine gt9 10 ?_;refine gt9 11 ?_;refine aY (i:=13) rfl ?_;refine aO rfl siz_70 rfl rfl rfl rfl bG dC rfl ?_;refine gt9 14 ?_;refine gt9 15 ?_;refine aU (by kernel_rfl) vl9 vl9 bD ?_))))
    all_goals try exact no9
    all_goals rw [uS]
    repeat' (first|(refine aE ?_;first|refine st9 ?_|refine pu9 ?_)|refine gx9 ?_|refine cL (id:=8) ?_)
    all_goals rw [sp_par]
    repeat' (first|(refine aE ?_;first|refine st9 ?_|refine pu9 ?_)|refine gx9 ?_|refine cL (id:=9) ?_)
    all_goals rw [sp_node]
    repeat' (first|(refine aE ?_;first|refine st9 ?_|refine pu9 ?_)|refine gx9 ?_|refine cL (id:=10) ?_)
    all_goals rw [sp_lay]
    repeat' (first|(refine aE ?_;first|refine st9 ?_|refine pu9 ?_)|refine bV ?_|fail)
    all_goals rw [sp_is]
    all_goals
      have hcM1:=hcM.le hV1
      have hyh:y.h=fn.h:=n_hd' hyn
      have hS:=fun V2 (hV2:VLe V1 V2)=>hS0 V2 (hV1.trans hV2) y (hyN.le hV2) hyh
      refine bM (id:=12) _ mixed (List.Sublist.cons_cons _ (List.nil_sublist _)) ?_;refine gt9 0 ?_;refine gt9 1 ?_;refine gt9 2 ?_;refine gt9 3 ?_;refine gt9 4 ?_;refine gt9 5 ?_;refine gt9 6 ?_;refine aY (i:=7) rfl ?_;refine aN rfl (aG ⟨Tryz.call242⟩ rfl (hS _ vl9)) ?_;refine gt9 8 ?_;refine aY (i:=9) rfl ?_;refine aO rfl siz_212 rfl rfl rfl rfl bG dC rfl ?_;refine aU (by kernel_rfl) vl9 vl9 bD ?_
    all_goals rw [sp_th]
    all_goals have hyh:y.h=fn.h:=n_hd' hyn
    repeat' (first|(refine aE ?_;first|(refine xV ?_;refine aR (yM rfl) ?_)|(refine dG ?_;refine aO rfl siz_244 rfl rfl rfl rfl bG gG rfl ?_)|refine pu9 ?_)|refine dR ?_|(refine aA rfl ?_ ?_<;>intro hq<;>try exact no9))
    all_goals first
      | (refine eY ?_
         first
           | (have hkm9:k=m:=by omega
              have hend:cC b ss=(⟨true,fn,fl,th2,th⟩,0):=by unfold cC;rw [sl,←hkm9];exact hsp
              (refine bA Tryz.results178 (aS agg_244 rfl bB (by exact rfl)) (aB rfl) ?_)
              refine .inl ⟨by rw [hend],y,?_,hyN.le vl9,by rw [hend];exact hyn⟩
              rw [hend];rfl)
           | (have hk1:¬fn.h.kind=2:=by rw [←hyh];omega
              have hend:cC b ss=(⟨true,fn,fl,th2,th⟩,7):=spot_end ((spot_on hsp).trans (if_pos hk1)) (by show ¬(7:Int)=0;decide) (by omega)
              (refine bA Tryz.results178 (aS agg_244 rfl bB (by exact rfl)) (aB rfl) ?_)
              exact .inr ⟨by rw [hend];show ¬(7:Int)=0;decide,by rw [hend];rfl⟩))
      | skip
    all_goals
      have hk2:fn.h.kind=2:=by
        rcases hkd with ⟨h9,_⟩|h9
        · exact absurd h9 (by rw [←hyh];omega)
        · exact h9
      have hon:=spot_on hsp
      rw [if_neg (not_not_intro hk2)] at hon
      have hcC1:=hcC.le hV1
      have hMay:=fun V2 (hV2:VLe V1 V2)=>xH V2 b.c I.A I.n I.k ((hI.xs.le hV1).le hV2) hd th2 hthm 1 (.inl rfl)
      cases hmy:iL b.c th2 1 with
      | false =>
        rw [hmy] at hMay
        have hend:cC b ss=(⟨true,fn,fl,th2,th⟩,9):=spot_end (hon.trans (if_pos hmy)) (by show ¬(9:Int)=0;decide) (by omega)
        repeat' (first|(refine aE ?_;first|(refine xV ?_;refine aR (yM rfl) ?_)|(refine dG ?_;refine aO rfl siz_244 rfl rfl rfl rfl bG gG rfl ?_)|(refine aD ?_;refine aN rfl (aG ⟨Tryz.call176⟩ rfl (hMay _ vl9)) ?_)|refine pu9 ?_)|refine cD ?_|refine bN (id:=16) mixed (by kernel_rfl) ?_)
        all_goals
          (refine bA Tryz.results178 (aS agg_244 rfl bB (by exact rfl)) (aB rfl) ?_)
          exact .inr ⟨by rw [hend];show ¬(9:Int)=0;decide,by rw [hend];rfl⟩
      | true =>
        rw [hmy] at hMay
        rw [if_neg (by rw [hmy];decide)] at hon
        repeat' (first|(refine aE ?_;first|(refine aD ?_;refine aN rfl (aG ⟨Tryz.call176⟩ rfl (hMay _ vl9)) ?_)|refine pu9 ?_)|refine cD ?_|refine bN (id:=16) mixed (by kernel_rfl) ?_)
        all_goals refine aZ _ (m+1 - (k+1)) ⟨k+1,true,y,fl,th2,th,⟨true,fn,fl,th2,th⟩,hV'.trans hV1,hyN,hthm,by rw [←sl];exact hon,rfl,by omega,rfl,rfl⟩ (by omega) bH sl9
end
section
def eC (V:aI) (p:Nat) (b:BX) (Bs:List Box):Prop:=∃ I:BI,Bs=[⟨p,130,bxC I b⟩]∧BoxI V b I
theorem eC.le {V V':aI} {p:Nat} {b:BX} {Bs:List Box} (h:eC V p b Bs) (hv:VLe V V'):eC V' p b Bs:=by
  obtain⟨I,h1,h2⟩:=h
  exact⟨I,h1,h2.up hv⟩
theorem eC.read {f:FuncId} {args:List Value} {V:aI} {p:Nat} {b:BX} {Bs:List Box} {R:Value→aI→Prop} (h:eC V p b Bs) (hR:∀ v V gs,qX V gs→R v V→R v (V.off gs)) (hc:∀ V' I,VLe V V'→mZ V' p b I→Fn Tryz.prog f args V' R):FnB Tryz.prog f args V Bs fun v V' Bs'=>Bs'=Bs∧R v V':=fun w hs=>by
  obtain⟨I,rfl,hI⟩:=h
  have hL:Lent [(p,bxC I b)] [(⟨p,130,bxC I b⟩:Box)]:=by
    intro c hc
    simp only [List.mem_cons,List.not_mem_nil,or_false] at hc
    subst hc
    exact⟨_,_,List.mem_cons_self,List.prefix_refl _⟩
  have hcalm:∀ c∈[(p,bxC I b)],calmC c.2:=by
    intro c hc
    simp only [List.mem_cons,List.not_mem_nil,or_false] at hc
    subst hc
    exact calm_bx I b
  refine(Fn.lend hL (fun ha=>hc _ I lD ⟨pZ ha (by unfold jK;simp) (fun j=>by rw [kT,if_pos ⟨rfl,rfl⟩]),hI.up lD⟩) w hs).mono fun e w' ⟨v,V',Bs',he,hst,hB,V3,g1,g2,g3,g4⟩=>?_
  exact⟨v,V',Bs',he,hst,hB,by rw [g2];exact hR v V3 _ (qX.of g4 hcalm (by simp)) g3⟩
theorem FnB.mono8 {P:Program} {f:FuncId} {args:List Value} {V:aI} {Bs:List Box} {R R':Value→aI→List Box→Prop} (h:FnB P f args V Bs R) (hr:∀ v V' Bs',R v V' Bs'→R' v V' Bs'):FnB P f args V Bs R':=fun w hs =>
  (h w hs).mono fun _ _ ⟨v,V',Bs',he,hst,hR⟩=>⟨v,V',Bs',he,hst,hr v V' Bs' hR⟩
theorem RToR.off {A:Option Addr} {n c:Nat} {r:SP×Int} {v:Value} {V:aI} {gs:List Nat} (hc:qX V gs) (h:RToR A n c r v V):RToR A n c r v (V.off gs):=by
  rcases h with ⟨h1,x,h2,h3,h4⟩|h
  · exact .inl ⟨h1,x,h2,h3.off hc,h4⟩
  · exact .inr h
def RAtR (b:BX) (l:List UInt8) (v:Value) (V':aI):Prop:=(cS b l=0∧∃ (A:Option Addr) (n c:Nat) (x:LN),v=.tuple #[spV A n c true x (aV b l).lay (aV b l).th (aV b l).par,.int .i64 0]∧bZ V' A n (aK l)∧n≤c∧aX V' x∧x.n=(aV b l).n)∨(¬cS b l=0∧v=.tuple #[spV none 0 0 false lnZ 0 thZ thZ,.int .i64 (cS b l)])
theorem RAtR.off {b:BX} {l:List UInt8} {v:Value} {V:aI} {gs:List Nat} (hc:qX V gs) (h:RAtR b l v V):RAtR b l v (V.off gs):=by
  rcases h with ⟨h1,A,n,c,x,h2,h3,h4,h5,h6⟩|h
  · exact .inl ⟨h1,A,n,c,x,h2,h3.off hc pathN_pos,h4,h5.off hc,h6⟩
  · exact .inr h
theorem RAtR.no {b:BX} {l:List UInt8} {V':aI} {e:Int} (h:cS b l=e) (he:¬e=0):RAtR b l (.tuple #[spV none 0 0 false lnZ 0 thZ thZ,.int .i64 e]) V':=.inr ⟨by rw [h];exact he,by rw [h]⟩
attribute [local irreducible] AtQ GoC GoL GoW QO QP Fn RV bX aL VLe cG bT
attribute [local irreducible] FnB
theorem rat_c (V:aI) (p:Nat) (b:BX) (I:BI) (hok:bK b) (h:mZ V p b I) (l:List UInt8) (hl:l.length≤1000000):Fn Tryz.prog 174 [.pointer (some ⟨p,0,none⟩),.string ⟨l.toArray⟩] V (RAtR b l):=by
  have hS:=uI V l hl
  have hsb:=mR b (aK l) (aK l).length
  have hpb:=mO l
  by_cases hp:dY l=0
  · have hW:=fun (V1:aI) (hV1:VLe V V1) (A1:Option Addr) (n1 c1:Nat) (hS1:bZ V1 A1 n1 (aK l)) (hc1:n1≤c1)=>rwalk_c V1 p b I hok (h.le hV1) A1 n1 c1 _ hS1 hc1
    by_cases hs2:(cC b (aK l)).2=0
    · cases his:(cC b (aK l)).1.is with
      | false =>
        have hth:=there_none hp hs2 his
        (refine aH Tryz.func174 rfl Tryz.ntmps174 rfl ?_;intro w0)
        repeat' (first|(refine aE ?_;first|(refine aD ?_;(first|(refine aM rfl ⟨Tryz.call177⟩ rfl rfl (hS) ?_;rintro v V1 hV1 ⟨A1,n1,c1,rfl,hS1,hc1⟩)|(refine aM rfl ⟨Tryz.call178⟩ rfl rfl (hW _ vl9 A1 n1 c1 hS1 hc1) ?_;rintro v V2 hV2 hR;rcases hR with ⟨h0,x,rfl,hxN,hxn⟩|⟨h0,rfl⟩)))|(refine dG ?_;refine aO rfl siz_244 rfl rfl rfl rfl bG gG rfl ?_)|(refine al9 ?_;intro γ)|refine pu9 ?_)|refine cD ?_|(refine aA rfl ?_ ?_<;>intro hq<;>try exact no9)|(refine bP rfl ?_ ?_<;>intro hq))
        all_goals first
          | exact no9
          | (exfalso;exact h0 hs2)
          | skip
        all_goals first
          | (exfalso;rw [his] at hq;exact absurd hq (by decide))
          | (exfalso;exact absurd his (by rw [hq];decide))
          | skip
        all_goals
          (refine bA Tryz.results174 (aS agg_244 rfl bB (by exact rfl)) (aB rfl) ?_)
          exact RAtR.no hth (by decide)
      | true =>
        have hth:=there_ok hp hs2 his
        (refine aH Tryz.func174 rfl Tryz.ntmps174 rfl ?_;intro w0)
        repeat' (first|(refine aE ?_;first|(refine aD ?_;(first|(refine aM rfl ⟨Tryz.call177⟩ rfl rfl (hS) ?_;rintro v V1 hV1 ⟨A1,n1,c1,rfl,hS1,hc1⟩)|(refine aM rfl ⟨Tryz.call178⟩ rfl rfl (hW _ vl9 A1 n1 c1 hS1 hc1) ?_;rintro v V2 hV2 hR;rcases hR with ⟨h0,x,rfl,hxN,hxn⟩|⟨h0,rfl⟩)))|(refine dG ?_;refine aO rfl siz_244 rfl rfl rfl rfl bG gG rfl ?_)|(refine al9 ?_;intro γ)|refine pu9 ?_)|refine cD ?_|(refine aA rfl ?_ ?_<;>intro hq<;>try exact no9)|(refine bP rfl ?_ ?_<;>intro hq))
        all_goals first
          | exact no9
          | (exfalso;exact h0 hs2)
          | skip
        all_goals first
          | (exfalso;rw [his] at hq;exact absurd hq (by decide))
          | (exfalso;exact absurd his (by rw [hq];decide))
          | skip
        all_goals
          (refine bA Tryz.results174 (aS agg_244 rfl bB (by exact rfl)) (aB rfl) ?_)
          exact .inl ⟨hth,A1,n1,c1,x,by rw [←his];rfl,hS1.le vl9,hc1,hxN.le vl9,hxn⟩
    · have hth:=there_spot hp hs2
      (refine aH Tryz.func174 rfl Tryz.ntmps174 rfl ?_;intro w0)
      repeat' (first|(refine aE ?_;first|(refine aD ?_;(first|(refine aM rfl ⟨Tryz.call177⟩ rfl rfl (hS) ?_;rintro v V1 hV1 ⟨A1,n1,c1,rfl,hS1,hc1⟩)|(refine aM rfl ⟨Tryz.call178⟩ rfl rfl (hW _ vl9 A1 n1 c1 hS1 hc1) ?_;rintro v V2 hV2 hR;rcases hR with ⟨h0,x,rfl,hxN,hxn⟩|⟨h0,rfl⟩)))|(refine dG ?_;refine aO rfl siz_244 rfl rfl rfl rfl bG gG rfl ?_)|(refine al9 ?_;intro γ)|refine pu9 ?_)|refine cD ?_|(refine aA rfl ?_ ?_<;>intro hq<;>try exact no9)|(refine bP rfl ?_ ?_<;>intro hq))
      all_goals first
        | (exfalso;exact hs2 h0)
        | (exfalso;unfold cC at *;omega)
        | skip
      all_goals
        (refine bA Tryz.results174 (aS agg_244 rfl bB (by exact rfl)) (aB rfl) ?_)
        exact RAtR.no hth hs2
  · have hth:=there_path (b:=b) hp
    (refine aH Tryz.func174 rfl Tryz.ntmps174 rfl ?_;intro w0)
    repeat' (first|(refine aE ?_;first|(refine aD ?_;(refine aM rfl ⟨Tryz.call177⟩ rfl rfl (hS) ?_;rintro v V1 hV1 ⟨A1,n1,c1,rfl,hS1,hc1⟩))|(refine dG ?_;refine aO rfl siz_244 rfl rfl rfl rfl bG gG rfl ?_)|(refine al9 ?_;intro γ)|refine pu9 ?_)|refine bV ?_|(refine aA rfl ?_ ?_<;>intro hq<;>try exact no9))
    all_goals try exact no9
    all_goals
      (refine bA Tryz.results174 (aS agg_244 rfl bB (by exact rfl)) (aB rfl) ?_)
      exact RAtR.no hth hp
theorem rtaken_c (V:aI) (p:Nat) (b:BX) (I:BI) (hok:bK b) (h:mZ V p b I) (A:Option Addr) (n c:Nat) (is0:Bool) (x:LN) (s:SP) (hp:0≤s.par.mode∧s.par.mode≤4095):Fn Tryz.prog 181 [.pointer (some ⟨p,0,none⟩),spV A n c is0 x s.lay s.th s.par] V fun v _=>v=.int .i64 (eM b s):=by
  obtain⟨hcM,hcC,hcq,hcl⟩:=h.parts
  have hd:=hok.d
  have hMay:=fun V2 (hV2:VLe V V2)=>xH V2 b.c I.A I.n I.k (h.2.xs.le hV2) hd s.par hp 2 (.inr (.inl rfl))
  have hTk:=fun V2=>RTakes_c V2 b.c I.A I.n I.k hd s.par s.th hp
  have e:eM b s=if iL b.c s.par 2=false then 9 else if tY b.c s.par s.th=false then 10 else 0:=rfl
  rw [e]
  clear e
  cases hmy:iL b.c s.par 2 with
  | false =>
    rw [hmy] at hMay
    (refine aH Tryz.func181 rfl Tryz.ntmps181 rfl ?_;intro w0)
    repeat' (first|(refine aE ?_;first|(refine aD ?_;refine aN rfl (aG ⟨Tryz.call176⟩ rfl (hMay _ vl9)) ?_)|(refine al9 ?_;intro γ)|refine pu9 ?_)|refine cD ?_|refine bN (id:=1) mixed (by kernel_rfl) ?_)
    all_goals
      (refine aQ Tryz.results181 (aB rfl) ?_)
      rfl
  | true =>
    rw [hmy] at hMay
    cases htk:tY b.c s.par s.th with
    | false =>
      rw [htk] at hTk
      (refine aH Tryz.func181 rfl Tryz.ntmps181 rfl ?_;intro w0)
      repeat' (first|(refine aE ?_;first|(refine aD ?_;(first|refine aN rfl (aG ⟨Tryz.call176⟩ rfl (hMay _ vl9)) ?_|refine aN rfl (aG ⟨Tryz.call244⟩ rfl (hTk _)) ?_))|(refine al9 ?_;intro γ)|refine pu9 ?_)|refine cD ?_|refine bN (id:=1) mixed (by kernel_rfl) ?_|refine bN (id:=4) mixed (by kernel_rfl) ?_)
      all_goals
        (refine aQ Tryz.results181 (aB rfl) ?_)
        rfl
    | true =>
      rw [htk] at hTk
      (refine aH Tryz.func181 rfl Tryz.ntmps181 rfl ?_;intro w0)
      repeat' (first|(refine aE ?_;first|(refine aD ?_;(first|refine aN rfl (aG ⟨Tryz.call176⟩ rfl (hMay _ vl9)) ?_|refine aN rfl (aG ⟨Tryz.call244⟩ rfl (hTk _)) ?_))|(refine al9 ?_;intro γ)|refine pu9 ?_)|refine cD ?_|refine bN (id:=1) mixed (by kernel_rfl) ?_|refine bN (id:=4) mixed (by kernel_rfl) ?_)
      all_goals
        (refine aQ Tryz.results181 (aB rfl) ?_)
        rfl
def RUpR (n:PN) (e:Int) (v:Value) (V':aI):Prop:=∃ z:LN,v=.tuple #[lnV z,.int .i64 e]∧aX V' z∧(e=0→z.n=n)
theorem RUpR.off {n:PN} {e:Int} {v:Value} {V:aI} {gs:List Nat} (hc:qX V gs) (h:RUpR n e v V):RUpR n e v (V.off gs):=by
  obtain⟨z,h1,h2,h3⟩:=h
  exact⟨z,h1,h2.off hc,h3⟩
theorem rgone_c (V:aI) (p:Nat) (b:BX) (I:BI) (hok:bK b) (h:mZ V p b I) (u:LN) (hu:aX V u) (hm:cA sX u.n) (B:Option Addr) (m e:Nat) (ss:List ByteArray) (hs:bZ V B m ss) (hme:m≤e):Fn Tryz.prog 183 [.pointer (some ⟨p,0,none⟩),lnV u,.slice B m e] V (RUpR (mV b u.n ss) (iB b u.n ss)):=by
  obtain⟨hcM,hcC,hcq,hcl⟩:=h.parts
  have hI:=h.2
  have hm4:I.m≤4:=by rw [←hI.len];exact hok.l4
  have hB:=fun V2 (hV2:VLe V V2)=>RBelow_c V2 I.K I.m I.e I.xs (hI.ls.le hV2) (by omega) B m e ss (hs.le hV2)
  rw [hI.eq] at hB
  have hP:=fun (cut:Bool) (y:LN) V2 (hV2:VLe V V2) (hy:aX V2 y)=>RPut_c cut y ss V2 u B m e hy (hu.le hV2) hm (hs.le hV2) hme
  unfold mV iB
  cases hb:fO b.ls ss with
  | true =>
    rw [hb] at hB
    rw [if_pos rfl,if_pos rfl]
    (refine aH Tryz.func183 rfl Tryz.ntmps183 rfl ?_;intro w0)
    repeat' (first|(refine aE ?_;first|(refine aD ?_;(first|refine aN rfl (aG ⟨Tryz.call186⟩ rfl (hB _ vl9)) ?_|(refine aM rfl ⟨Tryz.call189⟩ rfl rfl (hP false (kX 3 0 0 0 false ⟨#[]⟩) _ vl9 (iR (Nat.zero_le _))) ?_;rintro v V2 hV2 ⟨z,rfl,hz,hzn⟩)))|refine st9 ?_|(refine al9 ?_;intro γ)|refine pu9 ?_)|refine cD ?_|fail)
    all_goals
      (refine bA Tryz.results183 (aS agg_70 rfl bB (by exact rfl)) (aB rfl) ?_)
      refine⟨z,rfl,hz,fun h9=>?_⟩
      rw [hzn];exact if_pos h9
  | false =>
    rw [hb] at hB
    rw [if_neg (by decide),if_neg (by decide)]
    (refine aH Tryz.func183 rfl Tryz.ntmps183 rfl ?_;intro w0)
    repeat' (first|(refine aE ?_;first|(refine aD ?_;(first|refine aN rfl (aG ⟨Tryz.call186⟩ rfl (hB _ vl9)) ?_|(refine aM rfl ⟨Tryz.call189⟩ rfl rfl (hP true lnZ _ vl9 aX.zero) ?_;rintro v V2 hV2 ⟨z,rfl,hz,hzn⟩)))|refine st9 ?_|(refine al9 ?_;intro γ)|refine pu9 ?_)|refine cD ?_|fail)
    all_goals
      (refine bA Tryz.results183 (aS agg_70 rfl bB (by exact rfl)) (aB rfl) ?_)
      refine⟨z,rfl,hz,fun h9=>?_⟩
      rw [hzn];exact if_pos h9
theorem rat_b {V:aI} {p:Nat} {b:BX} {Bs:List Box} (hok:bK b) (h:eC V p b Bs) (s:ByteArray) (hl:s.size≤1000000):FnB Tryz.prog 174 [.pointer (some ⟨p,0,none⟩),.string s] V Bs fun v V' Bs'=>Bs'=Bs∧RAtR b (aC s) v V' :=
  eC.read h (fun v V gs hc hR=>RAtR.off hc hR) fun V' I hV hB=>by
    have:=rat_c V' p b I hok hB (aC s) (by show s.data.toList.length≤1000000;rw [Array.length_toList];exact hl)
    have e:(⟨(aC s).toArray⟩:ByteArray)=s:=fJ s
    rw [e] at this;exact this
theorem rwalk_b {V:aI} {p:Nat} {b:BX} {Bs:List Box} (hok:bK b) (h:eC V p b Bs) (B:Option Addr) (m e:Nat) (ss:List ByteArray) (hs:bZ V B m ss) (hme:m≤e):FnB Tryz.prog 178 [.pointer (some ⟨p,0,none⟩),.slice B m e] V Bs fun v V' Bs'=>Bs'=Bs∧RToR B m e (cC b ss) v V' :=
  eC.read h (fun v V gs hc hR=>RToR.off hc hR) fun V' I hV hB=>rwalk_c V' p b I hok hB B m e ss (hs.le hV) hme
theorem rtaken_b {V:aI} {p:Nat} {b:BX} {Bs:List Box} (hok:bK b) (h:eC V p b Bs) (A:Option Addr) (n c:Nat) (is0:Bool) (x:LN) (s:SP) (hp:0≤s.par.mode∧s.par.mode≤4095):FnB Tryz.prog 181 [.pointer (some ⟨p,0,none⟩),spV A n c is0 x s.lay s.th s.par] V Bs fun v V' Bs'=>v=.int .i64 (eM b s)∧Bs'=Bs :=
  (eC.read (R:=fun v _=>v=.int .i64 (eM b s)) h (fun v V gs hc hR=>hR) fun V' I hV hB=>rtaken_c V' p b I hok hB A n c is0 x s hp).mono8 fun _ _ _ h=>⟨h.2,h.1⟩
theorem rgone_b {V:aI} {p:Nat} {b:BX} {Bs:List Box} (hok:bK b) (h:eC V p b Bs) (u:LN) (hu:aX V u) (hm:cA sX u.n) (B:Option Addr) (m e:Nat) (ss:List ByteArray) (hs:bZ V B m ss) (hme:m≤e):FnB Tryz.prog 183 [.pointer (some ⟨p,0,none⟩),lnV u,.slice B m e] V Bs fun v V' Bs'=>Bs'=Bs∧RUpR (mV b u.n ss) (iB b u.n ss) v V' :=
  eC.read h (fun v V gs hc hR=>RUpR.off hc hR) fun V' I hV hB=>rgone_c V' p b I hok hB u (hu.le hV) hm B m e ss (hs.le hV) hme
end
section
theorem und_arr3:cM Tryz.prog 334 (.array 3 3):=⟨Tryz.underlying334⟩
theorem bld_arr3:BuildA Tryz.prog 334 1 [.int .i64 0,.int .i64 0,.int .i64 0]:=⟨⟨3,3,fun w=>by kernel_rfl,fun w=>by kernel_rfl⟩,⟨_,Tryz.zeroValue334,rfl⟩⟩
def kZ (A:Option Addr) (n c:Nat) (l:List UInt8) (L1:List Box):Prop:=cU A n c 5 1 (u8C l) L1∧n=l.length∧(A=none∨0<c)
theorem kZ.nil:kZ none 0 0 [] []:=⟨cU.nil,rfl,.inl rfl⟩
theorem kZ.app {A2:Option Addr} {n2 c2:Nat} {l:List UInt8} {news:List Value} {L2:List Box} (us:List UInt8) (h:cU A2 n2 c2 5 1 (u8C l ++ news) L2) (hn:news=u8C us) (hl:n2=l.length+us.length) (h0:0<us.length):kZ A2 n2 c2 (l ++ us) L2 :=
  ⟨by rw [nD,←hn];exact h,by rw [List.length_append];exact hl,.inr (by have:=h.cap;omega)⟩
theorem kZ.eq {A:Option Addr} {n c:Nat} {l l':List UInt8} {L1:List Box} (h:kZ A n c l L1) (e:l=l'):kZ A n c l' L1:=e▸h
theorem b8_mod (x:Int):b8 (x % 256)=b8 x:=by unfold b8;rw [Int.emod_emod_of_dvd x (Int.dvd_refl 256)]
theorem flat_len':∀ (l:List Int),(l.flatMap b16).length=l.length * 2
  | []=>rfl
  | x :: l=>by rw [List.flatMap_cons,List.length_append,flat_len' l,List.length_cons];simp [b16];omega
theorem flat_lenB (l:List Int):(l.flatMap b16).length=l.length * 2:=flat_len' l
def wD (h:Hd):List Int:=[h.mode,h.user,h.group]
attribute [local irreducible] AtQ GoC GoL GoW QO QP Fn RV bX aL VLe cG bT
theorem laid_c (V:aI) (x:LN) (hx:aX V x):∀ (V1:aI),VLe V V1→cA fitP x.n→∀ (l:List UInt8) (A:Option Addr) (n c:Nat) (L1:List Box),kZ A n c l L1→l.length+(qH x.n).length≤100000→FnB Tryz.prog 247 [.slice A n c,lnV x] V1 L1 fun v _ Bs'=>∃ A' n' c',v=.slice A' n' c'∧kZ A' n' c' (l ++ qH x.n) Bs':=by
  refine aX.ind (C:=fun x=>∀ (V1:aI),VLe V V1→cA fitP x.n→∀ (l:List UInt8) (A:Option Addr) (n c:Nat) (L1:List Box),kZ A n c l L1→l.length+(qH x.n).length≤100000→FnB Tryz.prog 247 [.slice A n c,lnV x] V1 L1 fun v _ Bs'=>∃ A' n' c',v=.slice A' n' c'∧kZ A' n' c' (l ++ qH x.n) Bs') ?_ hx
  intro x es ha hca hd hck hk hks ih V1 hV1 hfit l A n c L1 hB hlen
  have hl:=hk.len
  have hm:=hk.max
  have hz:x.ks.length=x.nk:=by rw [hks,List.length_map,hl]
  obtain⟨f1,f2,f3,f4,f5,f6,f7,f8⟩:=hfit.here
  simp only [LN.n,PN.h_mk,PN.ks_mk] at f1 f2 f3 f4 f5 f6 f7 f8
  have hal:=ha.1.1
  have hP:qH x.n=rT x.h ++ lH x.h.attrs ++ (nJ x.h.data ++ [b8 (x.ks.length:Int)]) ++ oG x.ks:=layP_eq x.h x.ks
  have hPl:=congrArg List.length hP
  simp only [List.length_append,List.length_cons,List.length_nil,eK,gN] at hPl
  have hA0:=layA_le x.h.attrs
  have hK0:=layK_le x.ks
  obtain⟨hr,hn,hA⟩:=hB
  (refine bI Tryz.func247 rfl Tryz.ntmps247 rfl ?_;intro w0)
  repeat' (first|(refine aE ?_;first|(refine gL ?_;refine aR (fS und_3 und_5 rfl) ?_)|(refine cJ ?_;(refine aP rfl und_145 siz_5 zec_5 rfl rfl rfl rfl rfl rfl rfl ?_;intro γ))|(refine aD ?_;(refine aT rfl und_145 inf_5 rfl rfl rfl hr bF (cZ bB rfl) bG (by omega) rfl rfl ?_;intro A2 c2 L2 hr2))|(refine xV ?_;refine aR (q_buildA bld_arr3 rfl rfl) ?_)|refine st9 ?_|(refine al9 ?_;intro γ)|refine pu9 ?_)|refine bW ?_|(refine bP rfl ?_ ?_<;>intro hq))
  all_goals
    rename_i γ1 γ2
    have hflag:=(by first|exact flag_t hq|exact flag_f hq)
    refine bQ (fun F V' L' m=>∃ (k n3 c3:Nat) (A3:Option Addr) (Lb:List Box),VLe V1 V'∧(⟨γ,334,[.int .i64 x.h.mode,.int .i64 x.h.user,.int .i64 x.h.group]⟩ :: ⟨γ1,70,lnC x⟩ :: Lb:List Box)=L'∧kZ A3 n3 c3 (l ++ (b8 (flagN x.h) :: ((wD x.h).take k).flatMap b16)) Lb∧k≤3∧m=3 - k∧F=[(0,.slice A3 n3 c3),(3,.pointer (some ⟨γ1,0,none⟩)),(6,.pointer (some ⟨γ,0,none⟩)),(7,.int .i64 k)]) (m:=3) ⟨0,n+1,c2,A2,L2,vl9,rfl,?_,by omega,rfl,rfl⟩ bH rfl (List.Sublist.cons_cons _ (List.Sublist.cons _ (List.Sublist.refl _))) ?_
    · exact(kZ.app [b8 (flagN x.h)] hr2 (by rw [hflag];rfl) (by rw [hn];rfl) (by simp)).eq (by simp)
    rintro F V' L' m ⟨k,n3,c3,A3,Lb,hV',rfl,hB3,hkn,rfl,rfl⟩
    by_cases hlt:k<3
    · obtain⟨u,hu⟩:∃ u,(wD x.h)[k]?=some u:=⟨_,List.getElem?_eq_getElem (by show k<3;exact hlt)⟩
      have hub:0≤u∧u≤65535:=by
        have:=List.mem_of_getElem? hu
        simp only [wD,List.mem_cons,List.not_mem_nil,or_false] at this
        rcases this with rfl|rfl|rfl<;>omega
      have hc:([.int .i64 x.h.mode,.int .i64 x.h.user,.int .i64 x.h.group]:List Value)[0+k * 1]?=some (.int .i64 u):=by
        show ((wD x.h).map (Value.int .i64))[0+k * 1]?=_
        rw [show 0+k * 1=k by omega,List.getElem?_map,hu];rfl
      have htk:(wD x.h).take (k+1)=(wD x.h).take k ++ [u]:=by rw [List.take_add_one,hu];rfl
      have hnl:((wD x.h).take k).length≤3:=by rw [List.length_take];omega
      have hbl:(((wD x.h).take k).flatMap b16).length=((wD x.h).take k).length * 2:=flat_lenB _
      obtain⟨hr3,hn3,hA3⟩:=hB3
      rw [List.length_append,List.length_cons,hbl] at hn3
      repeat' (first|(refine aE ?_;refine pu9 ?_)|refine bW ?_|(refine aA rfl ?_ ?_<;>intro hq<;>try exact no9))
      refine bM (id:=9) _ mixed (List.Sublist.cons_cons _ (List.Sublist.cons_cons _ (List.nil_sublist _))) ?_;refine gt9 0 ?_;refine gt9 1 ?_;refine fP 2 rfl rfl (q_indexAddrA und_arr3 siz_3 rfl rfl rfl hlt) ?_;refine gt9 3 ?_;refine gt9 4 ?_;refine fP 5 rfl rfl (fS und_3 und_5 rfl) ?_;refine gt9 6 ?_;refine fP 7 rfl rfl (q_indexAddrA und_arr3 siz_3 rfl rfl rfl hlt) ?_;refine gt9 8 ?_;refine gt9 9 ?_;refine fP 10 rfl rfl (fS und_3 und_5 rfl) ?_;refine aY (i:=11) rfl ?_;(refine aP rfl und_145 siz_5 zec_5 rfl rfl rfl rfl rfl rfl rfl ?_;intro γ);refine aY (i:=12) rfl ?_;(refine aT rfl und_145 inf_5 rfl rfl rfl hr3 bF (cZ bB rfl) bG (by omega) rfl rfl ?_;intro A4 c4 L4 hr4);refine gt9 13 ?_;refine aU (by kernel_rfl) vl9 vl9 bD ?_
      all_goals
        repeat' (first|(refine aE ?_;refine pu9 ?_)|refine bV ?_|fail)
      all_goals
        refine aZ _ (3 - (k+1)) ⟨k+1,n3+2,c4,A4,L4,vl9,rfl,?_,by omega,rfl,rfl⟩ (by omega) bH sl9
        refine(kZ.app (b16 u) hr4 (by rw [b8_mod];rfl) (by rw [List.length_append,List.length_cons,hbl,hn3];rfl) (by simp [b16])).eq ?_
        rw [htk];simp
    · obtain rfl:k=3:=by omega
      obtain⟨hr3,hn3,hA3⟩:=hB3
      have hn4:n3=l.length+7:=by rw [hn3,List.length_append];rfl
      repeat' (first|(refine aE ?_;first|(refine gL ?_;refine aR (fS und_3 und_5 rfl) ?_)|(refine cJ ?_;(refine aP rfl und_145 siz_5 zec_5 rfl rfl rfl rfl rfl rfl rfl ?_;intro γ))|(refine aD ?_;(refine aT rfl und_145 inf_5 rfl rfl rfl hr3 bF (cZ bB rfl) bG (by omega) rfl rfl ?_;intro A4 c4 L4 hr4;have hcap4:=hr4.cap))|refine pu9 ?_)|refine dQ ?_|fail)
      rename_i γ3
      refine bQ (fun F V' L' m=>∃ (k n3 c3:Nat) (A3:Option Addr) (Lb:List Box),VLe V1 V'∧(⟨γ1,70,lnC x⟩ :: Lb:List Box)=L'∧kZ A3 n3 c3 (l ++ (rT x.h ++ lH (x.h.attrs.take k))) Lb∧k≤x.na∧m=x.na - k∧F=[(0,.slice A3 n3 c3),(3,.pointer (some ⟨γ1,0,none⟩)),(8,.int .i64 k)]) (m:=x.na) ⟨0,n3+1,c4,A4,L4,vl9,rfl,?_,by omega,rfl,rfl⟩ bH rfl sl9 ?_
      · rw [←hal] at hr4
        exact(kZ.app [b8 (x.h.attrs.length:Int)] hr4 rfl (by rw [hn3];rfl) (by simp)).eq (by simp [wD,rT,lH])
      rintro F V' L' m ⟨k,n3,c3,A3,Lb,hV',rfl,⟨hr3,hn3,hA3⟩,hkn,rfl,rfl⟩
      rw [List.length_append,List.length_append,gN] at hn3
      by_cases hlt:k<x.na
      · obtain⟨b1,o1,a,hA1,ha1,hc1,hv0,hv1,_⟩:=(ha.le (hV1.trans hV')).at_ hlt
        have hfa:=f5.2 a (List.mem_of_getElem? ha1)
        have hA2:=hA0 (k+1)
        have hA3':=layA_take ha1
        have hA4:=congrArg List.length hA3'
        simp only [List.length_append,eK] at hA4
        repeat' (first|(refine aE ?_;first|(refine gL ?_;refine aR (fS und_3 und_5 rfl) ?_)|(refine cJ ?_;(refine aP rfl und_145 siz_5 zec_5 rfl rfl rfl rfl rfl rfl rfl ?_;intro γ))|(refine aD ?_;(first|(refine aT rfl und_145 inf_5 rfl rfl rfl hr3 bF (cZ bB rfl) bG (by omega) rfl rfl ?_;intro A4 c4 L4 hr4;have hcap4:=hr4.cap)|(refine pU rfl und_145 und_9 u8_inf rfl rfl hr4 (.inr (by omega)) bF (by omega) rfl ?_;intro A5 c5 L5 hr5 hA5;have hcap5:=hr5.cap)|(refine aT rfl und_145 inf_5 rfl rfl rfl hr5 bF (cZ bB rfl) bG (by omega) rfl rfl ?_;intro A6 c6 L6 hr6;have hcap6:=hr6.cap)|(refine pU rfl und_145 und_9 u8_inf rfl rfl hr6 (.inr (by omega)) bF (by omega) rfl ?_;intro A7 c7 L7 hr7 hA7;have hcap7:=hr7.cap)))|refine pu9 ?_)|refine bW ?_|(refine aA rfl ?_ ?_<;>intro hq<;>try exact no9))
        refine aZ _ (x.na - (k+1)) ⟨k+1,n3+1+a.n.size+1+a.v.size,c7,A7,L7,vl9,rfl,⟨?_,?_,hA7⟩,by omega,rfl,rfl⟩ (by omega) bH sl9
        · rw [hA3',show l ++ (rT x.h ++ (lH (x.h.attrs.take k) ++ (nJ a.n ++ nJ a.v)))=l ++ (rT x.h ++ lH (x.h.attrs.take k)) ++ [b8 (a.n.size:Int)] ++ a.n.toList ++ [b8 (a.v.size:Int)] ++ a.v.toList by simp [nJ],nD,nD,nD,nD];exact hr7
        · rw [List.length_append,List.length_append,hA4,gN];omega
      · obtain rfl:k=x.na:=by omega
        rw [←hal,List.take_length] at hr3 hn3
        repeat' (first|(refine aE ?_;first|(refine gL ?_;refine aR (fS und_3 und_5 rfl) ?_)|(refine cJ ?_;(refine aP rfl und_145 siz_5 zec_5 rfl rfl rfl rfl rfl rfl rfl ?_;intro γ))|(refine aD ?_;(first|(refine aT rfl und_145 inf_5 rfl rfl rfl hr3 bF (cZ bB rfl) bG (by omega) rfl rfl ?_;intro A4 c4 L4 hr4;have hcap4:=hr4.cap)|(refine pU rfl und_145 und_9 u8_inf rfl rfl hr4 (.inr (by omega)) bF (by omega) rfl ?_;intro A5 c5 L5 hr5 hA5;have hcap5:=hr5.cap)|(refine aT rfl und_145 inf_5 rfl rfl rfl hr5 bF (cZ bB rfl) bG (by omega) rfl rfl ?_;intro A6 c6 L6 hr6;have hcap6:=hr6.cap)))|refine pu9 ?_)|refine pW ?_|(refine aA rfl ?_ ?_<;>intro hq<;>try exact no9))
        rename_i γ4
        refine bQ (fun F V' L' m=>∃ (k n3 c3:Nat) (A3:Option Addr) (Lb:List Box),VLe V1 V'∧(⟨γ1,70,lnC x⟩ :: Lb:List Box)=L'∧kZ A3 n3 c3 (l ++ (rT x.h ++ lH x.h.attrs ++ (nJ x.h.data ++ [b8 (x.ks.length:Int)]) ++ oG (x.ks.take k))) Lb∧k≤x.nk∧m=x.nk - k∧F=[(0,.slice A3 n3 c3),(3,.pointer (some ⟨γ1,0,none⟩)),(9,.int .i64 k)]) (m:=x.nk) ⟨0,n3+1+x.h.data.size+1,c6,A6,L6,vl9,rfl,⟨?_,?_,.inr (by omega)⟩,by omega,rfl,rfl⟩ bH rfl sl9 ?_
        · rw [List.take_zero,oG,hz,show l ++ (rT x.h ++ lH x.h.attrs ++ (nJ x.h.data ++ [b8 (x.nk:Int)]) ++ [])=l ++ (rT x.h ++ lH x.h.attrs) ++ [b8 (x.h.data.size:Int)] ++ x.h.data.toList ++ [b8 (x.nk:Int)] by simp [nJ],nD,nD,nD];exact hr6
        · rw [List.take_zero,oG]
          simp only [List.length_append,eK,gN,List.length_cons,List.length_nil];omega
        rintro F V' L' m ⟨k,n3,c3,A3,Lb,hV',rfl,⟨hr3,hn3,hA3⟩,hkn,rfl,rfl⟩
        simp only [List.length_append,eK,gN,List.length_cons,List.length_nil] at hn3
        by_cases hlt:k<x.nk
        · obtain⟨b1,o1,e,hK1,he,hem,hc,c0,c1,hms,hne⟩:=(hk.le (hV1.trans hV')).at_ hlt
          have hke:=mP hks he
          have hfk:=f8 _ (List.mem_of_getElem? hke)
          simp only [] at hfk
          have hK2:=hK0 (k+1)
          have hK3:=layK_take hke
          have hK4:=congrArg List.length hK3
          simp only [List.length_append,eK] at hK4
          repeat' (first|(refine aE ?_;first|(refine gL ?_;refine aR (fS und_3 und_5 rfl) ?_)|(refine cJ ?_;(refine aP rfl und_145 siz_5 zec_5 rfl rfl rfl rfl rfl rfl rfl ?_;intro γ))|(refine aD ?_;(first|(refine aT rfl und_145 inf_5 rfl rfl rfl hr3 bF (cZ bB rfl) bG (by omega) rfl rfl ?_;intro A4 c4 L4 hr4;have hcap4:=hr4.cap)|(refine pU rfl und_145 und_9 u8_inf rfl rfl hr4 (.inr (by omega)) bF (by omega) rfl ?_;intro A5 c5 L5 hr5 hA5;have hcap5:=hr5.cap)|(refine aW rfl ⟨Tryz.call247⟩ rfl bF rfl (ih e hem _ (hV1.trans hV') (hfit.kid (List.mem_of_getElem? hke)) (l ++ (rT x.h ++ lH x.h.attrs ++ (nJ x.h.data ++ [b8 (x.ks.length:Int)]) ++ oG (x.ks.take k)) ++ nJ e.nm) A5 _ c5 L5 ⟨by rw [show ∀ s:List UInt8,s ++ nJ e.nm=s ++ [b8 (e.nm.size:Int)] ++ e.nm.toList by simp [nJ],nD,nD];exact hr5,by simp only [List.length_append,eK,gN,List.length_cons,List.length_nil];omega,hA5⟩ (by simp only [List.length_append,eK,gN,List.length_cons,List.length_nil];omega)) ?_;rintro v V5 B5 hV5 ⟨A6,n6,c6,rfl,hB6⟩)))|refine pu9 ?_)|refine bW ?_|(refine aA rfl ?_ ?_<;>intro hq<;>try exact no9))
          refine aZ _ (x.nk - (k+1)) ⟨k+1,n6,c6,A6,B5,vl9,rfl,hB6.eq ?_,by omega,rfl,rfl⟩ (by omega) bH sl9
          rw [hK3];simp only [List.append_assoc]
        · obtain rfl:k=x.nk:=by omega
          rw [List.take_of_length_le (by omega),←hP] at hr3
          have hn4:n3=(l ++ qH x.n).length:=by rw [List.take_of_length_le (by omega)] at hn3;rw [List.length_append,hPl];omega
          repeat' (first|(refine aE ?_;refine pu9 ?_)|refine dR ?_|(refine aA rfl ?_ ?_<;>intro hq<;>try exact no9))
          (refine bC Tryz.results247 (aB rfl) (List.Sublist.cons _ (List.Sublist.refl _)) ?_)
          exact⟨A3,n3,c3,rfl,hr3,hn4,hA3⟩
end
section
theorem treeF_bd (upper:Bool) (n:PN):0≤dK upper n∧dK upper n≤7:=by
  have:=kM upper 0 0 n (by omega)
  unfold dK;split<;>omega
attribute [local irreducible] AtQ GoC GoL GoW QO QP Fn RV bX aL VLe cG bT
theorem RBytes_c (V:aI) (x:LN) (hx:aX V x):Fn Tryz.prog 196 [lnV x] V fun v _=>v=.tuple #[.string ⟨(iS x.n).toArray⟩,.int .i64 (dK true x.n)]:=by
  have hC:=uH V x hx true
  have hft:dK true x.n=0→cA fitP x.n∧(qH x.n).length≤24000:=pK
  have hb:=treeF_bd true x.n
  (refine aH Tryz.func196 rfl Tryz.ntmps196 rfl ?_;intro w0)
  repeat' (first|(refine aE ?_;first|(refine aD ?_;(first|refine aN rfl (aG ⟨Tryz.call60⟩ rfl (hC)) ?_|(refine aW rfl ⟨Tryz.call247⟩ rfl bF rfl (laid_c V x hx _ (VLe.refl _) (hft (by omega)).1 [] none 0 0 [] kZ.nil (by have:=(hft (by omega)).2;simp;omega)) ?_;rintro v V2 B2 hV2 ⟨A2,n2,c2,rfl,hB2⟩)))|(refine gL ?_;refine aR (jH und_145 und_5 und_9 rfl (src_row hB2.1 bF)) ?_)|(refine al9 ?_;intro γ)|refine pu9 ?_)|refine bV ?_|(refine aA rfl ?_ ?_<;>intro hq<;>try exact no9))
  · (refine bA Tryz.results196 (aB rfl) (aB rfl) ?_)
    unfold iS;rw [if_neg (by omega)]
  · (refine bA Tryz.results196 (aB rfl) (aB rfl) ?_)
    have h0:dK true x.n=0:=by omega
    unfold iS;rw [if_pos h0,h0];rfl
theorem RBlocks_c (V:aI) (x:LN) (hx:aX V x):Fn Tryz.prog 87 [lnV x] V fun v _=>v=.int .i64 (eF x.n):=by
  have hB:=RBytes_c V x hx
  have hl:=bytesP_len x.n
  have hsz:=nH (iS x.n)
  (refine aH Tryz.func87 rfl Tryz.ntmps87 rfl ?_;intro w0)
  repeat' (first|(refine aE ?_;first|(refine aD ?_;refine aN rfl (aG ⟨Tryz.call196⟩ rfl (hB)) ?_)|(refine al9 ?_;intro γ)|refine pu9 ?_)|refine bW ?_|fail)
  refine bQ (fun F V' L' m=>∃ (k:Nat),V=V'∧[]=L'∧((k:Int) - 1) * 64<(iS x.n).length∧k≤1000∧m=1000 - k∧F=[(3,.string ⟨(iS x.n).toArray⟩),(5,.int .i64 k)]) (m:=1000) ⟨0,rfl,rfl,by omega,by omega,rfl,rfl⟩ bH rfl sl9 ?_
  rintro F V' L' m ⟨k,rfl,rfl,hk,hk1,rfl,rfl⟩
  by_cases hlt:(k:Int) * 64<(iS x.n).length
  · repeat' (first|(refine aE ?_;refine pu9 ?_)|refine bW ?_|(refine aA rfl ?_ ?_<;>intro hq<;>try exact no9))
    all_goals first
      | (refine aZ _ (1000 - (k+1)) ⟨k+1,rfl,rfl,by omega,by omega,rfl,rfl⟩ (by omega) bH sl9)
      | (exfalso;rw [hsz] at hq;omega)
  · repeat' (first|(refine aE ?_;refine pu9 ?_)|refine dR ?_|(refine aA rfl ?_ ?_<;>intro hq<;>try exact no9))
    all_goals first
      | ((refine aQ Tryz.results87 (aB rfl) ?_);unfold eF;refine congrArg _ ?_;omega)
      | (exfalso;rw [hsz] at hq;omega)
end
end Go.Proofs.YtejkmomfpidnbabGreat
