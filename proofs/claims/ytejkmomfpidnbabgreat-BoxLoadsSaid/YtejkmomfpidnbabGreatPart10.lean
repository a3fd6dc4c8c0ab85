/- Walks and plain laws, part 10: what functions compute, proved once each (FlatE2, FlatE3, Within, BxJ, FlatE4, ReadE4, RwX, CopyE3, PathE4, RwE, RwB, LayE3, LayE4, RwK, AsBox, BxY, BxA, BxB, BxIn, Opens, RwF, RwG, RwA, RwO, RwM, RwU, RwR, RwP, RwL, RwQ, RwV, AttrE6, RwT, CredE4, RwD, BxD, BxT, BoxLa, BoxLb). -/
import Derived.Test.YtejkmomfpidnbabGreatPart9
import Derived.Test.YtejkmomfpidnbabGreatPart6
import Derived.Test.YtejkmomfpidnbabGreatPart1
import Derived.Test.YtejkmomfpidnbabGreatPart3
import Derived.Test.YtejkmomfpidnbabGreatPart4
import Derived.Test.YtejkmomfpidnbabGreatPart5
import Derived.Test.YtejkmomfpidnbabGreatPart8
import Derived.Test.YtejkmomfpidnbabGreatPart2
import Derived.Test.YtejkmomfpidnbabGreatPart7
set_option linter.unusedSimpArgs false
set_option linter.unusedVariables false
set_option maxRecDepth 100000
set_option maxHeartbeats 40000000
namespace Go.Proofs.YtejkmomfpidnbabGreat
open Go.RowKit
section
def MadeBy (g:Hd→Int→Hd) (f:FuncId) (cs fs:List Value) (V:aD):Prop:=∀ V0,VLe V V0→∀ (x:LN) (lay:Int),aT V0 x→Nok x→x.h.attrs.length≤100000→Fn Tryz.prog f (fs ++ [lnV x,.int .i64 lay] ++ cs) V0 fun v V2=>∃ y:LN,v=lnV y∧y.h=g x.h lay∧Nok y∧aT V2 y
theorem ones_k9 (e:LK):∀ u∈lkC e,gQ u=true:=fun u hu=>rZ [e] u (by simpa using hu)
attribute [local irreducible] AtQ GoC GoL GoW QO QP Fn RV bL aG VLe bR bK
theorem MFlat_c {g:Hd→Int→Hd} {f:FuncId} {cs fs:List Value} (he:jV Tryz.prog f) {V:aD} (hg:MadeBy g f cs fs V):∀ (d:Nat) (V0:aD),VLe V V0→∀ (A:Option Addr) (n c:Nat) (ls:List LF),dB V0 A n ls→0<n→n≤10→(∀ x∈ls.map fz,Deep d x.1)→(∀ x∈ls.map fz,cB eA x.1)→Fn Tryz.prog 205 [.slice A n c,.func (.func f) fs.toArray cs.toArray] V0 fun v V2=>∃ y:LN,v=lnV y∧aT V2 y∧y.n=fM g d (ls.map fz):=by
  intro d
  induction d with
  | zero =>
    intro V0 hV0 A n c ls hF hn0 hn hd hs
    have hl:=hF.1.1
    cases ls with
    | nil=>simp at hl;omega
    | cons x t=>exact(hd (fz x) (by simp)).zero.elim
  | succ d ih =>
    intro V0 hV0 A n c ls hF hn0 hn hd hs
    have hl:=hF.1.1
    obtain⟨x,t,rfl⟩:∃ x t,ls=x :: t:=by
      cases ls with
      | nil=>simp at hl;omega
      | cons x t=>exact⟨x,t,rfl⟩
    obtain⟨b,off,x',rfl,hx',hc,hN⟩:=hF.at_ hn0
    obtain rfl:x=x':=by simpa using hx'
    obtain⟨hc8,hc9⟩:=tG hc
    obtain⟨ha,hca,hdt,hck,es,hK,hks⟩:=hN.inv
    have hat:x.x.h.attrs.length≤100000:=(hs (fz x) (by simp)).here.1
    have hxN:aT V0 ⟨{ x.x.h with opq:=false },x.x.A,x.x.na,x.x.ca,none,0,0,[]⟩:=aT.of (es:=[]) ha hca hdt (Nat.le_refl _) ⟨eP.nil,by simp⟩ rfl
    have hO:=Own0_c V0 _ hxN ⟨rfl,rfl,rfl,rfl⟩ hat
    (refine aI Tryz.func205 rfl Tryz.ntmps205 rfl ?_;intro w0)
    repeat' (first|(refine aE ?_;first|(refine cG ?_;refine aO (eZ (k:=0) und_272 siz_306 rfl rfl hn0) ?_)|refine st9 ?_|(refine al9 ?_;intro γ)|refine pu9 ?_)|refine cC ?_|fail)
    refine bX (id:=4) _ mixed (List.nil_sublist _) ?_;refine gt9 0 ?_;refine gt9 3 ?_;refine fL 4 rfl rfl (eZ (k:=0) und_272 siz_306 rfl rfl hn0) ?_;refine gt9 5 ?_;refine gt9 6 ?_;refine aZ (i:=1) rfl ?_;refine aO (nP agg_70 rfl bA (by exact rfl)) ?_;refine aZ (i:=2) rfl ?_;(refine aS rfl ⟨Tryz.call54⟩ rfl rfl (hO) ?_;rintro v V3 hV3 ⟨y,rfl,hyh,hyk,hyN⟩;have hgc:=hg V3 (hV0.trans hV3) y x.lay hyN hyk (by rw [hyh];exact hat));refine aZ (i:=7) rfl ?_;(refine gw_callv rfl he rfl rfl rfl hgc ?_;rintro v V4 hV4 ⟨⟨zh,zA,zn,zc,zK,znk,zck,zks⟩,rfl,hzh,⟨hz1,hz2,hz3,hz4⟩,hzN⟩;simp only at hzh hz1 hz2 hz3 hz4;subst hz1 hz2 hz3 hz4);refine aZ (i:=8) rfl ?_;refine aR rfl siz_70 rfl rfl rfl rfl bJ dP rfl ?_;refine aY (by kernel_rfl) vl9 vl9 bP ?_
    rename_i γ4
    have hF4:=hF.le (hV3.trans hV4)
    have hnf:=yI (r:=(x :: t).map fz) hs
    rw [List.length_map,hl] at hnf
    have hL:=MList_c V4 _ n c (x :: t) hF4 (by omega) (by omega)
    obtain⟨hza,hzca,hzd,_,_,_,_⟩:=hzN.inv
    repeat' (first|(refine aE ?_;first|(refine aC ?_;(refine aS rfl ⟨Tryz.call226⟩ rfl rfl (hL) ?_;rintro v V5 hV5 ⟨A5,n5,c5,rfl,hS5,hc5⟩))|refine pu9 ?_)|refine bY ?_|fail)
    have hsl:=hS5.1.1
    have hll:=uE ((x :: t).map fz)
    refine bN (fun F V' L' m=>∃ (k:Nat) (acc:List LK) (A':Option Addr) (c':Nat) (LA:List Box),VLe V5 V'∧LA ++ [⟨γ,70,[.int .i64 zh.kind,.int .i64 zh.mode,.int .i64 zh.user,.int .i64 zh.group,.bool zh.opq,.slice zA zn zc,.string zh.data,.slice A' k c']⟩,⟨γ4,70,lnC ⟨hZ,none,0,0,none,0,0,[]⟩⟩]=L'∧k≤n5∧cO A' k c' 156 9 (acc.flatMap lkC) LA∧acc.length=k∧acc.map kz=((jM ((x :: t).map fz)).take k).map (fun nm=>(nm,fM g d (dK ((x :: t).map fz) nm)))∧(∀ e∈acc,e.nm.size≤maxLen∧aT V' e.x)∧m=n5 - k∧F=[(0,.slice (some ⟨b,off,none⟩) n c),(1,.func (.func f) fs.toArray cs.toArray),(4,.pointer (some ⟨γ4,0,none⟩)),(5,.pointer (some ⟨γ,0,none⟩)),(23,.slice A5 n5 c5),(24,.int .i64 n5),(25,.int .i64 (k:Int))]) (m:=n5) ⟨0,[],none,0,[],VLe.refl _,rfl,Nat.zero_le _,cO.nil,rfl,rfl,by simp,by omega,rfl⟩ bH rfl sl9 ?_
    rintro F V9 L' m ⟨k,acc,A',c',LA,hV9,rfl,hkn,hr,hal,hak,haN,rfl,rfl⟩
    have h0V:=hV3.trans (hV4.trans (hV5.trans hV9))
    by_cases hlt:k<n5
    · obtain⟨b6,o6,nm,hA5,hx6,hc6,hms⟩:=(hS5.le hV9).at_ hlt
      have hmem:=List.mem_of_getElem? hx6
      have hpos:=(qQ.1 hmem).2
      have hStp:=yC V9 _ n c (x :: t) (hF4.le (hV5.trans hV9)) (by omega) nm
      have hstl:=stepP_len ((x :: t).map fz) nm
      rw [List.length_map,hl] at hstl
      have hih:∀ V6,VLe V9 V6→∀ (A6:Option Addr) (n6 c6:Nat) (gs:List LF),dB V6 A6 n6 gs→gs.map fz=dK ((x :: t).map fz) nm→Fn Tryz.prog 205 [.slice A6 n6 c6,.func (.func f) fs.toArray cs.toArray] V6 fun v V2=>∃ y:LN,v=lnV y∧aT V2 y∧y.n=fM g d (dK ((x :: t).map fz) nm):=fun V6 hV6 A6 n6 c6 gs hG hgz=>by
        have hgl:=hG.1.1
        have hgl2:=congrArg List.length hgz
        rw [List.length_map,hgl] at hgl2
        have:=ih V6 ((hV0.trans h0V).trans hV6) A6 n6 c6 gs hG (by omega) (by omega) (by rw [hgz];exact vU hd) (by rw [hgz];exact stepP_all hs)
        rw [hgz] at this
        exact this
      repeat' (first|(refine aE ?_;first|(refine cG ?_;refine aO (bF und_47 siz_9 rfl hA5 rfl hlt) ?_)|refine pu9 ?_)|refine bY ?_|(refine aA rfl ?_ ?_<;>intro hq<;>try exact no9))
      all_goals try exact no9
      refine bX (id:=8) _ mixed (List.nil_sublist _) ?_;refine gt9 0 ?_;refine gt9 2 ?_;refine gt9 3 ?_;refine gt9 4 ?_;refine gt9 6 ?_;(refine dL (i:=1) (j:=5) (by kernel_rfl) rfl rfl rfl rfl vl9 vl9 bP ?_ ?_<;>first|((first|refine aO (bC one_68 rfl bA (by exact rfl)) ?_|refine aO (bC one_68 rfl bA (by assumption)) ?_|refine aO (cD one_68 rfl (by assumption)) ?_);refine aZ (i:=5) rfl ?_;(refine aS rfl ⟨Tryz.call234⟩ rfl rfl (hStp) ?_;rintro v V6 hV6 ⟨A6,n6,c6,gs,rfl,hG6,hc6',hgz⟩;have hih6:=hih V6 hV6 A6 n6 c6 gs hG6 hgz);refine aZ (i:=7) rfl ?_;(refine aS rfl ⟨Tryz.call205⟩ rfl rfl (hih6) ?_;rintro v V7 hV7 ⟨y,rfl,hyN,hyn⟩;have ho1:=ones_k9 ⟨nm,y⟩);refine gt9 8 ?_;refine aZ (i:=9) rfl ?_;(refine aN rfl und_68 siz_156 zec_156 rfl rfl rfl rfl rfl rfl rfl ?_;intro γ);refine aZ (i:=10) rfl ?_;(refine aQ rfl und_68 inf_156 rfl rfl rfl hr aV (cY bA rfl) bJ (by omega) rfl rfl ?_;intro A8 c8 L8 hr8);refine gt9 11 ?_;refine aZ (i:=12) rfl ?_;refine aR rfl siz_68 rfl rfl rfl rfl bJ dP rfl ?_;refine aY (by kernel_rfl) vl9 vl9 bP ?_)|((refine aS rfl ⟨Tryz.call234⟩ rfl rfl (hStp) ?_;rintro v V6 hV6 ⟨A6,n6,c6,gs,rfl,hG6,hc6',hgz⟩;have hih6:=hih V6 hV6 A6 n6 c6 gs hG6 hgz);(refine dL (i:=1) (j:=7) (by kernel_rfl) rfl rfl rfl rfl vl9 vl9 bP ?_ ?_<;>first|((first|refine aO (bC one_68 rfl bA (by exact rfl)) ?_|refine aO (bC one_68 rfl bA (by assumption)) ?_|refine aO (cD one_68 rfl (by assumption)) ?_);refine aZ (i:=7) rfl ?_;(refine aS rfl ⟨Tryz.call205⟩ rfl rfl (hih6) ?_;rintro v V7 hV7 ⟨y,rfl,hyN,hyn⟩;have ho1:=ones_k9 ⟨nm,y⟩);refine gt9 8 ?_;refine aZ (i:=9) rfl ?_;(refine aN rfl und_68 siz_156 zec_156 rfl rfl rfl rfl rfl rfl rfl ?_;intro γ);refine aZ (i:=10) rfl ?_;(refine aQ rfl und_68 inf_156 rfl rfl rfl hr aV (cY bA rfl) bJ (by omega) rfl rfl ?_;intro A8 c8 L8 hr8);refine gt9 11 ?_;refine aZ (i:=12) rfl ?_;refine aR rfl siz_68 rfl rfl rfl rfl bJ dP rfl ?_;refine aY (by kernel_rfl) vl9 vl9 bP ?_)|((refine aS rfl ⟨Tryz.call205⟩ rfl rfl (hih6) ?_;rintro v V7 hV7 ⟨y,rfl,hyN,hyn⟩;have ho1:=ones_k9 ⟨nm,y⟩);refine gt9 8 ?_;(refine dL (i:=1) (j:=9) (by kernel_rfl) rfl rfl rfl rfl vl9 vl9 bP ?_ ?_<;>first|((first|refine aO (bC one_68 rfl bA (by exact rfl)) ?_|refine aO (bC one_68 rfl bA (by assumption)) ?_|refine aO (cD one_68 rfl (by assumption)) ?_);refine aZ (i:=9) rfl ?_;(refine aN rfl und_68 siz_156 zec_156 rfl rfl rfl rfl rfl rfl rfl ?_;intro γ);refine aZ (i:=10) rfl ?_;(refine aQ rfl und_68 inf_156 rfl rfl rfl hr aV (cY bA rfl) bJ (by omega) rfl rfl ?_;intro A8 c8 L8 hr8);refine gt9 11 ?_;refine aZ (i:=12) rfl ?_;refine aR rfl siz_68 rfl rfl rfl rfl bJ dP rfl ?_;refine aY (by kernel_rfl) vl9 vl9 bP ?_)|((refine aN rfl und_68 siz_156 zec_156 rfl rfl rfl rfl rfl rfl rfl ?_;intro γ);refine aZ (i:=1) rfl ?_;(first|refine aO (bC one_68 rfl bA (by exact rfl)) ?_|refine aO (bC one_68 rfl bA (by assumption)) ?_|refine aO (cD one_68 rfl (by assumption)) ?_);refine aZ (i:=10) rfl ?_;(refine aQ rfl und_68 inf_156 rfl rfl rfl hr aV (cY bA rfl) bJ (by omega) rfl rfl ?_;intro A8 c8 L8 hr8);refine gt9 11 ?_;refine aZ (i:=12) rfl ?_;refine aR rfl siz_68 rfl rfl rfl rfl bJ dP rfl ?_;refine aY (by kernel_rfl) vl9 vl9 bP ?_))))))
      all_goals
        repeat' (first|(refine aE ?_;refine pu9 ?_)|refine cC ?_|fail)
        refine aX _ (n5 - (k+1)) ⟨k+1,acc ++ [⟨nm,y⟩],A8,c8,L8,vl9,rfl,by omega,by rw [List.flatMap_append];exact hr8,by rw [List.length_append,hal];rfl,?_,?_,rfl,rfl⟩ (by omega) bH sl9
        · rw [List.map_append,hak,List.take_add_one,hx6,List.map_append]
          simp [kz,hyn]
        · intro e he
          rcases List.mem_append.1 he with he|he
          · exact⟨(haN e he).1,(haN e he).2.le vl9⟩
          · rw [List.mem_singleton] at he;subst he
            exact⟨hms,hyN⟩
    · obtain rfl:k=n5:=by omega
      have hcap:=hr.cap
      refine gS hr aV ?_
      intro V8 hV8 hc8'
      have hKd:dV V8 A' k acc:=⟨eP.of_cells hc8' rK hal (by unfold maxLen;omega),fun e he=>⟨(haN e he).1,(haN e he).2.le hV8⟩⟩
      repeat' (first|(refine aE ?_;first|refine st9 ?_|refine pu9 ?_)|refine dT ?_|(refine aA rfl ?_ ?_<;>intro hq<;>try exact no9))
      all_goals try exact no9
      all_goals
        (refine aM Tryz.results205 (aW agg_70 rfl bA (by exact rfl)) ?_)
        refine⟨⟨zh,zA,zn,zc,A',k,c',acc.map kz⟩,rfl,aT.of (hza.le (hV5.trans (hV9.trans hV8))) hzca hzd hcap (dV.le vl9 hKd) rfl,?_⟩
        have e1:((⟨zh,zA,zn,zc,A',k,c',acc.map kz⟩:LN)).n=.mk zh (acc.map kz):=rfl
        rw [e1,hak,List.take_of_length_le (by omega),hzh,hyh]
        rfl
end
section
structure FuncTy (P:Program) (T:TypeId):Prop where
  h:∃ a b c,P.underlying T=some (.func a b c)
section
variable {P : Program} {B : Base} {N : Nat} {F : List (Nat × Value)} {V : aD} {L : List Box}
variable {d : Option Tmp} {ty : TypeId} {pos : String} {af : Array Edge} {gd : Option (Nat × Bool)} {x : Operand} {t ty2 : TypeId}
theorem run_fnil_f (w:World) (d:Nat) (f:Go.Fn) (xs ys:Array Value) (h:∃ a b c,P.underlying t=some (.func a b c)):(Op.equalIn (d+1) t (.func f xs ys) .nilFunc).run P w=.ok false w:=by
  obtain⟨a,b,c,h⟩:=h
  simp [Op.equalIn,run_underlying h]
theorem q_fnil_f {f:Go.Fn} {xs ys:Array Value} (hp:FuncTy P t) (hx:evF F x=some (.func f xs ys)):QP P B N V L ⟨d,.binOp .eql t x (.const .nilFunc) ty2,ty,pos,af,gd⟩ F (.bool false):=by
  refine pC (y:=.const .nilFunc) hx rfl (fun w=>by simp [eqGuard]) (fun w=>?_)
  simp only [binOp]
  simp [Op.equal,Op.maxDepth,run_fnil_f w 9999 f xs ys hp.h]
end
theorem made_ty:FuncTy Tryz.prog 160:=⟨_,_,_,Tryz.underlying160⟩
def FlatR (g:Hd→Int→Hd) (d:Nat) (r:List PF) (v:Value) (V':aD):Prop:=(r=[]∧v=.tuple #[lnV lnZ,.bool false])∨(r≠[]∧∃ y,v=.tuple #[lnV y,.bool true]∧aT V' y∧y.n=fM g d r)
theorem roots_len (l:List PN):(lT l).length≤l.length:=by
  have:=oD (jS 0 l)
  rw [xK] at this;exact this
theorem roots_all {p:Hd→PKs→Prop} {l:List PN} (h:∀ x∈l,cB p x):∀ f∈lT l,cB p f.1:=fun f hf=>h _ (sI (iJ hf))
theorem map_n {p:PN→Prop} {xs:List LN} (h:∀ x∈xs,p x.n):∀ y∈xs.map LN.n,p y:=fun y hy=>by
  obtain⟨x,hx,rfl⟩:=List.mem_map.1 hy
  exact h x hx
attribute [local irreducible] AtQ GoC GoL GoW QO QP Fn RV bL aG VLe bR bK
theorem FlatF_c {g:Hd→Int→Hd} {f:FuncId} {cs fs:List Value} (he:jV Tryz.prog f) {V:aD} (hg:MadeBy g f cs fs V) (A:Option Addr) (n c:Nat) (xs:List LN) (h:dR V A n xs) (hn:n≤10) (hsm:∀ x∈xs,cB eA x.n) (d:Nat) (hd:∀ x∈xs,Deep d x.n):Fn Tryz.prog 99 [.slice A n c,.func (.func f) fs.toArray cs.toArray] V (FlatR g d (lT (xs.map LN.n))):=by
  have hl:=h.1.1
  have hR:=Roots_c V A n c xs h (by omega)
  have hrl:=roots_len (xs.map LN.n)
  rw [List.length_map,hl] at hrl
  have hrd:=roots_deep (map_n hd)
  have hra:=roots_all (map_n hsm)
  generalize lT (xs.map LN.n)=r at *
  (refine aI Tryz.func99 rfl Tryz.ntmps99 rfl ?_;intro w0)
  repeat' (first|(refine aE ?_;first|(refine aC ?_;(refine aS rfl ⟨Tryz.call203⟩ rfl rfl (hR) ?_;rintro v V1 hV1 ⟨A1,n1,c1,gs,rfl,hG,hc1,rfl⟩;have hgl:=hG.1.1;rw [List.length_map,hgl] at hrl))|(refine cN ?_;refine aO (q_fnil_f made_ty rfl) ?_)|refine st9 ?_|(refine al9 ?_;intro γ)|refine pu9 ?_)|refine cX ?_|(refine aA rfl ?_ ?_<;>intro hq<;>try exact no9))
  · (refine bB Tryz.results99 (aW agg_70 rfl bA (by exact rfl)) (aB rfl) ?_)
    obtain rfl:gs=[]:=List.eq_nil_of_length_eq_zero (by omega)
    exact .inl ⟨rfl,rfl⟩
  · have hM:=MFlat_c he hg d V1 hV1 A1 n1 c1 gs hG (by omega) (by omega) hrd hra
    repeat' (first|(refine aE ?_;first|(refine aC ?_;(refine aS rfl ⟨Tryz.call205⟩ rfl rfl (hM) ?_;rintro v V2 hV2 ⟨y,rfl,hyN,hyn⟩))|refine st9 ?_|refine pu9 ?_)|refine gx9 ?_|fail)
    all_goals
      (refine bB Tryz.results99 (aW agg_70 rfl bA (by exact rfl)) (aB rfl) ?_)
      refine .inr ⟨?_,y,rfl,hyN,hyn⟩
      intro e
      have:=congrArg List.length e
      rw [List.length_map,hgl] at this
      simp at this;omega
end
section
def InR (x:LN) (r:Option PN) (v:Value) (V':aD):Prop:=∃ y:LN,v=.tuple #[lnV y,bK (movF r)]∧Nok y∧aT V' y∧y.h=(r.getD pnZ).h
attribute [local irreducible] AtQ GoC GoL GoW QO QP Fn RV bL aG VLe bR bK
theorem InsideK_c (V:aD) (M:LM) (hM:nC V M) (x:LN) (hx:aT V x) (hk:Nok x) (hat:x.h.attrs.length≤100000):Fn Tryz.prog 101 [lmV M,lnV x] V (InR x (cS false M.us M.gs x.n)):=by
  cases h1:kE M.us x.h.user with
  | none =>
    have hm:=qU (out:=false) (us:=M.us) (gs:=M.gs) (n:=x.n) h1
    have c1:=fun V' (hV:VLe V V')=>(by have h:=kJ V' M.A M.n M.c M.us (hM.le hV).1 hM.2.1 x.h.user;rw [h1] at h;exact h:Fn Tryz.prog 206 [.slice M.A M.n M.c,.int .i64 x.h.user] V' fun v _=>v=.tuple #[.int .i64 0,.bool false])
    have c2:=fun V' (hV:VLe V V')=>kJ V' M.B M.m M.e M.gs (hM.le hV).2.2.1 hM.2.2.2 x.h.group
    rw [hm]
    (refine aI Tryz.func101 rfl Tryz.ntmps101 rfl ?_;intro w0)
    repeat' (first|(refine aE ?_;first|(refine aC ?_;(first|refine aP rfl (aK ⟨Tryz.call206⟩ rfl (c1 _ vl9)) ?_|refine aP rfl (aK ⟨Tryz.call206⟩ rfl (c2 _ vl9)) ?_|(refine aS rfl ⟨Tryz.call54⟩ rfl rfl (Own0_c _ x (hx.le vl9) hk hat) ?_;rintro v V2 hV2 ⟨y,rfl,hyh,hyk,hyN⟩)))|refine st9 ?_|(refine al9 ?_;intro γ)|refine pu9 ?_)|refine cX ?_|fail)
    all_goals (refine bB Tryz.results101 (aW agg_70 rfl bA (by exact rfl)) (aB rfl) ?_)
    all_goals exact⟨lnZ,by rw [←cU (e:=11) (by decide)];rfl,⟨rfl,rfl,rfl,rfl⟩,aT.zero,rfl⟩
  | some u =>
    have c1:=fun V' (hV:VLe V V')=>(by have h:=kJ V' M.A M.n M.c M.us (hM.le hV).1 hM.2.1 x.h.user;rw [h1] at h;exact h:Fn Tryz.prog 206 [.slice M.A M.n M.c,.int .i64 x.h.user] V' fun v _=>v=.tuple #[.int .i64 u,.bool true])
    cases h2:kE M.gs x.h.group with
    | none =>
      have hm:=qH (out:=false) (us:=M.us) (gs:=M.gs) (n:=x.n) h2
      have c2:=fun V' (hV:VLe V V')=>(by have h:=kJ V' M.B M.m M.e M.gs (hM.le hV).2.2.1 hM.2.2.2 x.h.group;rw [h2] at h;exact h:Fn Tryz.prog 206 [.slice M.B M.m M.e,.int .i64 x.h.group] V' fun v _=>v=.tuple #[.int .i64 0,.bool false])
      rw [hm]
      (refine aI Tryz.func101 rfl Tryz.ntmps101 rfl ?_;intro w0)
      repeat' (first|(refine aE ?_;first|(refine aC ?_;(first|refine aP rfl (aK ⟨Tryz.call206⟩ rfl (c1 _ vl9)) ?_|refine aP rfl (aK ⟨Tryz.call206⟩ rfl (c2 _ vl9)) ?_|(refine aS rfl ⟨Tryz.call54⟩ rfl rfl (Own0_c _ x (hx.le vl9) hk hat) ?_;rintro v V2 hV2 ⟨y,rfl,hyh,hyk,hyN⟩)))|refine st9 ?_|(refine al9 ?_;intro γ)|refine pu9 ?_)|refine cX ?_|fail)
      all_goals (refine bB Tryz.results101 (aW agg_70 rfl bA (by exact rfl)) (aB rfl) ?_)
      all_goals exact⟨lnZ,by rw [←cU (e:=11) (by decide)];rfl,⟨rfl,rfl,rfl,rfl⟩,aT.zero,rfl⟩
    | some g =>
      have hm:=mD (out:=false) (us:=M.us) (gs:=M.gs) (n:=x.n) h1 h2
      have c2:=fun V' (hV:VLe V V')=>(by have h:=kJ V' M.B M.m M.e M.gs (hM.le hV).2.2.1 hM.2.2.2 x.h.group;rw [h2] at h;exact h:Fn Tryz.prog 206 [.slice M.B M.m M.e,.int .i64 x.h.group] V' fun v _=>v=.tuple #[.int .i64 g,.bool true])
      rw [hm]
      (refine aI Tryz.func101 rfl Tryz.ntmps101 rfl ?_;intro w0)
      repeat' (first|(refine aE ?_;first|(refine aC ?_;(first|refine aP rfl (aK ⟨Tryz.call206⟩ rfl (c1 _ vl9)) ?_|refine aP rfl (aK ⟨Tryz.call206⟩ rfl (c2 _ vl9)) ?_|(refine aS rfl ⟨Tryz.call54⟩ rfl rfl (Own0_c _ x (hx.le vl9) hk hat) ?_;rintro v V2 hV2 ⟨y,rfl,hyh,hyk,hyN⟩)))|refine st9 ?_|(refine al9 ?_;intro γ)|refine pu9 ?_)|refine cX ?_|fail)
      all_goals (refine bB Tryz.results101 (aW agg_70 rfl bA (by exact rfl)) (aB rfl) ?_)
      all_goals exact⟨{ y with h:={ y.h with user:=u,group:=g } },by rw [show movF (some _)=0 from rfl,cH];rfl,⟨hyk.K,hyk.nk,hyk.ck,hyk.ks⟩,rO (hyN.le vl9),by rw [hyh];rfl⟩
end
section
def flatB (b:BX):PN:=fM (gP b.us b.gs) 7 (lT b.ls)
theorem bI.deep {b:BX} (h:bI b):∀ x∈b.ls,Deep 7 x:=fun x hx=>by obtain⟨u,hu⟩:=h.tree x hx;exact tree_deep hu
theorem bI.roots {b:BX} (h:bI b):lT b.ls≠[]:=by
  obtain⟨n0,t,hl,hk⟩:=h.root
  rw [hl,vP hk];simp
attribute [local irreducible] AtQ GoC GoL GoW QO QP Fn RV bL aG VLe bR bK
theorem flat_made {V:aD} {p:Nat} {b:BX} {I:BI} (h:pP V p b I) {g:Nat} (hg:V ⟨g,0,none⟩=some (.pointer (some ⟨p,0,none⟩))):MadeBy (gP b.us b.gs) 100 [.pointer (some ⟨g,0,none⟩)] [] V:=by
  intro V0 hV0 x lay hx hok ha
  show Fn _ _ [lnV x,.int .i64 lay,.pointer (some ⟨g,0,none⟩)] V0 _
  obtain⟨hcM,hcC,hcq,hcl⟩:=(h.le hV0).parts
  have hg0:=dJ hV0 hg
  have hI:=fun V' (hV:VLe V0 V')=>InsideK_c V' I.M ((h.2.M.le hV0).le hV) x (hx.le hV) hok ha
  rw [h.2.us,h.2.gs] at hI
  by_cases hl:0<lay
  · (refine aI Tryz.func100 rfl Tryz.ntmps100 rfl ?_;intro w0)
    repeat' (first|(refine aE ?_;first|refine st9 ?_|(refine al9 ?_;intro γ)|refine pu9 ?_)|refine cC ?_|(refine aA rfl ?_ ?_<;>intro hq<;>try exact no9))
    all_goals try exact no9
    all_goals
      (refine aM Tryz.results100 (aW agg_70 rfl bA (by exact rfl)) ?_)
      exact⟨x,rfl,by rw [gP_low hl],hok,hx.le vl9⟩
  · (refine aI Tryz.func100 rfl Tryz.ntmps100 rfl ?_;intro w0)
    repeat' (first|(refine aE ?_;first|(refine al9 ?_;intro γ)|refine pu9 ?_)|refine cC ?_|(refine aA rfl ?_ ?_<;>intro hq<;>try exact no9))
    all_goals try exact no9
    refine dZ (fun F V' L'=>∃ (γ5 γ6:Nat) (zs:List Value) (y:LN),VLe V0 V'∧aT V' y∧Nok y∧y.h=gP b.us b.gs x.h lay∧[⟨γ6,70,lnC y⟩,⟨γ5,70,lnC lnZ⟩]=L'∧F=[(5,.pointer (some ⟨γ5,0,none⟩)),(6,.pointer (some ⟨γ6,0,none⟩))]) ?_ ?_
    · refine bX (id:=3) _ mixed (List.Sublist.refl _) ?_;refine gt9 0 ?_;refine gt9 1 ?_;refine gt9 2 ?_;refine gt9 3 ?_;refine gt9 4 ?_;(refine dL (i:=5) (j:=9) (by kernel_rfl) rfl rfl rfl rfl vl9 vl9 bP ?_ ?_<;>first|((refine aS rfl ⟨Tryz.call101⟩ rfl rfl (hI _ vl9) ?_;rintro v V2 hV2 ⟨y,rfl,hyk,hyN,hyh⟩);refine gt9 6 ?_;refine gt9 7 ?_;refine gt9 8 ?_;refine aZ (i:=9) rfl ?_;(refine cV rfl zer_70 rfl ?_;intro γ);refine aZ (i:=10) rfl ?_;refine aR rfl siz_70 rfl rfl rfl rfl bJ dP rfl ?_;refine gt9 11 ?_;refine aY (by kernel_rfl) vl9 vl9 bP ?_)|((refine cV rfl zer_70 rfl ?_;intro γ);refine aZ (i:=5) rfl ?_;(refine aS rfl ⟨Tryz.call101⟩ rfl rfl (hI _ vl9) ?_;rintro v V2 hV2 ⟨y,rfl,hyk,hyN,hyh⟩);refine gt9 6 ?_;refine gt9 7 ?_;refine gt9 8 ?_;refine aZ (i:=10) rfl ?_;refine aR rfl siz_70 rfl rfl rfl rfl bJ dP rfl ?_;refine gt9 11 ?_;refine aY (by kernel_rfl) vl9 vl9 bP ?_))
      all_goals exact dN _ ⟨_,_,[],y,hV2,hyN,hyk,by rw [hyh,hok.n];exact(if_neg hl).symm,rfl,rfl⟩ bH sp9
    rintro F V2 L' ⟨γ5,γ6,zs,y,hV2,hyN,hyk,hyh,rfl,rfl⟩
    repeat' (first|(refine aE ?_;first|refine st9 ?_|refine pu9 ?_)|refine cC ?_|fail)
    all_goals
      (refine aM Tryz.results100 (aW agg_70 rfl bA (by exact rfl)) ?_)
      exact⟨y,rfl,hyh,hyk,hyN⟩
theorem Flat_v (V:aD) (p:Nat) (b:BX) (I:BI) (hok:bI b) (h:pP V p b I):Fn Tryz.prog 31 [.pointer (some ⟨p,0,none⟩)] V (NodeR (flatB b)):=by
  (refine aI Tryz.func31 rfl Tryz.ntmps31 rfl ?_;intro w0)
  repeat' (first|(refine aE ?_;first|(refine al9 ?_;intro γ))|refine gx9 ?_|refine cW (id:=0) ?_)
  refine iU (fN.next _ _ _ _ _ (fN.here _ _ _ _)) ?_
  intro V1 hV1 hg1
  have h1:=h.le hV1
  have hm4:I.m≤4:=by rw [←h.2.len];exact hok.l4
  obtain⟨hcM,hcC,hcq,hcl⟩:=h1.parts
  have hg0:=aG.at0 hg1
  have hF:=FlatF_c (V:=V1) (g:=gP b.us b.gs) ⟨Tryz.call100⟩ (flat_made h1 hg0) I.K I.m I.e I.xs h1.2.ls (by omega) (hok.smallL h.2) 7 (fun x hx=>hok.deep _ (by rw [←h.2.eq];exact List.mem_map_of_mem (f:=LN.n) hx))
  rw [h.2.eq] at hF
  repeat' (first|(refine aE ?_;first|(refine aC ?_;(refine aS rfl ⟨Tryz.call99⟩ rfl rfl (hF) ?_;rintro v V2 hV2 (⟨hx,_⟩|⟨_,y,rfl,hyN,hyn⟩);exact absurd hx hok.roots))|refine st9 ?_|(refine al9 ?_;intro γ)|refine pu9 ?_)|refine cC ?_|fail)
  all_goals
    (refine aM Tryz.results31 (aW agg_70 rfl bA (by exact rfl)) ?_)
    exact⟨y,rfl,hyN,hyn⟩
theorem Flat_b {V:aD} {p:Nat} {b:BX} {Bs:List Box} (hok:bI b) (h:eD V p b Bs):FnB Tryz.prog 31 [.pointer (some ⟨p,0,none⟩)] V Bs fun v V' Bs'=>Bs'=Bs∧NodeR (flatB b) v V' :=
  eD.read hok h (fun v V gs hc ⟨y,h1,h2,h3⟩=>⟨y,h1,h2.off hc,h3⟩) fun V' I hV hB=>Flat_v V' p b I hok hB
end
section
def gW (wi:Bool) (us gs:List PR):Hd→Int→Hd:=fun h lay=>if wi=true∧lay=0 then ((cS false us gs (.mk h [])).getD pnZ).h else h
theorem gW_not {wi:Bool} {us gs:List PR} {h:Hd} {lay:Int} (hn:¬(wi=true∧lay=0)):gW wi us gs h lay=h:=if_neg hn
theorem gW_is {us gs:List PR} {h:Hd} {lay:Int} (h0:lay=0):gW true us gs h lay=((cS false us gs (.mk h [])).getD pnZ).h:=if_pos ⟨rfl,h0⟩
theorem walk_snoc2 {l:List PN} {ss:List ByteArray} {s:ByteArray}:cR l (ss ++ [s])=dK (cR l ss) s:=by unfold cR;rw [List.foldl_append];rfl
def MovK (x:LN) (r:Option PN) (ev:Value) (v:Value) (V':aD):Prop:=∃ y:LN,v=.tuple #[lnV y,ev]∧aT V' y∧y.n=r.getD pnZ∧(y=lnZ∨(y.K=x.K∧y.nk=x.nk∧y.ck=x.ck∧y.ks=x.ks))
theorem MovK.nok {x:LN} (hx:Nok x) {us gs:List PR} {b:Value} {v:Value} {V':aD} (h:MovK x (cS false us gs x.n) b v V'):∃ y:LN,v=.tuple #[lnV y,b]∧Nok y∧aT V' y∧y.h=((cS false us gs (.mk x.h [])).getD pnZ).h:=by
  obtain⟨y,h1,h2,h3,h4⟩:=h
  refine⟨y,h1,?_,h2,?_⟩
  · rcases h4 with rfl|⟨e1,e2,e3,e4⟩
    · exact⟨rfl,rfl,rfl,rfl⟩
    · exact⟨by rw [e1,hx.K],by rw [e2,hx.nk],by rw [e3,hx.ck],by rw [e4,hx.ks]⟩
  · rw [←hx.n,←h3];rfl
attribute [local irreducible] AtQ GoC GoL GoW QO QP Fn RV bL aG VLe bR bK
theorem MovedK_c (V:aD) (M:LM) (hM:nC V M) (x:LN) (hx:aT V x):Fn Tryz.prog 61 [lmV M,lnV x,.bool false] V (MovK x (cS false M.us M.gs x.n) (.bool (cS false M.us M.gs x.n).isSome)):=by
  cases h1:kE M.us x.h.user with
  | none =>
    have hm:=qU (out:=false) (us:=M.us) (gs:=M.gs) (n:=x.n) h1
    have c1:=fun V' (hV:VLe V V')=>(by have h:=fI V' M.A M.n M.c M.us (hM.le hV).1 x.h.user;rw [h1] at h;exact h:Fn Tryz.prog 134 [.slice M.A M.n M.c,.int .i64 x.h.user] V' fun v _=>v=.tuple #[.int .i64 0,.bool false])
    have c2:=fun V' (hV:VLe V V')=>fI V' M.B M.m M.e M.gs (hM.le hV).2.2.1 x.h.group
    rw [hm]
    (refine aI Tryz.func61 rfl Tryz.ntmps61 rfl ?_;intro w0)
    repeat' (first|(refine aE ?_;first|(refine aC ?_;(first|refine aP rfl (aK ⟨Tryz.call134⟩ rfl (c1 _ vl9)) ?_|refine aP rfl (aK ⟨Tryz.call134⟩ rfl (c2 _ vl9)) ?_))|refine st9 ?_|(refine al9 ?_;intro γ)|refine pu9 ?_)|refine cX ?_|fail)
    all_goals (refine bB Tryz.results61 (aW agg_70 rfl bA (by exact rfl)) (aB rfl) ?_)
    all_goals exact⟨lnZ,rfl,aT.zero,rfl,.inl rfl⟩
  | some u =>
    have c1:=fun V' (hV:VLe V V')=>(by have h:=fI V' M.A M.n M.c M.us (hM.le hV).1 x.h.user;rw [h1] at h;exact h:Fn Tryz.prog 134 [.slice M.A M.n M.c,.int .i64 x.h.user] V' fun v _=>v=.tuple #[.int .i64 u,.bool true])
    cases h2:kE M.gs x.h.group with
    | none =>
      have hm:=qH (out:=false) (us:=M.us) (gs:=M.gs) (n:=x.n) h2
      have c2:=fun V' (hV:VLe V V')=>(by have h:=fI V' M.B M.m M.e M.gs (hM.le hV).2.2.1 x.h.group;rw [h2] at h;exact h:Fn Tryz.prog 134 [.slice M.B M.m M.e,.int .i64 x.h.group] V' fun v _=>v=.tuple #[.int .i64 0,.bool false])
      rw [hm]
      (refine aI Tryz.func61 rfl Tryz.ntmps61 rfl ?_;intro w0)
      repeat' (first|(refine aE ?_;first|(refine aC ?_;(first|refine aP rfl (aK ⟨Tryz.call134⟩ rfl (c1 _ vl9)) ?_|refine aP rfl (aK ⟨Tryz.call134⟩ rfl (c2 _ vl9)) ?_))|refine st9 ?_|(refine al9 ?_;intro γ)|refine pu9 ?_)|refine cX ?_|fail)
      all_goals (refine bB Tryz.results61 (aW agg_70 rfl bA (by exact rfl)) (aB rfl) ?_)
      all_goals exact⟨lnZ,rfl,aT.zero,rfl,.inl rfl⟩
    | some g =>
      have hm:=mD (out:=false) (us:=M.us) (gs:=M.gs) (n:=x.n) h1 h2
      have c2:=fun V' (hV:VLe V V')=>(by have h:=fI V' M.B M.m M.e M.gs (hM.le hV).2.2.1 x.h.group;rw [h2] at h;exact h:Fn Tryz.prog 134 [.slice M.B M.m M.e,.int .i64 x.h.group] V' fun v _=>v=.tuple #[.int .i64 g,.bool true])
      rw [hm]
      (refine aI Tryz.func61 rfl Tryz.ntmps61 rfl ?_;intro w0)
      repeat' (first|(refine aE ?_;first|(refine aC ?_;(first|refine aP rfl (aK ⟨Tryz.call134⟩ rfl (c1 _ vl9)) ?_|refine aP rfl (aK ⟨Tryz.call134⟩ rfl (c2 _ vl9)) ?_))|refine st9 ?_|(refine al9 ?_;intro γ)|refine pu9 ?_)|refine cX ?_|fail)
      all_goals (refine bB Tryz.results61 (aW agg_70 rfl bA (by exact rfl)) (aB rfl) ?_)
      all_goals exact⟨{ x with h:={ x.h with user:=u,group:=g } },rfl,rO (hx.le vl9),rfl,.inr ⟨rfl,rfl,rfl,rfl⟩⟩
theorem RFlat_c (V:aD) (A:Option Addr) (n c:Nat) (xs:List LN) (h:dR V A n xs) (hn:n≤10) (hsm:∀ x∈xs,cB eA x.n) (M:LM) (hM:nC V M) (wi:Bool):∀ (d:Nat) (V0:aD),VLe V V0→∀ (B:Option Addr) (m e:Nat) (ss:List ByteArray),cL V0 B m ss→m≤e→m+d≤1000→(∀ f∈cR (xs.map LN.n) ss,Deep d f.1)→Fn Tryz.prog 197 [.slice A n c,.slice B m e,lmV M,.bool wi] V0 (FlatR (gW wi M.us M.gs) d (cR (xs.map LN.n) ss)):=by
  have hl:=h.1.1
  intro d
  induction d with
  | zero =>
    intro V0 hV0 B m e ss hs hme hmd hd
    have hr:cR (xs.map LN.n) ss=[]:=by
      cases hw:cR (xs.map LN.n) ss with
      | nil=>rfl
      | cons f t=>exact(hd f (by rw [hw];simp)).zero.elim
    have hL:=RLook_c V0 A n c xs (h.le hV0) (by omega) B m e ss hs
    rw [hr] at hL ⊢
    (refine aI Tryz.func197 rfl Tryz.ntmps197 rfl ?_;intro w0)
    repeat' (first|(refine aE ?_;first|(refine aC ?_;(refine aS rfl ⟨Tryz.call241⟩ rfl rfl (hL) ?_;rintro v V1 hV1 (⟨_,rfl⟩|⟨_,_,_,hx,_⟩);rotate_left;cases hx))|refine st9 ?_|(refine al9 ?_;intro γ)|refine pu9 ?_)|refine cX ?_|fail)
    all_goals (refine bB Tryz.results197 (aW agg_70 rfl bA (by exact rfl)) (aB rfl) ?_)
    exact .inl ⟨rfl,rfl⟩
  | succ d ih =>
    intro V0 hV0 B m e ss hs hme hmd hd
    have hL:=RLook_c V0 A n c xs (h.le hV0) (by omega) B m e ss hs
    have hsl:=hs.1.1
    rcases hw:cR (xs.map LN.n) ss with _|⟨f0,t0⟩
    · rw [hw] at hL
      (refine aI Tryz.func197 rfl Tryz.ntmps197 rfl ?_;intro w0)
      repeat' (first|(refine aE ?_;first|(refine aC ?_;(refine aS rfl ⟨Tryz.call241⟩ rfl rfl (hL) ?_;rintro v V1 hV1 (⟨_,rfl⟩|⟨_,_,_,hx,_⟩);rotate_left;cases hx))|refine st9 ?_|(refine al9 ?_;intro γ)|refine pu9 ?_)|refine cX ?_|fail)
      all_goals (refine bB Tryz.results197 (aW agg_70 rfl bA (by exact rfl)) (aB rfl) ?_)
      exact .inl ⟨rfl,rfl⟩
    · have hall:=iE (p:=eA) (map_n hsm) ss
      have hnl:(dM (cR (xs.map LN.n) ss)).length≤1000000:=by
        have h1:=yI hall
        have h2:=mN (xs.map LN.n) ss
        rw [List.length_map,hl] at h2
        omega
      have hLi:=fun V' (hV:VLe V0 V')=>RList_c V' A n c xs (h.le (hV0.trans hV)) (by omega) B m e ss (hs.le hV) (by omega) hnl
      rw [hw] at hL hLi
      have hst:=fun nm=>walk_snoc2 (l:=xs.map LN.n) (ss:=ss) (s:=nm)
      rw [hw] at hst hd
      (refine aI Tryz.func197 rfl Tryz.ntmps197 rfl ?_;intro w0)
      repeat' (first|(refine aE ?_;first|(refine aC ?_;(first|(refine aS rfl ⟨Tryz.call241⟩ rfl rfl (hL) ?_;rintro v V1 hV1 (⟨hx,_⟩|⟨f,t,y,hx,rfl,hyN,hyn⟩);cases hx;cases hx)|(refine aS rfl ⟨Tryz.call175⟩ rfl rfl (hLi _ vl9) ?_;rintro v V2 hV2 ⟨A2,n2,c2,rfl,hS2,hc2⟩)))|refine st9 ?_|(refine al9 ?_;intro γ)|refine pu9 ?_)|refine jR ?_|refine fE [0,1,2,4,5,6] rfl ?_)
      rename_i g6 g8

      have hbN:aT V2 (bareL y):=bare_node (hyN.le hV2)
      have hyh:y.h=f0.1.h:=by rw [←hyn];rfl
      have hkl:=uE (f0 :: t0)
      have hM2:=hM.le (hV0.trans (hV1.trans hV2))
      refine oJ (fun F V' L'=>∃ z:LN,VLe V2 V'∧Nok z∧aT V' z∧z.h=gW wi M.us M.gs { f0.1.h with opq:=false } f0.2∧[⟨γ,70,lnC z⟩,⟨g8,70,lnC lnZ⟩,⟨g6,24,[.slice M.A M.n M.c,.slice M.B M.m M.e]⟩]=L'∧F=[(0,.slice A n c),(1,.slice B m e),(3,.bool wi),(6,.pointer (some ⟨g6,0,none⟩)),(8,.pointer (some ⟨g8,0,none⟩)),(10,.pointer (some ⟨γ,0,none⟩)),(13,.slice A2 n2 c2)]) ?_ ?_
      · have hMv:=MovedK_c V2 M hM2 (bareL y) hbN
        cases wi
        · repeat' (first|(refine aE ?_;refine pu9 ?_)|refine cX ?_|fail)
          all_goals exact eX _ ⟨bareL y,VLe.refl _,⟨rfl,rfl,rfl,rfl⟩,hbN,by rw [gW_not (by simp),←hyh],rfl,rfl⟩ bH sl9
        · repeat' (first|(refine aE ?_;first|(refine aC ?_;(refine aS rfl ⟨Tryz.call61⟩ rfl rfl (hMv) ?_;rintro v V3 hV3 hmk;obtain⟨z,rfl,hzk,hzN,hzh⟩:=hmk.nok ⟨rfl,rfl,rfl,rfl⟩))|refine st9 ?_|refine pu9 ?_)|refine cC ?_|(refine aA rfl ?_ ?_<;>intro hq<;>try exact no9))
          · exact eX _ ⟨z,hV3,hzk,hzN,by rw [gW_is hq,hzh,←hyh],rfl,rfl⟩ bH sl9
          · exact eX _ ⟨bareL y,VLe.refl _,⟨rfl,rfl,rfl,rfl⟩,hbN,by rw [gW_not (by rintro ⟨_,h0⟩;exact hq h0),←hyh],rfl,rfl⟩ bH sl9
      · rintro F V3 L' ⟨z,hV3,hzk,hzN,hzg,rfl,rfl⟩
        repeat' (first|(refine aE ?_;refine pu9 ?_)|refine bY ?_|fail)
        obtain⟨zh,zA,zn,zc,zK,znk,zck,zks⟩:=z
        obtain⟨hz1,hz2,hz3,hz4⟩:=hzk
        simp only at hz1 hz2 hz3 hz4 hzg
        subst hz1 hz2 hz3 hz4
        have hV13:=hV1.trans (hV2.trans hV3)
        have hS3:=hS2.le hV3
        have hll:=hS3.1.1
        rw [hw] at hnl
        have hn26:n2≤1000000:=by rw [←hll];exact Nat.le_trans hkl hnl
        obtain⟨hza,hzca,hzd,_,_,_,_⟩:=hzN.inv
        refine bN (fun F V' L' m'=>∃ (k:Nat) (acc:List LK) (A':Option Addr) (c':Nat) (LA:List Box),VLe V3 V'∧LA ++ [⟨γ,70,[.int .i64 zh.kind,.int .i64 zh.mode,.int .i64 zh.user,.int .i64 zh.group,.bool zh.opq,.slice zA zn zc,.string zh.data,.slice A' k c']⟩,⟨g8,70,lnC lnZ⟩,⟨g6,24,[.slice M.A M.n M.c,.slice M.B M.m M.e]⟩]=L'∧k≤n2∧cO A' k c' 156 9 (acc.flatMap lkC) LA∧acc.length=k∧acc.map kz=((jM (f0 :: t0)).take k).map (fun nm=>(nm,fM (gW wi M.us M.gs) d (dK (f0 :: t0) nm)))∧(∀ e∈acc,e.nm.size≤maxLen∧aT V' e.x)∧m'=n2 - k∧F=[(0,.slice A n c),(1,.slice B m e),(3,.bool wi),(6,.pointer (some ⟨g6,0,none⟩)),(8,.pointer (some ⟨g8,0,none⟩)),(10,.pointer (some ⟨γ,0,none⟩)),(13,.slice A2 n2 c2),(14,.int .i64 (k:Int))]) (m:=n2) ⟨0,[],none,0,[],VLe.refl _,rfl,Nat.zero_le _,cO.nil,rfl,rfl,by simp,by omega,rfl⟩ bH rfl sl9 ?_
        rintro F V9 L' m' ⟨k,acc,A',c',LA,hV9,rfl,hkn,hr,hal,hak,haN,rfl,rfl⟩
        have h0V:=hV13.trans hV9
        by_cases hlt:k<n2
        · obtain⟨b6,o6,nm,hA2,hx6,hc6,hms⟩:=(hS3.le hV9).at_ hlt
          have hmem:=List.mem_of_getElem? hx6
          have hpos:=(qQ.1 hmem).2
          have hss0:=hs.le h0V
          have hss:eL V9 1 B m (ss.map Value.string):=by rw [←nV];exact hss0.1.cells (fun _=>rfl)
          have hih:∀ V6,VLe V9 V6→∀ (A6:Option Addr) (m6 c6:Nat),eL V6 1 A6 m6 ((ss.map Value.string) ++ [Value.string nm])→m6=0+m+1→m6≤c6→Fn Tryz.prog 197 [.slice A n c,.slice A6 m6 c6,lmV M,.bool wi] V6 fun v V2=>∃ y:LN,v=.tuple #[lnV y,.bool true]∧aT V2 y∧y.n=fM (gW wi M.us M.gs) d (dK (f0 :: t0) nm):=fun V6 hV6 A6 m6 c6 hc hm6 h6=>by
            subst hm6
            have hdp:cL V6 A6 (0+m+1) (ss ++ [nm]):=cL.of (by rw [List.map_append];exact hc) (by simp [hsl]) (by unfold maxLen;omega) fun s hs'=>by
              rcases List.mem_append.1 hs' with h1|h1
              · exact hs.2 s h1
              · rw [List.mem_singleton.1 h1];exact hms
            have h9:=ih V6 ((hV0.trans h0V).trans hV6) A6 (0+m+1) c6 _ hdp h6 (by omega) (by rw [hst];exact vU hd)
            rw [hst] at h9
            refine h9.mono fun v V7 hV7 hh=>?_
            rcases hh with ⟨hx,_⟩|⟨_,hh⟩
            · rw [hx] at hpos;exact absurd rfl hpos
            · exact hh
          clear ih hL hLi
          repeat' (first|(refine aE ?_;refine pu9 ?_)|refine bY ?_|(refine aA rfl ?_ ?_<;>intro hq<;>try exact no9))
          refine dZ (fun F V' L'=>∃ (g15:Nat) (y:LN),VLe V9 V'∧aT V' y∧y.n=fM (gW wi M.us M.gs) d (dK (f0 :: t0) nm)∧⟨g15,70,lnC y⟩ :: (LA ++ [⟨γ,70,[.int .i64 zh.kind,.int .i64 zh.mode,.int .i64 zh.user,.int .i64 zh.group,.bool zh.opq,.slice zA zn zc,.string zh.data,.slice A' k c']⟩,⟨g8,70,lnC lnZ⟩,⟨g6,24,[.slice M.A M.n M.c,.slice M.B M.m M.e]⟩])=L'∧F=[(0,.slice A n c),(1,.slice B m e),(3,.bool wi),(6,.pointer (some ⟨g6,0,none⟩)),(8,.pointer (some ⟨g8,0,none⟩)),(10,.pointer (some ⟨γ,0,none⟩)),(13,.slice A2 n2 c2),(14,.int .i64 (k:Int)),(15,.pointer (some ⟨g15,0,none⟩))]) ?_ ?_
          · refine bX (id:=12) _ mixed (List.Sublist.refl _) ?_;refine gt9 0 ?_;refine gt9 1 ?_;refine gt9 3 ?_;refine gt9 4 ?_;refine fL 5 rfl rfl (bF und_47 siz_9 rfl hA2 rfl hlt) ?_;refine gt9 6 ?_;refine gt9 9 ?_;refine gt9 10 ?_;(refine gh_three (i1:=2) (i2:=7) (i3:=15) (by kernel_rfl) rfl rfl rfl rfl rfl rfl vl9 vl9 bP ?_ ?_ ?_<;>first|((refine aQ rfl und_47 inf_9 rfl rfl rfl cO.nil dO (fY hss) bJ (by omega) rfl rfl ?_;intro A3 c3 L3 hr3);(refine dL (i:=7) (j:=15) (by kernel_rfl) rfl rfl rfl rfl vl9 vl9 bP ?_ ?_<;>first|((refine aN rfl und_47 siz_9 zec_9 rfl rfl rfl rfl rfl rfl rfl ?_;intro γ);(refine dL (i:=8) (j:=15) (by kernel_rfl) rfl rfl rfl rfl vl9 vl9 bP ?_ ?_<;>first|((refine aQ rfl und_47 inf_9 rfl rfl rfl hr3 aV (cY bA rfl) bJ (by omega) rfl rfl ?_;intro A4 c4 L4 hr4;have hcap4:=hr4.cap;refine kG rfl hr4 aV ?_;intro V4 hV4 hc4;have hih4:=hih V4 hV4 A4 _ c4 hc4 rfl hcap4);(refine dL (i:=11) (j:=15) (by kernel_rfl) rfl rfl rfl rfl vl9 vl9 bP ?_ ?_<;>first|((refine aS rfl ⟨Tryz.call197⟩ rfl rfl (hih4) ?_;rintro v V5 hV5 ⟨y,rfl,hyN,hyn⟩);refine gt9 12 ?_;refine gt9 13 ?_;refine gt9 14 ?_;refine aZ (i:=15) rfl ?_;(refine cV rfl zer_70 rfl ?_;intro γ);refine aZ (i:=16) rfl ?_;refine aR rfl siz_70 rfl rfl rfl rfl bJ dP rfl ?_;refine gt9 17 ?_;refine aY (by kernel_rfl) vl9 vl9 bP ?_)|((refine cV rfl zer_70 rfl ?_;intro γ);refine aZ (i:=11) rfl ?_;(refine aS rfl ⟨Tryz.call197⟩ rfl rfl (hih4) ?_;rintro v V5 hV5 ⟨y,rfl,hyN,hyn⟩);refine gt9 12 ?_;refine gt9 13 ?_;refine gt9 14 ?_;refine aZ (i:=16) rfl ?_;refine aR rfl siz_70 rfl rfl rfl rfl bJ dP rfl ?_;refine gt9 17 ?_;refine aY (by kernel_rfl) vl9 vl9 bP ?_)))|((refine cV rfl zer_70 rfl ?_;intro γ);refine aZ (i:=8) rfl ?_;(refine aQ rfl und_47 inf_9 rfl rfl rfl hr3 aV (cY bA rfl) bJ (by omega) rfl rfl ?_;intro A4 c4 L4 hr4;have hcap4:=hr4.cap;refine kG rfl hr4 aV ?_;intro V4 hV4 hc4;have hih4:=hih V4 hV4 A4 _ c4 hc4 rfl hcap4);refine aZ (i:=11) rfl ?_;(refine aS rfl ⟨Tryz.call197⟩ rfl rfl (hih4) ?_;rintro v V5 hV5 ⟨y,rfl,hyN,hyn⟩);refine gt9 12 ?_;refine gt9 13 ?_;refine gt9 14 ?_;refine aZ (i:=16) rfl ?_;refine aR rfl siz_70 rfl rfl rfl rfl bJ dP rfl ?_;refine gt9 17 ?_;refine aY (by kernel_rfl) vl9 vl9 bP ?_)))|((refine cV rfl zer_70 rfl ?_;intro γ);refine aZ (i:=7) rfl ?_;(refine aN rfl und_47 siz_9 zec_9 rfl rfl rfl rfl rfl rfl rfl ?_;intro γ);refine aZ (i:=8) rfl ?_;(refine aQ rfl und_47 inf_9 rfl rfl rfl hr3 aV (cY bA rfl) bJ (by omega) rfl rfl ?_;intro A4 c4 L4 hr4;have hcap4:=hr4.cap;refine kG rfl hr4 aV ?_;intro V4 hV4 hc4;have hih4:=hih V4 hV4 A4 _ c4 hc4 rfl hcap4);refine aZ (i:=11) rfl ?_;(refine aS rfl ⟨Tryz.call197⟩ rfl rfl (hih4) ?_;rintro v V5 hV5 ⟨y,rfl,hyN,hyn⟩);refine gt9 12 ?_;refine gt9 13 ?_;refine gt9 14 ?_;refine aZ (i:=16) rfl ?_;refine aR rfl siz_70 rfl rfl rfl rfl bJ dP rfl ?_;refine gt9 17 ?_;refine aY (by kernel_rfl) vl9 vl9 bP ?_)))|((refine aN rfl und_47 siz_9 zec_9 rfl rfl rfl rfl rfl rfl rfl ?_;intro γ);(refine dL (i:=2) (j:=15) (by kernel_rfl) rfl rfl rfl rfl vl9 vl9 bP ?_ ?_<;>first|((refine aQ rfl und_47 inf_9 rfl rfl rfl cO.nil dO (fY hss) bJ (by omega) rfl rfl ?_;intro A3 c3 L3 hr3);(refine dL (i:=8) (j:=15) (by kernel_rfl) rfl rfl rfl rfl vl9 vl9 bP ?_ ?_<;>first|((refine aQ rfl und_47 inf_9 rfl rfl rfl hr3 aV (cY bA rfl) bJ (by omega) rfl rfl ?_;intro A4 c4 L4 hr4;have hcap4:=hr4.cap;refine kG rfl hr4 aV ?_;intro V4 hV4 hc4;have hih4:=hih V4 hV4 A4 _ c4 hc4 rfl hcap4);(refine dL (i:=11) (j:=15) (by kernel_rfl) rfl rfl rfl rfl vl9 vl9 bP ?_ ?_<;>first|((refine aS rfl ⟨Tryz.call197⟩ rfl rfl (hih4) ?_;rintro v V5 hV5 ⟨y,rfl,hyN,hyn⟩);refine gt9 12 ?_;refine gt9 13 ?_;refine gt9 14 ?_;refine aZ (i:=15) rfl ?_;(refine cV rfl zer_70 rfl ?_;intro γ);refine aZ (i:=16) rfl ?_;refine aR rfl siz_70 rfl rfl rfl rfl bJ dP rfl ?_;refine gt9 17 ?_;refine aY (by kernel_rfl) vl9 vl9 bP ?_)|((refine cV rfl zer_70 rfl ?_;intro γ);refine aZ (i:=11) rfl ?_;(refine aS rfl ⟨Tryz.call197⟩ rfl rfl (hih4) ?_;rintro v V5 hV5 ⟨y,rfl,hyN,hyn⟩);refine gt9 12 ?_;refine gt9 13 ?_;refine gt9 14 ?_;refine aZ (i:=16) rfl ?_;refine aR rfl siz_70 rfl rfl rfl rfl bJ dP rfl ?_;refine gt9 17 ?_;refine aY (by kernel_rfl) vl9 vl9 bP ?_)))|((refine cV rfl zer_70 rfl ?_;intro γ);refine aZ (i:=8) rfl ?_;(refine aQ rfl und_47 inf_9 rfl rfl rfl hr3 aV (cY bA rfl) bJ (by omega) rfl rfl ?_;intro A4 c4 L4 hr4;have hcap4:=hr4.cap;refine kG rfl hr4 aV ?_;intro V4 hV4 hc4;have hih4:=hih V4 hV4 A4 _ c4 hc4 rfl hcap4);refine aZ (i:=11) rfl ?_;(refine aS rfl ⟨Tryz.call197⟩ rfl rfl (hih4) ?_;rintro v V5 hV5 ⟨y,rfl,hyN,hyn⟩);refine gt9 12 ?_;refine gt9 13 ?_;refine gt9 14 ?_;refine aZ (i:=16) rfl ?_;refine aR rfl siz_70 rfl rfl rfl rfl bJ dP rfl ?_;refine gt9 17 ?_;refine aY (by kernel_rfl) vl9 vl9 bP ?_)))|((refine cV rfl zer_70 rfl ?_;intro γ);refine aZ (i:=2) rfl ?_;(refine aQ rfl und_47 inf_9 rfl rfl rfl cO.nil dO (fY hss) bJ (by omega) rfl rfl ?_;intro A3 c3 L3 hr3);refine aZ (i:=8) rfl ?_;(refine aQ rfl und_47 inf_9 rfl rfl rfl hr3 aV (cY bA rfl) bJ (by omega) rfl rfl ?_;intro A4 c4 L4 hr4;have hcap4:=hr4.cap;refine kG rfl hr4 aV ?_;intro V4 hV4 hc4;have hih4:=hih V4 hV4 A4 _ c4 hc4 rfl hcap4);refine aZ (i:=11) rfl ?_;(refine aS rfl ⟨Tryz.call197⟩ rfl rfl (hih4) ?_;rintro v V5 hV5 ⟨y,rfl,hyN,hyn⟩);refine gt9 12 ?_;refine gt9 13 ?_;refine gt9 14 ?_;refine aZ (i:=16) rfl ?_;refine aR rfl siz_70 rfl rfl rfl rfl bJ dP rfl ?_;refine gt9 17 ?_;refine aY (by kernel_rfl) vl9 vl9 bP ?_)))|((refine cV rfl zer_70 rfl ?_;intro γ);(refine dL (i:=2) (j:=7) (by kernel_rfl) rfl rfl rfl rfl vl9 vl9 bP ?_ ?_<;>first|((refine aQ rfl und_47 inf_9 rfl rfl rfl cO.nil dO (fY hss) bJ (by omega) rfl rfl ?_;intro A3 c3 L3 hr3);refine aZ (i:=7) rfl ?_;(refine aN rfl und_47 siz_9 zec_9 rfl rfl rfl rfl rfl rfl rfl ?_;intro γ);refine aZ (i:=8) rfl ?_;(refine aQ rfl und_47 inf_9 rfl rfl rfl hr3 aV (cY bA rfl) bJ (by omega) rfl rfl ?_;intro A4 c4 L4 hr4;have hcap4:=hr4.cap;refine kG rfl hr4 aV ?_;intro V4 hV4 hc4;have hih4:=hih V4 hV4 A4 _ c4 hc4 rfl hcap4);refine aZ (i:=11) rfl ?_;(refine aS rfl ⟨Tryz.call197⟩ rfl rfl (hih4) ?_;rintro v V5 hV5 ⟨y,rfl,hyN,hyn⟩);refine gt9 12 ?_;refine gt9 13 ?_;refine gt9 14 ?_;refine aZ (i:=16) rfl ?_;refine aR rfl siz_70 rfl rfl rfl rfl bJ dP rfl ?_;refine gt9 17 ?_;refine aY (by kernel_rfl) vl9 vl9 bP ?_)|((refine aN rfl und_47 siz_9 zec_9 rfl rfl rfl rfl rfl rfl rfl ?_;intro γ);refine aZ (i:=2) rfl ?_;(refine aQ rfl und_47 inf_9 rfl rfl rfl cO.nil dO (fY hss) bJ (by omega) rfl rfl ?_;intro A3 c3 L3 hr3);refine aZ (i:=8) rfl ?_;(refine aQ rfl und_47 inf_9 rfl rfl rfl hr3 aV (cY bA rfl) bJ (by omega) rfl rfl ?_;intro A4 c4 L4 hr4;have hcap4:=hr4.cap;refine kG rfl hr4 aV ?_;intro V4 hV4 hc4;have hih4:=hih V4 hV4 A4 _ c4 hc4 rfl hcap4);refine aZ (i:=11) rfl ?_;(refine aS rfl ⟨Tryz.call197⟩ rfl rfl (hih4) ?_;rintro v V5 hV5 ⟨y,rfl,hyN,hyn⟩);refine gt9 12 ?_;refine gt9 13 ?_;refine gt9 14 ?_;refine aZ (i:=16) rfl ?_;refine aR rfl siz_70 rfl rfl rfl rfl bJ dP rfl ?_;refine gt9 17 ?_;refine aY (by kernel_rfl) vl9 vl9 bP ?_))))
            all_goals exact dN _ ⟨_,y,hV4.trans hV5,hyN,hyn,rfl,rfl⟩ bH sp9
          · rintro F V10 L' ⟨g15,y,hV10,hyN,hyn,rfl,rfl⟩
            have ho1:=ones_k9 ⟨nm,y⟩
            have hc10:=dJ hV10 hc6
            repeat' (first|(refine uN ?_;(first|refine iA ?_|refine uP rfl ?_)))
            refine bX (id:=13) _ mixed (List.Sublist.cons_cons _ (List.nil_sublist _)) ?_;refine gt9 0 ?_;refine gt9 2 ?_;refine gt9 3 ?_;refine fL 4 rfl rfl (bF und_47 siz_9 rfl hA2 rfl hlt) ?_;refine gt9 5 ?_;refine gt9 6 ?_;refine gt9 7 ?_;(refine dL (i:=1) (j:=8) (by kernel_rfl) rfl rfl rfl rfl vl9 vl9 bP ?_ ?_<;>first|((first|refine aO (bC one_68 rfl bA (by exact rfl)) ?_|refine aO (bC one_68 rfl bA (by assumption)) ?_|refine aO (cD one_68 rfl (by assumption)) ?_);refine aZ (i:=8) rfl ?_;(refine aN rfl und_68 siz_156 zec_156 rfl rfl rfl rfl rfl rfl rfl ?_;intro γ);refine aZ (i:=9) rfl ?_;(refine aQ rfl und_68 inf_156 rfl rfl rfl hr aV (cY bA rfl) bJ (by omega) rfl rfl ?_;intro A8 c8 L8 hr8);refine gt9 10 ?_;refine aZ (i:=11) rfl ?_;refine aR rfl siz_68 rfl rfl rfl rfl bJ dP rfl ?_;refine aY (by kernel_rfl) vl9 vl9 bP ?_)|((refine aN rfl und_68 siz_156 zec_156 rfl rfl rfl rfl rfl rfl rfl ?_;intro γ);refine aZ (i:=1) rfl ?_;(first|refine aO (bC one_68 rfl bA (by exact rfl)) ?_|refine aO (bC one_68 rfl bA (by assumption)) ?_|refine aO (cD one_68 rfl (by assumption)) ?_);refine aZ (i:=9) rfl ?_;(refine aQ rfl und_68 inf_156 rfl rfl rfl hr aV (cY bA rfl) bJ (by omega) rfl rfl ?_;intro A8 c8 L8 hr8);refine gt9 10 ?_;refine aZ (i:=11) rfl ?_;refine aR rfl siz_68 rfl rfl rfl rfl bJ dP rfl ?_;refine aY (by kernel_rfl) vl9 vl9 bP ?_))
            all_goals
              repeat' (first|(refine aE ?_;refine pu9 ?_)|refine cC ?_|fail)
              refine aX _ (n2 - (k+1)) ⟨k+1,acc ++ [⟨nm,y⟩],A8,c8,L8,hV9.trans hV10,rfl,by omega,by rw [List.flatMap_append];exact hr8,by rw [List.length_append,hal];rfl,?_,?_,rfl,rfl⟩ (by omega) bH sl9
              · rw [List.map_append,hak,List.take_add_one,hx6,List.map_append]
                simp [kz,hyn]
              · intro e he
                rcases List.mem_append.1 he with he|he
                · exact⟨(haN e he).1,(haN e he).2.le hV10⟩
                · rw [List.mem_singleton] at he;subst he
                  exact⟨hms,hyN⟩
        · obtain rfl:k=n2:=by omega
          have hcap:=hr.cap
          refine gS hr aV ?_
          intro V8 hV8 hc8'
          have hKd:dV V8 A' k acc:=⟨eP.of_cells hc8' rK hal (by unfold maxLen;omega),fun e he=>⟨(haN e he).1,(haN e he).2.le hV8⟩⟩
          repeat' (first|(refine aE ?_;first|refine st9 ?_|refine pu9 ?_)|refine dT ?_|(refine aA rfl ?_ ?_<;>intro hq<;>try exact no9))
          all_goals try exact no9
          all_goals
            (refine bB Tryz.results197 (aW agg_70 rfl bA (by exact rfl)) (aB rfl) ?_)
            refine .inr ⟨by simp,⟨zh,zA,zn,zc,A',k,c',acc.map kz⟩,rfl,aT.of (hza.le (hV9.trans hV8)) hzca hzd hcap (dV.le (VLe.refl _) hKd) rfl,?_⟩
            have e1:((⟨zh,zA,zn,zc,A',k,c',acc.map kz⟩:LN)).n=.mk zh (acc.map kz):=rfl
            rw [e1,hak,List.take_of_length_le (by omega),hzg]
            rfl
end
section
abbrev sBox (q:Nat) (full:List UInt8) (a:Nat) (bad:Bool):Box:=⟨q,153,[.string ⟨full.toArray⟩,.int .i64 a,.bool bad]⟩
def iQ (q:Nat) (full:List UInt8) (st:Rd) (Bs:List Box):Prop:=∃ a:Nat,Bs=[sBox q full a st.bad]∧st.l=full.drop a∧a≤full.length
theorem ex_mid (l:List UInt8) (i j:Nat):(⟨l.toArray⟩:ByteArray).extract i j=⟨((l.drop i).take (j - i)).toArray⟩:=by
  rw [ba_is ((⟨l.toArray⟩:ByteArray).extract i j),Lib.toList_data]
  simp [ByteArray.data_extract]
def tH (l:List UInt8):Int:=l.foldl (fun n b=>n * 256+(b.toNat:Int)) 0
theorem numV_app (l:List UInt8) (b:UInt8):tH (l ++ [b])=tH l * 256+(b.toNat:Int):=by unfold tH;rw [List.foldl_append];rfl
theorem numV_one (st:Rd):tH (eH st 1).1=(cM st).1:=by
  unfold cM
  match h:(eH st 1).1,(uD st 1).2 with
  | [],_=>rfl
  | [b],_=>simp [tH,oneV]
  | _ :: _ :: _,h2=>simp at h2
theorem numV_two (st:Rd):tH (eH st 2).1=(fZ st).1:=by
  unfold fZ
  have h2:(eH st 2).1=[]∨(eH st 2).1.length=2:=by
    unfold eH;split
    · exact .inl rfl
    · right;simp only [List.length_take];omega
  match h:(eH st 2).1,h2 with
  | [],_=>rfl
  | [b],h2=>simp at h2
  | [a,b],_=>simp [tH,pairV]
  | _ :: _ :: _ :: _,h2=>simp at h2
theorem numV_bd:∀ {l:List UInt8},l.length≤2→0≤tH l∧tH l≤65535
  | [],_=>by simp [tH]
  | [a],_=>by have:=a.toNat_lt;simp [tH];omega
  | [a,b],_=>by have:=a.toNat_lt;have:=b.toNat_lt;simp [tH];omega
  | _ :: _ :: _ :: _,h=>by simp at h
attribute [local irreducible] AtQ GoC GoL GoW QO QP Fn RV bL aG VLe bR bK
theorem stext_c (V:aD) (q:Nat) (full:List UInt8) (st:Rd) (Bs:List Box) (h:iQ q full st Bs) (hf:full.length≤1000000) (n:Nat) (hn:n≤1000000) :
    FnB Tryz.prog 201 [.pointer (some ⟨q,0,none⟩),.int .i64 n] V Bs fun v _ Bs'=>v=.string ⟨(eH st n).1.toArray⟩∧iQ q full (eH st n).2 Bs':=by
  obtain⟨a,rfl,h1,h2⟩:=h
  have hsz:=gU full
  have hln:st.l.length=full.length - a:=by rw [h1,List.length_drop]
  (refine bD Tryz.func201 rfl Tryz.ntmps201 rfl ?_;intro w0)
  repeat' (first|(refine aE ?_;first|(refine eG ?_;(first|refine aO (q_sslice_i und_9 rfl rfl rfl (by omega) (by omega)) ?_|refine aO (q_sslice und_9 rfl rfl rfl (by omega) (by omega)) ?_|refine aO (q_sslice_i und_9 rfl rfl rfl (by omega) (by omega)) ?_))|refine st9 ?_|refine pu9 ?_)|refine cX ?_|(refine bS rfl rfl rfl ?_ ?_<;>intro hq)|(refine aA rfl ?_ ?_<;>intro hq<;>try exact no9)|refine bQ (id:=1) mixed (by kernel_rfl) ?_|refine bQ (id:=5) mixed (by kernel_rfl) ?_)
  · (refine bE Tryz.results201 (aB rfl) (List.Sublist.refl _) ?_)
    rw [wK (.inl hq)]
    exact⟨rfl,a,rfl,h1,h2⟩
  · (refine bE Tryz.results201 (aB rfl) (List.Sublist.refl _) ?_)
    rw [wK (.inr (by omega))]
    exact⟨rfl,a,rfl,h1,h2⟩
  · (refine bE Tryz.results201 (aB rfl) (List.Sublist.refl _) ?_)
    rename_i hb
    rw [takeR_yes (by rw [hb];simp;omega),ex_mid,hb,h1]
    refine⟨by rw [show ((a:Int)+n - n).toNat=a by omega,show ((a:Int)+n).toNat - a=n by omega],a+n,rfl,by rw [List.drop_drop],by omega⟩
theorem snum_c (V:aD) (q:Nat) (full:List UInt8) (st:Rd) (Bs:List Box) (h:iQ q full st Bs) (hf:full.length≤1000000) (n:Nat) (hn:n≤2) :
    FnB Tryz.prog 95 [.pointer (some ⟨q,0,none⟩),.int .i64 n] V Bs fun v _ Bs'=>v=.int .i64 (tH (eH st n).1)∧iQ q full (eH st n).2 Bs':=by
  have hT:=stext_c V q full st Bs h hf n (by omega)
  have hln:=(uD st n).2
  generalize eH st n=t at *
  have hsz:=gU t.1
  (refine bD Tryz.func95 rfl Tryz.ntmps95 rfl ?_;intro w0)
  repeat' (first|(refine aE ?_;first|(refine aC ?_;(refine aL rfl ⟨Tryz.call201⟩ rfl aV rfl (hT) ?_;rintro v V2 B2 hV2 ⟨rfl,hB2⟩))|refine pu9 ?_)|refine bY ?_|fail)
  refine bN (fun F V' L' m=>∃ (i:Nat) (S:Int),V2=V'∧B2=L'∧i≤t.1.length∧S=tH (t.1.take i)∧m=t.1.length - i∧F=[(5,.string ⟨t.1.toArray⟩),(6,.int .i64 S),(7,.int .i64 i)]) (m:=t.1.length) ⟨0,0,rfl,rfl,by omega,by simp [tH],rfl,rfl⟩ bH rfl sl9 ?_
  rintro F V' L' m ⟨i,S,rfl,rfl,hi,hS,rfl,rfl⟩
  by_cases hlt:i<t.1.length
  · obtain⟨b,hb⟩:∃ b,t.1[i]?=some b:=⟨_,List.getElem?_eq_getElem hlt⟩
    have hc:(⟨t.1.toArray⟩:ByteArray)[((i:Int)).toNat]?=some b:=by rw [Int.toNat_natCast,ba_get,mA];exact hb
    have hbl:=b.toNat_lt
    have hbd:=numV_bd (l:=t.1.take i) (by rw [List.length_take];omega)
    have hst:tH (t.1.take (i+1))=tH (t.1.take i) * 256+(b.toNat:Int):=by rw [List.take_add_one,hb,←numV_app];rfl
    repeat' (first|(refine aE ?_;first|(refine jQ ?_;refine aO (gH und_9 rfl rfl (by omega) (by assumption)) ?_)|(refine eK ?_;refine aO (sY und_5 und_3 rfl (mW (by omega))) ?_)|refine pu9 ?_)|refine bY ?_|(refine aA rfl ?_ ?_<;>intro hq<;>try exact no9))
    all_goals (refine aX _ (t.1.length - (i+1)) ⟨i+1,S * 256+(b.toNat:Int),rfl,rfl,by omega,(by rw [hst,hS]),rfl,rfl⟩ (by omega) bH sl9)
  · repeat' (first|(refine aE ?_;refine pu9 ?_)|refine dT ?_|(refine aA rfl ?_ ?_<;>intro hq<;>try exact no9))
    all_goals
      (refine bE Tryz.results95 (aB rfl) (List.Sublist.refl _) ?_)
      exact⟨by rw [hS,List.take_of_length_le (by omega)],hB2⟩
end
section
theorem iL {e:Int} {l:List Int}:dW (e :: l)=if ¬e=0 then e else dW l:=by rw [dW]
theorem cfgF_eq (x:CF) (ls:List PN):lY x ls=if ¬cE x.M.us=0 then cE x.M.us else if ¬cE x.M.gs=0 then cE x.M.gs else if ¬eT x.c.u x.c.g x.c.d x.c.xs=0 then eT x.c.u x.c.g x.c.d x.c.xs
    else if x.q<1∨64<x.q then 1 else if 3<ls.length then 2 else if ¬dW (ls.map (cP false))=0 then dW (ls.map (cP false)) else if tA x.M.us x.M.gs x.c then 11 else 0:=by
  have h1:∀ m:List Int,dW (uL x ++ m)=if ¬cE x.M.us=0 then cE x.M.us else if ¬cE x.M.gs=0 then cE x.M.gs else if ¬eT x.c.u x.c.g x.c.d x.c.xs=0 then eT x.c.u x.c.g x.c.d x.c.xs else if x.q<1∨64<x.q then 1 else dW m:=fun m=>by
    unfold uL
    show dW (cE x.M.us :: cE x.M.gs :: eT x.c.u x.c.g x.c.d x.c.xs :: ((if x.q<1∨64<x.q then [1] else []) ++ m))=_
    rw [iL,iL,iL]
    by_cases h:x.q<1∨64<x.q
    · rw [if_pos h,if_pos h,List.cons_append,iL,if_pos (show ¬(1:Int)=0 by decide)]
    · rw [if_neg h,if_neg h,List.nil_append]
  unfold lY cfgL
  by_cases h3:3<ls.length
  · rw [if_pos h3,h1,if_pos h3,iL,if_pos (show ¬(2:Int)=0 by decide)]
  · rw [if_neg h3,List.append_assoc,h1,if_neg h3,vM]
    by_cases hu:tA x.M.us x.M.gs x.c
    · rw [if_pos hu,if_pos hu,iL,if_pos (show ¬(11:Int)=0 by decide)]
    · rw [if_neg hu,if_neg hu];rfl
theorem moved_unm {us gs:List PR} {c:CR} {h:Hd} (h1:h.user=c.u) (h2:h.group=c.g):(cS true us gs (.mk h [])).isSome=!decide (tA us gs c):=by
  have e1:hz true us (PN.mk h []).h.user=eS us c.u:=by rw [PN.h_mk,h1];rfl
  have e2:hz true gs (PN.mk h []).h.group=eS gs c.g:=by rw [PN.h_mk,h2];rfl
  by_cases hu:tA us gs c
  · rw [decide_eq_true hu]
    rcases hu with hu|hu
    · rw [qU (e1.trans (Option.not_isSome_iff_eq_none.1 (by rw [hu];decide)))];rfl
    · rw [qH (e2.trans (Option.not_isSome_iff_eq_none.1 (by rw [hu];decide)))];rfl
  · rw [decide_eq_false hu]
    cases k1:eS us c.u with
    | none=>exact absurd (.inl (by rw [k1];rfl)) hu
    | some u =>
      cases k2:eS gs c.g with
      | none=>exact absurd (.inr (by rw [k2];rfl)) hu
      | some g=>rw [mD (e1.trans k1) (e2.trans k2)];rfl
theorem gW_gP {us gs:List PR} {h:Hd} {lay:Int} (hl:0≤lay):gW true us gs h lay=gP us gs h lay:=by
  by_cases h0:lay=0
  · rw [gW_is h0,h0,gP_up]
  · rw [gW_not (fun k=>h0 k.2),gP_low (by omega)]
theorem flat_gW {us gs:List PR}:∀ (d:Nat) (r:List PF),(∀ f∈r,0≤f.2)→fM (gW true us gs) d r=fM (gP us gs) d r
  | 0,_,_=>rfl
  | _+1,[],_=>rfl
  | d+1,f :: t,h=>by
    rw [fM,fM,gW_gP (h f (by simp))]
    exact congrArg (PN.mk _) (List.map_congr_left fun nm _=>by rw [flat_gW d _ (step_lay h)])
theorem take_bad {st:Rd} (h:st.bad=true) (n:Nat):(eH st n).2.bad=true:=by unfold eH;rw [if_pos (.inl h)]
theorem two_bad {st:Rd} (h:st.bad=true):(fZ st).2.bad=true:=take_bad h 2
theorem lF {st:Rd} (h:st.bad=true):(cM st).2.bad=true:=take_bad h 1
theorem nO {a b:UInt8} {r:List UInt8}:fZ ⟨a :: b :: r,false⟩=((a.toNat:Int) * 256+(b.toNat:Int),⟨r,false⟩):=by
  unfold fZ eH
  rw [if_neg (by simp)]
  rfl
theorem byte_yes {a:UInt8} {r:List UInt8}:cM ⟨a :: r,false⟩=((a.toNat:Int),⟨r,false⟩):=by
  unfold cM eH
  rw [if_neg (by simp)]
  rfl
theorem two_no {st:Rd} (h:st.l.length<2):(fZ st).2.bad=true:=by unfold fZ eH;rw [if_pos (.inr h)]
theorem byte_no {st:Rd} (h:st.l.length<1):(cM st).2.bad=true:=by unfold cM eH;rw [if_pos (.inr h)]
def hd4 (l:List UInt8):Rd:=(cM (cM (fZ (fZ ⟨l,false⟩).2).2).2).2
theorem hd4_short {l:List UInt8} (h:l.length<6):(hd4 l).bad=true:=by
  unfold hd4
  match l,h with
  | [],_=>exact lF (lF (two_bad (two_no (by simp))))
  | [_],_=>exact lF (lF (two_bad (two_no (by simp))))
  | [_,_],_=>rw [nO];exact lF (lF (two_no (by simp)))
  | [_,_,_],_=>rw [nO];exact lF (lF (two_no (by simp)))
  | [_,_,_,_],_=>rw [nO,nO];exact lF (byte_no (by simp))
  | [_,_,_,_,_],_=>rw [nO,nO,byte_yes];exact byte_no (by simp)
  | _ :: _ :: _ :: _ :: _ :: _ :: _,h=>simp only [List.length_cons] at h;omega
theorem hd4_long {l:List UInt8} (h:6≤l.length):(fZ ⟨l,false⟩).1=kL l 0∧(fZ (fZ ⟨l,false⟩).2).1=kL l 2∧(cM (fZ (fZ ⟨l,false⟩).2).2).1=at8 l 4∧(cM (cM (fZ (fZ ⟨l,false⟩).2).2).2).1=(nI l:Int)∧hd4 l=⟨l.drop 6,false⟩:=by
  unfold hd4
  match l,h with
  | a :: b :: c :: d :: e :: f :: r,_ =>
    rw [nO,nO,byte_yes,byte_yes]
    exact⟨rfl,rfl,rfl,rfl,rfl⟩
  | [],h=>simp at h
  | [_],h=>simp at h
  | [_,_],h=>simp at h
  | [_,_,_],h=>simp at h
  | [_,_,_,_],h=>simp at h
  | [_,_,_,_,_],h=>simp at h
theorem two_at {l:List UInt8} {i:Nat} (h:i+1<l.length):fZ ⟨l.drop i,false⟩=(kL l i,⟨l.drop (i+2),false⟩):=by
  have h1:l.drop i=l[i] :: l[i+1] :: l.drop (i+2):=by
    rw [List.drop_eq_getElem_cons (by omega),List.drop_eq_getElem_cons (by omega)]
  rw [h1,nO]
  unfold kL at8
  rw [List.getElem?_eq_getElem (by omega),List.getElem?_eq_getElem (by omega)]
  rfl
end
section
def RPutY (p:PN) (v:Value) (V':aD):Prop:=∃ z:LN,v=.tuple #[lnV z,.int .i64 0]∧aT V' z∧z.n=p
theorem RPutR.y {cut:Bool} {x n:PN} {l:List ByteArray} (h:pF cut x n l=0) {v:Value} {V':aD} (k:RPutR cut x n l v V'):RPutY (pN cut x n l) v V':=by
  obtain⟨z,h1,h2,h3⟩:=k
  rw [h] at h1;rw [show xL cut x n l=pN cut x n l from if_pos h] at h3
  exact⟨z,h1,h2,h3⟩
attribute [local irreducible] AtQ GoC GoL GoW QO QP Fn RV bL aG VLe bR bK
end
section
attribute [local irreducible] AtQ GoC GoL GoW QO QP Fn RV bL aG VLe bR bK
end
section
section
variable {B : Base} {N : Nat} {F : List (Nat × Value)} {V : aD} {L : List Box}
variable {d : Option Tmp} {ty : TypeId} {pos : String} {af : Array Edge} {gd : Option (Nat × Bool)}
end
abbrev spW (A:Option Addr) (n c:Nat) (is:Value) (x:LN) (lay:Value) (th par:TH):List Value:=[.slice A n c,is,.int .i64 x.h.kind,.int .i64 x.h.mode,.int .i64 x.h.user,.int .i64 x.h.group,.bool x.h.opq,.slice x.A x.na x.ca,.string x.h.data,.slice x.K x.nk x.ck,lay,.bool th.dir,.int .i64 th.mode,.int .i64 th.user,.int .i64 th.group,.bool th.mapped,.bool par.dir,.int .i64 par.mode,.int .i64 par.user,.int .i64 par.group,.bool par.mapped]
abbrev spC (A:Option Addr) (n c:Nat) (is:Bool) (x:LN) (lay:Int) (th par:TH):List Value:=spW A n c (.bool is) x (.int .i64 lay) th par
abbrev spV (A:Option Addr) (n c:Nat) (is:Bool) (x:LN) (lay:Int) (th par:TH):Value:=.agg (spC A n c is x lay th par).toArray
def RToR (A:Option Addr) (n c:Nat) (r:SP×Int) (v:Value) (V':aD):Prop:=(r.2=0∧∃ x:LN,v=.tuple #[spV A n c r.1.is x r.1.lay r.1.th r.1.par,.int .i64 0]∧aT V' x∧x.n=r.1.n)∨(¬r.2=0∧v=.tuple #[spV none 0 0 false lnZ 0 thZ thZ,.int .i64 r.2])
section
variable {A : Option Addr} {n c : Nat} {is lay v : Value} {x y : LN} {th par t : TH}
end
theorem ln_whole {y:LN}:spl [Value.int .i64 0,Value.int .i64 0,Value.int .i64 0,Value.int .i64 0,Value.bool false,Value.slice none 0 0,Value.string { data:=#[] },Value.slice none 0 0] 0 (lnC y)=lnC y:=rfl
attribute [local irreducible] AtQ GoC GoL GoW QO QP Fn RV bL aG VLe bR bK
attribute [local irreducible] FnB
end
section
def lD (V:aD) (p:Nat) (b:BX) (Bs:List Box):Prop:=∃ I:BI,Bs=[⟨p,130,bxC I b⟩]∧BoxI V b I
theorem lD.le {V V':aD} {p:Nat} {b:BX} {Bs:List Box} (h:lD V p b Bs) (hv:VLe V V'):lD V' p b Bs:=by
  obtain⟨I,h1,h2⟩:=h
  exact⟨I,h1,h2.up hv⟩
theorem lD.read {f:FuncId} {args:List Value} {V:aD} {p:Nat} {b:BX} {Bs:List Box} {R:Value→aD→Prop} (h:lD V p b Bs) (hR:∀ v V gs,pY V gs→R v V→R v (V.off gs)) (hc:∀ V' I,VLe V V'→pP V' p b I→Fn Tryz.prog f args V' R):FnB Tryz.prog f args V Bs fun v V' Bs'=>Bs'=Bs∧R v V':=fun w hs=>by
  obtain⟨I,rfl,hI⟩:=h
  have hL:Lent [(p,bxC I b)] [(⟨p,130,bxC I b⟩:Box)]:=by
    intro c hc
    simp only [List.mem_cons,List.not_mem_nil,or_false] at hc
    subst hc
    exact⟨_,_,List.mem_cons_self,List.prefix_refl _⟩
  have hcalm:∀ c∈[(p,bxC I b)],calmC c.2:=by
    intro c hc
    simp only [List.mem_cons,List.not_mem_nil,or_false] at hc
    subst hc
    exact calm_bx I b
  refine(Fn.lend hL (fun ha=>hc _ I kF ⟨oK ha (by unfold fW;simp) (fun j=>by rw [jU,if_pos ⟨rfl,rfl⟩]),hI.up kF⟩) w hs).mono fun e w' ⟨v,V',Bs',he,hst,hB,V3,g1,g2,g3,g4⟩=>?_
  exact⟨v,V',Bs',he,hst,hB,by rw [g2];exact hR v V3 _ (pY.of g4 hcalm (by simp)) g3⟩
theorem RToR.off {A:Option Addr} {n c:Nat} {r:SP×Int} {v:Value} {V:aD} {gs:List Nat} (hc:pY V gs) (h:RToR A n c r v V):RToR A n c r v (V.off gs):=by
  rcases h with ⟨h1,x,h2,h3,h4⟩|h
  · exact .inl ⟨h1,x,h2,h3.off hc,h4⟩
  · exact .inr h
def RAtR (b:BX) (l:List UInt8) (v:Value) (V':aD):Prop:=(cZ b l=0∧∃ (A:Option Addr) (n c:Nat) (x:LN),v=.tuple #[spV A n c true x (bG b l).lay (bG b l).th (bG b l).par,.int .i64 0]∧cL V' A n (aU l)∧n≤c∧aT V' x∧x.n=(bG b l).n)∨(¬cZ b l=0∧v=.tuple #[spV none 0 0 false lnZ 0 thZ thZ,.int .i64 (cZ b l)])
theorem RAtR.off {b:BX} {l:List UInt8} {v:Value} {V:aD} {gs:List Nat} (hc:pY V gs) (h:RAtR b l v V):RAtR b l v (V.off gs):=by
  rcases h with ⟨h1,A,n,c,x,h2,h3,h4,h5,h6⟩|h
  · exact .inl ⟨h1,A,n,c,x,h2,h3.off hc pathN_pos,h4,h5.off hc,h6⟩
  · exact .inr h
theorem RAtR.no {b:BX} {l:List UInt8} {V':aD} {e:Int} (h:cZ b l=e) (he:¬e=0):RAtR b l (.tuple #[spV none 0 0 false lnZ 0 thZ thZ,.int .i64 e]) V':=.inr ⟨by rw [h];exact he,by rw [h]⟩
attribute [local irreducible] AtQ GoC GoL GoW QO QP Fn RV bL aG VLe bR bK
attribute [local irreducible] FnB
def RUpR (n:PN) (e:Int) (v:Value) (V':aD):Prop:=∃ z:LN,v=.tuple #[lnV z,.int .i64 e]∧aT V' z∧(e=0→z.n=n)
theorem RUpR.off {n:PN} {e:Int} {v:Value} {V:aD} {gs:List Nat} (hc:pY V gs) (h:RUpR n e v V):RUpR n e v (V.off gs):=by
  obtain⟨z,h1,h2,h3⟩:=h
  exact⟨z,h1,h2.off hc,h3⟩
end
section
theorem und_arr3:bV Tryz.prog 334 (.array 3 3):=⟨Tryz.underlying334⟩
theorem bld_arr3:BuildA Tryz.prog 334 1 [.int .i64 0,.int .i64 0,.int .i64 0]:=⟨⟨3,3,fun w=>by kernel_rfl,fun w=>by kernel_rfl⟩,⟨_,Tryz.zeroValue334,rfl⟩⟩
def kA (A:Option Addr) (n c:Nat) (l:List UInt8) (L1:List Box):Prop:=cO A n c 5 1 (u8C l) L1∧n=l.length∧(A=none∨0<c)
theorem kA.nil:kA none 0 0 [] []:=⟨cO.nil,rfl,.inl rfl⟩
theorem kA.app {A2:Option Addr} {n2 c2:Nat} {l:List UInt8} {news:List Value} {L2:List Box} (us:List UInt8) (h:cO A2 n2 c2 5 1 (u8C l ++ news) L2) (hn:news=u8C us) (hl:n2=l.length+us.length) (h0:0<us.length):kA A2 n2 c2 (l ++ us) L2 :=
  ⟨by rw [lS,←hn];exact h,by rw [List.length_append];exact hl,.inr (by have:=h.cap;omega)⟩
theorem kA.eq {A:Option Addr} {n c:Nat} {l l':List UInt8} {L1:List Box} (h:kA A n c l L1) (e:l=l'):kA A n c l' L1:=e▸h
theorem b8_mod (x:Int):b8 (x % 256)=b8 x:=by unfold b8;rw [Int.emod_emod_of_dvd x (Int.dvd_refl 256)]
theorem flat_len':∀ (l:List Int),(l.flatMap b16).length=l.length * 2
  | []=>rfl
  | x :: l=>by rw [List.flatMap_cons,List.length_append,flat_len' l,List.length_cons];simp [b16];omega
theorem flat_lenB (l:List Int):(l.flatMap b16).length=l.length * 2:=flat_len' l
def uR (h:Hd):List Int:=[h.mode,h.user,h.group]
attribute [local irreducible] AtQ GoC GoL GoW QO QP Fn RV bL aG VLe bR bK
theorem laid_c (V:aD) (x:LN) (hx:aT V x):∀ (V1:aD),VLe V V1→cB uO x.n→∀ (l:List UInt8) (A:Option Addr) (n c:Nat) (L1:List Box),kA A n c l L1→l.length+(kM x.n).length≤100000→FnB Tryz.prog 247 [.slice A n c,lnV x] V1 L1 fun v _ Bs'=>∃ A' n' c',v=.slice A' n' c'∧kA A' n' c' (l ++ kM x.n) Bs':=by
  refine aT.ind (C:=fun x=>∀ (V1:aD),VLe V V1→cB uO x.n→∀ (l:List UInt8) (A:Option Addr) (n c:Nat) (L1:List Box),kA A n c l L1→l.length+(kM x.n).length≤100000→FnB Tryz.prog 247 [.slice A n c,lnV x] V1 L1 fun v _ Bs'=>∃ A' n' c',v=.slice A' n' c'∧kA A' n' c' (l ++ kM x.n) Bs') ?_ hx
  intro x es ha hca hd hck hk hks ih V1 hV1 hfit l A n c L1 hB hlen
  have hl:=hk.len
  have hm:=hk.max
  have hz:x.ks.length=x.nk:=by rw [hks,List.length_map,hl]
  obtain⟨f1,f2,f3,f4,f5,f6,f7,f8⟩:=hfit.here
  simp only [LN.n,PN.h_mk,PN.ks_mk] at f1 f2 f3 f4 f5 f6 f7 f8
  have hal:=ha.1.1
  have hP:kM x.n=oX x.h ++ iF x.h.attrs ++ (jL x.h.data ++ [b8 (x.ks.length:Int)]) ++ jE x.ks:=wR x.h x.ks
  have hPl:=congrArg List.length hP
  simp only [List.length_append,List.length_cons,List.length_nil,dX,fS] at hPl
  have hA0:=layA_le x.h.attrs
  have hK0:=layK_le x.ks
  obtain⟨hr,hn,hA⟩:=hB
  (refine bD Tryz.func247 rfl Tryz.ntmps247 rfl ?_;intro w0)
  repeat' (first|(refine aE ?_;first|(refine eK ?_;refine aO (fD und_3 und_5 rfl) ?_)|(refine cF ?_;(refine aN rfl und_145 siz_5 zec_5 rfl rfl rfl rfl rfl rfl rfl ?_;intro γ))|(refine aC ?_;(refine aQ rfl und_145 inf_5 rfl rfl rfl hr aV (cY bA rfl) bJ (by omega) rfl rfl ?_;intro A2 c2 L2 hr2))|(refine k_build ?_;refine aO (q_buildA bld_arr3 rfl rfl) ?_)|refine st9 ?_|(refine al9 ?_;intro γ)|refine pu9 ?_)|refine bY ?_|(refine bM rfl ?_ ?_<;>intro hq))
  all_goals
    rename_i γ1 γ2
    have hflag:=(by first|exact flag_t hq|exact flag_f hq)
    refine bN (fun F V' L' m=>∃ (k n3 c3:Nat) (A3:Option Addr) (Lb:List Box),VLe V1 V'∧(⟨γ,334,[.int .i64 x.h.mode,.int .i64 x.h.user,.int .i64 x.h.group]⟩ :: ⟨γ1,70,lnC x⟩ :: Lb:List Box)=L'∧kA A3 n3 c3 (l ++ (b8 (oP x.h) :: ((uR x.h).take k).flatMap b16)) Lb∧k≤3∧m=3 - k∧F=[(0,.slice A3 n3 c3),(3,.pointer (some ⟨γ1,0,none⟩)),(6,.pointer (some ⟨γ,0,none⟩)),(7,.int .i64 k)]) (m:=3) ⟨0,n+1,c2,A2,L2,vl9,rfl,?_,by omega,rfl,rfl⟩ bH rfl (List.Sublist.cons_cons _ (List.Sublist.cons _ (List.Sublist.refl _))) ?_
    · exact(kA.app [b8 (oP x.h)] hr2 (by rw [hflag];rfl) (by rw [hn];rfl) (by simp)).eq (by simp)
    rintro F V' L' m ⟨k,n3,c3,A3,Lb,hV',rfl,hB3,hkn,rfl,rfl⟩
    by_cases hlt:k<3
    · obtain⟨u,hu⟩:∃ u,(uR x.h)[k]?=some u:=⟨_,List.getElem?_eq_getElem (by show k<3;exact hlt)⟩
      have hub:0≤u∧u≤65535:=by
        have:=List.mem_of_getElem? hu
        simp only [uR,List.mem_cons,List.not_mem_nil,or_false] at this
        rcases this with rfl|rfl|rfl<;>omega
      have hc:([.int .i64 x.h.mode,.int .i64 x.h.user,.int .i64 x.h.group]:List Value)[0+k * 1]?=some (.int .i64 u):=by
        show ((uR x.h).map (Value.int .i64))[0+k * 1]?=_
        rw [show 0+k * 1=k by omega,List.getElem?_map,hu];rfl
      have htk:(uR x.h).take (k+1)=(uR x.h).take k ++ [u]:=by rw [List.take_add_one,hu];rfl
      have hnl:((uR x.h).take k).length≤3:=by rw [List.length_take];omega
      have hbl:(((uR x.h).take k).flatMap b16).length=((uR x.h).take k).length * 2:=flat_lenB _
      obtain⟨hr3,hn3,hA3⟩:=hB3
      rw [List.length_append,List.length_cons,hbl] at hn3
      repeat' (first|(refine aE ?_;refine pu9 ?_)|refine bY ?_|(refine aA rfl ?_ ?_<;>intro hq<;>try exact no9))
      refine bX (id:=9) _ mixed (List.Sublist.cons_cons _ (List.Sublist.cons_cons _ (List.nil_sublist _))) ?_;refine gt9 0 ?_;refine gt9 1 ?_;refine fL 2 rfl rfl (wX und_arr3 siz_3 rfl rfl rfl hlt) ?_;refine gt9 3 ?_;refine gt9 4 ?_;refine fL 5 rfl rfl (fD und_3 und_5 rfl) ?_;refine gt9 6 ?_;refine fL 7 rfl rfl (wX und_arr3 siz_3 rfl rfl rfl hlt) ?_;refine gt9 8 ?_;refine gt9 9 ?_;refine fL 10 rfl rfl (fD und_3 und_5 rfl) ?_;refine aZ (i:=11) rfl ?_;(refine aN rfl und_145 siz_5 zec_5 rfl rfl rfl rfl rfl rfl rfl ?_;intro γ);refine aZ (i:=12) rfl ?_;(refine aQ rfl und_145 inf_5 rfl rfl rfl hr3 aV (cY bA rfl) bJ (by omega) rfl rfl ?_;intro A4 c4 L4 hr4);refine gt9 13 ?_;refine aY (by kernel_rfl) vl9 vl9 bP ?_
      all_goals
        repeat' (first|(refine aE ?_;refine pu9 ?_)|refine cC ?_|fail)
      all_goals
        refine aX _ (3 - (k+1)) ⟨k+1,n3+2,c4,A4,L4,vl9,rfl,?_,by omega,rfl,rfl⟩ (by omega) bH sl9
        refine(kA.app (b16 u) hr4 (by rw [b8_mod];rfl) (by rw [List.length_append,List.length_cons,hbl,hn3];rfl) (by simp [b16])).eq ?_
        rw [htk];simp
    · obtain rfl:k=3:=by omega
      obtain⟨hr3,hn3,hA3⟩:=hB3
      have hn4:n3=l.length+7:=by rw [hn3,List.length_append];rfl
      repeat' (first|(refine aE ?_;first|(refine eK ?_;refine aO (fD und_3 und_5 rfl) ?_)|(refine cF ?_;(refine aN rfl und_145 siz_5 zec_5 rfl rfl rfl rfl rfl rfl rfl ?_;intro γ))|(refine aC ?_;(refine aQ rfl und_145 inf_5 rfl rfl rfl hr3 aV (cY bA rfl) bJ (by omega) rfl rfl ?_;intro A4 c4 L4 hr4;have hcap4:=hr4.cap))|refine pu9 ?_)|refine eE ?_|fail)
      rename_i γ3
      refine bN (fun F V' L' m=>∃ (k n3 c3:Nat) (A3:Option Addr) (Lb:List Box),VLe V1 V'∧(⟨γ1,70,lnC x⟩ :: Lb:List Box)=L'∧kA A3 n3 c3 (l ++ (oX x.h ++ iF (x.h.attrs.take k))) Lb∧k≤x.na∧m=x.na - k∧F=[(0,.slice A3 n3 c3),(3,.pointer (some ⟨γ1,0,none⟩)),(8,.int .i64 k)]) (m:=x.na) ⟨0,n3+1,c4,A4,L4,vl9,rfl,?_,by omega,rfl,rfl⟩ bH rfl sl9 ?_
      · rw [←hal] at hr4
        exact(kA.app [b8 (x.h.attrs.length:Int)] hr4 rfl (by rw [hn3];rfl) (by simp)).eq (by simp [uR,oX,iF])
      rintro F V' L' m ⟨k,n3,c3,A3,Lb,hV',rfl,⟨hr3,hn3,hA3⟩,hkn,rfl,rfl⟩
      rw [List.length_append,List.length_append,fS] at hn3
      by_cases hlt:k<x.na
      · obtain⟨b1,o1,a,hA1,ha1,hc1,hv0,hv1,_⟩:=(ha.le (hV1.trans hV')).at_ hlt
        have hfa:=f5.2 a (List.mem_of_getElem? ha1)
        have hA2:=hA0 (k+1)
        have hA3':=layA_take ha1
        have hA4:=congrArg List.length hA3'
        simp only [List.length_append,dX] at hA4
        repeat' (first|(refine aE ?_;first|(refine eK ?_;refine aO (fD und_3 und_5 rfl) ?_)|(refine cF ?_;(refine aN rfl und_145 siz_5 zec_5 rfl rfl rfl rfl rfl rfl rfl ?_;intro γ))|(refine aC ?_;(first|(refine aQ rfl und_145 inf_5 rfl rfl rfl hr3 aV (cY bA rfl) bJ (by omega) rfl rfl ?_;intro A4 c4 L4 hr4;have hcap4:=hr4.cap)|(refine oG rfl und_145 und_9 u8_inf rfl rfl hr4 (.inr (by omega)) aV (by omega) rfl ?_;intro A5 c5 L5 hr5 hA5;have hcap5:=hr5.cap)|(refine aQ rfl und_145 inf_5 rfl rfl rfl hr5 aV (cY bA rfl) bJ (by omega) rfl rfl ?_;intro A6 c6 L6 hr6;have hcap6:=hr6.cap)|(refine oG rfl und_145 und_9 u8_inf rfl rfl hr6 (.inr (by omega)) aV (by omega) rfl ?_;intro A7 c7 L7 hr7 hA7;have hcap7:=hr7.cap)))|refine pu9 ?_)|refine bY ?_|(refine aA rfl ?_ ?_<;>intro hq<;>try exact no9))
        refine aX _ (x.na - (k+1)) ⟨k+1,n3+1+a.n.size+1+a.v.size,c7,A7,L7,vl9,rfl,⟨?_,?_,hA7⟩,by omega,rfl,rfl⟩ (by omega) bH sl9
        · rw [hA3',show l ++ (oX x.h ++ (iF (x.h.attrs.take k) ++ (jL a.n ++ jL a.v)))=l ++ (oX x.h ++ iF (x.h.attrs.take k)) ++ [b8 (a.n.size:Int)] ++ a.n.toList ++ [b8 (a.v.size:Int)] ++ a.v.toList by simp [jL],lS,lS,lS,lS];exact hr7
        · rw [List.length_append,List.length_append,hA4,fS];omega
      · obtain rfl:k=x.na:=by omega
        rw [←hal,List.take_length] at hr3 hn3
        repeat' (first|(refine aE ?_;first|(refine eK ?_;refine aO (fD und_3 und_5 rfl) ?_)|(refine cF ?_;(refine aN rfl und_145 siz_5 zec_5 rfl rfl rfl rfl rfl rfl rfl ?_;intro γ))|(refine aC ?_;(first|(refine aQ rfl und_145 inf_5 rfl rfl rfl hr3 aV (cY bA rfl) bJ (by omega) rfl rfl ?_;intro A4 c4 L4 hr4;have hcap4:=hr4.cap)|(refine oG rfl und_145 und_9 u8_inf rfl rfl hr4 (.inr (by omega)) aV (by omega) rfl ?_;intro A5 c5 L5 hr5 hA5;have hcap5:=hr5.cap)|(refine aQ rfl und_145 inf_5 rfl rfl rfl hr5 aV (cY bA rfl) bJ (by omega) rfl rfl ?_;intro A6 c6 L6 hr6;have hcap6:=hr6.cap)))|refine pu9 ?_)|refine nG ?_|(refine aA rfl ?_ ?_<;>intro hq<;>try exact no9))
        rename_i γ4
        refine bN (fun F V' L' m=>∃ (k n3 c3:Nat) (A3:Option Addr) (Lb:List Box),VLe V1 V'∧(⟨γ1,70,lnC x⟩ :: Lb:List Box)=L'∧kA A3 n3 c3 (l ++ (oX x.h ++ iF x.h.attrs ++ (jL x.h.data ++ [b8 (x.ks.length:Int)]) ++ jE (x.ks.take k))) Lb∧k≤x.nk∧m=x.nk - k∧F=[(0,.slice A3 n3 c3),(3,.pointer (some ⟨γ1,0,none⟩)),(9,.int .i64 k)]) (m:=x.nk) ⟨0,n3+1+x.h.data.size+1,c6,A6,L6,vl9,rfl,⟨?_,?_,.inr (by omega)⟩,by omega,rfl,rfl⟩ bH rfl sl9 ?_
        · rw [List.take_zero,jE,hz,show l ++ (oX x.h ++ iF x.h.attrs ++ (jL x.h.data ++ [b8 (x.nk:Int)]) ++ [])=l ++ (oX x.h ++ iF x.h.attrs) ++ [b8 (x.h.data.size:Int)] ++ x.h.data.toList ++ [b8 (x.nk:Int)] by simp [jL],lS,lS,lS];exact hr6
        · rw [List.take_zero,jE]
          simp only [List.length_append,dX,fS,List.length_cons,List.length_nil];omega
        rintro F V' L' m ⟨k,n3,c3,A3,Lb,hV',rfl,⟨hr3,hn3,hA3⟩,hkn,rfl,rfl⟩
        simp only [List.length_append,dX,fS,List.length_cons,List.length_nil] at hn3
        by_cases hlt:k<x.nk
        · obtain⟨b1,o1,e,hK1,he,hem,hc,c0,c1,hms,hne⟩:=(hk.le (hV1.trans hV')).at_ hlt
          have hke:=pA hks he
          have hfk:=f8 _ (List.mem_of_getElem? hke)
          simp only [] at hfk
          have hK2:=hK0 (k+1)
          have hK3:=layK_take hke
          have hK4:=congrArg List.length hK3
          simp only [List.length_append,dX] at hK4
          repeat' (first|(refine aE ?_;first|(refine eK ?_;refine aO (fD und_3 und_5 rfl) ?_)|(refine cF ?_;(refine aN rfl und_145 siz_5 zec_5 rfl rfl rfl rfl rfl rfl rfl ?_;intro γ))|(refine aC ?_;(first|(refine aQ rfl und_145 inf_5 rfl rfl rfl hr3 aV (cY bA rfl) bJ (by omega) rfl rfl ?_;intro A4 c4 L4 hr4;have hcap4:=hr4.cap)|(refine oG rfl und_145 und_9 u8_inf rfl rfl hr4 (.inr (by omega)) aV (by omega) rfl ?_;intro A5 c5 L5 hr5 hA5;have hcap5:=hr5.cap)|(refine aL rfl ⟨Tryz.call247⟩ rfl aV rfl (ih e hem _ (hV1.trans hV') (hfit.kid (List.mem_of_getElem? hke)) (l ++ (oX x.h ++ iF x.h.attrs ++ (jL x.h.data ++ [b8 (x.ks.length:Int)]) ++ jE (x.ks.take k)) ++ jL e.nm) A5 _ c5 L5 ⟨by rw [show ∀ s:List UInt8,s ++ jL e.nm=s ++ [b8 (e.nm.size:Int)] ++ e.nm.toList by simp [jL],lS,lS];exact hr5,by simp only [List.length_append,dX,fS,List.length_cons,List.length_nil];omega,hA5⟩ (by simp only [List.length_append,dX,fS,List.length_cons,List.length_nil];omega)) ?_;rintro v V5 B5 hV5 ⟨A6,n6,c6,rfl,hB6⟩)))|refine pu9 ?_)|refine bY ?_|(refine aA rfl ?_ ?_<;>intro hq<;>try exact no9))
          refine aX _ (x.nk - (k+1)) ⟨k+1,n6,c6,A6,B5,vl9,rfl,hB6.eq ?_,by omega,rfl,rfl⟩ (by omega) bH sl9
          rw [hK3];simp only [List.append_assoc]
        · obtain rfl:k=x.nk:=by omega
          rw [List.take_of_length_le (by omega),←hP] at hr3
          have hn4:n3=(l ++ kM x.n).length:=by rw [List.take_of_length_le (by omega)] at hn3;rw [List.length_append,hPl];omega
          repeat' (first|(refine aE ?_;refine pu9 ?_)|refine dT ?_|(refine aA rfl ?_ ?_<;>intro hq<;>try exact no9))
          (refine bE Tryz.results247 (aB rfl) (List.Sublist.cons _ (List.Sublist.refl _)) ?_)
          exact⟨A3,n3,c3,rfl,hr3,hn4,hA3⟩
end
section
theorem treeF_bd (upper:Bool) (n:PN):0≤cP upper n∧cP upper n≤7:=by
  have:=iT upper 0 0 n (by omega)
  unfold cP;split<;>omega
attribute [local irreducible] AtQ GoC GoL GoW QO QP Fn RV bL aG VLe bR bK
theorem RBytes_c (V:aD) (x:LN) (hx:aT V x):Fn Tryz.prog 196 [lnV x] V fun v _=>v=.tuple #[.string ⟨(fG x.n).toArray⟩,.int .i64 (cP true x.n)]:=by
  have hC:=tI V x hx true
  have hft:cP true x.n=0→cB uO x.n∧(kM x.n).length≤24000:=kP
  have hb:=treeF_bd true x.n
  (refine aI Tryz.func196 rfl Tryz.ntmps196 rfl ?_;intro w0)
  repeat' (first|(refine aE ?_;first|(refine aC ?_;(first|refine aP rfl (aK ⟨Tryz.call60⟩ rfl (hC)) ?_|(refine aL rfl ⟨Tryz.call247⟩ rfl aV rfl (laid_c V x hx _ (VLe.refl _) (hft (by omega)).1 [] none 0 0 [] kA.nil (by have:=(hft (by omega)).2;simp;omega)) ?_;rintro v V2 B2 hV2 ⟨A2,n2,c2,rfl,hB2⟩)))|(refine eK ?_;refine aO (iH und_145 und_5 und_9 rfl (src_row hB2.1 aV)) ?_)|(refine al9 ?_;intro γ)|refine pu9 ?_)|refine cC ?_|(refine aA rfl ?_ ?_<;>intro hq<;>try exact no9))
  · (refine bB Tryz.results196 (aB rfl) (aB rfl) ?_)
    unfold fG;rw [if_neg (by omega)]
  · (refine bB Tryz.results196 (aB rfl) (aB rfl) ?_)
    have h0:cP true x.n=0:=by omega
    unfold fG;rw [if_pos h0,h0];rfl
theorem RBlocks_c (V:aD) (x:LN) (hx:aT V x):Fn Tryz.prog 87 [lnV x] V fun v _=>v=.int .i64 (dS x.n):=by
  have hB:=RBytes_c V x hx
  have hl:=bytesP_len x.n
  have hsz:=gU (fG x.n)
  (refine aI Tryz.func87 rfl Tryz.ntmps87 rfl ?_;intro w0)
  repeat' (first|(refine aE ?_;first|(refine aC ?_;refine aP rfl (aK ⟨Tryz.call196⟩ rfl (hB)) ?_)|(refine al9 ?_;intro γ)|refine pu9 ?_)|refine bY ?_|fail)
  refine bN (fun F V' L' m=>∃ (k:Nat),V=V'∧[]=L'∧((k:Int) - 1) * 64<(fG x.n).length∧k≤1000∧m=1000 - k∧F=[(3,.string ⟨(fG x.n).toArray⟩),(5,.int .i64 k)]) (m:=1000) ⟨0,rfl,rfl,by omega,by omega,rfl,rfl⟩ bH rfl sl9 ?_
  rintro F V' L' m ⟨k,rfl,rfl,hk,hk1,rfl,rfl⟩
  by_cases hlt:(k:Int) * 64<(fG x.n).length
  · repeat' (first|(refine aE ?_;refine pu9 ?_)|refine bY ?_|(refine aA rfl ?_ ?_<;>intro hq<;>try exact no9))
    all_goals first
      | (refine aX _ (1000 - (k+1)) ⟨k+1,rfl,rfl,by omega,by omega,rfl,rfl⟩ (by omega) bH sl9)
      | (exfalso;rw [hsz] at hq;omega)
  · repeat' (first|(refine aE ?_;refine pu9 ?_)|refine dT ?_|(refine aA rfl ?_ ?_<;>intro hq<;>try exact no9))
    all_goals first
      | ((refine aM Tryz.results87 (aB rfl) ?_);unfold dS;refine congrArg _ ?_;omega)
      | (exfalso;rw [hsz] at hq;omega)
end
section
theorem byte_row {g:Nat} {l:List UInt8} {vs:List Value} (hv:vs=u8C l) (hm:l.length≤maxLen) (h0:0<l.length):kA (some ⟨g,0,none⟩) l.length l.length l [⟨g,5,vs⟩] :=
  ⟨⟨by rw [tQ];omega,.inr ⟨g,vs,rfl,rfl,Nat.le_refl _,hm,by rw [hv,tQ];omega,by rw [hv,List.take_of_length_le (by rw [tQ];omega)]⟩⟩,rfl,.inr h0⟩
attribute [local irreducible] AtQ GoC GoL GoW QO QP Fn RV bL aG VLe bR bK
attribute [local irreducible] FnB
theorem RFlatB_v (V:aD) (p:Nat) (b:BX) (I:BI) (hok:bI b) (h:pP V p b I):Fn Tryz.prog 89 [.pointer (some ⟨p,0,none⟩)] V (NodeR (flatB b)):=by
  obtain⟨hcM,hcC,hcq,hcl⟩:=h.parts
  have hm4:I.m≤4:=by rw [←h.2.len];exact hok.l4
  have hF:=fun V2 (hV2:VLe V V2)=>RFlat_c V I.K I.m I.e I.xs h.2.ls (by omega) (hok.smallL h.2) I.M h.2.M true 7 V2 hV2 none 0 0 [] cL.nil (Nat.le_refl _) (by omega) (by rw [h.2.eq];exact walkP_deep hok.deep [])
  rw [h.2.eq,h.2.us,h.2.gs] at hF
  have e:fM (gW true b.us b.gs) 7 (cR b.ls [])=flatB b:=flat_gW 7 _ (walk_lay b.ls [])
  (refine aI Tryz.func89 rfl Tryz.ntmps89 rfl ?_;intro w0)
  repeat' (first|(refine aE ?_;first|(refine al9 ?_;intro γ))|refine cC ?_|fail)
  obtain⟨g2,rfl⟩:∃ g2,g2=γ:=⟨γ,rfl⟩
  refine dZ (fun F V' L'=>∃ (γ3:Nat) (y:LN),VLe V V'∧aT V' y∧y.n=flatB b∧[⟨γ3,70,lnC y⟩,⟨g2,70,lnC lnZ⟩]=L'∧F=[(2,.pointer (some ⟨g2,0,none⟩)),(3,.pointer (some ⟨γ3,0,none⟩))]) ?_ ?_
  · refine bX (id:=1) _ mixed (List.Sublist.refl _) ?_;refine gt9 0 ?_;refine gt9 1 ?_;refine gt9 2 ?_;refine gt9 3 ?_;refine gt9 4 ?_;refine gt9 5 ?_;refine gt9 6 ?_;refine gt9 7 ?_;(refine dL (i:=8) (j:=12) (by kernel_rfl) rfl rfl rfl rfl vl9 vl9 bP ?_ ?_<;>first|((refine aS rfl ⟨Tryz.call197⟩ rfl rfl (hF _ vl9) ?_;rintro v V2 hV2 (⟨hx,_⟩|⟨_,y,rfl,hyN,hyn⟩);exact absurd hx hok.roots);refine gt9 9 ?_;refine gt9 10 ?_;refine gt9 11 ?_;refine aZ (i:=12) rfl ?_;(refine cV rfl zer_70 rfl ?_;intro γ);refine aZ (i:=13) rfl ?_;refine aR rfl siz_70 rfl rfl rfl rfl bJ dP rfl ?_;refine gt9 14 ?_;refine aY (by kernel_rfl) vl9 vl9 bP ?_)|((refine cV rfl zer_70 rfl ?_;intro γ);refine aZ (i:=8) rfl ?_;(refine aS rfl ⟨Tryz.call197⟩ rfl rfl (hF _ vl9) ?_;rintro v V2 hV2 (⟨hx,_⟩|⟨_,y,rfl,hyN,hyn⟩);exact absurd hx hok.roots);refine gt9 9 ?_;refine gt9 10 ?_;refine gt9 11 ?_;refine aZ (i:=13) rfl ?_;refine aR rfl siz_70 rfl rfl rfl rfl bJ dP rfl ?_;refine gt9 14 ?_;refine aY (by kernel_rfl) vl9 vl9 bP ?_))
    all_goals exact dN _ ⟨_,y,vl9,hyN.le vl9,hyn.trans e,rfl,rfl⟩ bH sp9
  rintro F V2 L' ⟨g3,y,hV2,hyN,hyn,rfl,rfl⟩
  repeat' (first|(refine aE ?_;first|refine st9 ?_|refine pu9 ?_)|refine cC ?_|fail)
  all_goals
    (refine aM Tryz.results89 (aW agg_70 rfl bA (by exact rfl)) ?_)
    exact⟨y,rfl,hyN.le vl9,hyn⟩
theorem RFlatB_b {V:aD} {p:Nat} {b:BX} {Bs:List Box} (hok:bI b) (h:lD V p b Bs):FnB Tryz.prog 89 [.pointer (some ⟨p,0,none⟩)] V Bs fun v V' Bs'=>Bs'=Bs∧NodeR (flatB b) v V' :=
  lD.read h (fun v V gs hc ⟨y,h1,h2,h3⟩=>⟨y,h1,h2.off hc,h3⟩) fun V' I hV hB=>RFlatB_v V' p b I hok hB
theorem RBytesB_v (V:aD) (p:Nat) (b:BX) (I:BI) (hok:bI b) (h:pP V p b I):Fn Tryz.prog 90 [.pointer (some ⟨p,0,none⟩)] V fun v _=>v=.string ⟨(lW b).toArray⟩:=by
  obtain⟨hcM,hcC,hcq,hcl⟩:=h.parts
  obtain⟨q,o,x0,hK,hm0,hc0,hN0,hhd,t,ht⟩:=h.2.head hok
  have hz:=eY hok.c
  have hxl:=h.2.xs.1
  (refine aI Tryz.func90 rfl Tryz.ntmps90 rfl ?_;intro w0)
  repeat' (first|(refine aE ?_;first|(refine eK ?_;refine aO (fD und_3 und_5 rfl) ?_)|(refine cF ?_;(refine aN rfl und_145 siz_5 zec_5 rfl rfl rfl rfl rfl rfl rfl ?_;intro γ))|refine st9 ?_|(refine al9 ?_;intro γ)|refine pu9 ?_)|refine bY ?_|fail)
  rename_i g3
  obtain⟨g4,rfl⟩:∃ g4,g4=γ:=⟨γ,rfl⟩
  refine bN (fun F V' L' m=>∃ (k n4 c4:Nat) (A4:Option Addr) (L4:List Box),V=V'∧L4 ++ [⟨g3,27,crC b.c I.A I.n I.k⟩]=L'∧kA A4 n4 c4 (uU b.c ++ (b.c.xs.take k).flatMap b16) L4∧k≤I.n∧m=I.n - k∧F=[(0,.pointer (some ⟨p,0,none⟩)),(3,.pointer (some ⟨g3,0,none⟩)),(4,.slice A4 n4 c4),(5,.int .i64 (k:Int))]) (m:=I.n) ⟨0,6,6,some ⟨g4,0,none⟩,[⟨g4,5,u8C (uU b.c)⟩],rfl,rfl,?_,Nat.zero_le _,by omega,rfl⟩ bH rfl ?_ ?_
  · rw [List.take_zero,List.flatMap_nil,List.append_nil]
    exact byte_row rfl (by show (6:Nat)≤maxLen;unfold maxLen;omega) (by show (0:Nat)<6;omega)
  · have e:u8C (uU b.c)=[.int .u8 ((b8 (b.c.u / 256)).toNat:Int),.int .u8 ((b8 (b.c.u % 256)).toNat:Int),.int .u8 ((b8 (b.c.g / 256)).toNat:Int),.int .u8 ((b8 (b.c.g % 256)).toNat:Int),.int .u8 ((b8 b.c.d).toNat:Int),.int .u8 ((b8 (I.n:Int)).toNat:Int)]:=by
      rw [b8_mod,b8_mod,←hxl];rfl
    rw [e]
    exact List.Sublist.refl _
  rintro F V' L' m ⟨k,n4,c4,A4,L4,rfl,rfl,⟨hr4,hn4,hA4⟩,hkn,rfl,rfl⟩
  have hfl:((b.c.xs.take k).flatMap b16).length≤8:=by rw [oI,List.length_take];omega
  have hcl9:(uU b.c).length=6:=rfl
  have hnn:=hn4
  rw [List.length_append,hcl9] at hnn
  have hcap:=hr4.cap
  by_cases hlt:k<I.n
  · obtain⟨b1,o2,w,hA1,hw,hcw⟩:=h.2.xs.at_ hlt
    have hw0:=gF_ids _ _ hz.2.2.2.2 w (List.mem_of_getElem? hw)
    have htk:(b.c.xs.take (k+1)).flatMap b16=(b.c.xs.take k).flatMap b16 ++ b16 w:=by rw [List.take_add_one,hw,List.flatMap_append];simp
    repeat' (first|(refine aE ?_;refine pu9 ?_)|refine bY ?_|(refine aA rfl ?_ ?_<;>intro hq<;>try exact no9))
    refine bX (id:=6) _ mixed (List.sublist_append_right _ _) ?_;refine gt9 0 ?_;refine gt9 1 ?_;refine gt9 2 ?_;refine gt9 3 ?_;refine fL 4 rfl rfl (bF und_25 siz_3 rfl hA1 rfl hlt) ?_;refine gt9 5 ?_;refine gt9 6 ?_;refine fL 7 rfl rfl (fD und_3 und_5 rfl) ?_;refine gt9 8 ?_;refine gt9 9 ?_;refine gt9 10 ?_;refine fL 11 rfl rfl (bF und_25 siz_3 rfl hA1 rfl hlt) ?_;refine gt9 12 ?_;refine gt9 13 ?_;refine fL 14 rfl rfl (fD und_3 und_5 rfl) ?_;refine aZ (i:=15) rfl ?_;(refine aN rfl und_145 siz_5 zec_5 rfl rfl rfl rfl rfl rfl rfl ?_;intro γ);refine aZ (i:=16) rfl ?_;(refine aQ rfl und_145 inf_5 rfl rfl rfl hr4 aV (cY bA rfl) bJ (by omega) rfl rfl ?_;intro A5 c5 L5 hr5);refine gt9 17 ?_;refine aY (by kernel_rfl) vl9 vl9 bP ?_
    all_goals repeat' (first|(refine aE ?_;refine pu9 ?_)|refine cC ?_|fail)
    all_goals
      refine aX _ (I.n - (k+1)) ⟨k+1,n4+2,c5,A5,L5,rfl,rfl,?_,by omega,rfl,rfl⟩ (by omega) bH sl9
      refine(kA.app (b16 w) hr5 (by rw [b8_mod];rfl) (by rw [hn4];rfl) (by simp [b16])).eq ?_
      rw [htk];simp
  · obtain rfl:k=I.n:=by omega
    rw [List.take_of_length_le (by omega)] at hr4 hnn hfl
    have hB:=RBytes_c V x0 hN0
    have hbl:(fG x0.n).length≤100000:=bytes_few _
    repeat' (first|(refine aE ?_;first|(refine cN ?_;refine aO (jA rfl rfl (by rw [List.length_append];omega)) ?_)|(refine eK ?_;refine aO (iH und_145 und_5 und_9 rfl (src_row hr4 aV)) ?_)|(refine aC ?_;refine aP rfl (aK ⟨Tryz.call196⟩ rfl (hB)) ?_)|(refine cG ?_;refine aO (bF (k:=0) und_30 siz_70 rfl hK rfl hm0) ?_)|refine pu9 ?_)|refine dT ?_|(refine aA rfl ?_ ?_<;>intro hq<;>try exact no9))
    all_goals
      (refine aM Tryz.results90 (aB rfl) ?_)
      rw [lW,hhd]
end
section
theorem FnB.mono7 {P:Program} {f:FuncId} {args:List Value} {V:aD} {Bs:List Box} {R R':Value→aD→List Box→Prop} (h:FnB P f args V Bs R) (hr:∀ v V' Bs',R v V' Bs'→R' v V' Bs'):FnB P f args V Bs R':=fun w hs =>
  (h w hs).mono fun _ _ ⟨v,V',Bs',he,hst,hR⟩=>⟨v,V',Bs',he,hst,hr v V' Bs' hR⟩
theorem sameB_eq {a b:PN} (h:a=b):sameB a b=true:=nT.2 h
theorem RBytesB_b {V:aD} {p:Nat} {b:BX} {Bs:List Box} (hok:bI b) (h:lD V p b Bs):FnB Tryz.prog 90 [.pointer (some ⟨p,0,none⟩)] V Bs fun v V' Bs'=>v=.string ⟨(lW b).toArray⟩∧Bs'=Bs :=
  (lD.read h (fun v V gs hc hR=>hR) fun V' I hV hB=>RBytesB_v V' p b I hok hB).mono7 fun _ _ _ h=>⟨h.2,h.1⟩
theorem Bytes_q7 {V:aD} {p:Nat} {b:BX} {Bs:List Box} (hok:bI b) (h:eD V p b Bs):FnB Tryz.prog 24 [.pointer (some ⟨p,0,none⟩)] V Bs fun v V' Bs'=>v=.string ⟨(lW b).toArray⟩∧Bs'=Bs :=
  (Bytes_b hok h).mono7 fun _ _ _ h=>⟨h.2,h.1⟩
attribute [local irreducible] AtQ GoC GoL GoW QO QP Fn RV bL aG VLe bR bK
attribute [local irreducible] FnB eD
theorem asBox_b (V:aD) (p q:Nat) (b:BX) (Bs Cs:List Box) (hok:bI b) (h:eD V p b Bs) (g:lD V q b Cs):FnB Tryz.prog 21 [.pointer (some ⟨p,0,none⟩),.pointer (some ⟨q,0,none⟩)] V (Bs ++ Cs) fun v V' Bs'=>v=.bool true∧Bs'=Bs ++ Cs:=by
  have gC:=g
  obtain⟨I,rfl,hI⟩:=g
  obtain⟨q1,o1,x0,hK,hm0,hc0,hN0,hhd,t,ht⟩:=hI.head hok
  have hU:=fun V2 (hV2:VLe V V2)=>Upper_b hok (h.le hV2)
  have hC:=fun V2 (hV2:VLe V V2)=>Cred_b V2 p b Bs hok (h.le hV2)
  have hF:=fun V2 (hV2:VLe V V2)=>Flat_b hok (h.le hV2)
  have hB:=fun V2 (hV2:VLe V V2)=>Bytes_q7 hok (h.le hV2)
  have hRF:=fun V2 (hV2:VLe V V2)=>RFlatB_b hok (gC.le hV2)
  have hRB:=fun V2 (hV2:VLe V V2)=>RBytesB_b hok (gC.le hV2)
  have hSN:=fun V2 (x y:LN) (hx:aT V2 x) (hy:aT V2 y) (e:x.n=y.n)=>(by have h9:=SameNode_c V2 x hx y hy;rw [sameB_eq e] at h9;exact h9:Fn Tryz.prog 27 [lnV x,lnV y] V2 fun v _=>v=.bool true)
  have hSC:=fun V2 (A B:Option Addr) (n m c1 c2:Nat) (h1:eM V2 A n b.c.xs) (h2:eM V2 B m b.c.xs)=>(by have h9:=SameCred_c V2 b.c.u b.c.g b.c.d b.c.u b.c.g b.c.d A B n m c1 c2 b.c.xs b.c.xs h1 h2;rw [decide_eq_true ⟨rfl,rfl,rfl,rfl⟩] at h9;exact h9)
  (refine bD Tryz.func21 rfl Tryz.ntmps21 rfl ?_;intro w0)
  repeat' (first|(refine aE ?_;refine pu9 ?_)|refine cC ?_|fail)
  refine bX (id:=1) _ mixed (List.Sublist.refl _) ?_;refine gt9 0 ?_;refine gt9 2 ?_;refine gt9 3 ?_;refine gt9 4 ?_;refine gt9 5 ?_;refine fL 6 rfl rfl (bF (k:=0) und_30 siz_70 rfl hK rfl hm0) ?_;refine gt9 7 ?_;refine aZ (i:=1) rfl ?_;(refine aL rfl ⟨Tryz.call28⟩ rfl aV rfl (hU _ vl9) ?_;rintro v V2 B2 hV2 ⟨rfl,y,rfl,hyN,hyn⟩);refine aZ (i:=8) rfl ?_;refine aP rfl (aK ⟨Tryz.call27⟩ rfl ((hSN _ y x0 (hyN.le vl9) (hN0.le vl9) (hyn.trans hhd)))) ?_;refine gt9 9 ?_;refine kD 10 rfl eQ (by kernel_rfl) (by kernel_rfl) (by kernel_rfl) (fJ rfl rfl rfl rfl) rfl rfl vl9 bP (jT rfl) ?_;refine kD 12 rfl eQ (by kernel_rfl) (by kernel_rfl) (by kernel_rfl) (fJ rfl rfl rfl rfl) rfl rfl vl9 bP (jT rfl) ?_;refine kD 13 rfl eQ (by kernel_rfl) (by kernel_rfl) (by kernel_rfl) (fJ rfl rfl rfl rfl) rfl rfl vl9 bP (gE rfl) ?_;refine kD 14 rfl eQ (by kernel_rfl) (by kernel_rfl) (by kernel_rfl) (fJ rfl rfl rfl rfl) rfl rfl vl9 bP (dQ fld_130_1 rfl) ?_;refine kD 15 rfl eQ (by kernel_rfl) (by kernel_rfl) (by kernel_rfl) (fJ rfl rfl rfl rfl) rfl rfl vl9 bP (mH agg_27 rfl bA (by exact rfl) (by exact rfl)) ?_;refine rD (i:=11) (by kernel_rfl) rfl (fJ rfl rfl rfl rfl) vl9 vl9 bP ?_;(refine aL rfl ⟨Tryz.call30⟩ rfl aV rfl (hC _ vl9) ?_;rintro v V3 B3 hV3 ⟨rfl,A5,n5,c5,rfl,hI5⟩);refine rD (i:=16) (by kernel_rfl) rfl (fJ rfl rfl rfl rfl) vl9 vl9 bP ?_;refine aP rfl (aK ⟨Tryz.call29⟩ rfl ((hSC _ A5 I.A n5 I.n c5 I.k (hI5.le vl9) (hI.xs.le vl9)))) ?_;refine gt9 17 ?_;refine gt9 18 ?_;refine kD 19 rfl eQ (by kernel_rfl) (by kernel_rfl) (by kernel_rfl) (fJ rfl rfl rfl rfl) rfl rfl vl9 bP (jT rfl) ?_;refine kD 21 rfl eQ (by kernel_rfl) (by kernel_rfl) (by kernel_rfl) (fJ rfl rfl rfl rfl) rfl rfl vl9 bP (jT rfl) ?_;refine rD (i:=20) (by kernel_rfl) rfl (fJ rfl rfl rfl rfl) vl9 vl9 bP ?_;(refine aL rfl ⟨Tryz.call31⟩ rfl aV rfl (hF _ vl9) ?_;rintro v V6 B6 hV6 ⟨rfl,y6,rfl,hy6N,hy6n⟩);refine rD (i:=22) (by kernel_rfl) rfl (fJ rfl rfl rfl rfl) vl9 vl9 bP ?_;(refine aL rfl ⟨Tryz.call89⟩ rfl aV rfl (hRF _ vl9) ?_;rintro v V7 B7 hV7 ⟨rfl,y7,rfl,hy7N,hy7n⟩);refine rD (i:=23) (by kernel_rfl) rfl (fJ rfl rfl rfl rfl) vl9 vl9 bP ?_;refine aP rfl (aK ⟨Tryz.call27⟩ rfl ((hSN _ y6 y7 (hy6N.le vl9) (hy7N.le vl9) (hy6n.trans hy7n.symm)))) ?_;refine gt9 24 ?_;refine gt9 25 ?_;refine kD 26 rfl eQ (by kernel_rfl) (by kernel_rfl) (by kernel_rfl) (fJ rfl rfl rfl rfl) rfl rfl vl9 bP (jT rfl) ?_;refine kD 28 rfl eQ (by kernel_rfl) (by kernel_rfl) (by kernel_rfl) (fJ rfl rfl rfl rfl) rfl rfl vl9 bP (jT rfl) ?_;refine rD (i:=27) (by kernel_rfl) rfl (fJ rfl rfl rfl rfl) vl9 vl9 bP ?_;refine aP rfl (wW ⟨Tryz.call24⟩ rfl aV (hB _ vl9)) ?_;refine rD (i:=29) (by kernel_rfl) rfl (fJ rfl rfl rfl rfl) vl9 vl9 bP ?_;refine aP rfl (wW ⟨Tryz.call90⟩ rfl aV (hRB _ vl9)) ?_;refine kD 30 rfl eQ (by kernel_rfl) (by kernel_rfl) (by kernel_rfl) (fJ rfl rfl rfl rfl) rfl rfl vl9 bP (q_seql rfl rfl) ?_;refine gt9 31 ?_;refine gt9 32 ?_;refine aY (by kernel_rfl) vl9 vl9 bP ?_
  all_goals repeat' (first|refine gx9 ?_|fail)
  all_goals first
    | (exfalso;exact absurd rfl (by assumption))
    | ((refine bE Tryz.results21 (aB rfl) (List.Sublist.refl _) ?_);exact⟨congrArg Value.bool (decide_eq_true rfl),rfl⟩)
end
section
def blP (D:List PF) (u:PN) (p:List ByteArray):List PF:=cutP (p.foldl dK ((u,0) :: D))
def d0P (u:PN) (t:List PN):List PF:=if u.h.opq=true then [] else dI (jS 1 t)
def okH (us gs:List PR) (h:Hd):Prop:=(kE us h.user).isSome=true∧(kE gs h.group).isSome=true
structure Own2 (us gs:List PR) (u:PN) (t:List PN):Prop where
  own:∀ p m,eI u p=some m→¬m.h.kind=3→okH us gs m.h
  wht:∀ p s m,eI u (p ++ [s])=some m→m.h.kind=3→dK (blP (d0P u t) u p) s≠[]
section
variable {us gs : List PR} {t : List PN}
end
end
section
def ndP (h:Hd) (ks:PKs):Prop:=ks.Pairwise fun a b=>¬a.1=b.1
theorem nd_ok {u:Bool}:∀ (n:PN) (d so:Nat),so≤60→(bU u d so n).2=0→cB ndP n:=by
  refine PN.ind (p:=fun n=>∀ (d so:Nat),so≤60→(bU u d so n).2=0→cB ndP n) ?_
  intro h ks ih d so hs hc
  obtain⟨⟨h1,_⟩,_,h3⟩:=tY.1 hc
  obtain⟨h5,h4⟩:=vE (by omega) h3
  exact .mk (h5.imp fun {a b} hab e=>absurd (e▸hab) (List.lt_irrefl _)) fun k hk=>by
    obtain⟨so',hs',hc'⟩:=(h4 k hk).2.2
    exact ih k hk (d+1) so' hs' hc'
theorem tree_nd {u:Bool} {n:PN} (h:cP u n=0):cB ndP n:=nd_ok n 0 0 (by omega) (sT.1 h).2
def OwnB (b:BX):Prop:=Own2 b.us b.gs (upB b) b.ls.tail
theorem OwnB.grow {b:BX} (h:OwnB b) {u:PN} (hu:Own2 b.us b.gs u b.ls.tail):OwnB (jB b u).1:=by
  unfold jB
  split
  · exact h
  · split
    · exact h
    · exact hu
structure BoxT (b:BX):Prop where
  e:b.ls=upB b :: b.ls.tail
  k:(upB b).h.kind=2
  nd:cB ndP (upB b)
theorem bI.t {b:BX} (hok:bI b):BoxT b:=by
  have hl:=hok.l1
  cases hb:b.ls with
  | nil=>rw [hb] at hl;simp at hl
  | cons n0 t =>
    have e:upB b=n0:=by unfold upB;rw [hb];rfl
    have ht:=hok.up n0 (by rw [hb];rfl)
    exact⟨by rw [e,hb];rfl,by rw [e];exact(sT.1 ht).1,by rw [e];exact tree_nd ht⟩
section
variable {b : BX} (hT : BoxT b) (hO : OwnB b)
include hT hO
end
end
section
open Go.RowKit
end
section
theorem yJ {b:BX} (u:PN):(jB b u).1.ls.tail=b.ls.tail:=by
  unfold jB;(repeat' split)<;>rfl
theorem tail_putG {b:BX} (x u:PN) (ss:List ByteArray):(putG b x u ss).1.ls.tail=b.ls.tail:=by
  unfold putG;(repeat' split)<;>first|rfl|exact yJ _
theorem oF {b:BX} (ss:List ByteArray) (φ:Hd→Hd):(gY b ss φ).1.ls.tail=b.ls.tail:=by
  unfold gY;(repeat' split)<;>first|rfl|exact yJ _
theorem tail_make {b:BX} (ss:List ByteArray) (par:TH) (kind mode:Int) (dt:ByteArray):(lQ b ss par kind mode dt).1.ls.tail=b.ls.tail:=by
  unfold lQ make2;(repeat' split)<;>first|rfl|exact tail_putG _ _ _
theorem tail_do (b:BX) (c:CL):(doP b c).1.ls.tail=b.ls.tail:=by
  have ch:∀ r:BX×Int,r.1.ls.tail=b.ls.tail→(chT r).1.ls.tail=b.ls.tail:=fun r h=>h
  have m4:∀ dir n u ss other,(xT b dir n u ss other).1.ls.tail=b.ls.tail:=fun dir n u ss other=>by
    unfold xT;(repeat' split)<;>first|rfl|exact tail_putG _ _ _
  have m3:∀ dir ss other,(xI b dir ss other).1.ls.tail=b.ls.tail:=fun dir ss other=>by
    unfold xI;(repeat' split)<;>first|rfl|exact m4 _ _ _ _ _
  have m2:∀ a t ss other,(wF b a t ss other).1.ls.tail=b.ls.tail:=fun a t ss other=>by
    unfold wF;(repeat' split)<;>first|rfl|exact m3 _ _ _
  have o2:∀ l u g,(wN b l u g).1.ls.tail=b.ls.tail:=fun l u g=>by
    unfold wN;(repeat' split)<;>first|rfl|exact oF _ _
  unfold doP
  by_cases o0:1≤c.op∧c.op≤3
  · rw [if_pos o0]
  rw [if_neg o0]
  by_cases o1:c.op=4
  · rw [if_pos o1];refine ch _ ?_;unfold gJ;(repeat' split)<;>first|rfl|exact tail_make _ _ _ _ _|exact oF _ _
  rw [if_neg o1]
  by_cases o2':c.op=5
  · rw [if_pos o2'];refine ch _ ?_;unfold lA;(repeat' split)<;>first|rfl|exact tail_make _ _ _ _ _
  rw [if_neg o2']
  by_cases o3:c.op=6
  · rw [if_pos o3];refine ch _ ?_;unfold fU gone2;(repeat' split)<;>first|rfl|exact yJ _
  rw [if_neg o3]
  by_cases o4:c.op=7
  · rw [if_pos o4];refine ch _ ?_;unfold uY;(repeat' split)<;>first|rfl|exact m2 _ _ _ _
  rw [if_neg o4]
  by_cases o5:c.op=8
  · rw [if_pos o5];refine ch _ ?_;unfold pS;(repeat' split)<;>first|rfl|exact oF _ _
  rw [if_neg o5]
  by_cases o6:c.op=9
  · rw [if_pos o6];refine ch _ ?_;unfold uM;(repeat' split)<;>first|rfl|exact o2 _ _ _
  rw [if_neg o6]
  by_cases o7:c.op=10
  · rw [if_pos o7];refine ch _ ?_;unfold nK;(repeat' split)<;>first|rfl|exact oF _ _
  rw [if_neg o7]
  by_cases o8:c.op=11
  · rw [if_pos o8];refine ch _ ?_;unfold nK;(repeat' split)<;>first|rfl|exact oF _ _
  rw [if_neg o8]
  by_cases o9:c.op=12
  · rw [if_pos o9]
  rw [if_neg o9]
  by_cases o10:c.op=13
  · rw [if_pos o10];refine ch _ ?_;unfold beP;(repeat' split)<;>rfl
  rw [if_neg o10]
  by_cases o11:c.op=14
  · rw [if_pos o11]
  rw [if_neg o11]
structure InB (x:CF) (ls:List PN) (b:BX):Prop where
  ok:bI b
  us:b.us=x.M.us
  gs:b.gs=x.M.gs
  q:b.q=x.q
  tl:b.ls.tail=ls
  room:dS (upB b)≤b.q
theorem InB.step {x:CF} {ls:List PN} {b:BX} (h:InB x ls b) (c:CL):InB x ls (doP b c).1:=by
  have g:=good_do h.ok c
  have hq:=(qt_do h.ok.q.2 h.room c).1.room h.room
  exact⟨g.ok,g.us.trans h.us,g.gs.trans h.gs,g.q.trans h.q,(tail_do b c).trans h.tl,by rw [show (doP b c).1.q=b.q from g.q];exact hq⟩
theorem blocks_root {u g:Int} (hu:0≤u∧u≤65535) (hg:0≤g∧g≤65535):dS (.mk ⟨2,493,u,g,false,[],⟨#[]⟩⟩ [])≤1:=by
  have hl:(kM (.mk ⟨2,493,u,g,false,[],⟨#[]⟩⟩ [])).length≤20:=by
    rw [wR,jE]
    simp [oX,iF,jL,b16]
  unfold dS fG
  rw [if_pos (root_tree9 hu hg)]
  omega
theorem InB.new {x:CF} {ls:List PN} (h:lY x ls=0):InB x ls (sF x.M.us x.M.gs x.c x.q ls):=by
  obtain⟨_,_,_,_,k5,_,k7⟩:=cfg_ok h
  obtain⟨z,hz⟩:=qZ k7
  refine⟨newOk h,rfl,rfl,rfl,rfl,?_⟩
  have e:upB (sF x.M.us x.M.gs x.c x.q ls)=z:=by
    show (cS true x.M.us x.M.gs (.mk (tK x.c) [])).getD pnZ=z
    rw [hz];rfl
  rw [e]
  obtain⟨u,g,rfl,h1,h2⟩:=moved_inv hz
  have:=blocks_root (xC (m:=x.M.us) h1) (xC (m:=x.M.gs) h2)
  show dS (.mk ⟨2,493,u,g,false,[],⟨#[]⟩⟩ [])≤x.q
  omega
end
section
def usO:List PR:=[⟨0,1000,100⟩]
def bO:BX:=sF usO usO ⟨0,0,15,[]⟩ 4 []
def cO1:CL:=⟨4,⟨#[47,102]⟩,⟨#[]⟩,⟨#[]⟩,⟨#[120]⟩,420,0⟩
def cO2:CL:=⟨3,⟨#[47,102]⟩,⟨#[]⟩,⟨#[]⟩,⟨#[]⟩,0,0⟩
theorem opens_cfg {x:CF} (h1:x.M.us=usO) (h2:x.M.gs=usO) (h3:x.c=⟨0,0,15,[]⟩) (h4:x.q=4):lY x []=0:=by
  unfold lY cfgL uL
  rw [h1,h2,h3,h4]
  decide +kernel
theorem opens_put:(gJ bO cO1).2=0:=by decide +kernel
theorem opens_read:(kB (gJ bO cO1).1 cO2).2=0∧(kB (gJ bO cO1).1 cO2).1.data=⟨#[120]⟩:=by decide +kernel
theorem qT:PtrIs Tryz.prog 37:=⟨by kernel_rfl⟩
theorem DoR.inv {p:Nat} {b:BX} {t:TD} {e:Int} {v:Value} {V:aD} {Bs:List Box} (h:DoR p (b,t,e) v V Bs):∃ (A:Option Addr) (n c:Nat),v=.tuple #[tdV t A n c,bK e]∧cL V A n t.names∧n≤c∧eD V p b Bs:=by
  obtain⟨⟨A,n,c,h1,h2,h3⟩,h4⟩:=h
  exact⟨A,n,c,h1,h2,h3,h4⟩
theorem opens_facts {x:CF} (h1:x.M.us=usO) (h2:x.M.gs=usO) (h3:x.c=⟨0,0,15,[]⟩) (h4:x.q=4):∃ b0 b1 t2,sF x.M.us x.M.gs x.c x.q []=b0∧bI b0∧bI b1∧doP b0 cO1=(b1,tdZ,0)∧doP b1 cO2=(b1,t2,0)∧t2.data=⟨#[120]⟩:=by
  have h0:=newOk (opens_cfg h1 h2 h3 h4)
  rw [h1,h2,h3,h4] at h0 ⊢
  have e1:doP bO cO1=((gJ bO cO1).1,tdZ,0):=by
    have e:doP bO cO1=chT (gJ bO cO1):=by unfold doP;rw [if_neg (by decide),if_pos (by decide)]
    rw [e]
    show ((gJ bO cO1).1,tdZ,(gJ bO cO1).2)=_
    rw [opens_put]
  have g:=(good_do (b:=bO) h0 cO1).ok
  rw [e1] at g
  refine⟨bO,(gJ bO cO1).1,(kB (gJ bO cO1).1 cO2).1,rfl,h0,g,e1,?_,opens_read.2⟩
  have e:doP (gJ bO cO1).1 cO2=((gJ bO cO1).1,kB (gJ bO cO1).1 cO2):=by unfold doP;rw [if_pos (by decide)]
  rw [e]
  have h9:=opens_read.1
  generalize kB (gJ bO cO1).1 cO2=r at *
  obtain⟨r1,r2⟩:=r
  simp only [] at h9
  rw [h9]
attribute [local irreducible] AtQ GoC GoL GoW QO QP Fn RV bL aG VLe bR bK
attribute [local irreducible] FnB eD DoR
theorem Plain_c (V:aD) (q:Int):Fn Tryz.prog 46 [.int .i64 q] V fun v V'=>∃ x:CF,v=cfV x∧CfV V' x∧x.M.us=usO∧x.M.gs=usO∧x.c=⟨0,0,15,[]⟩∧x.q=q∧x.lo=[]:=by
  (refine aI Tryz.func46 rfl Tryz.ntmps46 rfl ?_;intro w0)
  repeat' (first|(refine aE ?_;first|(refine cF ?_;(refine aN rfl und_22 siz_197 zec_197 rfl rfl rfl rfl rfl rfl rfl ?_;intro γ))|(refine al9 ?_;intro γ)|refine pu9 ?_)|refine gx9 ?_|refine fE [0,1] rfl ?_)
  refine iU (fN.here _ _ _ _) ?_
  intro V1 hV1 hc1
  have hM:sD V1 (some ⟨γ,0,none⟩) 1 usO:=⟨⟨rfl,by unfold maxLen;omega,fun _=>⟨γ,0,rfl,fun k y hy=>by
    cases k with
    | zero=>cases hy;exact hc1
    | succ k=>cases hy⟩⟩,fun r hr=>by rw [List.mem_singleton.1 hr];unfold inR64;decide⟩
  repeat' (first|(refine aE ?_;first|refine st9 ?_|refine pu9 ?_)|refine cC ?_|fail)
  all_goals
    (refine aM Tryz.results46 (aW agg_29 rfl bA (by exact rfl)) ?_)
    exact⟨⟨⟨some ⟨γ,0,none⟩,1,1,usO,some ⟨γ,0,none⟩,1,1,usO⟩,⟨0,0,15,[]⟩,none,0,0,q,none,0,0,[]⟩,rfl,⟨⟨hM.le vl9,Nat.le_refl _,hM.le vl9,Nat.le_refl _⟩,eM.nil,eM.nil⟩,rfl,rfl,rfl,rfl,rfl⟩
theorem opens_c (V:aD):Fn Tryz.prog 8 [] V fun v _=>v=.bool true:=by
  have hs0:=fun V2=>(by have h:=same_c V2 0 0 (by omega);rw [decide_eq_true rfl] at h;exact h:Fn Tryz.prog 15 [bK 0,.int .i64 0] V2 fun v _=>v=.bool true)
  (refine aI Tryz.func8 rfl Tryz.ntmps8 rfl ?_;intro w0)
  repeat' (first|(refine aE ?_;refine pu9 ?_)|refine gx9 ?_|refine fE [0,1] rfl ?_)
  refine aS rfl ⟨Tryz.call46⟩ rfl rfl (Plain_c _ 4) ?_
  rintro v V1 hV1 ⟨x,rfl,hx,h1,h2,h3,h4,h5⟩
  have hcf:=opens_cfg h1 h2 h3 h4
  obtain⟨b0,b1,t2,hb0,hok0,hok1,hd1,hd2,hdt⟩:=opens_facts h1 h2 h3 h4
  have hNew:=fun V2 (hV2:VLe V1 V2)=>New_bx V2 x (hx.le hV2) none 0 0 [] ⟨eP.nil,by simp⟩
  rw [show sF x.M.us x.M.gs x.c x.q (([]:List LN).map LN.n)=b0 from hb0] at hNew
  have hc1:vJ cO1:=⟨by decide,by decide,by decide,by decide⟩
  have hc2:vJ cO2:=⟨by decide,by decide,by decide,by decide⟩
  repeat' (first|(refine aE ?_;first|(refine aC ?_;(refine aL rfl ⟨Tryz.call13⟩ rfl aV rfl (hNew _ vl9) ?_;rintro v V3 B3 hV3 (⟨hn,rfl,rfl⟩|⟨hn,p,rfl,hB⟩);exact absurd hcf hn))|(refine cN ?_;refine aO (kK qT rfl) ?_)|refine pu9 ?_)|refine jR ?_|refine cW (id:=2) ?_)
  all_goals first
    | (exfalso;exact absurd rfl (by assumption))
    | skip
  repeat' (first|(refine aE ?_;first|(refine aC ?_;(first|(refine aL rfl ⟨Tryz.call18⟩ rfl aV rfl ((Do_c _ p b0 B3 hok0 (hB.le vl9) cO1 hc1)) ?_;rintro v V4 B4 hV4 hR4;rw [hd1] at hR4;obtain⟨A4,n4,c4,rfl,hS4,hn4,hB4⟩:=DoR.inv hR4)|(refine aL rfl ⟨Tryz.call18⟩ rfl aV rfl ((Do_c _ p b1 B4 hok1 (hB4.le vl9) cO2 hc2)) ?_;rintro v V5 B5 hV5 hR5;rw [hd2] at hR5;obtain⟨A5,n5,c5,rfl,hS5,hn5,hB5⟩:=DoR.inv hR5)|refine aP rfl (aK ⟨Tryz.call15⟩ rfl (hs0 _)) ?_))|refine st9 ?_|(refine al9 ?_;intro γ)|refine pu9 ?_)|refine cC ?_|fail)
  all_goals first
    | (exfalso;exact absurd rfl (by assumption))
    | ((refine aM Tryz.results8 (aB rfl) ?_);exact congrArg Value.bool (decide_eq_true hdt))
end
section
theorem firstF_zero {m:List Int} (h0:∀ y∈m,y=0):dW m=0:=by
  induction m with
  | nil=>rfl
  | cons a m ih=>rw [iL,if_neg (not_not_intro (h0 a (by simp)))];exact ih fun x hx=>h0 x (by simp [hx])
theorem firstF_take {l:List Int} {k:Nat} {e:Int} (h:l[k]?=some e) (h0:∀ x∈l.take k,x=0):dW l=if ¬e=0 then e else dW (l.drop (k+1)):=by
  rw [←firstF_drop h]
  have:dW (l.take k)=0:=by
    generalize l.take k=m at *
    induction m with
    | nil=>rfl
    | cons a m ih=>rw [iL,if_neg (not_not_intro (h0 a (by simp)))];exact ih fun x hx=>h0 x (by simp [hx])
  conv=>lhs;rw [←List.take_append_drop k l,vM,if_neg (not_not_intro this)]
attribute [local irreducible] AtQ GoC GoL GoW QO QP Fn RV bL aG VLe bR bK
attribute [local irreducible] FnB
theorem BoxFault_c (V:aD) (x:CF) (hx:CfV V x) (A:Option Addr) (n c:Nat) (ls:List LN) (h:dR V A n ls):Fn Tryz.prog 14 [cfV x,.slice A n c] V fun v _=>v=.int .i64 (lY x (ls.map LN.n)):=by
  have hl:=h.1.1
  have hm:=h.1.max
  have c1:=fun V2 (hV2:VLe V V2)=>mL V2 x.M.A x.M.n x.M.c x.M.us (hx.M.1.le hV2)
  have c2:=fun V2 (hV2:VLe V V2)=>mL V2 x.M.B x.M.m x.M.e x.M.gs (hx.M.2.2.1.le hV2)
  have c3:=fun V2 (hV2:VLe V V2)=>CredFault_c V2 x.c.u x.c.g x.c.d x.A x.n x.k x.c.xs (hx.xs.le hV2)
  have c4:=fun V2 (hV2:VLe V V2)=>Moved1_c V2 x.M (hx.M.le hV2) (rG 0 0 x.c.u x.c.g false ⟨#[]⟩) (qS (Nat.zero_le _))
  have e4:(cS true x.M.us x.M.gs (rG 0 0 x.c.u x.c.g false ⟨#[]⟩).n).isSome=!decide (tA x.M.us x.M.gs x.c):=moved_unm rfl rfl
  rw [e4] at c4
  have b1:=(uF x.M.us).1
  have b2:=(uF x.M.gs).1
  have b3:=(wQ x.c.u x.c.g x.c.d x.c.xs).1
  have e:=cfgF_eq x (ls.map LN.n)
  rw [List.length_map,hl] at e
  rw [e]
  clear e e4
  have e5:((ls.map LN.n).map (cP false))=ls.map (fun y=>cP false y.n):=by rw [List.map_map];rfl
  rw [e5]
  clear e5
  generalize cS true x.M.us x.M.gs (rG 0 0 x.c.u x.c.g false ⟨#[]⟩).n=mv at *
  generalize cE x.M.us=m1 at *
  generalize cE x.M.gs=m2 at *
  generalize eT x.c.u x.c.g x.c.d x.c.xs=m3 at *
  by_cases h1:m1=0
  rotate_left
  · rw [if_pos h1]
    (refine aI Tryz.func14 rfl Tryz.ntmps14 rfl ?_;intro w0)
    repeat' (first|(refine aE ?_;first|(refine aC ?_;refine aP rfl (aK ⟨Tryz.call58⟩ rfl (c1 _ vl9)) ?_)|(refine al9 ?_;intro γ)|refine pu9 ?_)|refine gx9 ?_|refine fE [0,1,2,3] rfl ?_|(refine aA rfl ?_ ?_<;>intro hq<;>try exact no9))
    all_goals first
      | exact no9
      | ((refine aM Tryz.results14 (aB rfl) ?_);rfl)
  rw [if_neg (not_not_intro h1)]
  by_cases h2:m2=0
  rotate_left
  · rw [if_pos h2]
    (refine aI Tryz.func14 rfl Tryz.ntmps14 rfl ?_;intro w0)
    repeat' (first|(refine aE ?_;first|(refine aC ?_;(first|refine aP rfl (aK ⟨Tryz.call58⟩ rfl (c1 _ vl9)) ?_|refine aP rfl (aK ⟨Tryz.call58⟩ rfl (c2 _ vl9)) ?_))|(refine al9 ?_;intro γ)|refine pu9 ?_)|refine gx9 ?_|refine fE [0,1,2,4,5,6] rfl ?_|(refine aA rfl ?_ ?_<;>intro hq<;>try exact no9))
    all_goals first
      | exact no9
      | ((refine aM Tryz.results14 (aB rfl) ?_);rfl)
  rw [if_neg (not_not_intro h2)]
  (refine aI Tryz.func14 rfl Tryz.ntmps14 rfl ?_;intro w0)
  repeat' (first|(refine aE ?_;first|(refine aC ?_;(first|refine aP rfl (aK ⟨Tryz.call58⟩ rfl (c1 _ vl9)) ?_|refine aP rfl (aK ⟨Tryz.call58⟩ rfl (c2 _ vl9)) ?_|refine aP rfl (aK ⟨Tryz.call59⟩ rfl (c3 _ vl9)) ?_))|(refine al9 ?_;intro γ)|refine pu9 ?_)|refine dG ?_|(refine aJ rfl rfl rfl ?_ ?_<;>intro hq<;>try exact no9)|(refine aA rfl ?_ ?_<;>intro hq<;>try exact no9))
  all_goals first
    | exact no9
    | (refine iI ?_;(refine aM Tryz.results14 (aB rfl) ?_)
       first
       | (rw [if_pos (by omega)];done)
       | (rw [if_neg (by omega),if_pos (by omega)];done)
       | (rw [if_neg (by omega),if_neg (by omega),if_pos (by omega)];done))
    | skip
  rw [if_neg (show ¬¬m3=0 by omega),if_neg (show ¬(x.q<1∨64<x.q) by omega),if_neg (show ¬3<n by omega)]
  obtain⟨g2,rfl⟩:∃ g2,g2=γ:=⟨γ,rfl⟩
  refine bN (fun F V' L' m=>∃ k:Nat,VLe V V'∧[⟨g2,29,cfC x⟩]=L'∧k≤n∧(∀ y∈(ls.map (fun y=>cP false y.n)).take k,y=0)∧m=n - k∧F=[(1,.slice A n c),(2,.pointer (some ⟨g2,0,none⟩)),(8,.int .i64 (k:Int))]) (m:=n) ⟨0,VLe.refl _,rfl,Nat.zero_le _,by simp,by omega,rfl⟩ bH rfl sl9 ?_
  rintro F V' L' m ⟨k,hV',rfl,hkn,h0,rfl,rfl⟩
  by_cases hlt:k<n
  · obtain⟨b1,off,w,hA,hw,hc1,hwN⟩:=(h.le hV').at_ hlt
    have hT:=fun V2 (hV2:VLe V' V2)=>tI V2 w (hwN.le hV2) false
    have hi:(ls.map (fun y=>cP false y.n))[k]?=some (cP false w.n):=by rw [List.getElem?_map,hw];rfl
    have hd:=firstF_take hi h0
    have hbd:=treeF_bdz false w.n
    generalize cP false w.n=tw at *
    repeat' (first|(refine aE ?_;first|(refine aC ?_;refine aP rfl (aK ⟨Tryz.call60⟩ rfl (hT _ vl9)) ?_)|(refine cG ?_;refine aO (bF und_30 siz_70 rfl hA rfl hlt) ?_)|refine pu9 ?_)|refine bY ?_|(refine aA rfl ?_ ?_<;>intro hq<;>try exact no9))
    all_goals first
      | (refine vN ?_;refine aX _ (n - (k+1)) ⟨k+1,vl9,rfl,by omega,?_,rfl,rfl⟩ (by omega) bH sl9
         intro y hy
         rw [List.take_add_one,hi] at hy
         rcases List.mem_append.1 hy with hy|hy
         · exact h0 y hy
         · have hy:y∈[tw]:=hy
           rw [List.mem_singleton.1 hy];omega)
      | (refine iI ?_;(refine aM Tryz.results14 (aB rfl) ?_);rw [hd,if_pos (show ¬tw=0 by omega),if_pos (show ¬tw=0 by omega)])
  · have hfz:dW (ls.map (fun y=>cP false y.n))=0:=by
      rw [List.take_of_length_le (by rw [List.length_map,hl];omega)] at h0
      exact firstF_zero h0
    rw [if_neg (not_not_intro hfz)]
    by_cases hu:tA x.M.us x.M.gs x.c
    · rw [if_pos hu]
      rw [decide_eq_true hu] at c4
      repeat' (first|(refine aE ?_;first|(refine aC ?_;(refine aS rfl ⟨Tryz.call61⟩ rfl rfl (c4 _ vl9) ?_;rintro v V2 hV2 ⟨y,rfl,hyN,hyn⟩))|refine st9 ?_|(refine al9 ?_;intro γ)|refine pu9 ?_)|refine iX ?_|(refine aA rfl ?_ ?_<;>intro hq<;>try exact no9))
      all_goals first
        | exact no9
        | ((refine aM Tryz.results14 (aB rfl) ?_);rfl)
    · rw [if_neg hu]
      rw [decide_eq_false hu] at c4
      repeat' (first|(refine aE ?_;first|(refine aC ?_;(refine aS rfl ⟨Tryz.call61⟩ rfl rfl (c4 _ vl9) ?_;rintro v V2 hV2 ⟨y,rfl,hyN,hyn⟩))|refine st9 ?_|(refine al9 ?_;intro γ)|refine pu9 ?_)|refine iX ?_|(refine aA rfl ?_ ?_<;>intro hq<;>try exact no9))
      all_goals first
        | exact no9
        | ((refine aM Tryz.results14 (aB rfl) ?_);rfl)
theorem RNew_bx (V:aD) (x:CF) (hx:CfV V x) (A:Option Addr) (n c:Nat) (ls:List LN) (h:dR V A n ls) (hn:n≤3) (hu:¬tA x.M.us x.M.gs x.c):FnB Tryz.prog 17 [cfV x,.slice A n c] V [] fun v V' Bs'=>∃ (p:Nat) (I:BI) (L1:List Box),v=.pointer (some ⟨p,0,none⟩)∧Bs'=⟨p,130,bxC I (sF x.M.us x.M.gs x.c x.q (ls.map LN.n))⟩ :: L1∧nL V' (sF x.M.us x.M.gs x.c x.q (ls.map LN.n)) I L1:=by
  have hl:=h.1.1
  obtain⟨z,hz⟩:=qZ hu
  have c4:=fun V2 (hV2:VLe V V2)=>Moved1_c V2 x.M (hx.M.le hV2) (rG 2 493 x.c.u x.c.g false ⟨#[]⟩) (qS (Nat.zero_le _))
  rw [show (rG 2 493 x.c.u x.c.g false ⟨#[]⟩).n=.mk (tK x.c) [] from rfl,hz] at c4
  have hsrc:=h.1.cells oB
  have hol:=ones_ln ls
  (refine bD Tryz.func17 rfl Tryz.ntmps17 rfl ?_;intro w0)
  repeat' (first|(refine aE ?_;first|(refine aC ?_;(refine aS rfl ⟨Tryz.call61⟩ rfl rfl (c4 _ vl9) ?_;rintro v V2 hV2 ⟨y,rfl,hyN,hyn⟩))|refine st9 ?_|(refine al9 ?_;intro γ)|refine pu9 ?_)|refine cC ?_|fail)
  rename_i g2 g5
  obtain⟨g7,rfl⟩:∃ g7,g7=γ:=⟨γ,rfl⟩
  have ho1:=ones_n1 y
  refine dZ (fun F V' L'=>∃ (A3:Option Addr) (c3:Nat) (L3:List Box),V2=V'∧cO A3 1 c3 70 8 ([y].flatMap lnC) L3∧⟨g7,130,[.slice x.M.A x.M.n x.M.c,.slice x.M.B x.M.m x.M.e,.int .i64 x.c.u,.int .i64 x.c.g,.slice x.A x.n x.k,.int .i64 x.c.d,.int .i64 x.q,.slice A3 1 c3]⟩ :: L3=L'∧F=[(1,.slice A n c),(7,.pointer (some ⟨g7,0,none⟩))]) ?_ ?_
  · refine bX (id:=3) _ mixed (List.Sublist.cons _ (List.Sublist.refl _)) ?_;refine gt9 0 ?_;refine gt9 1 ?_;refine gt9 2 ?_;refine gt9 3 ?_;refine gt9 5 ?_;(refine dL (i:=4) (j:=6) (by kernel_rfl) rfl rfl rfl rfl vl9 vl9 bP ?_ ?_<;>first|((first|refine aO (bC one_30 rfl bA (by exact rfl)) ?_|refine aO (bC one_30 rfl bA (by assumption)) ?_|refine aO (cD one_30 rfl (by assumption)) ?_);refine aZ (i:=6) rfl ?_;(refine aN rfl und_30 siz_70 zec_70 rfl rfl rfl rfl rfl rfl rfl ?_;intro γ);refine aZ (i:=7) rfl ?_;(refine aQ rfl und_30 inf_70 rfl rfl rfl cO.nil dO (cY bA rfl) bJ (by omega) rfl rfl ?_;intro A3 c3 L3 hr3);refine gt9 8 ?_;refine gt9 9 ?_;refine aZ (i:=10) rfl ?_;refine aR rfl siz_30 rfl rfl rfl rfl bJ dP rfl ?_;refine aY (by kernel_rfl) vl9 vl9 bP ?_)|((refine aN rfl und_30 siz_70 zec_70 rfl rfl rfl rfl rfl rfl rfl ?_;intro γ);refine aZ (i:=4) rfl ?_;(first|refine aO (bC one_30 rfl bA (by exact rfl)) ?_|refine aO (bC one_30 rfl bA (by assumption)) ?_|refine aO (cD one_30 rfl (by assumption)) ?_);refine aZ (i:=7) rfl ?_;(refine aQ rfl und_30 inf_70 rfl rfl rfl cO.nil dO (cY bA rfl) bJ (by omega) rfl rfl ?_;intro A3 c3 L3 hr3);refine gt9 8 ?_;refine gt9 9 ?_;refine aZ (i:=10) rfl ?_;refine aR rfl siz_30 rfl rfl rfl rfl bJ dP rfl ?_;refine aY (by kernel_rfl) vl9 vl9 bP ?_))
    all_goals exact dN _ ⟨A3,c3,L3,rfl,hr3,rfl,rfl⟩ bH sp9
  rintro F V' L' ⟨A3,c3,L3,rfl,hr3,rfl,rfl⟩
  have hsrc2:=hsrc.le hV2
  repeat' (first|(refine aE ?_;first|(refine aC ?_;(refine aQ rfl und_30 inf_70 rfl rfl rfl hr3 aV (fY hsrc2) bJ (by omega) rfl rfl ?_;intro A4 c4 L4 hr4))|refine st9 ?_|refine pu9 ?_)|refine cC ?_|fail)
  all_goals
    (refine bE Tryz.results17 (aB rfl) (show List.Sublist (⟨g7,130,bxC ⟨x.M,x.A,x.n,x.k,A4,1+n,c4,y :: ls⟩ (sF x.M.us x.M.gs x.c x.q (ls.map LN.n))⟩ :: L4) _ from bP) ?_)
    refine⟨g7,⟨x.M,x.A,x.n,x.k,A4,1+n,c4,y :: ls⟩,L4,rfl,rfl,hx.M.le vl9,rfl,rfl,hx.xs.le vl9,trivial,?_,?_,?_,?_⟩
    · rw [List.flatMap_cons];simpa using hr4
    · intro w hw
      rcases List.mem_cons.1 hw with rfl|hw
      · exact hyN.le vl9
      · exact(h.2 w hw).le vl9
    · show (y :: ls).length=1+n
      rw [List.length_cons,hl];omega
    · show y.n :: ls.map LN.n=(cS true x.M.us x.M.gs (.mk (tK x.c) [])).getD pnZ :: ls.map LN.n
      rw [hz,hyn]
end
section
attribute [local irreducible] AtQ GoC GoL GoW QO QP Fn RV bL aG VLe bR bK
attribute [local irreducible] FnB
end
section
attribute [local irreducible] AtQ GoC GoL GoW QO QP Fn RV bL aG VLe bR bK
attribute [local irreducible] FnB
end
section
attribute [local irreducible] AtQ GoC GoL GoW QO QP Fn RV bL aG VLe bR bK
attribute [local irreducible] FnB
end
section
attribute [local irreducible] AtQ GoC GoL GoW QO QP Fn RV bL aG VLe bR bK
attribute [local irreducible] FnB
end
section
attribute [local irreducible] AtQ GoC GoL GoW QO QP Fn RV bL aG VLe bR bK
attribute [local irreducible] FnB
end
section
attribute [local irreducible] AtQ GoC GoL GoW QO QP Fn RV bL aG VLe bR bK
attribute [local irreducible] FnB
end
section
open Go.RowKit
end
section
def rY (r:TD×Int) (v:Value) (V':aD):Prop:=∃ (A:Option Addr) (n c:Nat),v=.tuple #[tdV r.1 A n c,.int .i64 r.2]∧cL V' A n r.1.names∧n≤c
theorem rY.no {e:Int} {V':aD}:rY (tdZ,e) (.tuple #[tdV tdZ none 0 0,.int .i64 e]) V':=⟨none,0,0,rfl,cL.nil,Nat.le_refl _⟩
attribute [local irreducible] AtQ GoC GoL GoW QO QP Fn RV bL aG VLe bR bK
attribute [local irreducible] FnB
end
section
open Go.RowKit
end
section
attribute [local irreducible] AtQ GoC GoL GoW QO QP Fn RV bL aG VLe bR bK
attribute [local irreducible] FnB
end
section
attribute [local irreducible] AtQ GoC GoL GoW QO QP Fn RV bL aG VLe bR bK
end
section
def RDoR (p:Nat) (r:BX×(TD×Int)) (v:Value) (V':aD) (Bs':List Box):Prop:=rY r.2 v V'∧lD V' p r.1 Bs'
theorem RDoR.ch {p:Nat} {r:BX×Int} {v:Value} {V':aD} {Bs':List Box} (hB:lD V' p r.1 Bs') (hv:v=.tuple #[tdV tdZ none 0 0,.int .i64 r.2]):RDoR p (chT r) v V' Bs':=⟨by rw [hv];exact⟨none,0,0,rfl,cL.nil,Nat.le_refl _⟩,hB⟩
theorem RDoR.no {p:Nat} {b:BX} {e:Int} {V':aD} {Bs':List Box} (hB:lD V' p b Bs'):RDoR p (b,tdZ,e) (.tuple #[tdV tdZ none 0 0,.int .i64 e]) V' Bs':=⟨⟨none,0,0,rfl,cL.nil,Nat.le_refl _⟩,hB⟩
theorem RDoR.inv {p:Nat} {b:BX} {t:TD} {e:Int} {v:Value} {V:aD} {Bs:List Box} (h:RDoR p (b,t,e) v V Bs):∃ (A:Option Addr) (n c:Nat),v=.tuple #[tdV t A n c,.int .i64 e]∧cL V A n t.names∧n≤c∧lD V p b Bs:=by
  obtain⟨⟨A,n,c,h1,h2,h3⟩,h4⟩:=h
  exact⟨A,n,c,h1,h2,h3,h4⟩
attribute [local irreducible] AtQ GoC GoL GoW QO QP Fn RV bL aG VLe bR bK
attribute [local irreducible] FnB
end
section
attribute [local irreducible] AtQ GoC GoL GoW QO QP Fn RV bL aG VLe bR bK
end
section
theorem rY.off {r:TD×Int} {v:Value} {V:aD} {gs:List Nat} (hc:pY V gs) (hp:∀ s∈r.1.names,0<s.size) (h:rY r v V):rY r v (V.off gs):=by
  obtain⟨A,n,c,h1,h2,h3⟩:=h
  exact⟨A,n,c,h1,h2.off hc hp,h3⟩
attribute [local irreducible] AtQ GoC GoL GoW QO QP Fn RV bL aG VLe bR bK
attribute [local irreducible] FnB
end
section
attribute [local irreducible] AtQ GoC GoL GoW QO QP Fn RV bL aG VLe bR bK
theorem LightConfig_c (V:aD) (x:CF):Fn Tryz.prog 9 [cfV x] V fun v _=>∃ b:Bool,v=.bool b:=by
  (refine aI Tryz.func9 rfl Tryz.ntmps9 rfl ?_;intro w0)
  repeat' (first|(refine aE ?_;first|(refine al9 ?_;intro γ)|refine pu9 ?_)|refine cC ?_|(refine aJ rfl rfl rfl ?_ ?_<;>intro hq<;>try exact no9))
  all_goals
    (refine aM Tryz.results9 (aB rfl) ?_)
    exact⟨_,rfl⟩
def clLt (c:CL):Prop:=c.path.size≤200∧c.other.size≤200∧c.name.size≤60∧c.data.size≤300
theorem clLt.ok {c:CL} (h:clLt c):vJ c:=⟨by have:=h.1;omega,by have:=h.2.1;omega,by have:=h.2.2.1;omega,by have:=h.2.2.2;omega⟩
theorem LightCalls_c (V:aD) (A:Option Addr) (n c:Nat) (xs:List CL) (h:eP V 7 clC A n xs):Fn Tryz.prog 11 [.slice A n c] V fun v _=>∃ b:Bool,v=.bool b∧(b=true→n≤40∧∀ y∈xs,clLt y):=by
  have hl:=h.1
  have hm:=h.max
  (refine aI Tryz.func11 rfl Tryz.ntmps11 rfl ?_;intro w0)
  repeat' (first|(refine aE ?_;refine pu9 ?_)|refine bY ?_|(refine aA rfl ?_ ?_<;>intro hq<;>try exact no9))
  · (refine aM Tryz.results11 (aB rfl) ?_)
    exact⟨_,rfl,fun h=>by cases h⟩
  · have hn40:n≤40:=by omega
    refine bN (fun F V' L' m=>∃ k:Nat,V=V'∧[]=L'∧k≤n∧(∀ y∈xs.take k,clLt y)∧m=n - k∧F=[(0,.slice A n c),(3,.int .i64 (k:Int))]) (m:=n) ⟨0,rfl,rfl,Nat.zero_le _,by simp,by omega,rfl⟩ bH rfl sl9 ?_
    rintro F V' L' m ⟨k,rfl,rfl,hkn,hf,rfl,rfl⟩
    by_cases hlt:k<n
    · obtain⟨b,off,e,rfl,he,hc⟩:=h.at_ hlt
      have g1:=jN (j:=1) hc rfl
      have g2:=jN (j:=2) hc rfl
      have g3:=jN (j:=3) hc rfl
      have g4:=jN (j:=4) hc rfl
      repeat' (first|(refine aE ?_;refine pu9 ?_)|refine dG ?_|(refine aJ rfl rfl rfl ?_ ?_<;>intro hq<;>try exact no9)|(refine aA rfl ?_ ?_<;>intro hq<;>try exact no9))
      all_goals first
        | (refine iI ?_;(refine aM Tryz.results11 (aB rfl) ?_);exact⟨_,rfl,fun h=>by cases h⟩)
        | (refine vN ?_
           refine aX _ (n - (k+1)) ⟨k+1,rfl,rfl,by omega,fun y hy=>?_,rfl,rfl⟩ (by omega) bH sl9
           rw [List.take_add_one,he] at hy
           rcases List.mem_append.1 hy with h|h
           · exact hf y h
           · simp at h;subst h;exact⟨by omega,by omega,by omega,by omega⟩)
        | skip
    · repeat' (first|(refine aE ?_;refine pu9 ?_)|refine dT ?_|(refine aA rfl ?_ ?_<;>intro hq<;>try exact no9))
      all_goals
        (refine aM Tryz.results11 (aB rfl) ?_)
        exact⟨_,rfl,fun _=>⟨hn40,by rw [List.take_of_length_le (by omega)] at hf;exact hf⟩⟩
end
section
section
variable {P : Program} {B : Base} {N : Nat} {Q : Exit → Act → World → Prop} {k : List jI} {F : List (Nat × Value)} {V : aD}
end
end
section
theorem firstF_bd:∀ {l:List Int},(∀ e∈l,0≤e∧e≤17)→0≤dW l∧dW l≤17
  | [],_=>by unfold dW;omega
  | a :: l,h=>by
    rw [iL]
    split
    · exact h a (by simp)
    · exact firstF_bd fun e he=>h e (by simp [he])
theorem cfgF_bd (x:CF) (ls:List PN):0≤lY x ls∧lY x ls≤17:=by
  have h1:=uF x.M.us
  have h2:=uF x.M.gs
  have h3:=wQ x.c.u x.c.g x.c.d x.c.xs
  have h4:0≤dW (ls.map (cP false))∧dW (ls.map (cP false))≤17:=firstF_bd fun e he=>by
    obtain⟨y,_,rfl⟩:=List.mem_map.1 he
    have:=treeF_bdz false y
    omega
  rw [cfgF_eq]
  (repeat' split)<;>omega
theorem nL.rbox {V V':aD} {b:BX} {I:BI} {L1:List Box} (hok:bI b) (h:nL V b I L1) (hv:VLe V V') (hc:eL V' 8 I.K I.m (I.xs.flatMap lnC)) {p:Nat}:lD V' p b [⟨p,130,bxC I b⟩]:=by
  have hm:=h.m4 hok
  exact⟨I,rfl,h.M.le hv,h.us,h.gs,h.xs.le hv,trivial,dR.of hc h.len (by unfold maxLen;omega) (fun x hx=>(h.ls x hx).le hv),h.row.cap,h.eq⟩
theorem same_is (V:aD) (e:Int) (he:0≤e∧e≤17):Fn Tryz.prog 15 [bK e,.int .i64 e] V fun v _=>v=.bool true:=by
  have h:=same_c V e e (by omega)
  rw [decide_eq_true rfl] at h;exact h
attribute [local irreducible] AtQ GoC GoL GoW QO QP Fn RV bL aG VLe bR bK
attribute [local irreducible] FnB eD jG DoR lD rY RDoR
end
section
attribute [local irreducible] AtQ GoC GoL GoW QO QP Fn RV bL aG VLe bR bK
attribute [local irreducible] FnB eD jG DoR lD rY RDoR
end
end Go.Proofs.YtejkmomfpidnbabGreat
