/- Walks and plain laws, part 3: what functions compute, proved once each (AttrE, Mut, Mut2, TreeP, TreeE, TreeE2, TreeE3, TreeE4, TreeE5, TreeE6, TreeE7, TreeE8, TreeE9, TreeE10). -/
import Derived.Test.YtejkmomfpidnbabGreatPart2
import Derived.Laws.BytesString
import Derived.Laws.MakeOwn
import Derived.Laws.Pointers
set_option linter.unusedSimpArgs false
set_option linter.unusedVariables false
set_option maxRecDepth 100000
set_option maxHeartbeats 40000000
namespace Go.Proofs.YtejkmomfpidnbabGreat
open Go.RowKit
section
def eH (V:aI) (A:Option Addr) (n:Nat) (xs:List PA):Prop:=AttrsV V A n xs∧∀ a∈xs,a.n.size≤maxLen∧a.v.size≤maxLen
theorem eH.le {V V':aI} {A:Option Addr} {n:Nat} {xs:List PA} (h:eH V A n xs) (hv:VLe V V'):eH V' A n xs:=⟨h.1.le hv,h.2⟩
theorem eH.nil {V:aI} {A:Option Addr}:eH V A 0 []:=⟨eT.nil,by simp⟩
theorem pa_len (a:PA):(paC a).length=2:=rfl
theorem ones_pa (xs:List PA):∀ u∈xs.flatMap paC,iO u=true:=by
  intro u hu
  obtain⟨r,_,hr⟩:=List.mem_flatMap.1 hu
  simp at hr
  rcases hr with rfl|rfl<;>rfl
theorem eH.at_ {V:aI} {A:Option Addr} {n:Nat} {xs:List PA} (h:eH V A n xs) {k:Nat} (hk:k<n):∃ b off a,A=some ⟨b,off,none⟩∧xs[k]?=some a∧aL V b (off+k * 2) [.string a.n,.string a.v]∧V ⟨b,off+k * 2+0,none⟩=some (.string a.n)∧V ⟨b,off+k * 2+1,none⟩=some (.string a.v)∧a.n.size≤9223372036854775807∧a.v.size≤9223372036854775807:=by
  obtain⟨b,off,r,ha,hx,hc⟩:=h.1.at_ hk
  have:=h.2 r (List.mem_of_getElem? hx)
  unfold maxLen at this
  exact⟨b,off,r,ha,hx,hc,hc 0 _ rfl,hc 1 _ rfl,by omega,by omega⟩
theorem eH.prev {V:aI} {b off n k:Nat} {xs:List PA} (h:eH V (some ⟨b,off,none⟩) n xs) (hk:k<n) (h0:¬k=0):∃ y,xs[k - 1]?=some y∧V ⟨b,off+((k:Int) - 1).toNat * 2+0,none⟩=some (.string y.n):=by
  obtain⟨b',off',z,he,hz,_,hc,_⟩:=h.at_ (k:=k - 1) (by omega)
  cases he
  exact⟨z,hz,by rw [show ((k:Int) - 1).toNat=k - 1 by omega];exact hc⟩
theorem aF_all {xs:List PA} (h:¬4<xs.length):eR xs=aF none xs:=by unfold eR;rw [if_neg h]
attribute [local irreducible] AtQ GoC GoL GoW QO QP Fn RV bX aL VLe cG bT
theorem lB (V:aI) (A:Option Addr) (n c:Nat) (xs:List PA) (h:eH V A n xs):Fn Tryz.prog 239 [.slice A n c] V fun v _=>v=bT (eR xs):=by
  have hm:=h.1.max
  have hl:=h.1.1
  (refine aH Tryz.func239 rfl Tryz.ntmps239 rfl ?_;intro w0)
  repeat' (first|(refine aE ?_;refine pu9 ?_)|refine bW ?_|(refine aA rfl ?_ ?_<;>intro hq<;>try exact no9))
  all_goals try ((refine aQ Tryz.results239 (aB rfl) ?_);refine dE 2 (by unfold eR;rw [if_pos (by omega)]))
  rw [aF_all (by omega)]
  refine bQ (fun F V' L' m=>∃ k:Nat,k≤n∧m=n - k∧V=V'∧[]=L'∧aF none xs=aF (prevA xs k) (xs.drop k)∧F=[(0,.slice A n c),(9,.slice A n c),(10,.int .i64 n),(11,.int .i64 k)]) (m:=n) ⟨0,Nat.zero_le _,by omega,rfl,rfl,rfl,rfl⟩ bH rfl sl9 ?_
  rintro F V' L' m ⟨k,hk,rfl,rfl,rfl,hg,rfl⟩
  by_cases hlt:k<n
  · obtain⟨bb,off,a,rfl,hx,hc,c0,c1,w0',w1⟩:=h.at_ hlt
    rw [hg,kP hx]
    by_cases h0:k=0
    · subst h0
      repeat' (first|(refine aE ?_;first|(refine aD ?_;refine aN rfl (aG ⟨Tryz.call166⟩ rfl (kQ _ a.n (by omega))) ?_)|refine st9 ?_|(refine al9 ?_;intro γ)|refine pu9 ?_)|refine cV ?_|(refine aA rfl ?_ ?_<;>intro hq<;>try exact no9)|refine bN (id:=10) mixed (by kernel_rfl) ?_)
      all_goals first
        | ((refine aQ Tryz.results239 (aB rfl) ?_);exact dE 4 (aF_name (by assumption)))
        | ((refine aQ Tryz.results239 (aB rfl) ?_);exact dE 1 (aF_big (by assumption) (by omega)))
        | (refine aZ _ (n - (0+1)) ⟨0+1,by omega,rfl,rfl,rfl,?_,rfl⟩ (by omega) bH sl9
           rw [show prevA xs 0=none from rfl,aF_first (by assumption) (by omega),tJ,hx];rfl)
    · obtain⟨y,hy,hcy⟩:=h.prev hlt h0
      rw [prevA_pos h0,hy]
      repeat' (first|(refine aE ?_;first|(refine aD ?_;refine aN rfl (aG ⟨Tryz.call166⟩ rfl (kQ _ a.n (by omega))) ?_)|(refine cX ?_;refine aR (q_sgeq rfl rfl) ?_)|refine st9 ?_|(refine al9 ?_;intro γ)|refine pu9 ?_)|refine bW ?_|(refine aJ rfl rfl rfl ?_ ?_<;>intro hq<;>try exact no9)|(refine aA rfl ?_ ?_<;>intro hq<;>try exact no9)|refine bN (id:=10) mixed (by kernel_rfl) ?_)
      all_goals first
        | ((refine aQ Tryz.results239 (aB rfl) ?_);exact dE 4 (aF_name (by assumption)))
        | ((refine aQ Tryz.results239 (aB rfl) ?_);exact dE 1 (aF_big (by assumption) (by omega)))
        | ((refine aQ Tryz.results239 (aB rfl) ?_);exact dE 3 (aF_down (by assumption) (by omega) (by assumption)))
        | (refine aZ _ (n - (k+1)) ⟨k+1,by omega,rfl,rfl,rfl,?_,rfl⟩ (by omega) bH sl9
           rw [show (some y).map PA.n=some y.n from rfl,aF_on (by assumption) (by omega) (Classical.byContradiction (by assumption)),tJ,hx];rfl)
  · repeat' (first|(refine aE ?_;refine pu9 ?_)|refine dR ?_|(refine aA rfl ?_ ?_<;>intro hq<;>try exact no9))
    (refine aQ Tryz.results239 (aB rfl) ?_)
    rw [hg,List.drop_eq_nil_of_le (by omega)]
    exact errV_nil rfl
theorem fU (V:aI) (A:Option Addr) (n c:Nat) (xs:List PA) (h:eH V A n xs):Fn Tryz.prog 246 [.slice A n c] V fun v _=>v=.int .i64 (eR xs):=by
  have hm:=h.1.max
  have hl:=h.1.1
  (refine aH Tryz.func246 rfl Tryz.ntmps246 rfl ?_;intro w0)
  repeat' (first|(refine aE ?_;refine pu9 ?_)|refine bW ?_|(refine aA rfl ?_ ?_<;>intro hq<;>try exact no9))
  all_goals try ((refine aQ Tryz.results246 (aB rfl) ?_);rw [show eR xs=2 by unfold eR;rw [if_pos (by omega)]])
  rw [aF_all (by omega)]
  refine bQ (fun F V' L' m=>∃ k:Nat,k≤n∧m=n - k∧V=V'∧[]=L'∧aF none xs=aF (prevA xs k) (xs.drop k)∧F=[(0,.slice A n c),(3,.int .i64 k)]) (m:=n) ⟨0,Nat.zero_le _,by omega,rfl,rfl,rfl,rfl⟩ bH rfl sl9 ?_
  rintro F V' L' m ⟨k,hk,rfl,rfl,rfl,hg,rfl⟩
  by_cases hlt:k<n
  · obtain⟨bb,off,a,rfl,hx,hc,c0,c1,w0',w1⟩:=h.at_ hlt
    rw [hg,kP hx]
    by_cases h0:k=0
    · subst h0
      repeat' (first|(refine aE ?_;first|(refine aD ?_;refine aN rfl (aG ⟨Tryz.call194⟩ rfl (iT _ a.n (by omega))) ?_)|refine pu9 ?_)|refine cV ?_|(refine aA rfl ?_ ?_<;>intro hq<;>try exact no9)|refine bN (id:=10) mixed (by kernel_rfl) ?_)
      all_goals first
        | ((refine aQ Tryz.results246 (aB rfl) ?_);rw [aF_name (by assumption)];done)
        | ((refine aQ Tryz.results246 (aB rfl) ?_);rw [aF_big (by assumption) (by omega)];done)
        | (refine aZ _ (n - (0+1)) ⟨0+1,by omega,rfl,rfl,rfl,?_,rfl⟩ (by omega) bH sl9
           rw [show prevA xs 0=none from rfl,aF_first (by assumption) (by omega),tJ,hx];rfl)
    · obtain⟨y,hy,hcy⟩:=h.prev hlt h0
      rw [prevA_pos h0,hy,show (some y).map PA.n=some y.n from rfl]
      repeat' (first|(refine aE ?_;first|(refine aD ?_;refine aN rfl (aG ⟨Tryz.call194⟩ rfl (iT _ a.n (by omega))) ?_)|(refine cX ?_;refine aR (q_sleq rfl rfl) ?_)|refine pu9 ?_)|refine bW ?_|(refine aJ rfl rfl rfl ?_ ?_<;>intro hq<;>try exact no9)|(refine aA rfl ?_ ?_<;>intro hq<;>try exact no9)|refine bN (id:=10) mixed (by kernel_rfl) ?_)
      all_goals first
        | ((refine aQ Tryz.results246 (aB rfl) ?_);rw [aF_name (by assumption)];done)
        | ((refine aQ Tryz.results246 (aB rfl) ?_);rw [aF_big (by assumption) (by omega)];done)
        | ((refine aQ Tryz.results246 (aB rfl) ?_);rw [aF_down (by assumption) (by omega) (by assumption)];done)
        | (refine aZ _ (n - (k+1)) ⟨k+1,by omega,rfl,rfl,rfl,?_,rfl⟩ (by omega) bH sl9
           rw [aF_on (by assumption) (by omega) (Classical.byContradiction (by assumption)),tJ,hx];rfl)
  · repeat' (first|(refine aE ?_;refine pu9 ?_)|refine dR ?_|(refine aA rfl ?_ ?_<;>intro hq<;>try exact no9))
    (refine aQ Tryz.results246 (aB rfl) ?_)
    rw [hg,List.drop_eq_nil_of_le (by omega)]
    rfl
theorem SameAttrs_c (V:aI) (A B:Option Addr) (n m c1 c2:Nat) (xs ys:List PA) (h:eH V A n xs) (k:eH V B m ys) :
    Fn Tryz.prog 97 [.slice A n c1,.slice B m c2] V fun v _=>v=.bool (decide (xs=ys)):=by
  have hm:=h.1.max
  have hl:=h.1.1
  have hl2:=k.1.1
  (refine aH Tryz.func97 rfl Tryz.ntmps97 rfl ?_;intro w0)
  repeat' (first|(refine aE ?_;first|(refine cX ?_;refine aR (q_aneq ng_271 rfl rfl (eqs_271 ..)) ?_)|refine pu9 ?_)|refine bW ?_|(refine aA rfl ?_ ?_<;>intro hq<;>try exact no9))
  · (refine aQ Tryz.results97 (aB rfl) ?_)
    rw [decide_eq_false (fun e=>by subst e;omega)]
  · have hnm:n=m:=by omega
    subst hnm
    refine bQ (fun F V' L' m=>∃ i:Nat,i≤n∧m=n - i∧V=V'∧L'=[]∧xs.take i=ys.take i∧F=[(0,.slice A n c1),(1,.slice B n c2),(5,.int .i64 i)]) (m:=n) ⟨0,Nat.zero_le _,by omega,rfl,rfl,by simp,rfl⟩ bH rfl sl9 ?_
    rintro F V' L' m ⟨i,hi,rfl,rfl,rfl,he,rfl⟩
    by_cases hlt:i<n
    · obtain⟨b1,o1,x,rfl,hx,hcx,_⟩:=h.at_ hlt
      obtain⟨b2,o2,y,rfl,hy,hcy,_⟩:=k.at_ hlt
      repeat' (first|(refine aE ?_;first|(refine cX ?_;refine aR (q_aneq ng_271 rfl rfl (eqs_271 ..)) ?_)|refine pu9 ?_)|refine bW ?_|(refine aA rfl ?_ ?_<;>intro hq<;>try exact no9)|(refine bP rfl ?_ ?_<;>intro hq)|refine bN (id:=6) mixed (by kernel_rfl) ?_)
      · (refine aQ Tryz.results97 (aB rfl) ?_)
        rw [decide_eq_false (fun e=>by subst e;rw [hx] at hy;injection hy with hy;subst hy;simp at hq)]
      · refine aZ _ (n - (i+1)) ⟨i+1,by omega,rfl,rfl,rfl,?_,rfl⟩ (by omega) bH sl9
        have hxy:x=y:=by
          simp at hq
          exact PA.ext hq.1 hq.2
        rw [List.take_add_one,List.take_add_one,he,hx,hy,hxy]
    · repeat' (first|(refine aE ?_;first|(refine cX ?_;refine aR (q_aneq ng_271 rfl rfl (eqs_271 ..)) ?_)|refine pu9 ?_)|refine dR ?_|(refine aA rfl ?_ ?_<;>intro hq<;>try exact no9))
      (refine aQ Tryz.results97 (aB rfl) ?_)
      rw [List.take_of_length_le (by omega),List.take_of_length_le (by omega)] at he
      rw [decide_eq_true he]
def oU (xs:List PA):Bool:=decide (xs.length≤8) && xs.all fun a=>decide (a.n.size≤60) && decide (a.v.size≤60)
theorem light_snoc {xs:List PA} {k:Nat} {a:PA} (h:xs[k]?=some a) (h1:(xs.take k).all (fun a=>decide (a.n.size≤60) && decide (a.v.size≤60))=true) (h2:a.n.size≤60) (h3:a.v.size≤60):(xs.take (k+1)).all (fun a=>decide (a.n.size≤60) && decide (a.v.size≤60))=true:=by
  rw [List.take_add_one,h,List.all_append,h1];simp [h2,h3]
theorem light_bad {xs:List PA} {k:Nat} {a:PA} (h:xs[k]?=some a) (h2:60<a.n.size∨60<a.v.size):oU xs=false:=by
  cases hb:oU xs
  · rfl
  · unfold oU at hb
    rw [Bool.and_eq_true,List.all_eq_true] at hb
    have:=hb.2 a (List.mem_of_getElem? h)
    simp at this;omega
theorem lightAttrs_c (V:aI) (A:Option Addr) (n c:Nat) (xs:List PA) (h:eH V A n xs):Fn Tryz.prog 219 [.slice A n c] V fun v _=>v=.bool (oU xs):=by
  have hm:=h.1.max
  have hl:=h.1.1
  (refine aH Tryz.func219 rfl Tryz.ntmps219 rfl ?_;intro w0)
  repeat' (first|(refine aE ?_;refine pu9 ?_)|refine bW ?_|(refine aA rfl ?_ ?_<;>intro hq<;>try exact no9))
  · (refine aQ Tryz.results219 (aB rfl) ?_)
    rw [oU,decide_eq_false (by omega)];rfl
  · refine bQ (fun F V' L' m=>∃ k:Nat,k≤n∧m=n - k∧V=V'∧[]=L'∧(xs.take k).all (fun a=>decide (a.n.size≤60) && decide (a.v.size≤60))=true∧F=[(0,.slice A n c),(3,.int .i64 k)]) (m:=n) ⟨0,Nat.zero_le _,by omega,rfl,rfl,by simp,rfl⟩ bH rfl sl9 ?_
    rintro F V' L' m ⟨k,hk,rfl,rfl,rfl,ha,rfl⟩
    by_cases hlt:k<n
    · obtain⟨bb,off,a,rfl,hx,hc,c0,c1,w0',w1⟩:=h.at_ hlt
      repeat' (first|(refine aE ?_;refine pu9 ?_)|refine cV ?_|(refine aJ rfl rfl rfl ?_ ?_<;>intro hq<;>try exact no9)|(refine aA rfl ?_ ?_<;>intro hq<;>try exact no9))
      all_goals first
        | ((refine aQ Tryz.results219 (aB rfl) ?_);rw [light_bad hx (by omega)];done)
        | (refine aZ _ (n - (k+1)) ⟨k+1,by omega,rfl,rfl,rfl,light_snoc hx ha (by omega) (by omega),rfl⟩ (by omega) bH sl9)
    · repeat' (first|(refine aE ?_;refine pu9 ?_)|refine dR ?_|(refine aA rfl ?_ ?_<;>intro hq<;>try exact no9))
      (refine aQ Tryz.results219 (aB rfl) ?_)
      rw [List.take_of_length_le (by omega)] at ha
      rw [oU,ha,decide_eq_true (by omega)];rfl
end
section
def jK (Bs:List Box):List Nat:=Bs.map Box.g
@[simp] theorem gsOf_nil:jK []=[]:=rfl
def tT (V:aI) (w:World) (Bs:List Box) (R:Value→aI→List Box→Prop) (e:Ending) (w':World):Prop :=
  ∃ v V' Bs',e=.returned v∧St ⟨V,w,jK Bs⟩ V' Bs' w'∧R v V' Bs'
def FnB (P:Program) (f:FuncId) (args:List Value) (V:aI) (Bs:List Box) (R:Value→aI→List Box→Prop):Prop :=
  ∀ w,St ⟨V,w,jK Bs⟩ V Bs w→Calls P f args.toArray w (tT V w Bs R)
section
variable {P : Program} {B : Base} {N : Nat} {Q : Exit → Act → World → Prop} {k : List kI} {F : List (Nat × Value)} {V : aI} {L : List Box} {w : World}
variable {d : Option Tmp} {ty : TypeId} {pos : String} {af : Array Edge} {gd : Option (Nat × Bool)} {x y : Operand} {T T2 : TypeId} {ops : Array Oper} {rest : List Oper}
theorem bI {f:FuncId} {fn:Func} {c:Code} {args:List Value} {Bs:List Box} {R:Value→aI→List Box→Prop} (hf:P.funcs[f]?=some fn) (hb:fn.body=some c) (hN:fn.ntmps=N) (hsz:Nat.ble args.length N=true)
    (h:∀ w,GoC P ⟨V,w,jK Bs⟩ N c (bodyPost P fn (tT V w Bs R)) [] (xY args 0) V Bs):FnB P f args V Bs R:=fun w hV=>by
  refine calls_of_wp hf hb (h w _ w ⟨rfl,?_,fun t v hv=>?_⟩ hV)
  · have:=Nat.le_of_ble_eq_true hsz
    simp [hN];omega
  · obtain⟨_,h2⟩:=pH args 0 t v hv
    have hlt:t<args.length:=by
      rcases Nat.lt_or_ge t args.length with hl|hl
      · exact hl
      · rw [List.getElem?_eq_none (by omega)] at h2;cases h2
    rw [List.getElem?_eq_getElem (by omega)] at h2
    simp only [Nat.sub_zero] at h2
    injection h2 with h2
    simp [Array.getElem?_append,hlt,h2]
variable {fn : Func} {w0 : World} {V0 : aI} {Bs : List Box} {R : Value → aI → List Box → Prop}
theorem nB (hr:fn.results=#[]) {L':List Box} (hL:L'.Sublist L) (hR:R (.tuple #[]) V L'):AtQ P ⟨V0,w0,jK Bs⟩ N (bodyPost P fn (tT V0 w0 Bs R)) [] .ret F V L:=fun a w ha hs =>
  ⟨ha.1,.tuple #[],by simp [results,hr],_,V,L',rfl,hs.sub hL,hR⟩
theorem nC (hr:fn.results=#[]) {L':List Box} (hL:L'.Sublist L) (hR:R (.tuple #[]) V L'):AtQ P ⟨V0,w0,jK Bs⟩ N (bodyPost P fn (tT V0 w0 Bs R)) [] .normal F V L:=fun a w ha hs =>
  ⟨ha.1,.tuple #[],by simp [results,hr],_,V,L',rfl,hs.sub hL,hR⟩
theorem bC {r:ResultVar} {v:Value} (hr:fn.results=#[r]) (h1:RV P ⟨V0,w0,jK Bs⟩ N F V L r v) {L':List Box} (hL:L'.Sublist L) (hR:R v V L'):AtQ P ⟨V0,w0,jK Bs⟩ N (bodyPost P fn (tT V0 w0 Bs R)) [] .ret F V L:=fun a w ha hs=>by
  refine⟨ha.1,v,?_,_,V,L',rfl,hs.sub hL,hR⟩
  have h1:=h1 a w ha hs
  unfold results
  rw [hr]
  cases r<;>simp_all
theorem dB {r s:ResultVar} {v u:Value} (hr:fn.results=#[r,s]) (h1:RV P ⟨V0,w0,jK Bs⟩ N F V L r v) (h2:RV P ⟨V0,w0,jK Bs⟩ N F V L s u) {L':List Box} (hL:L'.Sublist L) (hR:R (.tuple #[v,u]) V L'):AtQ P ⟨V0,w0,jK Bs⟩ N (bodyPost P fn (tT V0 w0 Bs R)) [] .ret F V L:=fun a w ha hs=>by
  refine⟨ha.1,_,?_,_,V,L',rfl,hs.sub hL,hR⟩
  unfold results
  rw [hr]
  exact run_res2 _ (h1 a w ha hs) (h2 a w ha hs)
theorem St.sub' {L':List Box} (hs:St B V L w) (h:L'.Sublist L):St ⟨V,w,jK L'⟩ V L' w :=
  ⟨Exc.refl _ w,fun p x hp=>⟨(hs.view p x hp).1,fun b hb=>(hs.view p x hp).2 b (h.subset hb)⟩,fun p x hp _=>hp,VLe.refl V,fun b hb=>⟨(hs.own b (h.subset hb)).1,.inr (List.mem_map_of_mem (f:=Box.g) hb)⟩,List.Nodup.sublist (h.map Box.g) hs.nodup⟩
theorem St.callB {X Y Bs Bs':List Box} {w':World} {V':aI} (hs:St B V (X ++ (Bs ++ Y)) w) (hc:St ⟨V,w,jK Bs⟩ V' Bs' w'):St B V' (X ++ (Bs' ++ Y)) w':=by
  have hnd:=hs.nodup
  rw [List.map_append,List.map_append,List.nodup_append] at hnd
  obtain⟨n1,n2,n3⟩:=hnd
  rw [List.nodup_append] at n2
  obtain⟨n4,n5,n6⟩:=n2
  have hlo:∀ g∈jK Bs,B.w.heap.size≤g∨g∈B.fl:=by
    intro g hg
    obtain⟨b,hb,rfl⟩:=List.mem_map.1 hg
    exact(hs.own b (by simp [hb])).2
  have hother:∀ b,b∈X∨b∈Y→b∈X ++ (Bs ++ Y)∧¬b.g∈jK Bs:=by
    intro b hb
    refine⟨by rcases hb with hb|hb<;>simp [hb],fun hm=>?_⟩
    obtain⟨q,hq,he⟩:=List.mem_map.1 hm
    rcases hb with hb|hb
    · exact n3 b.g (List.mem_map_of_mem (f:=Box.g) hb) q.g (by simp;exact .inl ⟨q,hq,rfl⟩) he.symm
    · exact n6 q.g (List.mem_map_of_mem (f:=Box.g) hq) b.g (List.mem_map_of_mem (f:=Box.g) hb) he
  have hsz:∀ b∈Bs',b.g∈jK Bs∨w.heap.size≤b.g:=fun b hb=>by
    rcases (hc.own b hb).2 with h|h
    · exact .inr h
    · exact .inl h
  refine⟨hs.ext.trans hc.ext hlo,fun p x hp=>⟨(hc.view p x hp).1,fun b hb=>?_⟩,fun p x hp hb=>?_,hs.v0.trans hc.v0,fun b hb=>?_,?_⟩
  · simp only [List.mem_append] at hb
    rcases hb with hb|hb|hb
    · obtain⟨h1,h2⟩:=hother b (.inl hb)
      rcases Nat.lt_or_ge p.block w.heap.size with h|h
      · exact(hs.view p x (hc.old p x hp h)).2 b h1
      · have:=hs.lt h1;omega
    · exact(hc.view p x hp).2 b hb
    · obtain⟨h1,h2⟩:=hother b (.inr hb)
      rcases Nat.lt_or_ge p.block w.heap.size with h|h
      · exact(hs.view p x (hc.old p x hp h)).2 b h1
      · have:=hs.lt h1;omega
  · exact hs.old p x (hc.old p x hp (Nat.lt_of_lt_of_le hb hs.ext.sz)) hb
  · simp only [List.mem_append] at hb
    rcases hb with hb|hb|hb
    · obtain⟨h1,h2⟩:=hother b (.inl hb)
      exact⟨(hc.ext.block b.g (hs.lt h1) h2).trans (hs.own b h1).1,(hs.own b h1).2⟩
    · refine⟨(hc.own b hb).1,?_⟩
      rcases hsz b hb with h|h
      · exact hlo _ h
      · exact .inl (Nat.le_trans hs.ext.sz h)
    · obtain⟨h1,h2⟩:=hother b (.inr hb)
      exact⟨(hc.ext.block b.g (hs.lt h1) h2).trans (hs.own b h1).1,(hs.own b h1).2⟩
  · rw [List.map_append,List.map_append,List.nodup_append,List.nodup_append]
    refine⟨n1,⟨hc.nodup,n5,?_⟩,?_⟩
    · intro a ha b hb e
      obtain⟨p,hp,rfl⟩:=List.mem_map.1 ha
      obtain⟨q,hq,rfl⟩:=List.mem_map.1 hb
      obtain⟨h1,h2⟩:=hother q (.inr hq)
      rcases hsz p hp with h|h
      · exact h2 (e▸h)
      · have:=hs.lt h1;omega
    · intro a ha b hb e
      obtain⟨q,hq,rfl⟩:=List.mem_map.1 ha
      obtain⟨h1,h2⟩:=hother q (.inl hq)
      rcases List.mem_append.1 hb with hb|hb
      · obtain⟨p,hp,rfl⟩:=List.mem_map.1 hb
        rcases hsz p hp with h|h
        · exact h2 (e▸h)
        · have:=hs.lt h1;omega
      · exact n3 q.g ha b (by rw [List.mem_append];exact .inr hb) e
theorem aW {dr:iI} (hdr:dr.loud=true) {f:FuncId} {args:List Operand} {ats:Array TypeId} {vs:List Value} {Bs:List Box} {R:Value→aI→List Box→Prop} {g:List Box→List Box} (he:kW P f) (hv:evL F args=some vs) (hL:oJ L Bs g) (hd:okD N d=true) (hc:FnB P f vs V Bs R)
    (h:∀ v V' Bs',VLe V V'→R v V' Bs'→GoL P B N dr ops Q k rest (sJ F d v) V' (g Bs')):GoW P B N dr ops Q k ⟨d,.call ⟨.value (.func f),args.toArray,ats⟩,ty,pos,af,gd⟩ rest F V L:=jB hdr fun a w ha hs=>by
  obtain⟨X,Y,hX,hg⟩:=hL.h
  subst hX
  unfold Oper.wp
  rw [rO he ha hv]
  have hsub:Bs.Sublist (X ++ (Bs ++ Y)):=(List.sublist_append_left Bs Y).trans (List.sublist_append_right X (Bs ++ Y))
  refine(hc w (hs.sub' hsub)).mono fun e w' ⟨v,V',Bs',he',hst,hR⟩=>?_
  subst he'
  have h1:=h v V' Bs' hst.v0 hR
  rw [hg] at h1
  exact gS hdr h1 _ _ (ha.put hd v) (hs.callB hst)
theorem FnB.pure {f:FuncId} {args:List Value} {V:aI} {R:Value→aI→Prop} (h:FnB P f args V [] fun v V' _=>R v V'):Fn P f args V R:=fun w hV=>by
  have hs:St ⟨V,w,jK []⟩ V [] w:=⟨Exc.refl _ w,fun p x hp=>⟨hV p x hp,by simp⟩,fun p x hp _=>hp,VLe.refl V,by simp,by simp⟩
  exact(h w hs).mono fun e w' ⟨v,V',Bs',he,hst,hR⟩=>⟨v,he,hst.ext.ext,V',hst.v0,fun p x hp=>(hst.view p x hp).1,hst.old,hR⟩
end
end
section
section
variable {P : Program} {B : Base} {N : Nat} {Q : Exit → Act → World → Prop} {k : List kI} {F : List (Nat × Value)} {V : aI} {L : List Box} {w : World}
variable {d : Option Tmp} {ty : TypeId} {pos : String} {af : Array Edge} {gd : Option (Nat × Bool)} {x y : Operand} {T T2 : TypeId} {ops : Array Oper} {rest : List Oper}
theorem qQ {f:FuncId} {args:List Operand} {ats:Array TypeId} {vs:List Value} {v:Value} {Bs:List Box} {g:List Box→List Box} (he:kW P f) (hv:evL F args=some vs) (hL:oJ L Bs g) (hc:FnB P f vs V Bs fun u _ Bs'=>u=v∧Bs'=Bs):QO P B N V L ⟨d,.call ⟨.value (.func f),args.toArray,ats⟩,ty,pos,af,gd⟩ F v:=fun a w ha hs=>by
  obtain⟨X,Y,hX,hg⟩:=hL.h
  subst hX
  unfold Oper.quietAt
  rw [rO he ha hv]
  have hsub:Bs.Sublist (X ++ (Bs ++ Y)):=(List.sublist_append_left Bs Y).trans (List.sublist_append_right X (Bs ++ Y))
  refine⟨rfl,(hc w (hs.sub' hsub)).mono fun e w' ⟨u,V',Bs',he',hst,hR⟩=>?_⟩
  obtain⟨rfl,rfl⟩:=hR
  subst he'
  exact⟨rfl,(hs.callB hst).less hst.v0 hs.v0⟩
theorem ones_any {l:List Value} (h:∀ u∈l,iO u=true):∀ u∈l,iO u=true:=h
def u8C (l:List UInt8):List Value:=l.map fun c=>.int .u8 (c.toNat:Int)
theorem uZ (l:List UInt8):(u8C l).length=l.length:=by simp [u8C]
theorem fold_push (l:List UInt8):∀ s:ByteArray,((l.map fun c=>(c.toNat:Int)).foldl (fun r n=>r.push (UInt8.ofNat n.toNat)) s).data.toList=s.data.toList ++ l:=by
  induction l with
  | nil=>intro s;simp
  | cons c l ih=>intro s;rw [List.map_cons,List.foldl_cons,ih];simp [ByteArray.push]
theorem jH {t t2 E m c2:Nat} {As:Option Addr} {us:List UInt8} (hu:cM P t (.slice E)) (hE:cM P E (.int .u8)) (ht:cM P t2 .string) (hx:evF F x=some (.slice As m c2)) (hsrc:cG B V L 1 As m (u8C us)):QP P B N V L ⟨d,.convert t t2 x,ty,pos,af,gd⟩ F (.string ⟨us.toArray⟩):=iH fun a w ha hs=>by
  have hc:=hsrc w hs
  have hlen:us.length=m:=by have:=hc.1;rw [uZ] at this;omega
  have hb:(Conv.bytesToString (.slice As m c2)).run P w=.ok (.string ⟨us.toArray⟩) w:=by
    cases As with
    | none =>
      have hm:m=0:=by
        rcases Nat.eq_zero_or_pos m with h|h
        · exact h
        · obtain⟨_,_,h,_⟩:=hc.2 h;cases h
      have:us=[]:=List.eq_nil_of_length_eq_zero (by omega)
      subst this
      rfl
    | some ad =>
      have hl:(loadCells ad m).run P w=.ok ((us.map fun c=>(c.toNat:Int)).map (Value.int .u8)).toArray w:=by
        rcases Nat.eq_zero_or_pos m with h|h
        · have:us=[]:=List.eq_nil_of_length_eq_zero (by omega)
          subst this;subst h;rfl
        · obtain⟨b,off,he,hcell⟩:=hc.2 h
          injection he with he;subst he
          have hr:=sW (P:=P) b off w (u8C us) 0 #[] (fun j v hj=>by rw [Nat.zero_add];exact hcell j v hj)
          rw [uZ,hlen] at hr
          rw [loadCells,hr]
          simp [u8C]
      rw [run_bytesToString w ad m c2 _ hl]
      congr 2
      apply str_ext
      rw [Lib.toList_data,Lib.toList_data,fold_push]
      simp
  simp [execOp,ha.ev hx,convert,hu.h,hE.h,ht.h,hb]
structure PtrIs (P:Program) (T:TypeId):Prop where
  h:P.underlying T=some (.pointer (P.pointee T))
theorem lO {t ty2:TypeId} {p:Option Addr} (hp:PtrIs P t) (hx:evF F x=some (.pointer p)):QP P B N V L ⟨d,.binOp .eql t x (.const (.pointer none)) ty2,ty,pos,af,gd⟩ F (.bool p.isNone) :=
  tL (y:=.const (.pointer none)) hx rfl (fun w=>by simp [eqGuard]) (fun w=>run_eql_pointer_nil w t p hp.h)
end
end
section
section
variable {P : Program} {B : Base} {N : Nat} {F : List (Nat × Value)} {V : aI} {L : List Box}
variable {d : Option Tmp} {ty : TypeId} {pos : String} {af : Array Edge} {gd : Option (Nat × Bool)} {x y : Operand} {T : TypeId}
theorem bL {E sz b o n c k:Nat} {A:Option Addr} (hu:cM P T (.slice E)) (hS:eD P E sz) (hx:evF F x=some (.slice A n c)) (hA:A=some ⟨b,o,none⟩) (hi:evF F y=some (.int .i64 (k:Int))) (hk:k<n):QP P B N V L ⟨d,.indexAddr T x y,ty,pos,af,gd⟩ F (.pointer (some ⟨b,o+k * sz,none⟩)):=by
  subst hA;exact fL hu hS hx hi hk
theorem pR {E sz b o n c:Nat} {i:Int} {A:Option Addr} (hu:cM P T (.slice E)) (hS:eD P E sz) (hx:evF F x=some (.slice A n c)) (hA:A=some ⟨b,o,none⟩) (hi:evF F y=some (.int .i64 i)) (hk:0≤i∧i<n):QP P B N V L ⟨d,.indexAddr T x y,ty,pos,af,gd⟩ F (.pointer (some ⟨b,o+i.toNat * sz,none⟩)):=by
  subst hA;exact qW hu hS hx hi hk
end
@[ext] structure Hd where
  kind:Int
  mode:Int
  user:Int
  group:Int
  opq:Bool
  attrs:List PA
  data:ByteArray
inductive PN where
  | mk (h:Hd) (ks:List (ByteArray×PN))
abbrev PKs:=List (ByteArray×PN)
def PN.h:PN→Hd|.mk h _=>h
def PN.ks:PN→PKs|.mk _ ks=>ks
@[simp] theorem PN.h_mk (h:Hd) (ks:PKs):(PN.mk h ks).h=h:=rfl
@[simp] theorem PN.ks_mk (h:Hd) (ks:PKs):(PN.mk h ks).ks=ks:=rfl
theorem PN.lt_of_mem {h:Hd} {ks:PKs} {k:ByteArray×PN} (hk:k∈ks):SizeOf.sizeOf k.2<SizeOf.sizeOf (PN.mk h ks):=by
  have h1:=List.sizeOf_lt_of_mem hk
  obtain⟨a,b⟩:=k
  simp only [Prod.mk.sizeOf_spec] at h1
  simp only [PN.mk.sizeOf_spec]
  omega
theorem PN.ind {p:PN→Prop} (h:∀ hd ks,(∀ k∈ks,p k.2)→p (.mk hd ks)) (n:PN):p n:=by
  match n with
  | .mk hd ks=>exact h hd ks fun k hk=>PN.ind h k.2
termination_by SizeOf.sizeOf n
decreasing_by exact PN.lt_of_mem hk
def hZ:Hd:=⟨0,0,0,0,false,[],⟨#[]⟩⟩
def pnZ:PN:=.mk hZ []
inductive cA (p:Hd→PKs→Prop):PN→Prop
  | mk {h:Hd} {ks:PKs} (h1:p h ks) (h2:∀ k∈ks,cA p k.2):cA p (.mk h ks)
theorem cA.here {p:Hd→PKs→Prop} {n:PN} (h:cA p n):p n.h n.ks:=by cases h;assumption
theorem cA.kid {p:Hd→PKs→Prop} {n:PN} (h:cA p n) {k:ByteArray×PN} (hk:k∈n.ks):cA p k.2:=by cases h with|mk h1 h2=>exact h2 k hk
def fK (ks:PKs) (s:ByteArray):Bool:=ks.any fun k=>decide (k.1=s)
def atN (ks:PKs) (s:ByteArray):Nat:=ks.findIdx fun k=>decide (k.1=s)
def gtN (ks:PKs) (s:ByteArray):Nat:=ks.findIdx fun k=>decide (s.toList<k.1.toList)
def bJ (ks:PKs) (s:ByteArray):Nat:=if fK ks s=true then atN ks s else gtN ks s
theorem atN_lt {ks:PKs} {s:ByteArray}:fK ks s=true↔atN ks s<ks.length:=by
  unfold fK atN;rw [List.findIdx_lt_length,List.any_eq_true]
theorem lV (ks:PKs) (s:ByteArray):bJ ks s≤ks.length:=by
  unfold bJ;split
  · exact List.findIdx_le_length
  · exact List.findIdx_le_length
theorem jP {ks:PKs} {s:ByteArray} (h:fK ks s=true):bJ ks s<ks.length:=by
  unfold bJ;rw [if_pos h];exact atN_lt.1 h
theorem at_eq {ks:PKs} {s:ByteArray} {i:Nat} {k:ByteArray×PN} (hi:ks[i]?=some k) (he:k.1=s) (hb:∀ j k',j<i→ks[j]?=some k'→¬k'.1=s):fK ks s=true∧atN ks s=i:=by
  have hlt:i<ks.length:=by
    rcases Nat.lt_or_ge i ks.length with h|h
    · exact h
    · rw [List.getElem?_eq_none h] at hi;cases hi
  have e:atN ks s=i:=by
    unfold atN
    rw [List.findIdx_eq hlt]
    refine⟨?_,fun j hj=>?_⟩
    · rw [List.getElem?_eq_getElem hlt] at hi;injection hi with hi;rw [hi];exact decide_eq_true he
    · have:=hb j (ks[j]'(by omega)) hj (List.getElem?_eq_getElem (by omega))
      exact decide_eq_false this
  exact⟨atN_lt.2 (by omega),e⟩
theorem at_none {ks:PKs} {s:ByteArray} (hb:∀ j k',j<ks.length→ks[j]?=some k'→¬k'.1=s):fK ks s=false:=by
  cases h:fK ks s
  · rfl
  · have:=atN_lt.1 h
    unfold fK at h
    rw [List.any_eq_true] at h
    obtain⟨k,hk,he⟩:=h
    obtain⟨j,hj,rfl⟩:=List.getElem_of_mem hk
    exact absurd (of_decide_eq_true he) (hb j _ hj (List.getElem?_eq_getElem hj))
theorem gt_drop {ks:PKs} {s:ByteArray} {i:Nat} {k:ByteArray×PN} (hi:ks[i]?=some k):i+gtN (ks.drop i) s=if s.toList<k.1.toList then i else (i+1)+gtN (ks.drop (i+1)) s:=by
  have hlt:i<ks.length:=by
    rcases Nat.lt_or_ge i ks.length with h|h
    · exact h
    · rw [List.getElem?_eq_none h] at hi;cases hi
  rw [List.getElem?_eq_getElem hlt] at hi;injection hi with hi
  rw [List.drop_eq_getElem_cons hlt,hi]
  unfold gtN
  rw [List.findIdx_cons]
  by_cases h:s.toList<k.1.toList
  · rw [if_pos h,decide_eq_true h];rfl
  · rw [if_neg h,decide_eq_false h]
    simp only [cond_false];omega
def dN:PN→List ByteArray→Option PN
  | n,[]=>some n
  | n,s :: l=>if n.h.kind=2∧fK n.ks s=true then (match n.ks[bJ n.ks s]? with|some k=>dN k.2 l|none=>none) else none
def oW (cut:Bool) (ks:PKs) (s:ByteArray):Int:=if cut=true then (if fK ks s=true then 0 else 5) else if eX s.toList=true then 0 else 4
def gB (cut:Bool) (x:PN) (ks:PKs) (s:ByteArray):PKs :=
  ks.take (bJ ks s) ++ (if cut=true then [] else [(s,x)]) ++ ks.drop (if fK ks s=true then bJ ks s+1 else bJ ks s)
def pF (cut:Bool) (x:PN):PN→List ByteArray→Int
  | _,[]=>7
  | n,[s]=>if n.h.kind=2 then oW cut n.ks s else 7
  | n,s :: t :: l=>if ¬n.h.kind=2 then 7 else if fK n.ks s=true then (match n.ks[bJ n.ks s]? with|some k=>pF cut x k.2 (t :: l)|none=>5) else 5
def pN (cut:Bool) (x:PN):PN→List ByteArray→PN
  | n,[]=>n
  | n,[s]=>.mk n.h (gB cut x n.ks s)
  | n,s :: t :: l=>match n.ks[bJ n.ks s]? with|some k=>.mk n.h (n.ks.set (bJ n.ks s) (k.1,pN cut x k.2 (t :: l)))|none=>n
def tS (cut:Bool) (x n:PN) (l:List ByteArray):PN:=if pF cut x n l=0 then pN cut x n l else pnZ
theorem editF_bd (cut:Bool) (ks:PKs) (s:ByteArray):0≤oW cut ks s∧oW cut ks s≤7:=by unfold oW;(repeat' split)<;>omega
theorem uR (cut:Bool) (x:PN):∀ (l:List ByteArray) (n:PN),0≤pF cut x n l∧pF cut x n l≤7
  | [],n=>by simp [pF]
  | [s],n=>by
    simp only [pF]
    split
    · exact editF_bd _ _ _
    · omega
  | s :: t :: l,n=>by
    rw [pF]
    split
    · omega
    · split
      · split
        · exact uR cut x (t :: l) _
        · omega
      · omega
def jJ (h:Hd) (many:Bool) (upper root:Bool):Int :=
  if ¬(h.kind=1∨h.kind=2∨h.kind=3) then 3
  else if ¬((0≤h.mode∧h.mode≤4095)∧(0≤h.user∧h.user≤65535)∧(0≤h.group∧h.group≤65535)) then 1
  else if ¬eR h.attrs=0 then eR h.attrs
  else if 200<h.data.size then 1
  else if (h.kind=3∧(upper=false∨0<h.mode+h.user+h.group+h.attrs.length))∨(¬h.kind=1∧0<h.data.size)∨(¬h.kind=2∧(many=true∨h.opq=true))∨(h.opq=true∧(upper=false∨root=true)) then 3
  else 0
mutual
def cH (upper:Bool) (deep so:Nat):PN→Nat×Int
  | .mk h ks=>if so=60∨6<deep then (so,2) else if ¬jJ h (decide (0<ks.length)) upper (decide (deep=0))=0 then (so,jJ h (decide (0<ks.length)) upper (decide (deep=0))) else dO upper deep (so+1) none ks
termination_by n=>SizeOf.sizeOf n
def dO (upper:Bool) (deep so:Nat) (prev:Option ByteArray):PKs→Nat×Int
  | []=>(so,0)
  | (nm,n) :: ks=>if ¬eX nm.toList=true then (so,4) else if (∃ y,prev=some y∧¬y.toList<nm.toList) then (so,3) else if ¬(cH upper (deep+1) so n).2=0 then cH upper (deep+1) so n else dO upper deep (cH upper (deep+1) so n).1 (some nm) ks
termination_by ks=>SizeOf.sizeOf ks
end
def dK (upper:Bool) (n:PN):Int:=if ¬n.h.kind=2 then 7 else (cH upper 0 0 n).2
end
section
def eW (h:Hd) (ks:PKs):Prop:=oU h.attrs=true∧h.data.size≤300∧ks.length≤80∧∀ k∈ks,k.1.size≤60
structure LN where
  h:Hd
  A:Option Addr
  na:Nat
  ca:Nat
  K:Option Addr
  nk:Nat
  ck:Nat
  ks:PKs
def LN.n (x:LN):PN:=.mk x.h x.ks
abbrev lnC (x:LN):List Value:=[.int .i64 x.h.kind,.int .i64 x.h.mode,.int .i64 x.h.user,.int .i64 x.h.group,.bool x.h.opq,.slice x.A x.na x.ca,.string x.h.data,.slice x.K x.nk x.ck]
abbrev lnV (x:LN):Value:=.agg #[.int .i64 x.h.kind,.int .i64 x.h.mode,.int .i64 x.h.user,.int .i64 x.h.group,.bool x.h.opq,.slice x.A x.na x.ca,.string x.h.data,.slice x.K x.nk x.ck]
structure LK where
  nm:ByteArray
  x:LN
abbrev lkC (e:LK):List Value:=[.string e.nm,.int .i64 e.x.h.kind,.int .i64 e.x.h.mode,.int .i64 e.x.h.user,.int .i64 e.x.h.group,.bool e.x.h.opq,.slice e.x.A e.x.na e.x.ca,.string e.x.h.data,.slice e.x.K e.x.nk e.x.ck]
def kz (e:LK):ByteArray×PN:=(e.nm,e.x.n)
theorem nV (e:LK):(lkC e).length=9:=rfl
theorem tK (l:List LK):∀ u∈l.flatMap lkC,iO u=true:=fun u hu=>by
  obtain⟨r,_,hr⟩:=List.mem_flatMap.1 hu
  simp only [List.mem_cons,List.not_mem_nil,or_false] at hr
  rcases hr with rfl|rfl|rfl|rfl|rfl|rfl|rfl|rfl|rfl<;>rfl
inductive aX (V:aI):LN→Prop
  | mk (x:LN) (es:List LK) (ha:eH V x.A x.na x.h.attrs) (hca:x.na≤x.ca) (hd:x.h.data.size≤maxLen) (hk:eT V 9 lkC x.K x.nk es) (hck:x.nk≤x.ck) (hks:x.ks=es.map kz) (hn:∀ e∈es,e.nm.size≤maxLen) (hs:∀ e∈es,aX V e.x):aX V x
def eI (V:aI) (K:Option Addr) (n:Nat) (es:List LK):Prop:=eT V 9 lkC K n es∧∀ e∈es,e.nm.size≤maxLen∧aX V e.x
theorem aX.inv {V:aI} {x:LN} (h:aX V x):eH V x.A x.na x.h.attrs∧x.na≤x.ca∧x.h.data.size≤maxLen∧x.nk≤x.ck∧∃ es,eI V x.K x.nk es∧x.ks=es.map kz:=by
  cases h with
  | mk x es ha hca hd hk hck hks hn hs=>exact⟨ha,hca,hd,hck,es,⟨hk,fun e he=>⟨hn e he,hs e he⟩⟩,hks⟩
theorem aX.of {V:aI} {x:LN} {es:List LK} (ha:eH V x.A x.na x.h.attrs) (hca:x.na≤x.ca) (hd:x.h.data.size≤maxLen) (hck:x.nk≤x.ck) (hk:eI V x.K x.nk es) (hks:x.ks=es.map kz):aX V x :=
  .mk x es ha hca hd hk.1 hck hks (fun e he=>(hk.2 e he).1) (fun e he=>(hk.2 e he).2)
theorem aX.ind {V:aI} {C:LN→Prop} (step:∀ x es,eH V x.A x.na x.h.attrs→x.na≤x.ca→x.h.data.size≤maxLen→x.nk≤x.ck→eI V x.K x.nk es→x.ks=es.map kz→(∀ e∈es,C e.x)→C x) {x:LN} (h:aX V x):C x:=by
  induction h with
  | mk x es ha hca hd hk hck hks hn hs ih=>exact step x es ha hca hd hck ⟨hk,fun e he=>⟨hn e he,hs e he⟩⟩ hks ih
theorem aX.le {V V':aI} (hv:VLe V V') {x:LN} (h:aX V x):aX V' x:=by
  induction h with
  | mk x es ha hca hd hk hck hks hn hs ih=>exact .mk x es (ha.le hv) hca hd (hk.le hv) hck hks hn ih
theorem eI.le {V V':aI} {K:Option Addr} {n:Nat} {es:List LK} (hv:VLe V V') (h:eI V K n es):eI V' K n es:=⟨h.1.le hv,fun e he=>⟨(h.2 e he).1,(h.2 e he).2.le hv⟩⟩
theorem aL.tail {V:aI} {b o:Nat} {c:Value} {cs:List Value} (h:aL V b o (c :: cs)):aL V b (o+1) cs:=fun j v hj=>by
  have:=h (j+1) v (by simpa using hj)
  rw [show o+1+j=o+(j+1) by omega];exact this
theorem eI.at_ {V:aI} {K:Option Addr} {n:Nat} {es:List LK} (h:eI V K n es) {k:Nat} (hk:k<n):∃ b off e,K=some ⟨b,off,none⟩∧es[k]?=some e∧e∈es∧aL V b (off+k * 9) (lkC e)∧V ⟨b,off+k * 9+0,none⟩=some (.string e.nm)∧aL V b (off+k * 9+1) (lnC e.x)∧e.nm.size≤9223372036854775807∧aX V e.x:=by
  obtain⟨b,off,e,ha,hx,hc⟩:=h.1.at_ hk
  have hm:=List.mem_of_getElem? hx
  have:=h.2 e hm
  have h1:=this.1
  unfold maxLen at h1
  exact⟨b,off,e,ha,hx,hm,hc,hc 0 _ rfl,hc.tail,by omega,this.2⟩
theorem eI.len {V:aI} {K:Option Addr} {n:Nat} {es:List LK} (h:eI V K n es):es.length=n:=h.1.1
theorem eI.max {V:aI} {K:Option Addr} {n:Nat} {es:List LK} (h:eI V K n es):n≤9223372036854775807:=h.1.max
theorem mP {es:List LK} {ks:PKs} (h:ks=es.map kz) {k:Nat} {e:LK} (he:es[k]?=some e):ks[k]?=some (e.nm,e.x.n):=by
  subst h;rw [List.getElem?_map,he];rfl
theorem take_next {α:Type} {xs ys:List α} {k:Nat} {a b:α} (hx:xs[k]?=some a) (hy:ys[k]?=some b) (h:xs.take k=ys.take k) (e:a=b):xs.take (k+1)=ys.take (k+1):=by
  rw [List.take_add_one,List.take_add_one,h,hx,hy,e]
noncomputable def sameB (a b:PN):Bool:=@decide (a=b) (Classical.propDecidable _)
theorem nZ {a b:PN}:sameB a b=true↔a=b:=by unfold sameB;exact @decide_eq_true_iff _ (Classical.propDecidable _)
theorem sameB_h {x y:LN} (h:¬x.h=y.h):Value.bool false=Value.bool (sameB x.n y.n):=by
  congr 1;symm;rw [←Bool.not_eq_true,nZ];intro e;injection e with e1 _;exact h e1
theorem sameB_ks {x y:LN} (h:¬x.ks=y.ks):Value.bool false=Value.bool (sameB x.n y.n):=by
  congr 1;symm;rw [←Bool.not_eq_true,nZ];intro e;injection e with _ e2;exact h e2
theorem sameB_yes {x y:LN} (h1:x.h=y.h) (h2:x.ks=y.ks):Value.bool true=Value.bool (sameB x.n y.n):=by
  congr 1;symm;rw [nZ];unfold LN.n;rw [h1,h2]
theorem ks_ne {us vs:PKs} {i:Nat} {a b:ByteArray×PN} (ha:us[i]?=some a) (hb:vs[i]?=some b) (h:¬a=b):¬us=vs:=by
  intro e;subst e;rw [ha] at hb;injection hb with hb;exact h hb
attribute [local irreducible] AtQ GoC GoL GoW QO QP Fn RV bX aL VLe cG bT
theorem SameNode_c (V:aI) (x:LN) (hx:aX V x):∀ y:LN,aX V y→Fn Tryz.prog 27 [lnV x,lnV y] V fun v _=>v=.bool (sameB x.n y.n):=by
  refine aX.ind (C:=fun x=>∀ y:LN,aX V y→Fn Tryz.prog 27 [lnV x,lnV y] V fun v _=>v=.bool (sameB x.n y.n)) ?_ hx
  intro x es ha hca hd hck hk hks ih y hy
  obtain⟨ha2,hca2,hd2,hck2,fs,hk2,hks2⟩:=hy.inv
  have hl1:=hk.len
  have hl2:=hk2.len
  have hm1:=hk.max
  have hm2:=hk2.max
  have hz1:x.ks.length=x.nk:=by rw [hks,List.length_map,hl1]
  have hz2:y.ks.length=y.nk:=by rw [hks2,List.length_map,hl2]
  have hsame:=SameAttrs_c V _ _ _ _ x.ca y.ca _ _ ha ha2
  (refine aH Tryz.func27 rfl Tryz.ntmps27 rfl ?_;intro w0)
  repeat' (first|(refine aE ?_;first|(refine cX ?_;refine aR (q_bneq und_4 rfl rfl) ?_)|(refine al9 ?_;intro γ)|refine pu9 ?_)|refine cV ?_|(refine aJ rfl rfl rfl ?_ ?_<;>intro hq<;>try exact no9)|(refine aA rfl ?_ ?_<;>intro hq<;>try exact no9))
  all_goals first
    | ((refine aQ Tryz.results27 (aB rfl) ?_);first|exact sameB_h (fun e=>by rw [e] at hq;exact hq rfl)|exact sameB_ks (fun e=>by rw [←hz1,←hz2,e] at hq;exact hq rfl))
    | skip
  have hh:x.h.kind=y.h.kind∧x.h.mode=y.h.mode∧x.h.user=y.h.user∧x.h.group=y.h.group∧x.h.opq=y.h.opq∧x.h.data=y.h.data∧x.nk=y.nk:=by
    refine⟨?_,?_,?_,?_,?_,?_,?_⟩<;>first|omega|(apply Decidable.not_not.1;assumption)
  rename_i γ1 _ _ _ _ _ _
  refine bQ (fun F V' L' m=>∃ k:Nat,V=V'∧[⟨γ,70,lnC y⟩,⟨γ1,70,lnC x⟩]=L'∧k≤x.nk∧m=x.nk - k∧x.ks.take k=y.ks.take k∧F=[(2,.pointer (some ⟨γ1,0,none⟩)),(3,.pointer (some ⟨γ,0,none⟩)),(5,.int .i64 k)]) (m:=x.nk) ⟨0,rfl,rfl,Nat.zero_le _,by omega,rfl,rfl⟩ bH rfl sl9 ?_
  rintro F V' L' m ⟨k,rfl,rfl,hkn,rfl,htk,rfl⟩
  have hxy:x.nk=y.nk:=hh.2.2.2.2.2.2
  by_cases hlt:k<x.nk
  · obtain⟨b1,o1,e,hK1,he,hem,hc,c0,c1,_,hne⟩:=hk.at_ hlt
    obtain⟨b2,o2,f,hK2,hf,hfm,hc',c0',c1',_,hnf⟩:=hk2.at_ (k:=k) (by omega)
    have hcall:=ih e hem f.x hnf
    have hz1:=mP hks he
    have hz2:=mP hks2 hf
    repeat' (first|(refine aE ?_;first|(refine cX ?_;refine aR (q_bneq und_4 rfl rfl) ?_)|(refine aD ?_;refine aN rfl (aG ⟨Tryz.call27⟩ rfl (hcall)) ?_)|refine pu9 ?_)|refine bW ?_|(refine aA rfl ?_ ?_<;>intro hq<;>try exact no9)|(refine bP rfl ?_ ?_<;>intro hq)|refine bN (id:=6) mixed (by kernel_rfl) ?_|refine bN (id:=8) mixed (by kernel_rfl) ?_)
    all_goals first
      | ((refine aQ Tryz.results27 (aB rfl) ?_);first|exact sameB_ks (ks_ne hz1 hz2 (fun e=>hq (congrArg Prod.fst e)))|exact sameB_ks (ks_ne hz1 hz2 (fun e=>by injection e with _ e;rw [nZ.2 e] at hq;cases hq)))
      | skip
    have hst:=take_next hz1 hz2 htk (by rw [Prod.mk.injEq];exact⟨Decidable.not_not.1 (by assumption),nZ.1 (by simpa using hq)⟩)
    refine aZ _ (x.nk - (k+1)) ⟨k+1,rfl,rfl,by omega,rfl,hst,rfl⟩ (by omega) bH sl9
  · repeat' (first|(refine aE ?_;first|(refine cX ?_;refine aR (q_bneq und_4 rfl rfl) ?_)|(refine aD ?_;refine aN rfl (aG ⟨Tryz.call97⟩ rfl (hsame)) ?_)|refine pu9 ?_)|refine dR ?_|(refine aA rfl ?_ ?_<;>intro hq<;>try exact no9))
    all_goals (refine aQ Tryz.results27 (aB rfl) ?_)
    have hks:x.ks=y.ks:=by
      rw [List.take_of_length_le (by omega),List.take_of_length_le (by omega)] at htk;exact htk
    by_cases hat:x.h.attrs=y.h.attrs
    · rw [decide_eq_true hat]
      obtain⟨e1,e2,e3,e4,e5,e6,_⟩:=hh
      exact sameB_yes (Hd.ext e1 e2 e3 e4 e5 hat e6) hks
    · rw [decide_eq_false hat]
      exact sameB_h (fun e=>hat (by rw [e]))
end
section
abbrev strC (s:ByteArray):List Value:=[.string s]
def bZ (V:aI) (A:Option Addr) (n:Nat) (xs:List ByteArray):Prop:=eT V 1 strC A n xs∧∀ s∈xs,s.size≤maxLen
theorem bZ.le {V V':aI} {A:Option Addr} {n:Nat} {xs:List ByteArray} (hv:VLe V V') (h:bZ V A n xs):bZ V' A n xs:=⟨h.1.le hv,h.2⟩
theorem bZ.nil {V:aI} {A:Option Addr}:bZ V A 0 []:=⟨eT.nil,by simp⟩
theorem bZ.at_ {V:aI} {A:Option Addr} {n:Nat} {xs:List ByteArray} (h:bZ V A n xs) {k:Nat} (hk:k<n):∃ b off s,A=some ⟨b,off,none⟩∧xs[k]?=some s∧V ⟨b,off+k * 1,none⟩=some (.string s)∧s.size≤9223372036854775807:=by
  obtain⟨b,off,r,ha,hx,hc⟩:=h.1.at_ hk
  have:=h.2 r (List.mem_of_getElem? hx)
  unfold maxLen at this
  exact⟨b,off,r,ha,hx,hc 0 _ rfl,by omega⟩
attribute [local irreducible] AtQ GoC GoL GoW QO QP Fn RV bX aL VLe cG bT
theorem light_c (V:aI) (x:LN) (hx:aX V x):∀ V',VLe V V'→∀ left:Nat,left≤80→Fn Tryz.prog 129 [lnV x,.int .i64 left] V' fun v _=>∃ r:Nat,v=.int .i64 r∧r≤left∧(0<r→cA eW x.n):=by
  refine aX.ind (C:=fun x=>∀ V',VLe V V'→∀ left:Nat,left≤80→Fn Tryz.prog 129 [lnV x,.int .i64 left] V' fun v _=>∃ r:Nat,v=.int .i64 r∧r≤left∧(0<r→cA eW x.n)) ?_ hx
  intro x es ha hca hd hck hk hks ih V' hV left hleft
  have hl:=hk.len
  have hm:=hk.max
  have hz:x.ks.length=x.nk:=by rw [hks,List.length_map,hl]
  have hla:=lightAttrs_c V' _ _ x.ca _ (ha.le hV)
  have hmd:x.h.data.size≤9223372036854775807:=by unfold maxLen at hd;omega
  (refine aH Tryz.func129 rfl Tryz.ntmps129 rfl ?_;intro w0)
  repeat' (first|(refine aE ?_;first|(refine aD ?_;refine aN rfl (aG ⟨Tryz.call219⟩ rfl (hla)) ?_)|(refine al9 ?_;intro γ)|refine pu9 ?_)|refine cV ?_|(refine aJ rfl rfl rfl ?_ ?_<;>intro hq<;>try exact no9)|(refine bU rfl rfl rfl ?_ ?_<;>intro hq)|(refine aA rfl ?_ ?_<;>intro hq<;>try exact no9))
  all_goals first
    | ((refine aQ Tryz.results129 (aB rfl) ?_);exact⟨0,rfl,Nat.zero_le _,fun h=>absurd h (by omega)⟩)
    | skip
  refine bQ (fun F V2 L' m=>∃ (k r:Nat) (R:Int),VLe V V2∧[⟨γ,70,lnC x⟩]=L'∧k≤x.nk∧r≤left∧(0<r→∀ j e,j<k→es[j]?=some e→e.nm.size≤60∧cA eW e.x.n)∧m=x.nk - k∧R=r∧F=[(1,.int .i64 R),(2,.pointer (some ⟨γ,0,none⟩)),(5,.int .i64 k)]) (m:=x.nk) ⟨0,left - 1,(left:Int) - 1,hV,rfl,Nat.zero_le _,by omega,fun _ j e hj=>by omega,by omega,by omega,rfl⟩ bH rfl sl9 ?_
  rintro F V2 L' m ⟨k,r,_,hV2,rfl,hkn,hr,hold,rfl,rfl,rfl⟩
  by_cases hlt:k<x.nk∧0<r
  · obtain⟨b1,o1,e,hK1,he,hem,hc,c0,c1,hms,hne⟩:=(hk.le hV2).at_ hlt.1
    repeat' (first|(refine aE ?_;first|(refine aD ?_;(refine aM rfl ⟨Tryz.call129⟩ rfl rfl (ih e hem _ (by assumption) r (by omega)) ?_;rintro v V3 hV3 ⟨r2,rfl,hr2,hall⟩))|refine pu9 ?_)|refine bW ?_|(refine aJ rfl rfl rfl ?_ ?_<;>intro hq<;>try exact no9)|(refine aA rfl ?_ ?_<;>intro hq<;>try exact no9))
    all_goals first
      | ((refine aQ Tryz.results129 (aB rfl) ?_);exact⟨0,rfl,Nat.zero_le _,fun h=>absurd h (by omega)⟩)
      | skip
    refine aZ _ (x.nk - (k+1)) ⟨k+1,r2,r2,vl9,rfl,by omega,by omega,fun h j f hj hf=>?_,rfl,rfl,rfl⟩ (by omega) bH sl9
    rcases Nat.lt_or_ge j k with h2|h2
    · exact hold (by omega) j f h2 hf
    · obtain rfl:j=k:=by omega
      rw [he] at hf;injection hf with hf;subst hf
      exact⟨by omega,hall h⟩
  · repeat' (first|(refine aE ?_;refine pu9 ?_)|refine nS ?_|(refine aJ rfl rfl rfl ?_ ?_<;>intro hq<;>try exact no9)|(refine aA rfl ?_ ?_<;>intro hq<;>try exact no9))
    all_goals (refine aQ Tryz.results129 (aB rfl) ?_)
    all_goals
      refine⟨r,rfl,hr,fun h=>?_⟩
      refine .mk ⟨by simpa using ‹(!oU x.h.attrs)=false›,by omega,by omega,fun k hk=>?_⟩ fun k hk=>?_
      all_goals
        rw [hks] at hk
        obtain⟨f,hf,rfl⟩:=List.mem_map.1 hk
        obtain⟨j,hj,he⟩:=List.getElem_of_mem hf
        have:=hold h j f (by omega) (by rw [List.getElem?_eq_getElem hj,he])
        first
          | exact this.1
          | exact this.2
theorem Light_c (V:aI) (x:LN) (hx:aX V x):Fn Tryz.prog 53 [lnV x] V fun v _=>∃ b:Bool,v=.bool b∧(b=true→cA eW x.n):=by
  (refine aH Tryz.func53 rfl Tryz.ntmps53 rfl ?_;intro w0)
  repeat' (first|(refine aE ?_;first|(refine aD ?_;(refine aM rfl ⟨Tryz.call129⟩ rfl rfl (light_c V x hx _ vl9 80 (by decide)) ?_;rintro v V3 hV3 ⟨r2,rfl,hr2,hall⟩))|(refine al9 ?_;intro γ)|refine pu9 ?_)|refine bV ?_|fail)
  all_goals (refine aQ Tryz.results53 (aB rfl) ?_)
  exact⟨_,rfl,fun h=>hall (by have:=of_decide_eq_true h;omega)⟩
end
section
def dZ (h:Hd) (ks:PKs):Prop:=h.attrs.length≤100000∧ks.length≤100000
theorem cA.imp {p q:Hd→PKs→Prop} (hpq:∀ h ks,p h ks→q h ks) {n:PN} (h:cA p n):cA q n:=by
  induction h with
  | mk h1 h2 ih=>exact .mk (hpq _ _ h1) ih
theorem kE {h:Hd} {ks:PKs} (k:eW h ks):dZ h ks:=by
  obtain⟨h1,_,h3,_⟩:=k
  unfold oU at h1
  simp at h1
  exact⟨by omega,by omega⟩
def OwnV (V:aI) (y:LN) (es:List LK) (Bs:List Box):Prop :=
  eH V y.A y.na y.h.attrs∧y.na≤y.ca∧y.h.data.size≤maxLen∧cU y.K y.nk y.ck 156 9 (es.flatMap lkC) Bs∧es.length=y.nk∧(∀ e∈es,e.nm.size≤maxLen∧aX V e.x)∧y.ks=es.map kz
theorem uO {V:aI} {A:Option Addr} {n:Nat} {xs:List PA} (hc:eU V 2 A n (xs.flatMap paC)) (hl:xs.length=n) (hm:n≤maxLen) (hg:∀ a∈xs,a.n.size≤maxLen∧a.v.size≤maxLen):eH V A n xs :=
  ⟨eT.of_cells hc pa_len hl hm,hg⟩
theorem OwnV.node {V V':aI} {y:LN} {es:List LK} {Bs:List Box} (h:OwnV V y es Bs) (hV:VLe V V') (hc:eU V' 9 y.K y.nk (es.flatMap lkC)) (hm:y.nk≤maxLen):aX V' y:=by
  obtain⟨h1,h2,h3,h4,h5,h6,h7⟩:=h
  exact aX.of (h1.le hV) h2 h3 h4.cap ⟨eT.of_cells hc nV h5 hm,fun e he=>⟨(h6 e he).1,(h6 e he).2.le hV⟩⟩ h7
theorem OwnV.row {V:aI} {y:LN} {es:List LK} {Bs:List Box} (h:OwnV V y es Bs):cU y.K y.nk y.ck 156 9 (es.flatMap lkC) Bs:=h.2.2.2.1
theorem OwnV.bound {V:aI} {y x:LN} {es:List LK} {Bs:List Box} (h:OwnV V y es Bs) (he:y.n=x.n) (hs:cA dZ x.n):y.nk≤maxLen:=by
  have h1:=hs.here.2
  rw [←he] at h1
  obtain⟨_,_,_,_,h5,_,h7⟩:=h
  have h2:y.ks.length≤100000:=h1
  rw [h7,List.length_map] at h2
  unfold maxLen;omega
theorem kz_mem {es:List LK} {ks:PKs} (h:ks=es.map kz) {e:LK} (he:e∈es):(e.nm,e.x.n)∈ks:=by
  subst h;exact List.mem_map_of_mem (f:=kz) he
attribute [local irreducible] AtQ GoC GoL GoW QO QP Fn RV bX aL VLe cG bT
theorem Own_c (V:aI) (x:LN) (hx:aX V x):∀ V',VLe V V'→cA dZ x.n→FnB Tryz.prog 54 [lnV x] V' [] fun v V2 Bs=>∃ (y:LN) (es:List LK),v=lnV y∧y.n=x.n∧OwnV V2 y es Bs:=by
  refine aX.ind (C:=fun x=>∀ V',VLe V V'→cA dZ x.n→FnB Tryz.prog 54 [lnV x] V' [] fun v V2 Bs=>∃ (y:LN) (es:List LK),v=lnV y∧y.n=x.n∧OwnV V2 y es Bs) ?_ hx
  intro x es ha hca hd hck hk hks ih V' hV hsm
  have hl:=hk.len
  have hm:=hk.max
  have hz:x.ks.length=x.nk:=by rw [hks,List.length_map,hl]
  obtain⟨s1,s2⟩:=hsm.here
  replace s1:x.h.attrs.length≤100000:=s1
  replace s2:x.ks.length≤100000:=s2
  have hal:=ha.1.1
  have hsrc:=(ha.le hV).1.cells pa_len
  have h1:=ones_pa x.h.attrs
  (refine bI Tryz.func54 rfl Tryz.ntmps54 rfl ?_;intro w0)
  repeat' (first|(refine aE ?_;first|(refine aD ?_;(refine aT rfl und_67 inf_271 rfl rfl rfl cU.nil (vU dT) (fW hsrc) bG (by omega) rfl rfl ?_;intro A1 c1 L1 hr1;rw [Nat.zero_add] at hr1 ⊢;rw [List.nil_append] at hr1))|refine st9 ?_|(refine al9 ?_;intro γ)|refine pu9 ?_)|refine bW ?_|fail)
  rename_i γ1
  have hcap1:=hr1.cap
  refine kR hr1 bF ?_
  intro V2 hV2 hc2
  have ha2:eH V2 A1 x.na x.h.attrs:=uO hc2 hal (by unfold maxLen;omega) ha.2
  refine bQ (fun F V3 L' m=>∃ (k:Nat) (fs:List LK) (A3:Option Addr) (c3:Nat) (L3:List Box),VLe V2 V3∧L3 ++ [⟨γ,70,lnC ⟨hZ,none,0,0,none,0,0,[]⟩⟩,⟨γ1,70,[.int .i64 x.h.kind,.int .i64 x.h.mode,.int .i64 x.h.user,.int .i64 x.h.group,.bool x.h.opq,.slice A1 x.na c1,.string x.h.data,.slice x.K x.nk x.ck]⟩]=L'∧k≤x.nk∧m=x.nk - k∧cU A3 k c3 156 9 (fs.flatMap lkC) L3∧fs.length=k∧fs.map kz=(es.take k).map kz∧(∀ f∈fs,f.nm.size≤maxLen∧aX V3 f.x)∧F=[(1,.pointer (some ⟨γ1,0,none⟩)),(2,.pointer (some ⟨γ,0,none⟩)),(3,.slice A3 k c3),(11,.slice x.K x.nk x.ck),(12,.int .i64 x.nk),(13,.int .i64 k)]) (m:=x.nk) ⟨0,[],none,0,[],VLe.refl _,rfl,Nat.zero_le _,by omega,cU.nil,rfl,rfl,by simp,rfl⟩ bH rfl sl9 ?_
  rintro F V3 L' m ⟨k,fs,A3,c3,L3,hV3,rfl,hkn,rfl,hr3,hfl,hfm,hfn,rfl⟩
  by_cases hlt:k<x.nk
  · obtain⟨b1,o1,e,hK1,he,hem,hc,c0,c1',hms,hne⟩:=((hk.le hV).le (VLe.trans hV2 hV3)).at_ hlt
    have hse:cA dZ e.x.n:=hsm.kid (kz_mem hks hem)
    repeat' (first|(refine aE ?_;first|refine st9 ?_|(refine al9 ?_;intro γ)|refine pu9 ?_)|refine bW ?_|(refine aA rfl ?_ ?_<;>intro hq<;>try exact no9))
    refine bM (id:=6) _ mixed (List.Sublist.cons_cons _ (List.nil_sublist _)) ?_;refine gt9 0 ?_;refine gt9 1 ?_;refine gt9 2 ?_;refine gt9 3 ?_;refine gt9 4 ?_;refine aY (i:=5) rfl ?_;(refine aW rfl ⟨Tryz.call54⟩ rfl bF rfl (ih e hem _ vl9 hse) ?_;rintro v V4 B4 hV4 ⟨y,gs,rfl,hyn,hO⟩;refine lE rfl hO.row bF ?_;intro V5 hV5 hc5;have hyN:=hO.node hV5 hc5 (hO.bound hyn hse));refine gt9 6 ?_;refine aY (i:=7) rfl ?_;(refine aP rfl und_68 siz_156 zec_156 rfl rfl rfl rfl rfl rfl rfl ?_;intro γ);refine aY (i:=8) rfl ?_;(refine aT rfl und_68 inf_156 rfl rfl rfl hr3 bF (cZ bB rfl) bG (by omega) rfl rfl ?_;intro A4 c4 L4 hr4);refine gt9 9 ?_;refine aU (by kernel_rfl) vl9 vl9 bD ?_
    repeat' (first|(refine aE ?_;refine pu9 ?_)|refine bV ?_|fail)
    refine aZ _ (x.nk - (k+1)) ⟨k+1,fs ++ [⟨e.nm,y⟩],A4,c4,L4,vl9,rfl,by omega,rfl,by rw [List.flatMap_append];exact hr4,by rw [List.length_append,hfl];rfl,?_,?_,rfl⟩ (by omega) bH sl9
    · rw [List.map_append,hfm,List.take_add_one,he,List.map_append]
      simp [kz,hyn]
    · intro f hf
      rcases List.mem_append.1 hf with hf|hf
      · exact⟨(hfn f hf).1,(hfn f hf).2.le vl9⟩
      · rw [List.mem_singleton] at hf;subst hf
        exact⟨(hk.2 e hem).1,hyN⟩
  · repeat' (first|(refine aE ?_;first|refine st9 ?_|refine pu9 ?_)|refine dR ?_|(refine aA rfl ?_ ?_<;>intro hq<;>try exact no9))
    all_goals
      (refine bC Tryz.results54 (aS agg_70 rfl bB (by exact rfl)) (List.sublist_append_left _ _) ?_)
      refine⟨⟨x.h,A1,x.na,c1,A3,k,c3,x.ks⟩,fs,rfl,rfl,ha2.le hV3,hcap1,hd,hr3,hfl,hfn,?_⟩
      show x.ks=_
      rw [hks,hfm,List.take_of_length_le (by omega)]
end
section
def lnZ:LN:=⟨hZ,none,0,0,none,0,0,[]⟩
theorem aX.zero {V:aI}:aX V lnZ:=aX.of (es:=[]) eH.nil (Nat.le_refl _) (Nat.zero_le _) (Nat.le_refl _) ⟨eT.nil,by simp⟩ rfl
theorem rJ {α:Type} {xs:List α} {k:Nat} {a:α} (h:xs[k]?=some a):k<xs.length:=by
  rcases Nat.lt_or_ge k xs.length with h2|h2
  · exact h2
  · rw [List.getElem?_eq_none h2] at h;cases h
theorem rZ {α:Type} {xs:List α} {k:Nat} {a:α} (h:xs[k]?=some a):xs.drop k=a :: xs.drop (k+1):=by
  have hk:=rJ h
  rw [List.drop_eq_getElem_cons hk]
  rw [List.getElem?_eq_getElem hk] at h;injection h with h;rw [h]
def tW (n:PN) (s:ByteArray):Int:=if n.h.kind=2∧fK n.ks s=true then (atN n.ks s:Int) else -1
attribute [local irreducible] AtQ GoC GoL GoW QO QP Fn RV bX aL VLe cG bT
theorem tplace_c (V:aI) (K:Option Addr) (n c:Nat) (es:List LK) (h:eI V K n es) (ks:PKs) (hks:ks=es.map kz) (s:ByteArray):Fn Tryz.prog 235 [.slice K n c,.string s] V fun v _=>v=.tuple #[.int .i64 (bJ ks s),.bool (fK ks s)]:=by
  have hl:=h.len
  have hm:=h.max
  have hz:ks.length=n:=by rw [hks,List.length_map,hl]
  (refine aH Tryz.func235 rfl Tryz.ntmps235 rfl ?_;intro w0)
  repeat' (first|(refine aE ?_;refine pu9 ?_)|refine bW ?_|fail)
  refine bQ (fun F V' L' m=>∃ (j:Nat) (I R:Int),V=V'∧[]=L'∧j≤n∧j=m∧I=j - 1∧R=((j+gtN (ks.drop j) s:Nat):Int)∧F=[(0,.slice K n c),(1,.string s),(6,.int .i64 R),(7,.int .i64 I)]) (m:=n) ⟨n,_,_,rfl,rfl,Nat.le_refl _,rfl,rfl,by rw [List.drop_of_length_le (by omega)],rfl⟩ bH rfl sl9 ?_
  rintro F V' L' m ⟨j,I,R,rfl,rfl,hj,rfl,hI,hR,rfl⟩
  by_cases hlt:0<j
  · obtain⟨k,rfl⟩:∃ k,j=k+1:=⟨j - 1,by omega⟩
    have hIk:I.toNat=k:=by omega
    obtain⟨b1,o1,e,hK1,he,hem,hc,c0,c1,hms,hne⟩:=h.at_ (k:=k) (by omega)
    have hg:=gt_drop (s:=s) (mP hks he)
    rw [←hIk] at c0
    repeat' (first|(refine aE ?_;first|(refine cX ?_;refine aR (q_sgtr rfl rfl) ?_)|refine pu9 ?_)|refine bW ?_|(refine aA rfl ?_ ?_<;>intro hq<;>try exact no9))
    · refine aZ _ k ⟨k,_,_,rfl,rfl,by omega,rfl,?_,?_,rfl⟩ (by omega) bH sl9
      · omega
      · rw [hg,if_pos (by assumption)];omega
    · refine aZ _ k ⟨k,_,_,rfl,rfl,by omega,rfl,?_,?_,rfl⟩ (by omega) bH sl9
      · omega
      · rw [hg,if_neg (by assumption)];omega
  · obtain rfl:j=0:=by omega
    repeat' (first|(refine aE ?_;refine pu9 ?_)|refine pW ?_|(refine aA rfl ?_ ?_<;>intro hq<;>try exact no9))
    refine bQ (fun F V' L' m=>∃ k:Nat,V=V'∧[]=L'∧k≤n∧m=n - k∧(∀ i k',i<k→ks[i]?=some k'→¬k'.1=s)∧F=[(1,.string s),(6,.int .i64 R),(27,.slice K n c),(28,.int .i64 n),(29,.int .i64 k)]) (m:=n) ⟨0,rfl,rfl,Nat.zero_le _,by omega,fun i _ hi=>by omega,rfl⟩ bH rfl sl9 ?_
    rintro F V' L' m ⟨k,rfl,rfl,hkn,rfl,hold,rfl⟩
    by_cases hlt:k<n
    · obtain⟨b1,o1,e,hK1,he,hem,hc,c0,c1,hms,hne⟩:=h.at_ (k:=k) hlt
      have hke:=mP hks he
      repeat' (first|(refine aE ?_;first|refine st9 ?_|(refine al9 ?_;intro γ)|refine pu9 ?_)|refine bW ?_|(refine aA rfl ?_ ?_<;>intro hq<;>try exact no9))
      · (refine bA Tryz.results235 (aB rfl) (aB rfl) ?_)
        obtain⟨h1,h2⟩:=at_eq hke (show e.nm=s by assumption) hold
        unfold bJ;rw [h1,if_pos rfl,h2]
      · refine aZ _ (n - (k+1)) ⟨k+1,rfl,rfl,by omega,rfl,fun i k' hi hk'=>?_,rfl⟩ (by omega) bH sl9
        rcases Nat.lt_or_ge i k with h2|h2
        · exact hold i k' h2 hk'
        · obtain rfl:i=k:=by omega
          rw [hke] at hk';injection hk' with hk';subst hk';assumption
    · repeat' (first|(refine aE ?_;refine pu9 ?_)|refine dR ?_|(refine aA rfl ?_ ?_<;>intro hq<;>try exact no9))
      (refine bA Tryz.results235 (aB rfl) (aB rfl) ?_)
      have h1:=at_none (ks:=ks) (s:=s) (fun i k' hi hk'=>hold i k' (by omega) hk')
      unfold bJ;rw [h1,if_neg (by decide),hR,List.drop_zero,Nat.zero_add]
theorem kid_c (V:aI) (x:LN) (hx:aX V x) (s:ByteArray):Fn Tryz.prog 245 [lnV x,.string s] V fun v _=>v=.int .i64 (tW x.n s):=by
  obtain⟨ha,hca,hd,hck,es,h,hks⟩:=hx.inv
  have hl:=h.len
  have hm:=h.max
  have hz:x.ks.length=x.nk:=by rw [hks,List.length_map,hl]
  (refine aH Tryz.func245 rfl Tryz.ntmps245 rfl ?_;intro w0)
  repeat' (first|(refine aE ?_;first|(refine al9 ?_;intro γ)|refine pu9 ?_)|refine bW ?_|(refine aA rfl ?_ ?_<;>intro hq<;>try exact no9))
  · (refine aQ Tryz.results245 (aB rfl) ?_)
    unfold tW;rw [if_neg (fun hh=>by have:x.h.kind=2:=hh.1;exact absurd this (by assumption))]
  · have hk2:x.h.kind=2:=by omega
    refine bQ (fun F V' L' m=>∃ k:Nat,V=V'∧[⟨γ,70,lnC x⟩]=L'∧k≤x.nk∧m=x.nk - k∧(∀ i k',i<k→x.ks[i]?=some k'→¬k'.1=s)∧F=[(1,.string s),(2,.pointer (some ⟨γ,0,none⟩)),(5,.int .i64 k)]) (m:=x.nk) ⟨0,rfl,rfl,Nat.zero_le _,by omega,fun i _ hi=>by omega,rfl⟩ bH rfl sl9 ?_
    rintro F V' L' m ⟨k,rfl,rfl,hkn,rfl,hold,rfl⟩
    by_cases hlt:k<x.nk
    · obtain⟨b1,o1,e,hK1,he,hem,hc,c0,c1,hms,hne⟩:=h.at_ (k:=k) hlt
      have hke:=mP hks he
      repeat' (first|(refine aE ?_;refine pu9 ?_)|refine bW ?_|(refine aA rfl ?_ ?_<;>intro hq<;>try exact no9))
      · (refine aQ Tryz.results245 (aB rfl) ?_)
        obtain⟨h1,h2⟩:=at_eq hke (show e.nm=s by assumption) hold
        unfold tW
        rw [if_pos ⟨hk2,h1⟩]
        show _=Value.int .i64 (atN x.ks s:Int)
        rw [h2]
      · refine aZ _ (x.nk - (k+1)) ⟨k+1,rfl,rfl,by omega,rfl,fun i k' hi hk'=>?_,rfl⟩ (by omega) bH sl9
        rcases Nat.lt_or_ge i k with h2|h2
        · exact hold i k' h2 hk'
        · obtain rfl:i=k:=by omega
          rw [hke] at hk';injection hk' with hk';subst hk';assumption
    · repeat' (first|(refine aE ?_;refine pu9 ?_)|refine dR ?_|(refine aA rfl ?_ ?_<;>intro hq<;>try exact no9))
      (refine aQ Tryz.results245 (aB rfl) ?_)
      have h1:fK x.n.ks s=false:=at_none (fun i k' hi hk'=>hold i k' (by rw [←hz] at hlt;have:x.n.ks.length=x.ks.length:=rfl;omega) hk')
      unfold tW;rw [if_neg (fun hh=>by rw [h1] at hh;cases hh.2)]
theorem findP_no {n:PN} {s:ByteArray} {l:List ByteArray} (h:¬n.h.kind=2∨fK n.ks s=false):dN n (s :: l)=none:=by
  rw [dN,if_neg (fun hh=>by rcases h with h|h;exact h hh.1;rw [h] at hh;cases hh.2)]
theorem findP_yes {n:PN} {s:ByteArray} {l:List ByteArray} {k:ByteArray×PN} (h:n.h.kind=2) (h2:fK n.ks s=true) (hk:n.ks[bJ n.ks s]?=some k):dN n (s :: l)=dN k.2 l:=by
  rw [dN,if_pos ⟨h,h2⟩,hk]
theorem placeN_yes {ks:PKs} {s:ByteArray} (h:fK ks s=true):bJ ks s=atN ks s:=by unfold bJ;rw [if_pos h]
def FindR (r:Option PN) (v:Value) (V':aI):Prop:=∃ z:LN,v=.tuple #[lnV z,.bool r.isSome]∧aX V' z∧z.n=r.getD pnZ
theorem Find_c (V:aI) (x:LN) (hx:aX V x) (hsm:cA dZ x.n) (A:Option Addr) (n c:Nat) (xs:List ByteArray) (hs:bZ V A n xs):Fn Tryz.prog 158 [lnV x,.slice A n c] V (FindR (dN x.n xs)):=by
  have hl:=hs.1.1
  have hm:=hs.1.max
  (refine aH Tryz.func158 rfl Tryz.ntmps158 rfl ?_;intro w0)
  repeat' (first|(refine aE ?_;first|(refine al9 ?_;intro γ)|refine pu9 ?_)|refine bW ?_|fail)
  rename_i γ1
  refine bQ (fun F V' L' m=>∃ (k:Nat) (y:LN),VLe V V'∧[⟨γ,70,lnC lnZ⟩,⟨γ1,70,lnC y⟩]=L'∧k≤n∧m=n - k∧aX V' y∧cA dZ y.n∧dN x.n xs=dN y.n (xs.drop k)∧F=[(2,.pointer (some ⟨γ1,0,none⟩)),(4,.pointer (some ⟨γ,0,none⟩)),(10,.slice A n c),(11,.int .i64 n),(12,.int .i64 k)]) (m:=n) ⟨0,x,VLe.refl _,rfl,Nat.zero_le _,by omega,hx,hsm,rfl,rfl⟩ bH rfl sl9 ?_
  rintro F V' L' m ⟨k,y,hV',rfl,hkn,rfl,hy,hsy,hf,rfl⟩
  by_cases hlt:k<n
  · obtain⟨b1,o1,s,rfl,hxs,hc,hss⟩:=(hs.le hV').at_ hlt
    obtain⟨ha,hca,hd,hck,es,hk,hks⟩:=hy.inv
    rw [rZ hxs] at hf
    have hzl:y.ks.length=y.nk:=by rw [hks,List.length_map,hk.len]
    have hpl:=lV y.ks s
    repeat' (first|(refine aE ?_;first|(refine aD ?_;refine aN rfl (aG ⟨Tryz.call235⟩ rfl (tplace_c _ _ _ _ es hk _ hks s)) ?_)|refine st9 ?_|refine pu9 ?_)|refine cV ?_|(refine aJ rfl rfl rfl ?_ ?_<;>intro hq<;>try exact no9)|(refine aA rfl ?_ ?_<;>intro hq<;>try exact no9)|(refine bP rfl ?_ ?_<;>intro hq))
    all_goals first
      | ((refine bA Tryz.results158 (aS agg_70 rfl bB (by exact rfl)) (aB rfl) ?_);rw [hf,findP_no (.inl (show ¬y.n.h.kind=2 from hq))];exact⟨lnZ,rfl,aX.zero,rfl⟩)
      | ((refine bA Tryz.results158 (aS agg_70 rfl bB (by exact rfl)) (aB rfl) ?_);rw [hf,findP_no (.inr (show fK y.n.ks s=false by rw [Bool.not_eq_true'] at hq;exact hq))];exact⟨lnZ,rfl,aX.zero,rfl⟩)
      | skip
    have hia:fK y.ks s=true:=by simpa using hq
    have hpl2:=jP hia
    obtain⟨b2,o2,e,hK1,he,hem,hc',c0,c1,hms,hne⟩:=hk.at_ (k:=bJ y.ks s) (by omega)
    have hke:=mP hks he
    repeat' (first|(refine aE ?_;first|refine st9 ?_|refine pu9 ?_)|refine bV ?_|fail)
    refine aZ _ (n - (k+1)) ⟨k+1,e.x,hV',rfl,by omega,rfl,hne,hsy.kid (List.mem_of_getElem? hke),?_,rfl⟩ (by omega) bH sl9
    rw [hf,findP_yes (n:=y.n) (Decidable.not_not.1 (by assumption)) hia hke]
  · repeat' (first|(refine aE ?_;first|(refine aD ?_;(refine aW rfl ⟨Tryz.call54⟩ rfl bF rfl (Own_c _ y hy _ (VLe.refl _) hsy) ?_;rintro v V4 B4 hV4 ⟨z,gs,rfl,hyn,hO⟩;refine lE rfl hO.row bF ?_;intro V5 hV5 hc5;have hzN:=hO.node hV5 hc5 (hO.bound hyn hsy)))|refine st9 ?_|refine pu9 ?_)|refine dR ?_|(refine aA rfl ?_ ?_<;>intro hq<;>try exact no9))
    all_goals
      (refine bA Tryz.results158 (aS agg_70 rfl bB (by exact rfl)) (aB rfl) ?_)
      rw [List.drop_of_length_le (by omega)] at hf
      rw [hf]
      exact⟨z,rfl,hzN,hyn⟩
theorem kidR_no {n:PN} {s:ByteArray} {l:List ByteArray} (h:tW n s<0):dN n (s :: l)=none:=by
  unfold tW at h
  split at h
  · omega
  · rename_i hh
    rw [dN,if_neg hh]
theorem kidR_yes {n:PN} {s:ByteArray} (h:¬tW n s<0):n.h.kind=2∧fK n.ks s=true∧tW n s=(bJ n.ks s:Int):=by
  unfold tW at h ⊢
  split at h
  · rename_i hh
    exact⟨hh.1,hh.2,by rw [if_pos hh,placeN_yes hh.2]⟩
  · omega
theorem RFind_c (V:aI) (x:LN) (hx:aX V x) (A:Option Addr) (n c:Nat) (xs:List ByteArray) (hs:bZ V A n xs):Fn Tryz.prog 188 [lnV x,.slice A n c] V (FindR (dN x.n xs)):=by
  have hl:=hs.1.1
  have hm:=hs.1.max
  (refine aH Tryz.func188 rfl Tryz.ntmps188 rfl ?_;intro w0)
  repeat' (first|(refine aE ?_;first|(refine al9 ?_;intro γ)|refine pu9 ?_)|refine bW ?_|fail)
  rename_i γ1
  refine bQ (fun F V' L' m=>∃ (k:Nat) (y:LN),V=V'∧[⟨γ,70,lnC lnZ⟩,⟨γ1,70,lnC y⟩]=L'∧k≤n∧m=n - k∧aX V' y∧dN x.n xs=dN y.n (xs.drop k)∧F=[(1,.slice A n c),(2,.pointer (some ⟨γ1,0,none⟩)),(4,.pointer (some ⟨γ,0,none⟩)),(6,.int .i64 k)]) (m:=n) ⟨0,x,rfl,rfl,Nat.zero_le _,by omega,hx,rfl,rfl⟩ bH rfl sl9 ?_
  rintro F V' L' m ⟨k,y,rfl,rfl,hkn,rfl,hy,hf,rfl⟩
  by_cases hlt:k<n
  · obtain⟨b1,o1,s,rfl,hxs,hc,hss⟩:=hs.at_ hlt
    obtain⟨ha,hca,hd,hck,es,hk,hks⟩:=hy.inv
    rw [rZ hxs] at hf
    have hzl:y.ks.length=y.nk:=by rw [hks,List.length_map,hk.len]
    repeat' (first|(refine aE ?_;first|(refine aD ?_;refine aN rfl (aG ⟨Tryz.call245⟩ rfl (kid_c _ y hy s)) ?_)|refine st9 ?_|refine pu9 ?_)|refine bW ?_|(refine aA rfl ?_ ?_<;>intro hq<;>try exact no9)|refine bN (id:=4) mixed (by kernel_rfl) ?_)
    · (refine bA Tryz.results188 (aS agg_70 rfl bB (by exact rfl)) (aB rfl) ?_)
      rw [hf,kidR_no hq];exact⟨lnZ,rfl,aX.zero,rfl⟩
    · obtain⟨h2,hia,hkr⟩:y.h.kind=2∧fK y.ks s=true∧tW y.n s=(bJ y.ks s:Int):=kidR_yes hq
      have hpl2:=jP hia
      obtain⟨b2,o2,e,hK1,he,hem,hc',c0,c1,hms,hne⟩:=hk.at_ (k:=bJ y.ks s) (by omega)
      have hke:=mP hks he
      rw [hkr]
      repeat' (first|(refine aE ?_;first|refine st9 ?_|refine pu9 ?_)|refine bV ?_|fail)
      refine aZ _ (n - (k+1)) ⟨k+1,e.x,rfl,rfl,by omega,rfl,hne,?_,rfl⟩ (by omega) bH sl9
      rw [hf,findP_yes (n:=y.n) h2 hia hke]
  · repeat' (first|(refine aE ?_;first|refine st9 ?_|refine pu9 ?_)|refine dR ?_|(refine aA rfl ?_ ?_<;>intro hq<;>try exact no9))
    all_goals
      (refine bA Tryz.results188 (aS agg_70 rfl bB (by exact rfl)) (aB rfl) ?_)
      rw [List.drop_of_length_le (by omega)] at hf
      rw [hf]
      exact⟨y,rfl,hy,rfl⟩
end
section
def EditR (cut:Bool) (x:PN) (ks:PKs) (s:ByteArray) (v:Value) (V':aI):Prop :=
  ∃ (K:Option Addr) (n c:Nat) (es:List LK),v=.tuple #[.slice K n c,bT (oW cut ks s)]∧n≤c∧eI V' K n es∧(oW cut ks s=0→es.map kz=gB cut x ks s)
theorem eI.nil {V:aI}:eI V none 0 []:=⟨eT.nil,by simp⟩
theorem eI.take {V:aI} {K:Option Addr} {n k:Nat} {es:List LK} (h:eI V K n es) (hk:k≤n):eI V K k (es.take k):=⟨h.1.take hk,fun e he=>h.2 e (List.mem_of_mem_take he)⟩
theorem eI.drop {V:aI} {K:Option Addr} {n k c:Nat} {es:List LK} (h:eI V K n es) (hk:k≤n) (hc:n≤c):eI V (xL K c k 9) (n - k) (es.drop k):=⟨h.1.drop hk hc,fun e he=>h.2 e (List.mem_of_mem_drop he)⟩
theorem eI.src {B:Base} {V:aI} {L:List Box} {K:Option Addr} {n:Nat} {es:List LK} (h:eI V K n es):cG B V L 9 K n (es.flatMap lkC):=fW (h.1.cells nV)
theorem eI.of {V:aI} {K:Option Addr} {n:Nat} {es:List LK} (hc:eU V 9 K n (es.flatMap lkC)) (hl:es.length=n) (hm:n≤maxLen) (hg:∀ e∈es,e.nm.size≤maxLen∧aX V e.x):eI V K n es:=⟨eT.of_cells hc nV hl hm,hg⟩
theorem edit_cells {es fs:List LK} {e:LK} {l:List Value} (h:l=(es ++ e :: fs).flatMap lkC):l=([] ++ es.flatMap lkC ++ lkC e) ++ fs.flatMap lkC:=by
  rw [h,List.flatMap_append,List.flatMap_cons];simp only [List.nil_append,List.append_assoc]
theorem edit_mem {V V':aI} {K:Option Addr} {n p q:Nat} {es:List LK} {s:ByteArray} {x:LN} (hV:VLe V V') (h:eI V K n es) (hs:s.size≤maxLen) (hx:aX V x):∀ e∈es.take p ++ ⟨s,x⟩ :: es.drop q,e.nm.size≤maxLen∧aX V' e.x:=by
  intro e he
  rcases List.mem_append.1 he with he|he
  · have:=h.2 e (List.mem_of_mem_take he);exact⟨this.1,this.2.le hV⟩
  · rcases List.mem_cons.1 he with rfl|he
    · exact⟨hs,hx.le hV⟩
    · have:=h.2 e (List.mem_of_mem_drop he);exact⟨this.1,this.2.le hV⟩
theorem edit_map {es:List LK} {e:LK} {p q:Nat}:(es.take p ++ e :: es.drop q).map kz=(es.map kz).take p ++ kz e :: (es.map kz).drop q:=by
  rw [List.map_append,List.map_cons,List.map_take,List.map_drop]
theorem rI {ks:PKs} {s:ByteArray} (h:eX s.toList=true):oW false ks s=0:=by unfold oW;rw [if_neg (by decide),if_pos h]
theorem sT {ks:PKs} {s:ByteArray} (h:eX s.toList=false):oW false ks s=4:=by unfold oW;rw [if_neg (by decide),if_neg (by rw [h];decide)]
theorem editF_cut {ks:PKs} {s:ByteArray} (h:fK ks s=true):oW true ks s=0:=by unfold oW;rw [if_pos rfl,if_pos h]
theorem wZ {ks:PKs} {s:ByteArray} (h:fK ks s=false):oW true ks s=5:=by unfold oW;rw [if_pos rfl,if_neg (by rw [h];decide)]
attribute [local irreducible] AtQ GoC GoL GoW QO QP Fn RV bX aL VLe cG bT
theorem PutF_c (V:aI) (K:Option Addr) (n c:Nat) (es:List LK) (h:eI V K n es) (hnc:n≤c) (hn:n≤100000) (ks:PKs) (hks:ks=es.map kz) (s:ByteArray) (hs:s.size≤maxLen) (g:Nat) (x:LN) (hg:aL V g 0 (lnC x)) (hx:aX V x):Fn Tryz.prog 237 [.slice K n c,.string s,.pointer (some ⟨g,0,none⟩)] V (EditR false x.n ks s):=by
  have hl:=h.len
  have hm:=h.max
  have hz:ks.length=n:=by rw [hks,List.length_map,hl]
  have hple:=lV ks s
  have hs':s.size≤9223372036854775807:=by unfold maxLen at hs;omega
  have hc1:aL V g 0 (lnC x):=hg
  have o1:=tK (es.take (bJ ks s))
  have o2:=tK (es.drop (bJ ks s))
  have o3:=tK (es.drop (bJ ks s+1))
  cases hnm:eX s.toList with
  | false =>
    have hN:=Name_c V s hs'
    rw [hnm] at hN
    (refine aH Tryz.func237 rfl Tryz.ntmps237 rfl ?_;intro w0)
    repeat' (first|(refine aE ?_;first|(refine aD ?_;refine aN rfl (aG ⟨Tryz.call225⟩ rfl (hN)) ?_)|refine pu9 ?_)|refine cD ?_|fail)
    all_goals
      (refine bA Tryz.results237 (aB rfl) (aB rfl) ?_)
      exact⟨none,0,0,[],by rw [sT hnm,dU (by decide)],Nat.le_refl _,eI.nil,fun h0=>by rw [sT hnm] at h0;cases h0⟩
  | true =>
    have hN:=Name_c V s hs'
    rw [hnm] at hN
    (refine aH Tryz.func237 rfl Tryz.ntmps237 rfl ?_;intro w0)
    repeat' (first|(refine aE ?_;first|(refine aD ?_;(first|refine aN rfl (aG ⟨Tryz.call225⟩ rfl (hN)) ?_|refine aN rfl (aG ⟨Tryz.call235⟩ rfl (tplace_c _ _ _ _ es h _ hks s)) ?_|(refine aT rfl und_68 inf_156 rfl rfl rfl cU.nil dT (h.take (k:=bJ ks s) (by omega)).src bG (by omega) rfl rfl ?_;intro A1 c1 L1 hr1)|(refine aT rfl und_68 inf_156 rfl rfl rfl hr1 bF (cZ bB rfl) bG (by omega) rfl rfl ?_;intro A2 c2 L2 hr2)))|(refine eG ?_;(first|refine aR (cE und_68 siz_156 rfl rfl (by omega)) ?_|refine aR (kK und_68 siz_156 rfl rfl (by omega)) ?_))|(refine cJ ?_;(refine aP rfl und_68 siz_156 zec_156 rfl rfl rfl rfl rfl rfl rfl ?_;intro γ))|refine pu9 ?_)|refine cD ?_|(refine bP rfl ?_ ?_<;>intro hq))
    · have hlt:=jP hq
      repeat' (first|(refine aE ?_;first|(refine aD ?_;(refine aT rfl und_68 inf_156 rfl rfl rfl hr2 bF ((h.drop (k:=bJ ks s+1) (by omega) hnc).src) bG (by omega) rfl rfl ?_;intro A3 c3 L3 hr3))|(refine eG ?_;refine aR (gM und_68 siz_156 rfl rfl (by omega)) ?_)|refine pu9 ?_)|refine gx9 ?_|fail)
      have hr3':cU A3 (0+bJ ks s+1+(n - ((bJ ks s:Int)+1).toNat)) c3 156 9 ((es.take (bJ ks s) ++ ⟨s,x⟩ :: es.drop (bJ ks s+1)).flatMap lkC) L3:=by rw [edit_cells rfl];exact hr3
      refine eA hr3' bF ?_
      intro V2 hV2 hc2
      (refine bA Tryz.results237 (aB rfl) (aB rfl) ?_)
      refine⟨A3,_,c3,_,by rw [rI hnm,dA],hr3'.cap,eI.of hc2 (by simp;omega) (by unfold maxLen;omega) ?_,fun _=>?_⟩
      · exact edit_mem hV2 h hs hx
      · rw [edit_map,←hks];unfold gB;rw [if_pos hq];simp [kz]
    · skip
      repeat' (first|(refine aE ?_;first|(refine aD ?_;(refine aT rfl und_68 inf_156 rfl rfl rfl hr2 bF ((h.drop (k:=bJ ks s) (by omega) hnc).src) bG (by omega) rfl rfl ?_;intro A3 c3 L3 hr3))|refine pu9 ?_)|refine gx9 ?_|fail)
      have hr3':cU A3 (0+bJ ks s+1+(n - bJ ks s)) c3 156 9 ((es.take (bJ ks s) ++ ⟨s,x⟩ :: es.drop (bJ ks s)).flatMap lkC) L3:=by rw [edit_cells rfl];exact hr3
      refine eA hr3' bF ?_
      intro V2 hV2 hc2
      (refine bA Tryz.results237 (aB rfl) (aB rfl) ?_)
      refine⟨A3,_,c3,_,by rw [rI hnm,dA],hr3'.cap,eI.of hc2 (by simp;omega) (by unfold maxLen;omega) ?_,fun _=>?_⟩
      · exact edit_mem hV2 h hs hx
      · rw [edit_map,←hks];unfold gB;rw [if_neg (show ¬fK ks s=true by rw [hq];decide)];simp [kz]
theorem CutF_c (V:aI) (K:Option Addr) (n c:Nat) (es:List LK) (h:eI V K n es) (hnc:n≤c) (hn:n≤100000) (ks:PKs) (hks:ks=es.map kz) (s:ByteArray) (x:PN):Fn Tryz.prog 261 [.slice K n c,.string s] V (EditR true x ks s):=by
  have hl:=h.len
  have hm:=h.max
  have hz:ks.length=n:=by rw [hks,List.length_map,hl]
  have hple:=lV ks s
  have o1:=tK (es.take (bJ ks s))
  have o3:=tK (es.drop (bJ ks s+1))
  have hP:=tplace_c V K n c es h ks hks s
  cases hia:fK ks s with
  | false =>
    rw [hia] at hP
    (refine aH Tryz.func261 rfl Tryz.ntmps261 rfl ?_;intro w0)
    repeat' (first|(refine aE ?_;first|(refine aD ?_;refine aN rfl (aG ⟨Tryz.call235⟩ rfl (hP)) ?_)|refine pu9 ?_)|refine cD ?_|fail)
    all_goals
      (refine bA Tryz.results261 (aB rfl) (aB rfl) ?_)
      exact⟨none,0,0,[],by rw [wZ hia,dU (by decide)],Nat.le_refl _,eI.nil,fun h0=>by rw [wZ hia] at h0;cases h0⟩
  | true =>
    rw [hia] at hP
    have hlt:=jP hia
    (refine aH Tryz.func261 rfl Tryz.ntmps261 rfl ?_;intro w0)
    repeat' (first|(refine aE ?_;first|(refine aD ?_;refine aN rfl (aG ⟨Tryz.call235⟩ rfl (hP)) ?_)|refine pu9 ?_)|refine cD ?_|(refine bM (id:=4) _ mixed (List.Sublist.refl _) ?_;refine gt9 0 ?_;refine gt9 1 ?_;refine fP 2 rfl rfl (cE und_68 siz_156 rfl rfl (by omega)) ?_;refine gt9 4 ?_;refine gt9 5 ?_;refine gt9 6 ?_;refine fP 7 rfl rfl (gM und_68 siz_156 rfl rfl (by omega)) ?_;refine aY (i:=3) rfl ?_;(refine aT rfl und_68 inf_156 rfl rfl rfl cU.nil dT (h.take (k:=bJ ks s) (by omega)).src bG (by omega) rfl rfl ?_;intro A1 c1 L1 hr1);refine aY (i:=8) rfl ?_;(refine aT rfl und_68 inf_156 rfl rfl rfl hr1 bF ((h.drop (k:=bJ ks s+1) (by omega) hnc).src) bG (by omega) rfl rfl ?_;intro A3 c3 L3 hr3);refine gt9 9 ?_;refine gt9 10 ?_;refine aU (by kernel_rfl) vl9 vl9 bD ?_))
    have hr3':cU A3 (0+bJ ks s+(n - ((bJ ks s:Int)+1).toNat)) c3 156 9 ((es.take (bJ ks s) ++ es.drop (bJ ks s+1)).flatMap lkC) L3:=by rw [List.flatMap_append];exact hr3
    refine eA hr3' bF ?_
    intro V2 hV2 hc2
    (refine bA Tryz.results261 (aB rfl) (aB rfl) ?_)
    refine⟨A3,_,c3,_,by rw [editF_cut hia,dA],hr3'.cap,eI.of hc2 (by simp;omega) (by unfold maxLen;omega) ?_,fun _=>?_⟩
    · intro e he
      rcases List.mem_append.1 he with he|he
      · have:=h.2 e (List.mem_of_mem_take he);exact⟨this.1,this.2.le hV2⟩
      · have:=h.2 e (List.mem_of_mem_drop he);exact⟨this.1,this.2.le hV2⟩
    · rw [List.map_append,List.map_take,List.map_drop,←hks];unfold gB;rw [if_pos hia];simp
end
section
def sX (h:Hd) (ks:PKs):Prop:=h.attrs.length≤50000∧ks.length≤50000
theorem mid_small {h:Hd} {ks:PKs} (k:sX h ks):dZ h ks:=⟨by have:=k.1;omega,by have:=k.2;omega⟩
theorem pI {cut:Bool} {x:PN} {ks:PKs} {s:ByteArray} {k:ByteArray×PN} (h:k∈gB cut x ks s):k∈ks∨k=(s,x):=by
  unfold gB at h
  rcases List.mem_append.1 h with h|h
  · rcases List.mem_append.1 h with h|h
    · exact .inl (List.mem_of_mem_take h)
    · split at h
      · cases h
      · exact .inr (by simpa using h)
  · exact .inl (List.mem_of_mem_drop h)
theorem edit_len {cut:Bool} {x:PN} {ks:PKs} {s:ByteArray}:(gB cut x ks s).length≤ks.length+1:=by
  unfold gB
  have h1:(if cut=true then ([]:PKs) else [(s,x)]).length≤1:=by split<;>simp
  have h2:bJ ks s≤(if fK ks s=true then bJ ks s+1 else bJ ks s):=by split<;>omega
  simp only [List.length_append,List.length_take,List.length_drop]
  omega
theorem edit_small {cut:Bool} {x:PN} {h:Hd} {ks:PKs} {s:ByteArray} (hm:cA sX (.mk h ks)) (hx:cA dZ x):cA dZ (.mk h (gB cut x ks s)):=by
  have hh:=hm.here
  have hl:ks.length≤50000:=hh.2
  have:=edit_len (cut:=cut) (x:=x) (ks:=ks) (s:=s)
  refine .mk ⟨(mid_small hh).1,by omega⟩ fun k hk=>?_
  rcases pI hk with hk|rfl
  · exact(hm.kid hk).imp fun _ _=>mid_small
  · exact hx
def qV (cut:Bool) (x n:PN) (l:List ByteArray) (v:Value) (V':aI):Prop:=∃ z:LN,v=.tuple #[lnV z,bT (pF cut x n l)]∧aX V' z∧z.n=tS cut x n l
theorem qV.bad {cut:Bool} {x n:PN} {l:List ByteArray} {V':aI} {e:Int} (h:pF cut x n l=e) (h0:¬e=0):qV cut x n l (.tuple #[lnV lnZ,bT e]) V' :=
  ⟨lnZ,by rw [h],aX.zero,by unfold tS;rw [h,if_neg h0];rfl⟩
theorem qV.good {cut:Bool} {x n:PN} {l:List ByteArray} {V':aI} {z:LN} (h:pF cut x n l=0) (hz:aX V' z) (hn:z.n=pN cut x n l):qV cut x n l (.tuple #[lnV z,.nilIface]) V' :=
  ⟨z,by rw [h,dA],hz,by unfold tS;rw [if_pos h,hn]⟩
theorem bZ.tail {V:aI} {A:Option Addr} {n c:Nat} {s:ByteArray} {l:List ByteArray} (h:bZ V A n (s :: l)) (hc:n≤c):bZ V (xL A c 1 1) (n - 1) l :=
  ⟨h.1.drop (k:=1) (by have:=h.1.1;simp at this;omega) hc,fun t ht=>h.2 t (List.mem_cons_of_mem _ ht)⟩
theorem spl_part {α:Type} {f:α→List Value} {sz:Nat} (hf:∀ x,(f x).length=sz) {xs:List α} {rest us:List Value} {k j:Nat} {x y:α} (hx:xs[k]?=some x) (hj:j+us.length≤sz) (hy:spl (f x) j us=f y):spl (xs.flatMap f ++ rest) (0+k * sz+j) us=(xs.set k y).flatMap f ++ rest:=by
  have hk:=rJ hx
  have e:xs=xs.take k ++ x :: xs.drop (k+1):=by rw [←rZ hx,List.take_append_drop]
  have hl:(xs.take k).length=k:=by rw [List.length_take];omega
  have hl2:((xs.take k).flatMap f).length=k * sz:=by rw [kA f hf,hl]
  have e2:xs.flatMap f ++ rest=(xs.take k).flatMap f ++ (f x ++ ((xs.drop (k+1)).flatMap f ++ rest)):=by
    conv=>lhs;rw [e]
    rw [List.flatMap_append,List.flatMap_cons];simp only [List.append_assoc]
  have e3:(xs.set k y).flatMap f ++ rest=(xs.take k).flatMap f ++ (f y ++ ((xs.drop (k+1)).flatMap f ++ rest)):=by
    rw [List.set_eq_take_append_cons_drop,if_pos hk,List.flatMap_append,List.flatMap_cons];simp only [List.append_assoc]
  rw [e2,e3,←hy]
  have hfx:=hf x
  rw [spl_app _ _ _ (by simp only [List.length_append,hl2,hfx];omega),spl_app _ _ _ (by rw [hfx];omega)]
  rw [show 0+k * sz+j=((xs.take k).flatMap f).length+j by rw [hl2];omega]
  simp only [List.append_assoc]
  rw [List.take_length_add_append,show ((xs.take k).flatMap f).length+j+us.length=((xs.take k).flatMap f).length+(j+us.length) by omega,List.drop_length_add_append,List.take_append_of_le_length (by rw [hfx];omega),List.drop_append_of_le_length (by rw [hfx];omega)]
  simp only [List.append_assoc]
end
section
theorem pF_kind {cut:Bool} {x n:PN} {l:List ByteArray} (h:¬n.h.kind=2):pF cut x n l=7:=by
  match l with
  | []=>rfl
  | [s]=>rw [pF,if_neg h]
  | s :: t :: l=>rw [pF,if_pos h]
theorem uV {cut:Bool} {x n:PN} {s:ByteArray} (h:n.h.kind=2):pF cut x n [s]=oW cut n.ks s:=by rw [pF,if_pos h]
theorem pF_none {cut:Bool} {x n:PN} {s t:ByteArray} {l:List ByteArray} (h:n.h.kind=2) (h2:fK n.ks s=false):pF cut x n (s :: t :: l)=5:=by rw [pF,if_neg (by omega),if_neg (by rw [h2];decide)]
theorem pF_on {cut:Bool} {x n:PN} {s t:ByteArray} {l:List ByteArray} {k:ByteArray×PN} (h:n.h.kind=2) (h2:fK n.ks s=true) (hk:n.ks[bJ n.ks s]?=some k):pF cut x n (s :: t :: l)=pF cut x k.2 (t :: l):=by rw [pF,if_neg (by omega),if_pos h2,hk]
theorem pN_on {cut:Bool} {x n:PN} {s t:ByteArray} {l:List ByteArray} {k:ByteArray×PN} (hk:n.ks[bJ n.ks s]?=some k):pN cut x n (s :: t :: l)=.mk n.h (n.ks.set (bJ n.ks s) (k.1,pN cut x k.2 (t :: l))):=by rw [pN,hk]
theorem qV.badI {cut:Bool} {x n:PN} {l:List ByteArray} {V':aI} {e:Int} (h:pF cut x n l=e) (h0:¬e=0):qV cut x n l (.tuple #[lnV lnZ,.iface 120 (.int .i64 e)]) V':=by
  rw [←dU h0];exact qV.bad h h0
theorem kz_back {es:List LK} {ks:PKs} (h:ks=es.map kz) {k:Nat} {u:ByteArray×PN} (hk:ks[k]?=some u):∃ e,es[k]?=some e∧kz e=u:=by
  subst h
  rw [List.getElem?_map] at hk
  cases he:es[k]? with
  | none=>rw [he] at hk;cases hk
  | some e=>rw [he] at hk;exact⟨e,rfl,by simpa using hk⟩
def EditC (V:aI) (f:FuncId) (cs:List Value) (cut:Bool) (x0:PN):Prop :=
  ∀ V',VLe V V'→∀ (K:Option Addr) (n c:Nat) (es:List LK),eI V' K n es→n≤c→n≤100000→∀ (ks:PKs),ks=es.map kz→∀ s:ByteArray,s.size≤maxLen→Fn Tryz.prog f ([.slice K n c,.string s] ++ cs) V' (EditR cut x0 ks s)
attribute [local irreducible] AtQ GoC GoL GoW QO QP Fn RV bX aL VLe cG bT
theorem change_c (V:aI) (f:FuncId) (cs:List Value) (cut:Bool) (x0:PN) (he:kW Tryz.prog f) (hed:EditC V f cs cut x0) (hx0:cA dZ x0):∀ (l:List ByteArray) (x:LN) (A:Option Addr) (n c:Nat) (V':aI),VLe V V'→aX V' x→cA sX x.n→bZ V' A n l→n≤c →
    Fn Tryz.prog 236 [lnV x,.slice A n c,.func (.func f) #[] cs.toArray] V' (qV cut x0 x.n l):=by
  intro l
  induction l with
  | nil =>
    intro x A n c V' hV hx hmid hs hnc
    have hl:=hs.1.1
    simp at hl
    subst hl
    (refine aH Tryz.func236 rfl Tryz.ntmps236 rfl ?_;intro w0)
    repeat' (first|(refine aE ?_;first|refine st9 ?_|(refine al9 ?_;intro γ)|refine pu9 ?_)|refine cD ?_|(refine aJ rfl rfl rfl ?_ ?_<;>intro hq<;>try exact no9))
    all_goals
      (refine bA Tryz.results236 (aS agg_70 rfl bB (by exact rfl)) (aB rfl) ?_)
      exact qV.badI (V':=V') (cut:=cut) (x:=x0) (n:=x.n) (l:=[]) rfl (by decide)
  | cons s l ih =>
    intro x A n c V' hV hx hmid hs hnc
    have hl:=hs.1.1
    have hm:=hs.1.max
    have hn0:0<n:=by rw [←hl];simp
    obtain⟨b1,o1,s',rfl,hs0,hsc,hss⟩:=hs.at_ hn0
    obtain rfl:s=s':=by simpa using hs0
    have hsm:=hs.2 s (by simp)
    obtain⟨ha,hca,hd,hck,es,hk,hks⟩:=hx.inv
    have hzl:x.ks.length=x.nk:=by rw [hks,List.length_map,hk.len]
    have hmn:=hmid.here
    replace hmn:x.ks.length≤50000:=hmn.2
    have hsmall:=hmid.imp fun _ _=>mid_small
    have hple:=lV x.ks s
    by_cases hkind:x.h.kind=2
    · cases l with
      | nil =>
        have hn1:n=1:=by rw [←hl];rfl
        subst hn1
        have e1:=uV (cut:=cut) (x:=x0) (n:=x.n) (s:=s) hkind
        (refine aH Tryz.func236 rfl Tryz.ntmps236 rfl ?_;intro w0)
        repeat' (first|(refine aE ?_;first|(refine al9 ?_;intro γ)|refine pu9 ?_)|refine cD ?_|(refine aJ rfl rfl rfl ?_ ?_<;>intro hq<;>try exact no9))
        refine bM (id:=4) _ mixed (List.Sublist.refl _) ?_;refine gt9 0 ?_;refine gt9 1 ?_;refine gt9 2 ?_;refine gt9 3 ?_;refine gt9 4 ?_;refine gt9 5 ?_;refine aY (i:=6) rfl ?_;(refine gw_callv rfl he rfl rfl rfl (hed V' hV _ _ _ es hk hck (by omega) _ hks s hsm) ?_;rintro v V4 hV4 ⟨K2,n2,c2,es2,rfl,hnc2,hk2,hm2⟩);refine gt9 7 ?_;refine gt9 8 ?_;refine gt9 9 ?_;refine gt9 10 ?_;refine gt9 11 ?_;refine aU (by kernel_rfl) vl9 vl9 bD ?_
        repeat' (first|(refine aE ?_;first|refine st9 ?_|refine pu9 ?_)|refine bV ?_|(refine aA rfl ?_ ?_<;>intro hq<;>try exact no9))
        · (refine bA Tryz.results236 (aS agg_70 rfl bB (by exact rfl)) (aB rfl) ?_)
          exact qV.bad (V':=V4) e1 hq
        · have e0:oW cut x.ks s=0:=Decidable.not_not.1 hq
          have hx':aX V4 ⟨x.h,x.A,x.na,x.ca,K2,n2,c2,gB cut x0 x.ks s⟩:=aX.of (ha.le hV4) hca hd hnc2 hk2 (hm2 e0).symm
          have hs':=edit_small (cut:=cut) (s:=s) hmid hx0
          repeat' (first|(refine aE ?_;first|(refine aD ?_;(refine aW rfl ⟨Tryz.call54⟩ rfl bF rfl (Own_c _ _ hx' _ (VLe.refl _) hs') ?_;rintro v V5 B5 hV5 ⟨z,gs,rfl,hzn,hO⟩;refine lE rfl hO.row bF ?_;intro V6 hV6 hc6;have hzN:=hO.node hV6 hc6 (hO.bound hzn hs')))|refine st9 ?_|refine pu9 ?_)|refine gx9 ?_|fail)
          all_goals
            (refine bA Tryz.results236 (aS agg_70 rfl bB (by exact rfl)) (aB rfl) ?_)
            exact qV.good (n:=x.n) (e1.trans e0) hzN hzn
      | cons t l =>
        have hn2:n=l.length+2:=by rw [←hl];rfl
        (refine aH Tryz.func236 rfl Tryz.ntmps236 rfl ?_;intro w0)
        repeat' (first|(refine aE ?_;first|(refine al9 ?_;intro γ)|refine pu9 ?_)|refine bV ?_|(refine aJ rfl rfl rfl ?_ ?_<;>intro hq<;>try exact no9)|(refine aA rfl ?_ ?_<;>intro hq<;>try exact no9))
        repeat' (first|(refine aE ?_;first|(refine aD ?_;refine aN rfl (aG ⟨Tryz.call235⟩ rfl (tplace_c _ _ _ _ es hk _ hks s)) ?_)|refine st9 ?_|refine pu9 ?_)|refine bV ?_|(refine bP rfl ?_ ?_<;>intro hq)|refine bN (id:=9) mixed (by kernel_rfl) ?_)
        · (refine bA Tryz.results236 (aS agg_70 rfl bB (by exact rfl)) (aB rfl) ?_)
          exact qV.badI (V':=V') (pF_none (n:=x.n) hkind (show fK x.ks s=false by rw [Bool.not_eq_true'] at hq;exact hq)) (by decide)
        · have hia:fK x.ks s=true:=by rw [Bool.not_eq_false'] at hq;exact hq
          have hpl:=jP hia
          obtain⟨b2,o2,e,hK1,he2,hem,hc',c0,c1,hms,hne⟩:=hk.at_ (k:=bJ x.ks s) (by omega)
          have hke:=mP hks he2
          have e1:=pF_on (cut:=cut) (x:=x0) (n:=x.n) (s:=s) (t:=t) (l:=l) hkind hia hke
          have e2:=pN_on (cut:=cut) (x:=x0) (n:=x.n) (s:=s) (t:=t) (l:=l) hke
          have htl:=hs.tail hnc
          have hcall:=ih e.x _ _ (c - 1) V' hV hne (hmid.kid (List.mem_of_getElem? hke)) htl (by omega)
          refine bM (id:=12) _ mixed (List.Sublist.refl _) ?_;refine gt9 0 ?_;refine gt9 1 ?_;refine gt9 2 ?_;refine gt9 3 ?_;refine gt9 4 ?_;refine gt9 5 ?_;refine gt9 6 ?_;refine fP 7 rfl rfl (gM und_47 siz_9 rfl rfl (by omega)) ?_;refine gt9 8 ?_;(refine dF (i:=9) (j:=13) (by kernel_rfl) rfl rfl rfl rfl vl9 vl9 bD ?_ ?_<;>first|((refine aM rfl ⟨Tryz.call236⟩ rfl rfl (hcall) ?_;rintro v V4 hV4 ⟨z,rfl,hzN,hzn⟩);refine gt9 10 ?_;refine gt9 11 ?_;refine gt9 12 ?_;refine aY (i:=13) rfl ?_;(refine bS rfl zer_70 rfl ?_;intro γ);refine aY (i:=14) rfl ?_;refine aO rfl siz_70 rfl rfl rfl rfl bG dC rfl ?_;refine gt9 15 ?_;refine aU (by kernel_rfl) vl9 vl9 bD ?_)|((refine bS rfl zer_70 rfl ?_;intro γ);refine aY (i:=9) rfl ?_;(refine aM rfl ⟨Tryz.call236⟩ rfl rfl (hcall) ?_;rintro v V4 hV4 ⟨z,rfl,hzN,hzn⟩);refine gt9 10 ?_;refine gt9 11 ?_;refine gt9 12 ?_;refine aY (i:=14) rfl ?_;refine aO rfl siz_70 rfl rfl rfl rfl bG dC rfl ?_;refine gt9 15 ?_;refine aU (by kernel_rfl) vl9 vl9 bD ?_))
          repeat' (first|(refine aE ?_;first|refine st9 ?_|refine pu9 ?_)|refine bV ?_|(refine aA rfl ?_ ?_<;>intro hq<;>try exact no9))
          all_goals first
            | ((refine bA Tryz.results236 (aS agg_70 rfl bB (by exact rfl)) (aB rfl) ?_);exact qV.bad e1 hq)
            | skip
          all_goals
            have e0:pF cut x0 e.x.n (t :: l)=0:=Decidable.not_not.1 hq
            repeat' (first|(refine aE ?_;first|(refine aD ?_;(refine aW rfl ⟨Tryz.call54⟩ rfl bF rfl (Own_c _ x (hx.le hV4) _ (VLe.refl _) hsmall) ?_;rintro v V5 B5 hV5 ⟨z2,gs,rfl,hzn2,hO⟩;obtain⟨hh2,hk2⟩:=PN.mk.inj hzn2;obtain⟨ha3,hca3,hd3,hr3,hl3,hg3,hks3⟩:=hO;obtain⟨f2,hgf,hf2⟩:=kz_back hks3 (k:=bJ x.ks s) (u:=(e.nm,e.x.n)) (by rw [hk2];exact hke);have hlg:=rJ hgf;obtain⟨g,rest,hK2,rfl,hlen,hcap,hmax⟩:=hr3.open (by omega);have hfit:0+bJ x.ks s * 9+1+(lnC z).length≤(gs.flatMap lkC ++ rest).length:=(by rw [hlen];show 0+bJ x.ks s * 9+1+8≤z2.ck * 9;omega)))|(refine dG ?_;refine aO rfl siz_70 rfl rfl rfl rfl bG puts9 rfl ?_)|refine st9 ?_|(refine al9 ?_;intro γ)|refine pu9 ?_)|refine bV ?_|fail)
            rw [spl_part (f:=lkC) nV (y:=⟨f2.nm,z⟩) hgf (by show 1+8≤9;omega) rfl]
            have hlen':((gs.set (bJ x.ks s) ⟨f2.nm,z⟩).flatMap lkC ++ rest).length=z2.ck * 9:=by rw [List.length_append,kA lkC nV,List.length_set,←kA lkC nV gs,←List.length_append];exact hlen
            refine eA (cU.close (g:=g) (E:=156) nV (by rw [List.length_set,hl3]) hlen' hcap hmax) bF ?_
            intro V6 hV6 hc6
            rw [←hK2] at hc6
            (refine bA Tryz.results236 (aS agg_70 rfl bB (by exact rfl)) (aB rfl) ?_)
            refine qV.good (z:=⟨z2.h,z2.A,z2.na,z2.ca,z2.K,z2.nk,z2.ck,z2.ks.set (bJ x.ks s) (f2.nm,z.n)⟩) (n:=x.n) (e1.trans e0) (aX.of (ha3.le hV6) hca3 hd3 hcap (eI.of hc6 (by rw [List.length_set,hl3]) (by have h1:z2.ks.length=gs.length:=(by rw [hks3,List.length_map]);rw [hk2] at h1;show z2.nk≤maxLen;unfold maxLen;omega) ?_) ?_) ?_
            · intro u hu
              rcases List.mem_or_eq_of_mem_set hu with hu|rfl
              · exact⟨(hg3 u hu).1,(hg3 u hu).2.le hV6⟩
              · exact⟨(hg3 f2 (List.mem_of_getElem? hgf)).1,hzN.le (VLe.trans hV5 hV6)⟩
            · show z2.ks.set _ _=_
              rw [hks3,List.map_set];rfl
            · rw [e2]
              have hzz:z.n=pN cut x0 e.x.n (t :: l):=by rw [hzn];unfold tS;rw [if_pos e0]
              show PN.mk z2.h (z2.ks.set _ _)=PN.mk x.h (x.ks.set _ _)
              rw [hzz,hh2,hk2]
              have:=congrArg Prod.fst hf2
              simp only [kz] at this
              rw [this]
              rfl
    · (refine aH Tryz.func236 rfl Tryz.ntmps236 rfl ?_;intro w0)
      repeat' (first|(refine aE ?_;first|refine st9 ?_|(refine al9 ?_;intro γ)|refine pu9 ?_)|refine cD ?_|(refine aJ rfl rfl rfl ?_ ?_<;>intro hq<;>try exact no9))
      all_goals
        (refine bA Tryz.results236 (aS agg_70 rfl bB (by exact rfl)) (aB rfl) ?_)
        exact qV.badI (V':=V') (cut:=cut) (x:=x0) (pF_kind (n:=x.n) (l:=s :: l) hkind) (by decide)
end
section
attribute [local irreducible] AtQ GoC GoL GoW QO QP Fn RV bX aL VLe cG bT
theorem putC {V:aI} {g:Nat} {x:LN} (hg:aL V g 0 (lnC x)) (hx:aX V x):EditC V 237 [.pointer (some ⟨g,0,none⟩)] false x.n :=
  fun V' hV' K n c es hk hnc hn ks hks s hs=>PutF_c V' K n c es hk hnc hn ks hks s hs g x (hg.le hV') (hx.le hV')
theorem cutC {V:aI} {x:PN}:EditC V 261 [] true x :=
  fun V' hV' K n c es hk hnc hn ks hks s hs=>CutF_c V' K n c es hk hnc hn ks hks s x
theorem Put_c (V:aI) (x:LN) (hx:aX V x) (hmid:cA sX x.n) (A:Option Addr) (n c:Nat) (l:List ByteArray) (hs:bZ V A n l) (hnc:n≤c) (y:LN) (hy:aX V y) (hys:cA dZ y.n):Fn Tryz.prog 159 [lnV x,.slice A n c,lnV y] V (qV false y.n x.n l):=by
  (refine aH Tryz.func159 rfl Tryz.ntmps159 rfl ?_;intro w0)
  repeat' (first|(refine aE ?_;first|(refine al9 ?_;intro γ)|refine pu9 ?_)|refine bV ?_|fail)
  refine gw_retire rfl (gH.next _ _ _ _ _ (gH.here _ _ _ _)) ?_
  intro V1 hV1 hg1
  have hC:=putC hg1 (hy.le hV1)
  repeat' (first|(refine aE ?_;first|(refine aD ?_;(refine aM rfl ⟨Tryz.call236⟩ rfl rfl (change_c V1 _ _ false y.n ⟨Tryz.call237⟩ hC hys l x A n c V1 (VLe.refl _) (hx.le hV1) hmid (hs.le hV1) hnc) ?_;rintro v V4 hV4 ⟨z,rfl,hzN,hzn⟩))|refine st9 ?_|refine pu9 ?_)|refine gx9 ?_|fail)
  all_goals
    (refine bA Tryz.results159 (aS agg_70 rfl bB (by exact rfl)) (aB rfl) ?_)
    exact⟨z,rfl,hzN,hzn⟩
theorem Cut_tc (V:aI) (x:LN) (hx:aX V x) (hmid:cA sX x.n) (A:Option Addr) (n c:Nat) (l:List ByteArray) (hs:bZ V A n l) (hnc:n≤c):Fn Tryz.prog 233 [lnV x,.slice A n c] V (qV true pnZ x.n l):=by
  (refine aH Tryz.func233 rfl Tryz.ntmps233 rfl ?_;intro w0)
  repeat' (first|(refine aE ?_;first|(refine aD ?_;(refine aM rfl ⟨Tryz.call236⟩ rfl rfl (change_c V _ [] true pnZ ⟨Tryz.call261⟩ cutC (.mk ⟨Nat.zero_le _,Nat.zero_le _⟩ (by simp)) l x A n c V (VLe.refl _) hx hmid hs hnc) ?_;rintro v V4 hV4 ⟨z,rfl,hzN,hzn⟩))|refine st9 ?_|(refine al9 ?_;intro γ)|refine pu9 ?_)|refine bV ?_|fail)
  all_goals
    (refine bA Tryz.results233 (aS agg_70 rfl bB (by exact rfl)) (aB rfl) ?_)
    exact⟨z,rfl,hzN,hzn⟩
end
section
def iX (ins es:List LK) (p q k:Nat):List LK:=if k≤p then es.take k else es.take p ++ ins ++ (es.drop q).take (k - q)
theorem editL_low {ins es:List LK} {p q k:Nat} {e:LK} (he:es[k]?=some e) (h:k<p):iX ins es p q (k+1)=iX ins es p q k ++ [e]:=by
  unfold iX;rw [if_pos (by omega),if_pos (by omega),List.take_add_one,he];rfl
theorem wH {ins es:List LK} {p q k:Nat} {e:LK} (he:es[k]?=some e) (h:p<k) (hq:q≤k):iX ins es p q (k+1)=iX ins es p q k ++ [e]:=by
  unfold iX;rw [if_neg (by omega),if_neg (by omega),show k+1 - q=(k - q)+1 by omega,List.take_add_one,List.getElem?_drop,show q+(k - q)=k by omega,he]
  simp [List.append_assoc]
theorem editL_at {ins es:List LK} {p:Nat}:iX ins es p (p+1) (p+1)=iX ins es p (p+1) p ++ ins:=by
  unfold iX;rw [if_neg (by omega),if_pos (Nat.le_refl _)];simp
theorem editL_in {ins es:List LK} {p:Nat} {e:LK} (he:es[p]?=some e):iX ins es p p (p+1)=iX ins es p p p ++ ins ++ [e]:=by
  unfold iX;rw [if_neg (by omega),if_pos (Nat.le_refl _),show p+1 - p=1 by omega,rZ he];simp
theorem editL_end {ins es:List LK} {p q k:Nat} (h:p<k) (hk:k=es.length) (hq:q≤k):iX ins es p q k=es.take p ++ ins ++ es.drop q:=by
  unfold iX;rw [if_neg (by omega),List.take_of_length_le (l:=es.drop q) (by rw [List.length_drop];omega)]
theorem editL_all {ins es:List LK} {p q k:Nat} (h:p=k) (hk:k=es.length):iX ins es p q k=es:=by
  unfold iX;rw [if_pos (by omega),List.take_of_length_le (by omega)]
theorem xM {ins es:List LK} {p q:Nat}:iX ins es p q 0=[]:=by unfold iX;rw [if_pos (Nat.zero_le _)];simp
theorem edit_map_p {x:LN} {es:List LK} {ks:PKs} (hks:ks=es.map kz) {s:ByteArray} (h:fK ks s=true):(es.take (bJ ks s) ++ [(⟨s,x⟩:LK)] ++ es.drop (bJ ks s+1)).map kz=gB false x.n ks s:=by
  unfold gB;rw [if_pos h,hks];simp [kz]
theorem edit_map_i {x:LN} {es:List LK} {ks:PKs} (hks:ks=es.map kz) {s:ByteArray} (h:fK ks s=false):(es.take (bJ ks s) ++ [(⟨s,x⟩:LK)] ++ es.drop (bJ ks s)).map kz=gB false x.n ks s:=by
  unfold gB;rw [if_neg (show ¬fK ks s=true by rw [h];decide),hks];simp [kz]
theorem edit_map_c {x:PN} {es:List LK} {ks:PKs} (hks:ks=es.map kz) {s:ByteArray} (h:fK ks s=true):(es.take (bJ ks s) ++ [] ++ es.drop (bJ ks s+1)).map kz=gB true x ks s:=by
  unfold gB;rw [if_pos h,hks];simp
theorem edit_map_e {x:LN} {es:List LK} {ks:PKs} (hks:ks=es.map kz) {s:ByteArray} (h:fK ks s=false) (hp:bJ ks s=es.length):(es ++ [(⟨s,x⟩:LK)]).map kz=gB false x.n ks s:=by
  have:=edit_map_i (x:=x) hks h
  rw [hp,List.take_length,List.drop_length,List.append_nil] at this;exact this
theorem vW {V:aI} {K:Option Addr} {n p q k:Nat} {es:List LK} {s:ByteArray} {x:LN} {ins:List LK} (h:eI V K n es) (hs:s.size≤maxLen) (hx:aX V x) (hi:∀ e∈ins,e=⟨s,x⟩):∀ e∈iX ins es p q k,e.nm.size≤maxLen∧aX V e.x:=by
  intro e he
  unfold iX at he
  split at he
  · exact h.2 e (List.mem_of_mem_take he)
  · rcases List.mem_append.1 he with he|he
    · rcases List.mem_append.1 he with he|he
      · exact h.2 e (List.mem_of_mem_take he)
      · rw [hi e he];exact⟨hs,hx⟩
    · exact h.2 e (List.mem_of_mem_drop (List.mem_of_mem_take he))
theorem gt_is {ks:PKs} {s:ByteArray} {k:Nat} {u:ByteArray×PN} (h:fK ks s=false) (hu:ks[k]?=some u) (hg:s.toList<u.1.toList):bJ ks s≤k:=by
  unfold bJ
  rw [if_neg (by rw [h];decide)]
  unfold gtN
  have hk:=rJ hu
  rcases Nat.lt_or_ge k (ks.findIdx fun k=>decide (s.toList<k.1.toList)) with h2|h2
  · have:=List.not_of_lt_findIdx h2
    rw [List.getElem?_eq_getElem hk] at hu;injection hu with hu
    rw [hu] at this
    exact absurd (decide_eq_true hg) (by simpa using this)
  · exact h2
theorem gt_not {ks:PKs} {s:ByteArray} {k:Nat} {u:ByteArray×PN} (h:fK ks s=false) (hu:ks[k]?=some u) (hg:¬s.toList<u.1.toList):¬bJ ks s=k:=by
  unfold bJ
  rw [if_neg (by rw [h];decide)]
  unfold gtN
  have hk:=rJ hu
  intro e
  have:=List.findIdx_getElem (xs:=ks) (p:=fun k=>decide (s.toList<k.1.toList)) (w:=by rw [e];exact hk)
  rw [List.getElem?_eq_getElem hk] at hu;injection hu with hu
  simp only [e,hu] at this
  exact hg (of_decide_eq_true this)
def jW (cut:Bool) (x n:PN) (l:List ByteArray) (v:Value) (V':aI):Prop:=∃ z:LN,v=.tuple #[lnV z,.int .i64 (pF cut x n l)]∧aX V' z∧z.n=tS cut x n l
theorem jW.bad {cut:Bool} {x n:PN} {l:List ByteArray} {V':aI} {e:Int} (h:pF cut x n l=e) (h0:¬e=0):jW cut x n l (.tuple #[lnV lnZ,.int .i64 e]) V' :=
  ⟨lnZ,by rw [h],aX.zero,by unfold tS;rw [h,if_neg h0];rfl⟩
theorem jW.good {cut:Bool} {x n:PN} {l:List ByteArray} {V':aI} {z:LN} (h:pF cut x n l=0) (hz:aX V' z) (hn:z.n=pN cut x n l):jW cut x n l (.tuple #[lnV z,.int .i64 0]) V' :=
  ⟨z,by rw [h],hz,by unfold tS;rw [if_pos h,hn]⟩
attribute [local irreducible] AtQ GoC GoL GoW QO QP Fn RV bX aL VLe cG bT
theorem kidR_is {n:PN} {s:ByteArray} (h:n.h.kind=2) (h2:fK n.ks s=true):tW n s=((bJ n.ks s:Nat):Int):=by unfold tW;rw [if_pos ⟨h,h2⟩,placeN_yes h2]
theorem kidR_isnt {n:PN} {s:ByteArray} (h2:fK n.ks s=false):tW n s = -1:=by unfold tW;rw [if_neg (fun hh=>by rw [h2] at hh;cases hh.2)]
theorem RPut_cut (V:aI) (y:LN) (hy:aX V y) (x:LN) (hx:aX V x) (hmid:cA sX x.n) (c:Nat) (A:Option Addr) (s:ByteArray) (hs:bZ V A 1 [s]) (hkind:x.h.kind=2) (hia:fK x.ks s=true) :
    Fn Tryz.prog 189 [lnV x,.slice A 1 c,lnV y,.bool true] V (jW true y.n x.n [s]):=by
  have hl:=hs.1.1
  have hm:=hs.1.max
  obtain⟨b1,o1,s',rfl,hs0,hsc,hss⟩:=hs.at_ (k:=0) (by omega)
  obtain rfl:s=s':=by simpa using hs0
  have hsm:=hs.2 s (by simp)
  obtain⟨ha,hca,hd,hck,es,hk,hks⟩:=hx.inv
  have hkl:=hk.len
  have hzl:x.ks.length=x.nk:=by rw [hks,List.length_map,hk.len]
  have hmn:=hmid.here
  replace hmn:x.ks.length≤50000:=hmn.2
  have hple:=lV x.ks s
  have hkid:=kid_c V x hx s
  have hplt:=jP hia
  rw [kidR_is (n:=x.n) hkind hia] at hkid
  have hN:=pC V s hss
  (refine aH Tryz.func189 rfl Tryz.ntmps189 rfl ?_;intro w0)
  repeat' (first|(refine aE ?_;first|(refine aD ?_;(first|refine aN rfl (aG ⟨Tryz.call245⟩ rfl (hkid)) ?_|refine aN rfl (aG ⟨Tryz.call221⟩ rfl (hN)) ?_))|refine st9 ?_|(refine al9 ?_;intro γ)|refine pu9 ?_)|refine cV ?_|(refine aA rfl ?_ ?_<;>intro hq<;>try exact no9)|refine bN (id:=3) mixed (by kernel_rfl) ?_)
  all_goals rename_i γ4 γ6 γ8
  refine bQ (fun F V' L' m=>∃ (k m3:Nat) (fs:List LK) (A3:Option Addr) (c3:Nat) (L3:List Box) (lb:Bool),V=V'∧L3 ++ [⟨γ,70,[.int .i64 x.h.kind,.int .i64 x.h.mode,.int .i64 x.h.user,.int .i64 x.h.group,.bool x.h.opq,.slice x.A x.na x.ca,.string x.h.data,.slice A3 m3 c3]⟩,⟨γ8,70,lnC lnZ⟩,⟨γ6,70,lnC y⟩,⟨γ4,70,lnC x⟩]=L'∧k≤x.nk∧m=x.nk - k∧cU A3 m3 c3 156 9 (fs.flatMap lkC) L3∧fs.length=m3∧m3≤k+1∧fs=iX [] es (bJ x.ks s) (bJ x.ks s+1) k∧lb=(true)∧F=[(1,.slice (some ⟨b1,o1,none⟩) 1 c),(3,.bool true),(4,.pointer (some ⟨γ4,0,none⟩)),(6,.pointer (some ⟨γ6,0,none⟩)),(8,.pointer (some ⟨γ8,0,none⟩)),(10,.int .i64 ((bJ x.ks s:Nat):Int)),(11,.pointer (some ⟨γ,0,none⟩)),(15,.bool lb),(16,.int .i64 k)]) (m:=x.nk) ⟨0,0,[],none,0,[],true,rfl,rfl,Nat.zero_le _,by omega,cU.nil,rfl,by omega,xM.symm,rfl,rfl⟩ bH rfl (by first|exact List.Sublist.refl _|exact sl9) ?_
  rintro F V' L' m ⟨k,m3,fs,A3,c3,L3,lb,rfl,rfl,hkn,rfl,hr3,hfl,hmk,hfs,hlb,rfl⟩
  subst hlb
  by_cases hlt:k<x.nk
  · obtain⟨b2,o2,e,hK1,he2,hem,hc',c0',c1',hms,hne⟩:=hk.at_ hlt
    have hke:=mP hks he2
    by_cases hkp:bJ x.ks s=k
    · subst hkp
      repeat' (first|(refine aE ?_;refine pu9 ?_)|refine dQ ?_|(refine aA rfl ?_ ?_<;>intro hq<;>try exact no9))
      all_goals
        refine aZ _ (x.nk - (bJ x.ks s+1)) ⟨bJ x.ks s+1,m3,fs,A3,c3,L3,true,rfl,rfl,by omega,rfl,hr3,hfl,by omega,by rw [editL_at,List.append_nil];exact hfs,rfl,rfl⟩ (by omega) bH sl9
    · repeat' (first|(refine aE ?_;refine pu9 ?_)|refine cV ?_|(refine aA rfl ?_ ?_<;>intro hq<;>try exact no9)|refine bN (id:=28) mixed (by kernel_rfl) ?_)
      refine bM (id:=31) _ mixed ((List.Sublist.cons _ (List.Sublist.cons _ (List.Sublist.refl _))).trans (List.sublist_append_right _ _)) ?_;refine gt9 0 ?_;refine gt9 2 ?_;refine gt9 3 ?_;refine gt9 4 ?_;refine gt9 5 ?_;refine gt9 6 ?_;(refine dF (i:=1) (j:=7) (by kernel_rfl) rfl rfl rfl rfl vl9 vl9 bD ?_ ?_<;>first|((first|refine aR (bE one_68 rfl bB (by exact rfl)) ?_|refine aR (bE one_68 rfl bB (by assumption)) ?_|refine aR (cI one_68 rfl (by assumption)) ?_);refine aY (i:=7) rfl ?_;(refine aP rfl und_68 siz_156 zec_156 rfl rfl rfl rfl rfl rfl rfl ?_;intro γ);refine aY (i:=8) rfl ?_;(refine aT rfl und_68 inf_156 rfl rfl rfl hr3 bF (cZ bB rfl) bG (by omega) rfl rfl ?_;intro A4 c4 L4 hr4);refine gt9 9 ?_;refine aY (i:=10) rfl ?_;refine aO rfl siz_68 rfl rfl rfl rfl bG dC rfl ?_;refine aU (by kernel_rfl) vl9 vl9 bD ?_)|((refine aP rfl und_68 siz_156 zec_156 rfl rfl rfl rfl rfl rfl rfl ?_;intro γ);refine aY (i:=1) rfl ?_;(first|refine aR (bE one_68 rfl bB (by exact rfl)) ?_|refine aR (bE one_68 rfl bB (by assumption)) ?_|refine aR (cI one_68 rfl (by assumption)) ?_);refine aY (i:=8) rfl ?_;(refine aT rfl und_68 inf_156 rfl rfl rfl hr3 bF (cZ bB rfl) bG (by omega) rfl rfl ?_;intro A4 c4 L4 hr4);refine gt9 9 ?_;refine aY (i:=10) rfl ?_;refine aO rfl siz_68 rfl rfl rfl rfl bG dC rfl ?_;refine aU (by kernel_rfl) vl9 vl9 bD ?_))
      all_goals
        repeat' (first|(refine aE ?_;refine pu9 ?_)|refine bV ?_|fail)
      all_goals
        refine aZ _ (x.nk - (k+1)) ⟨k+1,m3+1,fs ++ [e],A4,c4,L4,true,rfl,rfl,by omega,rfl,by rw [List.flatMap_append];exact hr4,by rw [List.length_append,hfl];rfl,by omega,?_,rfl,rfl⟩ (by omega) bH sl9
        rw [hfs]
        rcases Nat.lt_or_ge k (bJ x.ks s) with h9|h9
        · exact(editL_low he2 h9).symm
        · exact(wH he2 (by omega) (by omega)).symm
  · have hend:=editL_end (ins:=[]) (es:=es) (p:=bJ x.ks s) (q:=(bJ x.ks s+1)) (k:=k) (by omega) (by omega) (by omega)
    have hmem:=vW (p:=bJ x.ks s) (q:=(bJ x.ks s+1)) (k:=k) (ins:=[]) hk hsm hy (by simp)
    rw [←hfs] at hmem hend
    repeat' (first|(refine aE ?_;first|refine st9 ?_|refine pu9 ?_)|refine nS ?_|(refine aA rfl ?_ ?_<;>intro hq<;>try exact no9))
    all_goals
      refine eA hr3 bF ?_
      intro V2 hV2 hc2
      (refine bA Tryz.results189 (aS agg_70 rfl bB (by exact rfl)) (aB rfl) ?_)
      refine jW.good (z:=⟨x.h,x.A,x.na,x.ca,A3,m3,c3,gB true y.n x.ks s⟩) (n:=x.n) (by rw [uV (n:=x.n) hkind];exact editF_cut hia) (aX.of (ha.le hV2) hca hd hr3.cap (eI.of hc2 hfl (by unfold maxLen;show m3≤_;omega) ?_) ?_) rfl
      · intro u hu
        have:=hmem u hu
        exact⟨this.1,this.2.le hV2⟩
      · exact(by rw [hend];exact(edit_map_c hks hia).symm)
theorem RPut_at (V:aI) (y:LN) (hy:aX V y) (x:LN) (hx:aX V x) (hmid:cA sX x.n) (c:Nat) (A:Option Addr) (s:ByteArray) (hs:bZ V A 1 [s]) (hkind:x.h.kind=2) (hia:fK x.ks s=true) (hnm:eX s.toList=true) :
    Fn Tryz.prog 189 [lnV x,.slice A 1 c,lnV y,.bool false] V (jW false y.n x.n [s]):=by
  have hl:=hs.1.1
  have hm:=hs.1.max
  obtain⟨b1,o1,s',rfl,hs0,hsc,hss⟩:=hs.at_ (k:=0) (by omega)
  obtain rfl:s=s':=by simpa using hs0
  have hsm:=hs.2 s (by simp)
  obtain⟨ha,hca,hd,hck,es,hk,hks⟩:=hx.inv
  have hkl:=hk.len
  have hzl:x.ks.length=x.nk:=by rw [hks,List.length_map,hk.len]
  have hmn:=hmid.here
  replace hmn:x.ks.length≤50000:=hmn.2
  have hple:=lV x.ks s
  have hkid:=kid_c V x hx s
  have hplt:=jP hia
  rw [kidR_is (n:=x.n) hkind hia] at hkid
  have hN:=pC V s hss
  rw [hnm] at hN
  (refine aH Tryz.func189 rfl Tryz.ntmps189 rfl ?_;intro w0)
  repeat' (first|(refine aE ?_;first|(refine aD ?_;(first|refine aN rfl (aG ⟨Tryz.call245⟩ rfl (hkid)) ?_|refine aN rfl (aG ⟨Tryz.call221⟩ rfl (hN)) ?_))|refine st9 ?_|(refine al9 ?_;intro γ)|refine pu9 ?_)|refine cV ?_|(refine aA rfl ?_ ?_<;>intro hq<;>try exact no9)|refine bN (id:=3) mixed (by kernel_rfl) ?_)
  all_goals rename_i γ4 γ6 γ8
  refine bQ (fun F V' L' m=>∃ (k m3:Nat) (fs:List LK) (A3:Option Addr) (c3:Nat) (L3:List Box) (lb:Bool),V=V'∧L3 ++ [⟨γ,70,[.int .i64 x.h.kind,.int .i64 x.h.mode,.int .i64 x.h.user,.int .i64 x.h.group,.bool x.h.opq,.slice x.A x.na x.ca,.string x.h.data,.slice A3 m3 c3]⟩,⟨γ8,70,lnC lnZ⟩,⟨γ6,70,lnC y⟩,⟨γ4,70,lnC x⟩]=L'∧k≤x.nk∧m=x.nk - k∧cU A3 m3 c3 156 9 (fs.flatMap lkC) L3∧fs.length=m3∧m3≤k+1∧fs=iX [⟨s,y⟩] es (bJ x.ks s) (bJ x.ks s+1) k∧lb=(decide (bJ x.ks s<k))∧F=[(1,.slice (some ⟨b1,o1,none⟩) 1 c),(3,.bool false),(4,.pointer (some ⟨γ4,0,none⟩)),(6,.pointer (some ⟨γ6,0,none⟩)),(8,.pointer (some ⟨γ8,0,none⟩)),(10,.int .i64 ((bJ x.ks s:Nat):Int)),(11,.pointer (some ⟨γ,0,none⟩)),(15,.bool lb),(16,.int .i64 k)]) (m:=x.nk) ⟨0,0,[],none,0,[],false,rfl,rfl,Nat.zero_le _,by omega,cU.nil,rfl,by omega,xM.symm,(decide_eq_false (by omega)).symm,rfl⟩ bH rfl (by first|exact List.Sublist.refl _|exact sl9) ?_
  rintro F V' L' m ⟨k,m3,fs,A3,c3,L3,lb,rfl,rfl,hkn,rfl,hr3,hfl,hmk,hfs,hlb,rfl⟩
  by_cases hlt:k<x.nk
  · obtain⟨b2,o2,e,hK1,he2,hem,hc',c0',c1',hms,hne⟩:=hk.at_ hlt
    have hke:=mP hks he2
    by_cases hkp:bJ x.ks s=k
    · subst hkp
      repeat' (first|(refine aE ?_;refine pu9 ?_)|refine cV ?_|(refine aA rfl ?_ ?_<;>intro hq<;>try exact no9))
      refine bM (id:=26) _ mixed ((List.Sublist.cons _ (List.Sublist.cons _ (List.Sublist.refl _))).trans (List.sublist_append_right _ _)) ?_;refine gt9 0 ?_;refine gt9 2 ?_;refine gt9 3 ?_;refine gt9 4 ?_;refine gt9 5 ?_;refine gt9 6 ?_;(refine dF (i:=1) (j:=7) (by kernel_rfl) rfl rfl rfl rfl vl9 vl9 bD ?_ ?_<;>first|((first|refine aR (bE one_68 rfl bB (by exact rfl)) ?_|refine aR (bE one_68 rfl bB (by assumption)) ?_|refine aR (cI one_68 rfl (by assumption)) ?_);refine aY (i:=7) rfl ?_;(refine aP rfl und_68 siz_156 zec_156 rfl rfl rfl rfl rfl rfl rfl ?_;intro γ);refine aY (i:=8) rfl ?_;(refine aT rfl und_68 inf_156 rfl rfl rfl hr3 bF (cZ bB rfl) bG (by omega) rfl rfl ?_;intro A4 c4 L4 hr4);refine gt9 9 ?_;refine aY (i:=10) rfl ?_;refine aO rfl siz_68 rfl rfl rfl rfl bG dC rfl ?_;refine aU (by kernel_rfl) vl9 vl9 bD ?_)|((refine aP rfl und_68 siz_156 zec_156 rfl rfl rfl rfl rfl rfl rfl ?_;intro γ);refine aY (i:=1) rfl ?_;(first|refine aR (bE one_68 rfl bB (by exact rfl)) ?_|refine aR (bE one_68 rfl bB (by assumption)) ?_|refine aR (cI one_68 rfl (by assumption)) ?_);refine aY (i:=8) rfl ?_;(refine aT rfl und_68 inf_156 rfl rfl rfl hr3 bF (cZ bB rfl) bG (by omega) rfl rfl ?_;intro A4 c4 L4 hr4);refine gt9 9 ?_;refine aY (i:=10) rfl ?_;refine aO rfl siz_68 rfl rfl rfl rfl bG dC rfl ?_;refine aU (by kernel_rfl) vl9 vl9 bD ?_))
      all_goals
        repeat' (first|(refine aE ?_;refine pu9 ?_)|refine dR ?_|fail)
      all_goals
        refine aZ _ (x.nk - (bJ x.ks s+1)) ⟨bJ x.ks s+1,m3+1,fs ++ [⟨s,y⟩],A4,c4,L4,true,rfl,rfl,by omega,rfl,by rw [List.flatMap_append];exact hr4,by rw [List.length_append,hfl];rfl,by omega,by rw [hfs,editL_at],(decide_eq_true (by omega)).symm,rfl⟩ (by omega) bH sl9
    · repeat' (first|(refine aE ?_;refine pu9 ?_)|refine cV ?_|(refine aA rfl ?_ ?_<;>intro hq<;>try exact no9)|refine bN (id:=28) mixed (by kernel_rfl) ?_)
      refine bM (id:=31) _ mixed ((List.Sublist.cons _ (List.Sublist.cons _ (List.Sublist.refl _))).trans (List.sublist_append_right _ _)) ?_;refine gt9 0 ?_;refine gt9 2 ?_;refine gt9 3 ?_;refine gt9 4 ?_;refine gt9 5 ?_;refine gt9 6 ?_;(refine dF (i:=1) (j:=7) (by kernel_rfl) rfl rfl rfl rfl vl9 vl9 bD ?_ ?_<;>first|((first|refine aR (bE one_68 rfl bB (by exact rfl)) ?_|refine aR (bE one_68 rfl bB (by assumption)) ?_|refine aR (cI one_68 rfl (by assumption)) ?_);refine aY (i:=7) rfl ?_;(refine aP rfl und_68 siz_156 zec_156 rfl rfl rfl rfl rfl rfl rfl ?_;intro γ);refine aY (i:=8) rfl ?_;(refine aT rfl und_68 inf_156 rfl rfl rfl hr3 bF (cZ bB rfl) bG (by omega) rfl rfl ?_;intro A4 c4 L4 hr4);refine gt9 9 ?_;refine aY (i:=10) rfl ?_;refine aO rfl siz_68 rfl rfl rfl rfl bG dC rfl ?_;refine aU (by kernel_rfl) vl9 vl9 bD ?_)|((refine aP rfl und_68 siz_156 zec_156 rfl rfl rfl rfl rfl rfl rfl ?_;intro γ);refine aY (i:=1) rfl ?_;(first|refine aR (bE one_68 rfl bB (by exact rfl)) ?_|refine aR (bE one_68 rfl bB (by assumption)) ?_|refine aR (cI one_68 rfl (by assumption)) ?_);refine aY (i:=8) rfl ?_;(refine aT rfl und_68 inf_156 rfl rfl rfl hr3 bF (cZ bB rfl) bG (by omega) rfl rfl ?_;intro A4 c4 L4 hr4);refine gt9 9 ?_;refine aY (i:=10) rfl ?_;refine aO rfl siz_68 rfl rfl rfl rfl bG dC rfl ?_;refine aU (by kernel_rfl) vl9 vl9 bD ?_))
      all_goals
        repeat' (first|(refine aE ?_;refine pu9 ?_)|refine bV ?_|fail)
      all_goals
        refine aZ _ (x.nk - (k+1)) ⟨k+1,m3+1,fs ++ [e],A4,c4,L4,lb,rfl,rfl,by omega,rfl,by rw [List.flatMap_append];exact hr4,by rw [List.length_append,hfl];rfl,by omega,?_,by rw [hlb];exact decide_eq_decide.2 (by omega),rfl⟩ (by omega) bH sl9
        rw [hfs]
        rcases Nat.lt_or_ge k (bJ x.ks s) with h9|h9
        · exact(editL_low he2 h9).symm
        · exact(wH he2 (by omega) (by omega)).symm
  · have hend:=editL_end (ins:=[⟨s,y⟩]) (es:=es) (p:=bJ x.ks s) (q:=(bJ x.ks s+1)) (k:=k) (by omega) (by omega) (by omega)
    have hmem:=vW (p:=bJ x.ks s) (q:=(bJ x.ks s+1)) (k:=k) (ins:=[⟨s,y⟩]) hk hsm hy (by simp)
    rw [←hfs] at hmem hend
    have hlb':lb=true:=by rw [hlb];exact decide_eq_true (by omega)
    subst hlb'
    repeat' (first|(refine aE ?_;first|refine st9 ?_|refine pu9 ?_)|refine nS ?_|(refine aA rfl ?_ ?_<;>intro hq<;>try exact no9))
    all_goals
      refine eA hr3 bF ?_
      intro V2 hV2 hc2
      (refine bA Tryz.results189 (aS agg_70 rfl bB (by exact rfl)) (aB rfl) ?_)
      refine jW.good (z:=⟨x.h,x.A,x.na,x.ca,A3,m3,c3,gB false y.n x.ks s⟩) (n:=x.n) (by rw [uV (n:=x.n) hkind];exact rI hnm) (aX.of (ha.le hV2) hca hd hr3.cap (eI.of hc2 hfl (by unfold maxLen;show m3≤_;omega) ?_) ?_) rfl
      · intro u hu
        have:=hmem u hu
        exact⟨this.1,this.2.le hV2⟩
      · exact(by rw [hend];exact(edit_map_p hks hia).symm)
end
section
attribute [local irreducible] AtQ GoC GoL GoW QO QP Fn RV bX aL VLe cG bT
theorem RPut_in (V:aI) (y:LN) (hy:aX V y) (x:LN) (hx:aX V x) (hmid:cA sX x.n) (c:Nat) (A:Option Addr) (s:ByteArray) (hs:bZ V A 1 [s]) (hkind:x.h.kind=2) (hia:fK x.ks s=false) (hnm:eX s.toList=true) :
    Fn Tryz.prog 189 [lnV x,.slice A 1 c,lnV y,.bool false] V (jW false y.n x.n [s]):=by
  have hl:=hs.1.1
  have hm:=hs.1.max
  obtain⟨b1,o1,s',rfl,hs0,hsc,hss⟩:=hs.at_ (k:=0) (by omega)
  obtain rfl:s=s':=by simpa using hs0
  have hsm:=hs.2 s (by simp)
  obtain⟨ha,hca,hd,hck,es,hk,hks⟩:=hx.inv
  have hkl:=hk.len
  have hzl:x.ks.length=x.nk:=by rw [hks,List.length_map,hk.len]
  have hmn:=hmid.here
  replace hmn:x.ks.length≤50000:=hmn.2
  have hple:=lV x.ks s
  have hkid:=kid_c V x hx s
  rw [kidR_isnt (n:=x.n) hia] at hkid
  have hN:=pC V s hss
  rw [hnm] at hN
  (refine aH Tryz.func189 rfl Tryz.ntmps189 rfl ?_;intro w0)
  repeat' (first|(refine aE ?_;first|(refine aD ?_;(first|refine aN rfl (aG ⟨Tryz.call245⟩ rfl (hkid)) ?_|refine aN rfl (aG ⟨Tryz.call221⟩ rfl (hN)) ?_))|refine st9 ?_|(refine al9 ?_;intro γ)|refine pu9 ?_)|refine cV ?_|(refine aA rfl ?_ ?_<;>intro hq<;>try exact no9)|refine bN (id:=3) mixed (by kernel_rfl) ?_)
  all_goals rename_i γ4 γ6 γ8
  refine bQ (fun F V' L' m=>∃ (k m3:Nat) (fs:List LK) (A3:Option Addr) (c3:Nat) (L3:List Box) (lb:Bool),V=V'∧L3 ++ [⟨γ,70,[.int .i64 x.h.kind,.int .i64 x.h.mode,.int .i64 x.h.user,.int .i64 x.h.group,.bool x.h.opq,.slice x.A x.na x.ca,.string x.h.data,.slice A3 m3 c3]⟩,⟨γ8,70,lnC lnZ⟩,⟨γ6,70,lnC y⟩,⟨γ4,70,lnC x⟩]=L'∧k≤x.nk∧m=x.nk - k∧cU A3 m3 c3 156 9 (fs.flatMap lkC) L3∧fs.length=m3∧m3≤k+1∧fs=iX [⟨s,y⟩] es (bJ x.ks s) (bJ x.ks s) k∧lb=(decide (bJ x.ks s<k))∧F=[(1,.slice (some ⟨b1,o1,none⟩) 1 c),(3,.bool false),(4,.pointer (some ⟨γ4,0,none⟩)),(6,.pointer (some ⟨γ6,0,none⟩)),(8,.pointer (some ⟨γ8,0,none⟩)),(10,.int .i64 (-1:Int)),(11,.pointer (some ⟨γ,0,none⟩)),(15,.bool lb),(16,.int .i64 k)]) (m:=x.nk) ⟨0,0,[],none,0,[],false,rfl,rfl,Nat.zero_le _,by omega,cU.nil,rfl,by omega,xM.symm,(decide_eq_false (by omega)).symm,rfl⟩ bH rfl (by first|exact List.Sublist.refl _|exact sl9) ?_
  rintro F V' L' m ⟨k,m3,fs,A3,c3,L3,lb,rfl,rfl,hkn,rfl,hr3,hfl,hmk,hfs,hlb,rfl⟩
  by_cases hlt:k<x.nk
  · obtain⟨b2,o2,e,hK1,he2,hem,hc',c0',c1',hms,hne⟩:=hk.at_ hlt
    have hke:=mP hks he2
    by_cases hlk:bJ x.ks s<k
    · have hlb':lb=true:=by rw [hlb];exact decide_eq_true hlk
      subst hlb'
      repeat' (first|(refine aE ?_;refine pu9 ?_)|refine cV ?_|(refine aA rfl ?_ ?_<;>intro hq<;>try exact no9)|refine bN (id:=28) mixed (by kernel_rfl) ?_)
      refine bM (id:=31) _ mixed ((List.Sublist.cons _ (List.Sublist.cons _ (List.Sublist.refl _))).trans (List.sublist_append_right _ _)) ?_;refine gt9 0 ?_;refine gt9 2 ?_;refine gt9 3 ?_;refine gt9 4 ?_;refine gt9 5 ?_;refine gt9 6 ?_;(refine dF (i:=1) (j:=7) (by kernel_rfl) rfl rfl rfl rfl vl9 vl9 bD ?_ ?_<;>first|((first|refine aR (bE one_68 rfl bB (by exact rfl)) ?_|refine aR (bE one_68 rfl bB (by assumption)) ?_|refine aR (cI one_68 rfl (by assumption)) ?_);refine aY (i:=7) rfl ?_;(refine aP rfl und_68 siz_156 zec_156 rfl rfl rfl rfl rfl rfl rfl ?_;intro γ);refine aY (i:=8) rfl ?_;(refine aT rfl und_68 inf_156 rfl rfl rfl hr3 bF (cZ bB rfl) bG (by omega) rfl rfl ?_;intro A4 c4 L4 hr4);refine gt9 9 ?_;refine aY (i:=10) rfl ?_;refine aO rfl siz_68 rfl rfl rfl rfl bG dC rfl ?_;refine aU (by kernel_rfl) vl9 vl9 bD ?_)|((refine aP rfl und_68 siz_156 zec_156 rfl rfl rfl rfl rfl rfl rfl ?_;intro γ);refine aY (i:=1) rfl ?_;(first|refine aR (bE one_68 rfl bB (by exact rfl)) ?_|refine aR (bE one_68 rfl bB (by assumption)) ?_|refine aR (cI one_68 rfl (by assumption)) ?_);refine aY (i:=8) rfl ?_;(refine aT rfl und_68 inf_156 rfl rfl rfl hr3 bF (cZ bB rfl) bG (by omega) rfl rfl ?_;intro A4 c4 L4 hr4);refine gt9 9 ?_;refine aY (i:=10) rfl ?_;refine aO rfl siz_68 rfl rfl rfl rfl bG dC rfl ?_;refine aU (by kernel_rfl) vl9 vl9 bD ?_))
      all_goals
        repeat' (first|(refine aE ?_;refine pu9 ?_)|refine bV ?_|fail)
      all_goals
        refine aZ _ (x.nk - (k+1)) ⟨k+1,m3+1,fs ++ [e],A4,c4,L4,true,rfl,rfl,by omega,rfl,by rw [List.flatMap_append];exact hr4,by rw [List.length_append,hfl];rfl,by omega,by rw [hfs];exact(wH he2 hlk (by omega)).symm,(decide_eq_true (by omega)).symm,rfl⟩ (by omega) bH sl9
    · have hlb':lb=false:=by rw [hlb];exact decide_eq_false hlk
      subst hlb'
      by_cases hgt:s.toList<e.nm.toList
      · have hpk:bJ x.ks s=k:=by have:=gt_is hia hke hgt;omega
        have hm3:m3≤k:=by rw [←hfl,hfs];unfold iX;rw [if_pos (by omega),List.length_take];omega
        have hin:iX [⟨s,y⟩] es (bJ x.ks s) (bJ x.ks s) (k+1)=iX [⟨s,y⟩] es (bJ x.ks s) (bJ x.ks s) k ++ [⟨s,y⟩] ++ [e]:=by rw [←hpk];exact editL_in (by rw [hpk];exact he2)
        repeat' (first|(refine aE ?_;first|(refine cX ?_;refine aR (q_sgtr rfl rfl) ?_)|refine pu9 ?_)|refine cV ?_|(refine aA rfl ?_ ?_<;>intro hq<;>try exact no9)|refine bN (id:=28) mixed (by kernel_rfl) ?_)
        all_goals first
          | exact absurd hgt hq
          | skip
        refine bM (id:=29) _ mixed ((List.Sublist.cons _ (List.Sublist.cons _ (List.Sublist.refl _))).trans (List.sublist_append_right _ _)) ?_;refine gt9 0 ?_;refine gt9 2 ?_;refine gt9 3 ?_;refine gt9 4 ?_;refine gt9 5 ?_;refine gt9 6 ?_;(refine dF (i:=1) (j:=7) (by kernel_rfl) rfl rfl rfl rfl vl9 vl9 bD ?_ ?_<;>first|((first|refine aR (bE one_68 rfl bB (by exact rfl)) ?_|refine aR (bE one_68 rfl bB (by assumption)) ?_|refine aR (cI one_68 rfl (by assumption)) ?_);refine aY (i:=7) rfl ?_;(refine aP rfl und_68 siz_156 zec_156 rfl rfl rfl rfl rfl rfl rfl ?_;intro γ);refine aY (i:=8) rfl ?_;(refine aT rfl und_68 inf_156 rfl rfl rfl hr3 bF (cZ bB rfl) bG (by omega) rfl rfl ?_;intro A4 c4 L4 hr4);refine gt9 9 ?_;refine aY (i:=10) rfl ?_;refine aO rfl siz_68 rfl rfl rfl rfl bG dC rfl ?_;refine aU (by kernel_rfl) vl9 vl9 bD ?_)|((refine aP rfl und_68 siz_156 zec_156 rfl rfl rfl rfl rfl rfl rfl ?_;intro γ);refine aY (i:=1) rfl ?_;(first|refine aR (bE one_68 rfl bB (by exact rfl)) ?_|refine aR (bE one_68 rfl bB (by assumption)) ?_|refine aR (cI one_68 rfl (by assumption)) ?_);refine aY (i:=8) rfl ?_;(refine aT rfl und_68 inf_156 rfl rfl rfl hr3 bF (cZ bB rfl) bG (by omega) rfl rfl ?_;intro A4 c4 L4 hr4);refine gt9 9 ?_;refine aY (i:=10) rfl ?_;refine aO rfl siz_68 rfl rfl rfl rfl bG dC rfl ?_;refine aU (by kernel_rfl) vl9 vl9 bD ?_))
        all_goals
          repeat' (first|(refine aE ?_;refine pu9 ?_)|refine bV ?_|fail)
          refine bM (id:=31) _ mixed (List.Sublist.cons _ ((List.Sublist.cons _ (List.Sublist.cons _ (List.Sublist.refl _))).trans (List.sublist_append_right _ _))) ?_;refine gt9 0 ?_;refine gt9 2 ?_;refine gt9 3 ?_;refine gt9 4 ?_;refine gt9 5 ?_;refine gt9 6 ?_;(refine dF (i:=1) (j:=7) (by kernel_rfl) rfl rfl rfl rfl vl9 vl9 bD ?_ ?_<;>first|((first|refine aR (bE one_68 rfl bB (by exact rfl)) ?_|refine aR (bE one_68 rfl bB (by assumption)) ?_|refine aR (cI one_68 rfl (by assumption)) ?_);refine aY (i:=7) rfl ?_;(refine aP rfl und_68 siz_156 zec_156 rfl rfl rfl rfl rfl rfl rfl ?_;intro γ);refine aY (i:=8) rfl ?_;(refine aT rfl und_68 inf_156 rfl rfl rfl hr4 bF (cZ bB rfl) bG (by omega) rfl rfl ?_;intro A5 c5 L5 hr5);refine gt9 9 ?_;refine aY (i:=10) rfl ?_;refine aO rfl siz_68 rfl rfl rfl rfl bG dC rfl ?_;refine aU (by kernel_rfl) vl9 vl9 bD ?_)|((refine aP rfl und_68 siz_156 zec_156 rfl rfl rfl rfl rfl rfl rfl ?_;intro γ);refine aY (i:=1) rfl ?_;(first|refine aR (bE one_68 rfl bB (by exact rfl)) ?_|refine aR (bE one_68 rfl bB (by assumption)) ?_|refine aR (cI one_68 rfl (by assumption)) ?_);refine aY (i:=8) rfl ?_;(refine aT rfl und_68 inf_156 rfl rfl rfl hr4 bF (cZ bB rfl) bG (by omega) rfl rfl ?_;intro A5 c5 L5 hr5);refine gt9 9 ?_;refine aY (i:=10) rfl ?_;refine aO rfl siz_68 rfl rfl rfl rfl bG dC rfl ?_;refine aU (by kernel_rfl) vl9 vl9 bD ?_))
        all_goals
          repeat' (first|(refine aE ?_;refine pu9 ?_)|refine bV ?_|fail)
        all_goals
          refine aZ _ (x.nk - (k+1)) ⟨k+1,m3+1+1,fs ++ [⟨s,y⟩] ++ [e],A5,c5,L5,true,rfl,rfl,by omega,rfl,by rw [List.flatMap_append,List.flatMap_append];exact hr5,by rw [List.length_append,List.length_append,hfl];rfl,by omega,by rw [hfs];exact hin.symm,(decide_eq_true (by omega)).symm,rfl⟩ (by omega) bH sl9
      · have hpk:=gt_not hia hke hgt
        repeat' (first|(refine aE ?_;first|(refine cX ?_;refine aR (q_sgtr rfl rfl) ?_)|refine pu9 ?_)|refine cV ?_|(refine aA rfl ?_ ?_<;>intro hq<;>try exact no9)|refine bN (id:=28) mixed (by kernel_rfl) ?_)
        all_goals first
          | exact absurd hq hgt
          | skip
        refine bM (id:=31) _ mixed ((List.Sublist.cons _ (List.Sublist.cons _ (List.Sublist.refl _))).trans (List.sublist_append_right _ _)) ?_;refine gt9 0 ?_;refine gt9 2 ?_;refine gt9 3 ?_;refine gt9 4 ?_;refine gt9 5 ?_;refine gt9 6 ?_;(refine dF (i:=1) (j:=7) (by kernel_rfl) rfl rfl rfl rfl vl9 vl9 bD ?_ ?_<;>first|((first|refine aR (bE one_68 rfl bB (by exact rfl)) ?_|refine aR (bE one_68 rfl bB (by assumption)) ?_|refine aR (cI one_68 rfl (by assumption)) ?_);refine aY (i:=7) rfl ?_;(refine aP rfl und_68 siz_156 zec_156 rfl rfl rfl rfl rfl rfl rfl ?_;intro γ);refine aY (i:=8) rfl ?_;(refine aT rfl und_68 inf_156 rfl rfl rfl hr3 bF (cZ bB rfl) bG (by omega) rfl rfl ?_;intro A4 c4 L4 hr4);refine gt9 9 ?_;refine aY (i:=10) rfl ?_;refine aO rfl siz_68 rfl rfl rfl rfl bG dC rfl ?_;refine aU (by kernel_rfl) vl9 vl9 bD ?_)|((refine aP rfl und_68 siz_156 zec_156 rfl rfl rfl rfl rfl rfl rfl ?_;intro γ);refine aY (i:=1) rfl ?_;(first|refine aR (bE one_68 rfl bB (by exact rfl)) ?_|refine aR (bE one_68 rfl bB (by assumption)) ?_|refine aR (cI one_68 rfl (by assumption)) ?_);refine aY (i:=8) rfl ?_;(refine aT rfl und_68 inf_156 rfl rfl rfl hr3 bF (cZ bB rfl) bG (by omega) rfl rfl ?_;intro A4 c4 L4 hr4);refine gt9 9 ?_;refine aY (i:=10) rfl ?_;refine aO rfl siz_68 rfl rfl rfl rfl bG dC rfl ?_;refine aU (by kernel_rfl) vl9 vl9 bD ?_))
        all_goals
          repeat' (first|(refine aE ?_;refine pu9 ?_)|refine bV ?_|fail)
        all_goals
          refine aZ _ (x.nk - (k+1)) ⟨k+1,m3+1,fs ++ [e],A4,c4,L4,false,rfl,rfl,by omega,rfl,by rw [List.flatMap_append];exact hr4,by rw [List.length_append,hfl];rfl,by omega,by rw [hfs];exact(editL_low he2 (by omega)).symm,(decide_eq_false (by omega)).symm,rfl⟩ (by omega) bH sl9
  · by_cases hlk:bJ x.ks s<k
    · have hlb':lb=true:=by rw [hlb];exact decide_eq_true hlk
      subst hlb'
      have hend:=editL_end (ins:=[⟨s,y⟩]) (es:=es) (p:=bJ x.ks s) (q:=(bJ x.ks s)) (k:=k) (by omega) (by omega) (by omega)
      have hmem:=vW (p:=bJ x.ks s) (q:=(bJ x.ks s)) (k:=k) (ins:=[⟨s,y⟩]) hk hsm hy (by simp)
      rw [←hfs] at hmem hend
      repeat' (first|(refine aE ?_;first|refine st9 ?_|refine pu9 ?_)|refine nS ?_|(refine aA rfl ?_ ?_<;>intro hq<;>try exact no9))
      all_goals
        refine eA hr3 bF ?_
        intro V2 hV2 hc2
        (refine bA Tryz.results189 (aS agg_70 rfl bB (by exact rfl)) (aB rfl) ?_)
        refine jW.good (z:=⟨x.h,x.A,x.na,x.ca,A3,m3,c3,gB false y.n x.ks s⟩) (n:=x.n) (by rw [uV (n:=x.n) hkind];exact rI hnm) (aX.of (ha.le hV2) hca hd hr3.cap (eI.of hc2 hfl (by unfold maxLen;show m3≤_;omega) ?_) ?_) rfl
        · intro u hu
          have:=hmem u hu
          exact⟨this.1,this.2.le hV2⟩
        · exact(by rw [hend];exact(edit_map_i hks hia).symm)
    · have hlb':lb=false:=by rw [hlb];exact decide_eq_false hlk
      subst hlb'
      have hpe:bJ x.ks s=es.length:=by omega
      have hend:=editL_all (ins:=[⟨s,y⟩]) (es:=es) (p:=bJ x.ks s) (q:=(bJ x.ks s)) (k:=k) (by omega) (by omega)
      have hmem:=vW (p:=bJ x.ks s) (q:=(bJ x.ks s)) (k:=k) (ins:=[⟨s,y⟩]) hk hsm hy (by simp)
      rw [←hfs] at hmem hend
      repeat' (first|(refine aE ?_;refine pu9 ?_)|refine nS ?_|(refine aA rfl ?_ ?_<;>intro hq<;>try exact no9))
      refine bM (id:=33) _ mixed ((List.Sublist.cons _ (List.Sublist.cons _ (List.Sublist.refl _))).trans (List.sublist_append_right _ _)) ?_;refine gt9 0 ?_;refine gt9 2 ?_;refine gt9 3 ?_;refine gt9 4 ?_;refine gt9 5 ?_;refine gt9 6 ?_;(refine dF (i:=1) (j:=7) (by kernel_rfl) rfl rfl rfl rfl vl9 vl9 bD ?_ ?_<;>first|((first|refine aR (bE one_68 rfl bB (by exact rfl)) ?_|refine aR (bE one_68 rfl bB (by assumption)) ?_|refine aR (cI one_68 rfl (by assumption)) ?_);refine aY (i:=7) rfl ?_;(refine aP rfl und_68 siz_156 zec_156 rfl rfl rfl rfl rfl rfl rfl ?_;intro γ);refine aY (i:=8) rfl ?_;(refine aT rfl und_68 inf_156 rfl rfl rfl hr3 bF (cZ bB rfl) bG (by omega) rfl rfl ?_;intro A4 c4 L4 hr4);refine gt9 9 ?_;refine aY (i:=10) rfl ?_;refine aO rfl siz_68 rfl rfl rfl rfl bG dC rfl ?_;refine aU (by kernel_rfl) vl9 vl9 bD ?_)|((refine aP rfl und_68 siz_156 zec_156 rfl rfl rfl rfl rfl rfl rfl ?_;intro γ);refine aY (i:=1) rfl ?_;(first|refine aR (bE one_68 rfl bB (by exact rfl)) ?_|refine aR (bE one_68 rfl bB (by assumption)) ?_|refine aR (cI one_68 rfl (by assumption)) ?_);refine aY (i:=8) rfl ?_;(refine aT rfl und_68 inf_156 rfl rfl rfl hr3 bF (cZ bB rfl) bG (by omega) rfl rfl ?_;intro A4 c4 L4 hr4);refine gt9 9 ?_;refine aY (i:=10) rfl ?_;refine aO rfl siz_68 rfl rfl rfl rfl bG dC rfl ?_;refine aU (by kernel_rfl) vl9 vl9 bD ?_))
      all_goals
        repeat' (first|(refine aE ?_;first|refine st9 ?_|refine pu9 ?_)|refine bV ?_|fail)
      all_goals
        have hr4':cU A4 (m3+1) c4 156 9 ((fs ++ [(⟨s,y⟩:LK)]).flatMap lkC) L4:=by rw [List.flatMap_append];exact hr4
        have hmem':∀ u∈fs ++ [(⟨s,y⟩:LK)],u.nm.size≤maxLen∧aX V u.x:=by
          intro u hu
          rcases List.mem_append.1 hu with hu|hu
          · exact hmem u hu
          · rw [List.mem_singleton] at hu;subst hu;exact⟨hsm,hy⟩
        refine eA hr4' bF ?_
        intro V2 hV2 hc2
        (refine bA Tryz.results189 (aS agg_70 rfl bB (by exact rfl)) (aB rfl) ?_)
        refine jW.good (z:=⟨x.h,x.A,x.na,x.ca,A4,(m3+1),c4,gB false y.n x.ks s⟩) (n:=x.n) (by rw [uV (n:=x.n) hkind];exact rI hnm) (aX.of (ha.le hV2) hca hd hr4'.cap (eI.of hc2 (by rw [List.length_append,hfl];rfl) (by unfold maxLen;show m3+1≤_;omega) ?_) ?_) rfl
        · intro u hu
          have:=hmem' u hu
          exact⟨this.1,this.2.le hV2⟩
        · exact(by rw [hend];exact(edit_map_e hks hia hpe).symm)
end
end Go.Proofs.YtejkmomfpidnbabGreat
