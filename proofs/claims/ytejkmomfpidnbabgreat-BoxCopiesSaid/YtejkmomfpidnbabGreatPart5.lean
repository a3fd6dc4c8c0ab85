/- Walks and plain laws, part 5: what functions compute, proved once each (MergeE3, MergeE4, MergeE5, LayP, Bld, Grow, Lay, PathP, BldE, PathE, PathE2, MergeF, MergeF2, Sort). -/
import Derived.Test.YtejkmomfpidnbabGreatPart4
import Derived.Test.YtejkmomfpidnbabGreatPart3
import Derived.Lib.Builder
import Derived.Lib.UnsafeStr
import Derived.Lib.MakeNoZero
import Derived.Lib.Bytealg
import Derived.Laws.Externs
import Derived.Test.YtejkmomfpidnbabGreatPart2
import Derived.Test.YtejkmomfpidnbabGreatPart1
import Derived.Test.YtejkmomfpidnbabGreatProg
import Derived.Sort.OwnSorted
import Derived.Shelf.Sort.Plain
import Derived.Shelf.Slices.In.SortNone2
set_option linter.unusedSimpArgs false
set_option linter.unusedVariables false
set_option maxRecDepth 100000
set_option maxHeartbeats 40000000
namespace Go.Proofs.YtejkmomfpidnbabGreat
open Go.RowKit
section
def dP (V:aI) (A:Option Addr) (n:Nat) (xs:List LN):Prop:=eT V 8 lnC A n xs∧∀ x∈xs,aX V x
theorem dP.le {V V':aI} (hv:VLe V V') {A:Option Addr} {n:Nat} {xs:List LN} (h:dP V A n xs):dP V' A n xs:=⟨h.1.le hv,fun x hx=>(h.2 x hx).le hv⟩
theorem dP.at_ {V:aI} {A:Option Addr} {n:Nat} {xs:List LN} (h:dP V A n xs) {k:Nat} (hk:k<n):∃ b off x,A=some ⟨b,off,none⟩∧xs[k]?=some x∧aL V b (off+k * 8) (lnC x)∧aX V x:=by
  obtain⟨b,off,r,ha,hx,hc⟩:=h.1.at_ hk
  exact⟨b,off,r,ha,hx,hc,h.2 r (List.mem_of_getElem? hx)⟩
def qI:Int→List LN→List LF
  | _,[]=>[]
  | i,x :: l=>⟨x,i⟩ :: qI (i+1) l
theorem layF_snoc:∀ (l:List LN) (i:Int) (x:LN),qI i (l ++ [x])=qI i l ++ [⟨x,i+(l.length:Int)⟩]
  | [],i,x=>by simp [qI]
  | y :: l,i,x=>by
    rw [List.cons_append,qI,layF_snoc l,qI,List.cons_append,List.length_cons]
    congr 4;omega
theorem layF_len:∀ (l:List LN) (i:Int),(qI i l).length=l.length
  | [],_=>rfl
  | x :: l,i=>by rw [qI,List.length_cons,layF_len l,List.length_cons]
theorem layF_fz:∀ (l:List LN) (i:Int),(qI i l).map fz=iA i (l.map LN.n)
  | [],_=>rfl
  | x :: l,i=>by rw [qI,List.map_cons,List.map_cons,iA,layF_fz l];rfl
theorem layF_mem:∀ {l:List LN} {i:Int} {f:LF},f∈qI i l→f.x∈l
  | [],_,_,h=>by cases h
  | x :: l,i,f,h=>by
    rw [qI] at h
    rcases List.mem_cons.1 h with rfl|h
    · simp
    · exact List.mem_cons_of_mem _ (layF_mem h)
theorem dirsP_sub:∀ {l:List PF} {f:PF},f∈dI l→f∈l
  | [],_,h=>h
  | g :: l,f,h=>by
    rw [dI] at h
    split at h
    · split at h
      · rw [List.mem_singleton.1 h];simp
      · rcases List.mem_cons.1 h with rfl|h
        · simp
        · exact List.mem_cons_of_mem _ (dirsP_sub h)
    · cases h
theorem gO {l:List PF} {f:PF} (h:f∈dJ l):f∈l:=by
  cases l with
  | nil=>exact h
  | cons g l =>
    rw [dJ] at h
    split at h
    · rw [List.mem_singleton.1 h];simp
    · exact dirsP_sub h
theorem stepP_all {p:Hd→PKs→Prop} {l:List PF} {s:ByteArray} (h:∀ f∈l,cA p f.1):∀ f∈cO l s,cA p f.1:=fun f hf=>by
  obtain⟨g,hg,hgf⟩:=List.mem_filterMap.1 (gO hf)
  unfold gU at hgf
  split at hgf
  · cases h2:dV g.1.ks s with
    | none=>rw [h2] at hgf;cases hgf
    | some x=>rw [h2] at hgf;cases hgf;exact(h g hg).kid (lC h2)
  · cases hgf
theorem uA:∀ {l:List PN} {i:Int} {f:PF},f∈iA i l→f.1∈l
  | [],_,_,h=>by cases h
  | x :: l,i,f,h=>by
    rw [iA] at h
    rcases List.mem_cons.1 h with rfl|h
    · simp
    · exact List.mem_cons_of_mem _ (uA h)
theorem fZ {p:Hd→PKs→Prop} {l:List PN} (h:∀ x∈l,cA p x) (ss:List ByteArray):∀ f∈bY l ss,cA p f.1:=by
  have key:∀ (ss:List ByteArray) (a:List PF),(∀ f∈a,cA p f.1)→∀ f∈ss.foldl cO a,cA p f.1:=fun ss=>by
    induction ss with
    | nil=>intro a ha;exact ha
    | cons s ss ih=>intro a ha;exact ih _ (stepP_all ha)
  exact key ss _ fun f hf=>h _ (uA (gO hf))
theorem nP {l:List PN} {ss:List ByteArray} {k:Nat} {s:ByteArray} (h:ss[k]?=some s):bY l (ss.take (k+1))=cO (bY l (ss.take k)) s:=by
  unfold bY;rw [List.take_add_one,h,List.foldl_append];rfl
theorem uQ {V:aI} {b o:Nat} {f:LF} (h:aL V b o (flC f)):aL V b (o+0) (lnC f.x)∧V ⟨b,o+8,none⟩=some (.int .i64 f.lay):=by
  refine⟨fun j v hj=>h j v ?_,h 8 _ rfl⟩
  have hj2:(lnC f.x)[j]?=some v:=hj
  have hlt:j<8:=(List.getElem?_eq_some_iff.1 hj2).1
  have e:flC f=lnC f.x ++ [.int .i64 f.lay]:=rfl
  rw [e,List.getElem?_append_left (by exact hlt)];exact hj2
def LookR (r:List PF) (v:Value) (V':aI):Prop:=(r=[]∧v=.tuple #[lnV lnZ,.int .i64 0,.bool false])∨(∃ f l y,r=f :: l∧v=.tuple #[lnV y,.int .i64 f.2,.bool true]∧aX V' y∧y.n=f.1)
attribute [local irreducible] AtQ GoC GoL GoW QO QP Fn RV bX aL VLe cG bT
theorem Roots_c (V:aI) (A:Option Addr) (n c:Nat) (xs:List LN) (h:dP V A n xs) (hn:n≤1000):Fn Tryz.prog 203 [.slice A n c] V (qM (jE (xs.map LN.n))):=by
  have hl:=h.1.1
  (refine aH Tryz.func203 rfl Tryz.ntmps203 rfl ?_;intro w0)
  repeat' (first|(refine aE ?_;refine pu9 ?_)|refine bW ?_|fail)
  refine bQ (fun F V' L' m=>∃ (k:Nat) (A':Option Addr) (c':Nat) (LA:List Box),V=V'∧LA=L'∧k≤n∧cU A' k c' 306 9 ((qI 0 (xs.take k)).flatMap flC) LA∧m=n - k∧F=[(3,.slice A' k c'),(6,.slice A n c),(7,.int .i64 n),(8,.int .i64 (k:Int))]) (m:=n) ⟨0,none,0,[],rfl,rfl,Nat.zero_le _,cU.nil,by omega,rfl⟩ bH rfl sl9 ?_
  rintro F V' L' m ⟨k,A',c',LA,rfl,rfl,hkn,hr,rfl,rfl⟩
  by_cases hlt:k<n
  · obtain⟨b,off,x,rfl,hx,hc,hN⟩:=h.at_ hlt
    have ho1:=yL ⟨x,(k:Int)⟩
    have htk:(qI 0 (xs.take (k+1))).flatMap flC=(qI 0 (xs.take k)).flatMap flC ++ flC ⟨x,(k:Int)⟩:=by
      rw [List.take_add_one,hx]
      show (qI 0 (xs.take k ++ [x])).flatMap flC=_
      rw [layF_snoc,List.flatMap_append,List.length_take,Nat.min_eq_left (by omega),Int.zero_add];simp
    repeat' (first|(refine aE ?_;first|(refine aD ?_;(refine aT rfl und_272 inf_306 rfl rfl rfl hr bF (cZ bB rfl) bG (by omega) rfl rfl ?_;intro A2 c2 L2 hr2))|(refine cJ ?_;(refine aP rfl und_272 siz_306 zec_306 rfl rfl rfl rfl rfl rfl rfl ?_;intro γ))|refine st9 ?_|(refine al9 ?_;intro γ)|refine pu9 ?_)|refine bW ?_|(refine aA rfl ?_ ?_<;>intro hq<;>try exact no9))
    refine aZ _ (n - (k+1)) ⟨k+1,A2,c2,L2,rfl,rfl,by omega,by rw [htk];exact hr2,rfl,rfl⟩ (by omega) bH sl9
  · obtain rfl:k=n:=by omega
    rw [List.take_of_length_le (by omega)] at hr
    refine kR hr bF ?_
    intro V2 hV2 hc2
    have hF:dL V2 A' k (qI 0 xs):=dL.of hc2 (by rw [layF_len,hl]) (by unfold maxLen;omega) fun f hf=>(h.2 _ (layF_mem hf)).le hV2
    have hS:=Shown_c V2 A' k c' _ hF hn
    rw [layF_fz] at hS
    repeat' (first|(refine aE ?_;first|(refine aD ?_;(refine aM rfl ⟨Tryz.call254⟩ rfl rfl (hS) ?_;rintro v V3 hV3 ⟨A3,n3,c3,gs,rfl,hG,hc3,hgz⟩))|refine pu9 ?_)|refine dR ?_|(refine aA rfl ?_ ?_<;>intro hq<;>try exact no9))
    all_goals
      (refine aQ Tryz.results203 (aB rfl) ?_)
      exact⟨_,_,_,gs,rfl,hG,hc3,hgz⟩
theorem Walk_c (V:aI) (A:Option Addr) (n c:Nat) (xs:List LN) (h:dP V A n xs) (hn:n≤1000) (B:Option Addr) (m e:Nat) (ss:List ByteArray) (hs:bZ V B m ss):Fn Tryz.prog 227 [.slice A n c,.slice B m e] V (qM (bY (xs.map LN.n) ss)):=by
  have hl:=h.1.1
  have sl:=hs.1.1
  have sm:=hs.1.max
  (refine aH Tryz.func227 rfl Tryz.ntmps227 rfl ?_;intro w0)
  repeat' (first|(refine aE ?_;first|(refine aD ?_;(refine aM rfl ⟨Tryz.call203⟩ rfl rfl (Roots_c _ A n c xs (h.le vl9) hn) ?_;rintro v V1 hV1 ⟨A1,n1,c1,fs,rfl,hF1,hc1,hz1⟩))|refine pu9 ?_)|refine bW ?_|fail)
  refine bQ (fun F V' L' m'=>∃ (k:Nat) (A':Option Addr) (n' c':Nat) (gs:List LF),VLe V V'∧[]=L'∧k≤m∧dL V' A' n' gs∧n'≤c'∧gs.map fz=bY (xs.map LN.n) (ss.take k)∧m'=m - k∧F=[(5,.slice A' n' c'),(10,.slice B m e),(11,.int .i64 m),(12,.int .i64 (k:Int))]) (m:=m) ⟨0,A1,n1,c1,fs,vl9,rfl,Nat.zero_le _,hF1,hc1,hz1,by omega,rfl⟩ bH rfl sl9 ?_
  rintro F V' L' m' ⟨k,A',n',c',gs,hV',rfl,hkm,hG,hnc,hgz,rfl,rfl⟩
  have hgl:n'≤1000:=by
    have h1:=nM (xs.map LN.n) (ss.take k)
    rw [←hgz,List.length_map,List.length_map,hG.1.1,hl] at h1;omega
  by_cases hlt:k<m
  · obtain⟨b,off,s,hB,hx,hc,_⟩:=(hs.le hV').at_ hlt
    have hS:=Step_c V' A' n' c' gs hG hgl s
    rw [hgz,←nP hx] at hS
    repeat' (first|(refine aE ?_;first|(refine aD ?_;(refine aM rfl ⟨Tryz.call234⟩ rfl rfl (hS) ?_;rintro v V2 hV2 ⟨A2,n2,c2,fs2,rfl,hF2,hc2,hz2⟩))|(refine cK ?_;refine aR (bL und_47 siz_9 rfl hB rfl hlt) ?_)|refine pu9 ?_)|refine bW ?_|(refine aA rfl ?_ ?_<;>intro hq<;>try exact no9))
    refine aZ _ (m - (k+1)) ⟨k+1,A2,n2,c2,fs2,vl9,rfl,by omega,hF2,hc2,hz2,rfl,rfl⟩ (by omega) bH sl9
  · obtain rfl:k=m:=by omega
    rw [List.take_of_length_le (by omega)] at hgz
    repeat' (first|(refine aE ?_;refine pu9 ?_)|refine dR ?_|(refine aA rfl ?_ ?_<;>intro hq<;>try exact no9))
    all_goals
      (refine aQ Tryz.results227 (aB rfl) ?_)
      exact⟨_,_,_,gs,rfl,hG,hnc,hgz⟩
theorem LookM_c (V:aI) (A:Option Addr) (n c:Nat) (xs:List LN) (h:dP V A n xs) (hn:n≤1000) (hsm:∀ x∈xs,cA dZ x.n) (B:Option Addr) (m e:Nat) (ss:List ByteArray) (hs:bZ V B m ss):Fn Tryz.prog 232 [.slice A n c,.slice B m e] V (LookR (bY (xs.map LN.n) ss)):=by
  have hall:=fZ (p:=dZ) (l:=xs.map LN.n) (fun x hx=>by obtain⟨y,hy,rfl⟩:=List.mem_map.1 hx;exact hsm y hy) ss
  have hW:=Walk_c V A n c xs h hn B m e ss hs
  generalize bY (xs.map LN.n) ss=r at *
  (refine aH Tryz.func232 rfl Tryz.ntmps232 rfl ?_;intro w0)
  repeat' (first|(refine aE ?_;first|(refine aD ?_;(refine aM rfl ⟨Tryz.call227⟩ rfl rfl (hW) ?_;rintro v V1 hV1 ⟨A1,n1,c1,fs,rfl,hF1,hc1,rfl⟩))|refine st9 ?_|(refine al9 ?_;intro γ)|refine pu9 ?_)|refine bV ?_|(refine aA rfl ?_ ?_<;>intro hq<;>try exact no9))
  · (refine eB Tryz.results232 (aS agg_70 rfl bB (by exact rfl)) (aB rfl) (aB rfl) ?_)
    have hfl:=hF1.1.1
    obtain rfl:fs=[]:=List.eq_nil_of_length_eq_zero (by omega)
    exact .inl ⟨rfl,rfl⟩
  · have hfl:=hF1.1.1
    obtain⟨f,t,rfl⟩:∃ f t,fs=f :: t:=by
      cases fs with
      | nil=>simp at hfl;omega
      | cons f t=>exact⟨f,t,rfl⟩
    obtain⟨b,off,f',rfl,hf',hcf,hNf⟩:=hF1.at_ (k:=0) (by omega)
    obtain rfl:f=f':=by simpa using hf'
    have hO:=Own_v V1 f.x hNf (hall (fz f) (by simp))
    obtain⟨hc8,hc9⟩:=uQ hcf
    refine bM (id:=4) _ mixed (List.nil_sublist _) ?_;refine gt9 0 ?_;refine fP 1 rfl rfl (fL (k:=0) und_272 siz_306 rfl rfl (by omega)) ?_;refine gt9 2 ?_;refine gt9 3 ?_;refine gt9 5 ?_;refine fP 6 rfl rfl (fL (k:=0) und_272 siz_306 rfl rfl (by omega)) ?_;refine gt9 7 ?_;refine gt9 8 ?_;refine aY (i:=4) rfl ?_;(refine aM rfl ⟨Tryz.call54⟩ rfl rfl (hO) ?_;rintro v V2 hV2 ⟨y,rfl,hyn,hyN⟩);refine aY (i:=9) rfl ?_;refine aO rfl siz_70 rfl rfl rfl rfl bG dC rfl ?_;refine gt9 10 ?_;refine gt9 11 ?_;refine aU (by kernel_rfl) vl9 vl9 bD ?_
    repeat' (first|refine gx9 ?_|fail)
    (refine eB Tryz.results232 (aS agg_70 rfl bB (by exact rfl)) (aB rfl) (aB rfl) ?_)
    exact .inr ⟨fz f,t.map fz,y,rfl,rfl,hyN,hyn⟩
end
section
theorem fl_bits {V:aI} {b o:Nat} {f:LF} (h:aL V b o (flC f)):V ⟨b,o+0+0,none⟩=some (.int .i64 f.x.h.kind)∧V ⟨b,o+0+4,none⟩=some (.bool f.x.h.opq):=⟨h 0 _ rfl,h 4 _ rfl⟩
theorem dL.take {V:aI} {A:Option Addr} {n k:Nat} {fs:List LF} (h:dL V A n fs) (hk:k≤n):dL V A k (fs.take k):=⟨h.1.take hk,fun f hf=>h.2 f (List.mem_of_mem_take hf)⟩
attribute [local irreducible] AtQ GoC GoL GoW QO QP Fn RV bX aL VLe cG bT
theorem RShown_c (V:aI) (A:Option Addr) (n c:Nat) (fs:List LF) (h:dL V A n fs) (hn:n≤1000) (hnc:n≤c):Fn Tryz.prog 265 [.slice A n c] V (qM (dJ (fs.map fz))):=by
  have hl:=h.1.1
  have hlz:(fs.map fz).length=n:=by rw [List.length_map,hl]
  by_cases hfile:∃ f,fs[0]?=some f∧f.x.h.kind=1
  · obtain⟨f,hf,hk⟩:=hfile
    have hn0:0<n:=by rw [←hl];exact(List.getElem?_eq_some_iff.1 hf).1
    obtain⟨b,off,f',rfl,hf',hc,hN⟩:=h.at_ hn0
    obtain rfl:f=f':=by rw [hf] at hf';exact Option.some.inj hf'
    obtain⟨hb0,hb4⟩:=fl_bits hc
    (refine aH Tryz.func265 rfl Tryz.ntmps265 rfl ?_;intro w0)
    repeat' (first|(refine aE ?_;first|(refine cK ?_;refine aR (fL (k:=0) und_313 siz_316 rfl rfl hn0) ?_)|(refine eG ?_;(first|refine aR (cE (h:=1) und_313 siz_316 rfl rfl (by omega)) ?_|refine aR (cE und_313 siz_316 rfl rfl (by omega)) ?_|refine aR (dS und_313 siz_316 rfl rfl (by omega)) ?_))|refine pu9 ?_)|refine bV ?_|(refine aJ rfl rfl rfl ?_ ?_<;>intro hq<;>try exact no9)|(refine aA rfl ?_ ?_<;>intro hq<;>try exact no9))
    all_goals try exact no9
    all_goals
      (refine aQ Tryz.results265 (aB rfl) ?_)
      refine⟨_,_,_,fs.take 1,rfl,h.take (by omega),by omega,?_⟩
      rw [shown_file (fz_at hf) hk,List.take_add_one,hf];rfl
  · have hsd:dJ (fs.map fz)=dI (fs.map fz):=by
      cases fs with
      | nil=>rfl
      | cons f t=>exact shown_dirs (fz_at (k:=0) rfl) fun e=>hfile ⟨f,rfl,e⟩
    rcases Nat.eq_zero_or_pos n with h0|h0
    · (refine aH Tryz.func265 rfl Tryz.ntmps265 rfl ?_;intro w0)
      repeat' (first|(refine aE ?_;refine pu9 ?_)|refine cV ?_|(refine aJ rfl rfl rfl ?_ ?_<;>intro hq<;>try exact no9))
      all_goals try exact no9
      all_goals
        refine bQ (fun F V' L' m=>∃ k:Nat,V=V'∧[]=L'∧k≤n∧dI (fs.map fz)=(fs.take k).map fz ++ dI ((fs.map fz).drop k)∧m=n - k∧F=[(0,.slice A n c),(3,.int .i64 (k:Int))]) (m:=n) ⟨0,rfl,rfl,Nat.zero_le _,by simp,by omega,rfl⟩ bH rfl sl9 ?_
        rintro F V' L' m ⟨k,rfl,rfl,hkn,hd,rfl,rfl⟩
        by_cases hlt:k<n
        · obtain⟨b,off,f,hA,hf,hc,hN⟩:=h.at_ hlt
          obtain⟨hb0,hb4⟩:=fl_bits hc
          have hfz:=fz_at hf
          have htm:=qU hf
          have h9:((k:Int)+1 - 1).toNat=k:=by omega
          have hb4':V ⟨b,off+((k:Int)+1 - 1).toNat * 9+0+4,none⟩=some (.bool f.x.h.opq):=by rw [h9];exact hb4
          repeat' (first|(refine aE ?_;refine pu9 ?_)|refine bV ?_|(refine aJ rfl rfl rfl ?_ ?_<;>intro hq<;>try exact no9))
          all_goals first
            | exact no9
            | ((refine aQ Tryz.results265 (aB rfl) ?_)
               exact⟨_,_,_,fs.take k,rfl,h.take hkn,by omega,by rw [hsd,hd,yJ hfz hq,List.append_nil]⟩)
            | ((refine aQ Tryz.results265 (aB rfl) ?_)
               exact⟨_,_,_,fs.take (k+1),rfl,h.take hlt,by omega,by rw [hsd,hd,dirs_opq hfz (by show f.x.h.kind=2;omega) hq,htm]⟩)
            | (refine aZ _ (n - (k+1)) ⟨k+1,rfl,rfl,by omega,by rw [htm,hd,dirs_at hfz (by show f.x.h.kind=2;omega) hq];simp,rfl,rfl⟩ (by omega) bH sl9)
        · obtain rfl:k=n:=by omega
          repeat' (first|(refine aE ?_;first|(refine eG ?_;(first|refine aR (cE (h:=k) und_313 siz_316 rfl rfl (by omega)) ?_|refine aR (cE und_313 siz_316 rfl rfl (by omega)) ?_|refine aR (dS und_313 siz_316 rfl rfl (by omega)) ?_))|refine pu9 ?_)|refine nS ?_|(refine aJ rfl rfl rfl ?_ ?_<;>intro hq<;>try exact no9))
          all_goals
            (refine aQ Tryz.results265 (aB rfl) ?_)
            exact⟨_,_,_,fs.take k,rfl,h.take hkn,by omega,by rw [hsd,hd,dirs_done (by omega),List.append_nil]⟩
    · obtain⟨b0,o0,f0,hA0,hf0,hc0,_⟩:=h.at_ h0
      have hk0:=(fl_bits hc0).1
      have hk1:¬f0.x.h.kind=1:=fun e=>hfile ⟨f0,hf0,e⟩
      (refine aH Tryz.func265 rfl Tryz.ntmps265 rfl ?_;intro w0)
      repeat' (first|(refine aE ?_;first|(refine cK ?_;refine aR (bL (k:=0) und_313 siz_316 rfl hA0 rfl h0) ?_)|refine pu9 ?_)|refine bW ?_|(refine aJ rfl rfl rfl ?_ ?_<;>intro hq<;>try exact no9)|(refine aA rfl ?_ ?_<;>intro hq<;>try exact no9))
      all_goals try exact no9
      all_goals
        refine bQ (fun F V' L' m=>∃ k:Nat,V=V'∧[]=L'∧k≤n∧dI (fs.map fz)=(fs.take k).map fz ++ dI ((fs.map fz).drop k)∧m=n - k∧F=[(0,.slice A n c),(3,.int .i64 (k:Int))]) (m:=n) ⟨0,rfl,rfl,Nat.zero_le _,by simp,by omega,rfl⟩ bH rfl sl9 ?_
        rintro F V' L' m ⟨k,rfl,rfl,hkn,hd,rfl,rfl⟩
        by_cases hlt:k<n
        · obtain⟨b,off,f,hA,hf,hc,hN⟩:=h.at_ hlt
          obtain⟨hb0,hb4⟩:=fl_bits hc
          have hfz:=fz_at hf
          have htm:=qU hf
          have h9:((k:Int)+1 - 1).toNat=k:=by omega
          have hb4':V ⟨b,off+((k:Int)+1 - 1).toNat * 9+0+4,none⟩=some (.bool f.x.h.opq):=by rw [h9];exact hb4
          repeat' (first|(refine aE ?_;first|(refine cK ?_;refine aR (pR und_313 siz_316 rfl hA rfl (by omega)) ?_)|(refine eG ?_;(first|refine aR (cE (h:=k+1) und_313 siz_316 rfl rfl (by omega)) ?_|refine aR (cE (h:=k) und_313 siz_316 rfl rfl (by omega)) ?_))|refine pu9 ?_)|refine pW ?_|(refine aJ rfl rfl rfl ?_ ?_<;>intro hq<;>try exact no9)|(refine aA rfl ?_ ?_<;>intro hq<;>try exact no9)|(refine bP rfl ?_ ?_<;>intro hq))
          all_goals first
            | exact no9
            | ((refine aQ Tryz.results265 (aB rfl) ?_)
               exact⟨_,_,_,fs.take k,rfl,h.take hkn,by omega,by rw [hsd,hd,yJ hfz hq,List.append_nil]⟩)
            | ((refine aQ Tryz.results265 (aB rfl) ?_)
               exact⟨_,_,_,fs.take (k+1),rfl,h.take hlt,by omega,by rw [hsd,hd,dirs_opq hfz (by show f.x.h.kind=2;omega) hq,htm]⟩)
            | (refine aZ _ (n - (k+1)) ⟨k+1,rfl,rfl,by omega,by rw [htm,hd,dirs_at hfz (by show f.x.h.kind=2;omega) hq];simp,rfl,rfl⟩ (by omega) bH sl9)
        · obtain rfl:k=n:=by omega
          repeat' (first|(refine aE ?_;first|(refine eG ?_;(first|refine aR (cE (h:=k) und_313 siz_316 rfl rfl (by omega)) ?_|refine aR (cE und_313 siz_316 rfl rfl (by omega)) ?_|refine aR (dS und_313 siz_316 rfl rfl (by omega)) ?_))|refine pu9 ?_)|refine nS ?_|(refine aJ rfl rfl rfl ?_ ?_<;>intro hq<;>try exact no9))
          all_goals
            (refine aQ Tryz.results265 (aB rfl) ?_)
            exact⟨_,_,_,fs.take k,rfl,h.take hkn,by omega,by rw [hsd,hd,dirs_done (by omega),List.append_nil]⟩
end
section
def uY (cut:Bool) (s:ByteArray) (f:PF):Option PF:=if cut=true∧f.2=0 then none else gU s f
def lI (l:List PN) (ss:List ByteArray) (bare:Bool):Nat→List PF
  | 0=>jE l
  | k+1=>match ss[k]? with
    | some s=>dJ ((lI l ss bare k).filterMap (uY (bare && decide (k+1=ss.length)) s))
    | none=>lI l ss bare k
theorem qL {l:List PN} {ss:List ByteArray} {bare:Bool} {k:Nat} {s:ByteArray} (h:ss[k]?=some s):lI l ss bare (k+1)=dJ ((lI l ss bare k).filterMap (uY (bare && decide (k+1=ss.length)) s)):=by
  rw [lI,h]
theorem stackK_len {l:List PN} {ss:List ByteArray} {bare:Bool}:∀ k,(lI l ss bare k).length≤l.length
  | 0=>by
    have:=qF (iA 0 l)
    rw [layP_len] at this;exact this
  | k+1=>by
    have:=stackK_len (l:=l) (ss:=ss) (bare:=bare) k
    rw [lI]
    split
    · exact Nat.le_trans (qF _) (Nat.le_trans (List.length_filterMap_le _ _) this)
    · exact this
theorem kidB_false (s:ByteArray):uY false s=gU s:=by funext f;unfold uY;rw [if_neg (by rintro ⟨h,_⟩;cases h)]
theorem uU {l:List PN} {ss:List ByteArray}:∀ k,k≤ss.length→lI l ss false k=bY l (ss.take k)
  | 0,_=>rfl
  | k+1,h=>by
    obtain⟨s,hs⟩:∃ s,ss[k]?=some s:=⟨_,List.getElem?_eq_getElem (by omega)⟩
    rw [qL hs,nP hs,uU k (by omega),Bool.false_and,kidB_false];rfl
theorem fl_kids {V:aI} {b o:Nat} {f:LF} (h:aL V b o (flC f)):V ⟨b,o+0+7,none⟩=some (.slice f.x.K f.x.nk f.x.ck):=h 7 _ rfl
theorem kidB_cut {cut:Bool} {s:ByteArray} {f:PF} (h:cut=true) (h0:f.2=0):uY cut s f=none:=if_pos ⟨h,h0⟩
theorem kidB_none {cut:Bool} {s:ByteArray} {f:PF} (h:tW f.1 s<0):uY cut s f=none:=by
  unfold uY
  split
  · rfl
  · unfold gU
    by_cases hk:f.1.h.kind=2
    · rw [if_pos hk]
      cases hi:fK f.1.ks s
      · rw [yI.1 hi];rfl
      · rw [kidR_is hk hi] at h;omega
    · rw [if_neg hk]
theorem kidB_some {cut:Bool} {s:ByteArray} {f:LF} {es:List LK} {e:LK} (hks:f.x.ks=es.map kz) (h:¬tW f.x.n s<0) (hc:¬(cut=true∧f.lay=0)) (he:es[bJ f.x.ks s]?=some e):uY cut s (fz f)=some (e.x.n,f.lay):=by
  obtain⟨h1,h2,_⟩:=kidR_yes h
  obtain⟨a,y,b,g1,g2,g3⟩:=pO (ks:=f.x.ks) (s:=s) h2
  have hke:=mP hks he
  rw [g3] at hke
  rw [g1] at hke
  rw [List.getElem?_append_right (Nat.le_refl _),Nat.sub_self] at hke
  simp only [List.getElem?_cons_zero,Option.some.injEq,Prod.mk.injEq] at hke
  unfold uY
  rw [if_neg (show ¬(cut=true∧(fz f).2=0) from hc)]
  unfold gU
  rw [if_pos (show (fz f).1.h.kind=2 from h1)]
  show (dV f.x.ks s).map (fun x=>(x,f.lay))=_
  rw [g1,nL g2,hke.2];rfl
theorem fm_snoc {α β:Type} {p:α→Option β} {l:List α} {i:Nat} {x:α} (h:l[i]?=some x):(l.take (i+1)).filterMap p=(l.take i).filterMap p ++ (p x).toList:=by
  rw [List.take_add_one,h,List.filterMap_append]
  simp only [Option.toList_some,List.filterMap_cons,List.filterMap_nil]
  cases p x<;>rfl
attribute [local irreducible] AtQ GoC GoL GoW QO QP Fn RV bX aL VLe cG bT
theorem Stack_c (V:aI) (A:Option Addr) (n c:Nat) (xs:List LN) (h:dP V A n xs) (hn:n≤1000) (B:Option Addr) (m e:Nat) (ss:List ByteArray) (hs:bZ V B m ss) (bare:Bool):Fn Tryz.prog 240 [.slice A n c,.slice B m e,.bool bare] V (qM (lI (xs.map LN.n) ss bare m)):=by
  have hl:=h.1.1
  have sl:=hs.1.1
  have sm:=hs.1.max
  (refine aH Tryz.func240 rfl Tryz.ntmps240 rfl ?_;intro w0)
  repeat' (first|(refine aE ?_;refine pu9 ?_)|refine bW ?_|fail)
  refine bQ (fun F V' L' m'=>∃ (k:Nat) (A':Option Addr) (c':Nat) (LA:List Box),V=V'∧LA=L'∧k≤n∧cU A' k c' 316 9 ((qI 0 (xs.take k)).flatMap flC) LA∧m'=n - k∧F=[(0,.slice A n c),(1,.slice B m e),(2,.bool bare),(7,.slice A' k c'),(8,.int .i64 (k:Int))]) (m:=n) ⟨0,none,0,[],rfl,rfl,Nat.zero_le _,cU.nil,by omega,rfl⟩ bH rfl sl9 ?_
  rintro F V' L' m' ⟨k,A',c',LA,rfl,rfl,hkn,hr,rfl,rfl⟩
  by_cases hlt:k<n
  · obtain⟨b,off,x,rfl,hx,hc,hN⟩:=h.at_ hlt
    have ho1:=yL ⟨x,(k:Int)⟩
    have htk:(qI 0 (xs.take (k+1))).flatMap flC=(qI 0 (xs.take k)).flatMap flC ++ flC ⟨x,(k:Int)⟩:=by
      rw [List.take_add_one,hx]
      show (qI 0 (xs.take k ++ [x])).flatMap flC=_
      rw [layF_snoc,List.flatMap_append,List.length_take,Nat.min_eq_left (by omega),Int.zero_add];simp
    repeat' (first|(refine aE ?_;first|(refine aD ?_;(refine aT rfl und_313 inf_316 rfl rfl rfl hr bF (cZ bB rfl) bG (by omega) rfl rfl ?_;intro A2 c2 L2 hr2))|(refine cJ ?_;(refine aP rfl und_313 siz_316 zec_316 rfl rfl rfl rfl rfl rfl rfl ?_;intro γ))|refine pu9 ?_)|refine bW ?_|(refine aA rfl ?_ ?_<;>intro hq<;>try exact no9))
    refine aZ _ (n - (k+1)) ⟨k+1,A2,c2,L2,rfl,rfl,by omega,by rw [htk];exact hr2,rfl,rfl⟩ (by omega) bH sl9
  · obtain rfl:k=n:=by omega
    rw [List.take_of_length_le (by omega)] at hr
    have hcap:=hr.cap
    refine kR hr bF ?_
    intro V2 hV2 hc2
    have hF:dL V2 A' k (qI 0 xs):=dL.of hc2 (by rw [layF_len,hl]) (by unfold maxLen;omega) fun f hf=>(h.2 _ (layF_mem hf)).le hV2
    have hS:=RShown_c V2 A' k c' _ hF hn hcap
    rw [layF_fz] at hS
    repeat' (first|(refine aE ?_;first|(refine aD ?_;(refine aM rfl ⟨Tryz.call265⟩ rfl rfl (hS) ?_;rintro v V3 hV3 ⟨A3,n3,c3,gs,rfl,hG,hc3,hgz⟩))|refine pu9 ?_)|refine pW ?_|(refine aA rfl ?_ ?_<;>intro hq<;>try exact no9))
    refine bQ (fun F V' L' m'=>∃ (i:Nat) (A4:Option Addr) (n4 c4:Nat) (gs:List LF),VLe V3 V'∧[]=L'∧i≤m∧dL V' A4 n4 gs∧n4≤c4∧gs.map fz=lI (xs.map LN.n) ss bare i∧m'=m - i∧F=[(1,.slice B m e),(2,.bool bare),(7,.slice A4 n4 c4),(9,.int .i64 (i:Int))]) (m:=m) ⟨0,A3,n3,c3,gs,vl9,rfl,Nat.zero_le _,hG,hc3,hgz,by omega,rfl⟩ bH rfl sl9 ?_
    clear hr hS hG hgz hc3
    rintro F V' L' m' ⟨i,A4,n4,c4,gs,hV',rfl,him,hG,hc4,hgz,rfl,rfl⟩
    have hgl:n4≤1000:=by
      have h1:=stackK_len (l:=xs.map LN.n) (ss:=ss) (bare:=bare) i
      rw [←hgz,List.length_map,List.length_map,hG.1.1,hl] at h1;omega
    have gl:=hG.1.1
    have hV4:VLe V V':=hV2.trans (hV3.trans hV')
    by_cases hlt2:i<m
    · obtain⟨bs,os,s,hB,hx,hcs,hss⟩:=(hs.le hV4).at_ hlt2
      have hst:=qL (l:=xs.map LN.n) (bare:=bare) hx
      rw [←hgz,sl] at hst
      repeat' (first|(refine aE ?_;refine pu9 ?_)|refine bW ?_|(refine aA rfl ?_ ?_<;>intro hq<;>try exact no9))
      refine bQ (fun F V5 L' m'=>∃ (j:Nat) (acc:List LF) (A6:Option Addr) (n6 c6:Nat) (LA:List Box),V'=V5∧LA=L'∧j≤n4∧cU A6 n6 c6 316 9 (acc.flatMap flC) LA∧acc.length=n6∧n6≤j∧acc.map fz=((gs.map fz).take j).filterMap (uY (bare && decide (i+1=m)) s)∧(∀ f∈acc,aX V' f.x)∧m'=n4 - j∧F=[(1,.slice B m e),(2,.bool bare),(7,.slice A4 n4 c4),(9,.int .i64 (i:Int)),(10,.slice A6 n6 c6),(11,.int .i64 (j:Int))]) (m:=n4) ⟨0,[],none,0,0,[],rfl,rfl,Nat.zero_le _,cU.nil,rfl,Nat.le_refl _,rfl,by simp,by omega,rfl⟩ bH rfl sl9 ?_
      rintro F V5 L' m' ⟨j,acc,A6,n6,c6,LA,rfl,rfl,hjn,hr,hacc,hnj,hz,haN,rfl,rfl⟩
      by_cases hlt3:j<n4
      · obtain⟨b,off,f,hA4,hf,hc,hN⟩:=hG.at_ hlt3
        obtain⟨hc8,hc9⟩:=uQ hc
        have hk7:=fl_kids hc
        obtain⟨_,_,_,hnk,es,hK,hks⟩:=hN.inv
        have hfs:=fm_snoc (p:=uY (bare && decide (i+1=m)) s) (fz_at hf)
        rw [←hz] at hfs
        have hkid:=kid_c V' f.x hN s
        by_cases hkr:tW f.x.n s<0
        · rw [kidB_none (f:=fz f) hkr] at hfs
          have hfs':acc.map fz=((gs.map fz).take (j+1)).filterMap (uY (bare && decide (i+1=m)) s):=by rw [hfs];simp
          repeat' (first|(refine aE ?_;first|(refine aD ?_;refine aN rfl (aG ⟨Tryz.call245⟩ rfl (hkid)) ?_)|(refine cK ?_;(first|refine aR (bL und_47 siz_9 rfl hB rfl hlt2) ?_|refine aR (bL und_313 siz_316 rfl hA4 rfl hlt3) ?_))|refine pu9 ?_)|refine dQ ?_|(refine aJ rfl rfl rfl ?_ ?_<;>intro hq<;>try exact no9)|(refine aA rfl ?_ ?_<;>intro hq<;>try exact no9)|refine bN (id:=14) mixed (by kernel_rfl) ?_)
          all_goals try exact no9
          all_goals (refine aZ _ (n4 - (j+1)) ⟨j+1,acc,A6,n6,c6,LA,rfl,rfl,by omega,hr,hacc,by omega,hfs',haN,rfl,rfl⟩ (by omega) bH sl9)
        · obtain⟨k1,k2,k3⟩:=kidR_yes hkr
          rw [k3] at hkid
          have hp:bJ f.x.ks s<f.x.nk:=by
            have h1:=jP (ks:=f.x.ks) (s:=s) k2
            have h2:=hK.len
            rw [hks,List.length_map] at h1;rw [←hks] at h1;omega
          obtain⟨b1,o1,e1,hKb,he,hem,hce,c0,c1,hms,hne⟩:=hK.at_ hp
          have hsome:=fun hc=>kidB_some (cut:=bare && decide (i+1=m)) hks hkr hc he
          have hcutn:=fun hc h0=>kidB_cut (cut:=bare && decide (i+1=m)) (s:=s) (f:=fz f) hc h0
          have hpl:((f.x.n.ks):PKs)=f.x.ks:=rfl
          rw [hpl] at hkid
          generalize bJ f.x.ks s=p at *
          repeat' (first|(refine aE ?_;first|(refine aD ?_;refine aN rfl (aG ⟨Tryz.call245⟩ rfl (hkid)) ?_)|(refine cK ?_;(first|refine aR (bL und_47 siz_9 rfl hB rfl hlt2) ?_|refine aR (bL und_313 siz_316 rfl hA4 rfl hlt3) ?_))|refine pu9 ?_)|refine dQ ?_|(refine aJ rfl rfl rfl ?_ ?_<;>intro hq<;>try exact no9)|(refine bU rfl rfl rfl ?_ ?_<;>intro hq)|(refine aA rfl ?_ ?_<;>intro hq<;>try exact no9)|refine bN (id:=14) mixed (by kernel_rfl) ?_)
          all_goals try exact no9
          · have hcn:=hcutn (by rw [show bare=true by assumption,decide_eq_true (by omega)];rfl) hq
            rw [hcn] at hfs
            have hfs':acc.map fz=((gs.map fz).take (j+1)).filterMap (uY (bare && decide (i+1=m)) s):=by rw [hfs];simp
            refine aZ _ (n4 - (j+1)) ⟨j+1,acc,A6,n6,c6,LA,rfl,rfl,by omega,hr,hacc,by omega,hfs',haN,rfl,rfl⟩ (by omega) bH sl9
          all_goals
            have hcc:¬((bare && decide (i+1=m))=true∧f.lay=0):=fun ⟨g1,g2⟩=>by
              rw [Bool.and_eq_true,decide_eq_true_eq] at g1
              first
                | exact hq g2
                | (exact hq (by omega))
                | (rw [hq] at g1;exact absurd g1.1 (by decide))
            have hsm:=hsome hcc
            rw [hsm] at hfs
            have hfs':(acc ++ [(⟨e1.x,f.lay⟩:LF)]).map fz=((gs.map fz).take (j+1)).filterMap (uY (bare && decide (i+1=m)) s):=by rw [hfs,List.map_append];rfl
            have ho1:=yL ⟨e1.x,f.lay⟩
            clear hsome hcutn hfs hkid
            refine bM (id:=16) _ mixed (List.nil_sublist _) ?_;refine gt9 0 ?_;refine gt9 1 ?_;refine gt9 2 ?_;refine fP 3 rfl rfl (bL und_313 siz_316 rfl hA4 rfl hlt3) ?_;refine gt9 4 ?_;refine gt9 5 ?_;refine gt9 6 ?_;refine gt9 7 ?_;refine fP 8 rfl rfl (bL und_68 siz_156 rfl hKb rfl hp) ?_;refine gt9 9 ?_;refine gt9 10 ?_;refine gt9 11 ?_;refine gt9 12 ?_;refine fP 13 rfl rfl (bL und_313 siz_316 rfl hA4 rfl hlt3) ?_;refine gt9 14 ?_;refine gt9 15 ?_;refine gt9 16 ?_;refine aY (i:=17) rfl ?_;(refine aP rfl und_313 siz_316 zec_316 rfl rfl rfl rfl rfl rfl rfl ?_;intro γ);refine aY (i:=18) rfl ?_;(refine aT rfl und_313 inf_316 rfl rfl rfl hr bF (cZ bB rfl) bG (by omega) rfl rfl ?_;intro A7 c7 L7 hr7);refine gt9 19 ?_;refine aU (by kernel_rfl) vl9 vl9 bD ?_
            repeat' (first|(refine aE ?_;refine pu9 ?_)|refine bV ?_|fail)
            refine aZ _ (n4 - (j+1)) ⟨j+1,acc ++ [⟨e1.x,f.lay⟩],A7,n6+1,c7,L7,rfl,rfl,by omega,by rw [List.flatMap_append];exact hr7,by simp [hacc],by omega,hfs',fun g hg=>?_,rfl,rfl⟩ (by omega) bH sl9
            rcases List.mem_append.1 hg with hg|hg
            · exact haN g hg
            · rw [List.mem_singleton.1 hg];exact hne
      · obtain rfl:j=n4:=by omega
        rw [List.take_of_length_le (by rw [List.length_map];omega),] at hz
        rw [←hz] at hst
        have hcap6:=hr.cap
        refine kR hr bF ?_
        intro V7 hV7 hc7
        have hF7:dL V7 A6 n6 acc:=dL.of hc7 hacc (by unfold maxLen;omega) fun f hf=>(haN f hf).le hV7
        have hS7:=RShown_c V7 A6 n6 c6 _ hF7 (by omega) hcap6
        rw [←hst] at hS7
        repeat' (first|(refine aE ?_;first|(refine aD ?_;(refine aM rfl ⟨Tryz.call265⟩ rfl rfl (hS7) ?_;rintro v V8 hV8 ⟨A8,n8,c8,gs8,rfl,hG8,hc8,hgz8⟩))|refine pu9 ?_)|refine dR ?_|(refine aA rfl ?_ ?_<;>intro hq<;>try exact no9))
        refine aZ _ (m - (i+1)) ⟨i+1,A8,n8,c8,gs8,vl9,rfl,by omega,hG8,hc8,hgz8,rfl,rfl⟩ (by omega) bH sl9
    · obtain rfl:i=m:=by omega
      repeat' (first|(refine aE ?_;refine pu9 ?_)|refine dR ?_|(refine aA rfl ?_ ?_<;>intro hq<;>try exact no9))
      all_goals
        (refine aQ Tryz.results240 (aB rfl) ?_)
        exact⟨_,_,_,gs,rfl,hG,hc4,hgz⟩
theorem yG (V:aI) (A:Option Addr) (n c:Nat) (xs:List LN) (h:dP V A n xs) (hn:n≤1000) (B:Option Addr) (m e:Nat) (ss:List ByteArray) (hs:bZ V B m ss):Fn Tryz.prog 241 [.slice A n c,.slice B m e] V (LookR (bY (xs.map LN.n) ss)):=by
  have hW:=Stack_c V A n c xs h hn B m e ss hs false
  rw [uU m (by rw [hs.1.1];exact Nat.le_refl _),List.take_of_length_le (by rw [hs.1.1];exact Nat.le_refl _)] at hW
  generalize bY (xs.map LN.n) ss=r at *
  (refine aH Tryz.func241 rfl Tryz.ntmps241 rfl ?_;intro w0)
  repeat' (first|(refine aE ?_;first|(refine aD ?_;(refine aM rfl ⟨Tryz.call240⟩ rfl rfl (hW) ?_;rintro v V1 hV1 ⟨A1,n1,c1,fs,rfl,hF1,hc1,rfl⟩))|refine st9 ?_|(refine al9 ?_;intro γ)|refine pu9 ?_)|refine bV ?_|(refine aA rfl ?_ ?_<;>intro hq<;>try exact no9))
  · (refine eB Tryz.results241 (aS agg_70 rfl bB (by exact rfl)) (aB rfl) (aB rfl) ?_)
    have hfl:=hF1.1.1
    obtain rfl:fs=[]:=List.eq_nil_of_length_eq_zero (by omega)
    exact .inl ⟨rfl,rfl⟩
  · have hfl:=hF1.1.1
    obtain⟨f,t,rfl⟩:∃ f t,fs=f :: t:=by
      cases fs with
      | nil=>simp at hfl;omega
      | cons f t=>exact⟨f,t,rfl⟩
    obtain⟨b,off,f',rfl,hf',hcf,hNf⟩:=hF1.at_ (k:=0) (by omega)
    obtain rfl:f=f':=by simpa using hf'
    obtain⟨hc8,hc9⟩:=uQ hcf
    refine bM (id:=4) _ mixed (List.nil_sublist _) ?_;refine gt9 0 ?_;refine fP 1 rfl rfl (fL (k:=0) und_313 siz_316 rfl rfl (by omega)) ?_;refine gt9 2 ?_;refine gt9 3 ?_;refine gt9 4 ?_;refine fP 5 rfl rfl (fL (k:=0) und_313 siz_316 rfl rfl (by omega)) ?_;refine gt9 6 ?_;refine gt9 7 ?_;refine aY (i:=8) rfl ?_;refine aO rfl siz_70 rfl rfl rfl rfl bG dC rfl ?_;refine gt9 9 ?_;refine gt9 10 ?_;refine aU (by kernel_rfl) vl9 vl9 bD ?_
    repeat' (first|refine gx9 ?_|fail)
    (refine eB Tryz.results241 (aS agg_70 rfl bB (by exact rfl)) (aB rfl) (aB rfl) ?_)
    exact .inr ⟨fz f,t.map fz,f.x,rfl,rfl,hNf,rfl⟩
end
section
def b8 (x:Int):UInt8:=UInt8.ofNat (x % 256).toNat
def b16 (x:Int):List UInt8:=[b8 (x / 256),b8 x]
def nJ (s:ByteArray):List UInt8:=b8 (s.size:Int) :: s.toList
def flagN (h:Hd):Int:=if h.opq=true then h.kind+8 else h.kind
def rT (h:Hd):List UInt8:=b8 (flagN h) :: (b16 h.mode ++ b16 h.user ++ b16 h.group) ++ [b8 (h.attrs.length:Int)]
def lH (l:List PA):List UInt8:=l.flatMap fun a=>nJ a.n ++ nJ a.v
mutual
def qH:PN→List UInt8
  | .mk h ks=>rT h ++ lH h.attrs ++ (nJ h.data ++ [b8 (ks.length:Int)]) ++ oG ks
termination_by n=>SizeOf.sizeOf n
def oG:PKs→List UInt8
  | []=>[]
  | (nm,n) :: ks=>nJ nm ++ qH n ++ oG ks
termination_by ks=>SizeOf.sizeOf ks
end
theorem layK_app:∀ (l m:PKs),oG (l ++ m)=oG l ++ oG m
  | [],m=>by simp [oG]
  | (nm,n) :: l,m=>by rw [List.cons_append,oG,oG,layK_app l m];simp
theorem layA_app (l m:List PA):lH (l ++ m)=lH l ++ lH m:=by unfold lH;simp
theorem b8_nat (x:Int):((b8 x).toNat:Int)=x % 256:=by
  unfold b8
  rw [UInt8.toNat_ofNat']
  have h1:0≤x % 256:=Int.emod_nonneg _ (by omega)
  have h2:x % 256<256:=Int.emod_lt_of_pos _ (by omega)
  omega
theorem eK (s:ByteArray):(nJ s).length=s.size+1:=by unfold nJ;rw [List.length_cons,Lib.toList_data];rfl
theorem gN (h:Hd):(rT h).length=8:=by simp [rT,b16]
def fitP (h:Hd) (ks:PKs):Prop:=(1≤h.kind∧h.kind≤3)∧(0≤h.mode∧h.mode≤4095)∧(0≤h.user∧h.user≤65535)∧(0≤h.group∧h.group≤65535)∧(h.attrs.length≤4∧∀ a∈h.attrs,a.n.size≤14∧a.v.size≤20)∧h.data.size≤200∧ks.length≤60∧∀ k∈ks,k.1.size≤12
theorem class_len {s:ByteArray} (h:¬dH s=0):s.size≤14:=by
  unfold dH at h
  split at h
  · rename_i h1
    have h2:=h1.2
    unfold eX at h2
    simp only [Bool.and_eq_true,decide_eq_true_eq] at h2
    have h3:=h2.1.1.1.2
    rw [List.length_drop,show s.toList.length=s.size by rw [Lib.toList_data];rfl] at h3
    omega
  · exact absurd rfl h
theorem name_len {s:ByteArray} (h:eX s.toList=true):s.size≤12:=by
  unfold eX at h
  simp only [Bool.and_eq_true,decide_eq_true_eq] at h
  have h3:=h.1.1.1.2
  rw [show s.toList.length=s.size by rw [Lib.toList_data];rfl] at h3
  exact h3
theorem layA_len {l:List PA} (h:∀ a∈l,a.n.size≤14∧a.v.size≤20):(lH l).length≤36 * l.length:=by
  induction l with
  | nil=>simp [lH]
  | cons a l ih =>
    have h1:=h a (by simp)
    have h2:=ih fun b hb=>h b (by simp [hb])
    have e:lH (a :: l)=(nJ a.n ++ nJ a.v) ++ lH l:=by simp [lH]
    rw [e,List.length_append,List.length_append,eK,eK,List.length_cons];omega
theorem oneF_fit {h:Hd} {many upper root:Bool} (h0:jJ h many upper root=0):(1≤h.kind∧h.kind≤3)∧(0≤h.mode∧h.mode≤4095)∧(0≤h.user∧h.user≤65535)∧(0≤h.group∧h.group≤65535)∧(h.attrs.length≤4∧∀ a∈h.attrs,a.n.size≤14∧a.v.size≤20)∧h.data.size≤200:=by
  unfold jJ at h0
  split at h0
  · omega
  · rename_i h1
    split at h0
    · omega
    · rename_i h2
      split at h0
      · rename_i h3;exact absurd h0 h3
      · rename_i h3
        split at h0
        · omega
        · rename_i h4
          have h2:=Decidable.not_not.1 h2
          obtain⟨a1,_,a3⟩:=kB (Decidable.not_not.1 h3)
          exact⟨by omega,h2.1,h2.2.1,h2.2.2,⟨a1,fun a ha=>⟨class_len (a3 a ha).1,(a3 a ha).2⟩⟩,by omega⟩
mutual
theorem countF_fit (upper:Bool):∀ (deep so:Nat) (n:PN),so≤60→(cH upper deep so n).2=0→cA fitP n∧so<(cH upper deep so n).1∧(cH upper deep so n).1≤60∧(qH n).length+13+400 * so≤400 * (cH upper deep so n).1
  | deep,so,.mk h ks,hs,h0=>by
    rw [cH] at h0 ⊢
    by_cases h1:so=60∨6<deep
    · rw [if_pos h1] at h0;simp at h0
    · rw [if_neg h1] at h0 ⊢
      by_cases h2:jJ h (decide (0<ks.length)) upper (decide (deep=0))=0
      · rw [if_neg (not_not_intro h2)] at h0 ⊢
        obtain⟨b1,b2,b3,b4⟩:=countK_fit upper deep (so+1) none ks (by omega) h0
        obtain⟨a1,a2,a3,a4,a5,a6⟩:=oneF_fit h2
        refine⟨.mk ⟨a1,a2,a3,a4,a5,a6,by omega,fun k hk=>(b1 k hk).1⟩ fun k hk=>(b1 k hk).2,by omega,b3,?_⟩
        have:=layA_len a5.2
        rw [qH]
        simp only [List.length_append,List.length_cons,List.length_nil,eK,gN]
        omega
      · rw [if_pos h2] at h0;exact absurd h0 h2
theorem countK_fit (upper:Bool):∀ (deep so:Nat) (prev:Option ByteArray) (ks:PKs),so≤60→(dO upper deep so prev ks).2=0→(∀ k∈ks,k.1.size≤12∧cA fitP k.2)∧so+ks.length≤(dO upper deep so prev ks).1∧(dO upper deep so prev ks).1≤60∧(oG ks).length+400 * so≤400 * (dO upper deep so prev ks).1
  | deep,so,prev,[],hs,h0=>by rw [dO,oG];simp;exact hs
  | deep,so,prev,(nm,n) :: ks,hs,h0=>by
    rw [dO] at h0 ⊢
    by_cases h1:eX nm.toList=true
    · rw [if_neg (not_not_intro h1)] at h0 ⊢
      split at h0
      · simp at h0
      · rename_i h2
        rw [if_neg h2]
        by_cases h3:(cH upper (deep+1) so n).2=0
        · rw [if_neg (not_not_intro h3)] at h0 ⊢
          obtain⟨a1,a2,a3,a4⟩:=countF_fit upper (deep+1) so n hs h3
          obtain⟨b1,b2,b3,b4⟩:=countK_fit upper deep _ _ ks a3 h0
          have hn:=name_len h1
          refine⟨fun k hk=>?_,by simp only [List.length_cons];omega,b3,?_⟩
          · rcases List.mem_cons.1 hk with rfl|hk
            · exact⟨hn,a1⟩
            · exact b1 k hk
          · rw [oG,List.length_append,List.length_append,eK];omega
        · rw [if_pos h3] at h0;exact absurd h0 h3
    · rw [if_pos h1] at h0;simp at h0
end
theorem pK {upper:Bool} {n:PN} (h:dK upper n=0):cA fitP n∧(qH n).length≤24000:=by
  unfold dK at h
  split at h
  · omega
  · obtain⟨h1,_,h3,h4⟩:=countF_fit upper 0 0 n (by omega) h
    exact⟨h1,by omega⟩
theorem layA_take {l:List PA} {k:Nat} {a:PA} (h:l[k]?=some a):lH (l.take (k+1))=lH (l.take k) ++ (nJ a.n ++ nJ a.v):=by
  rw [List.take_add_one,h,layA_app];simp [lH]
theorem layK_take {ks:PKs} {k:Nat} {e:ByteArray×PN} (h:ks[k]?=some e):oG (ks.take (k+1))=oG (ks.take k) ++ nJ e.1 ++ qH e.2:=by
  obtain⟨a,b⟩:=e
  rw [List.take_add_one,h,layK_app];simp [oG]
theorem layA_le (l:List PA) (k:Nat):(lH (l.take k)).length≤(lH l).length:=by
  have:=layA_app (l.take k) (l.drop k)
  rw [List.take_append_drop] at this;rw [this,List.length_append];omega
theorem layK_le (ks:PKs) (k:Nat):(oG (ks.take k)).length≤(oG ks).length:=by
  have:=layK_app (ks.take k) (ks.drop k)
  rw [List.take_append_drop] at this;rw [this,List.length_append];omega
theorem layP_eq (h:Hd) (ks:PKs):qH (.mk h ks)=rT h ++ lH h.attrs ++ (nJ h.data ++ [b8 (ks.length:Int)]) ++ oG ks:=by rw [qH]
end
section
structure ExternIs (P:Program) (f:FuncId) (e:Array Value→Sem Value):Prop where
  h:∀ args w,(callFunc f args).run P w=((e args).run P w).andThen fun v w'=>.ok (.value v) w'
structure PInf (P:Program) (T:TypeId):Prop where
  h:∃ te j,P.underlying T=some (.pointer te)∧P.info? te=some j
structure SzInf (P:Program) (T:TypeId):Prop where
  h:∃ j,P.info? T=some j∧j.size≠0
structure U8Inf (P:Program) (E:TypeId):Prop where
  h:∃ i,P.info? E=some i∧i.zero=some (.int .u8 0)∧i.size=1∧i.bytes=1
def OwnT (L:List Box) (g:Nat) (t:TypeId) (n:Nat):Prop:=∃ cs:List Value,cs.length=n∧⟨g,t,cs⟩∈L
theorem ownT_here {g n:Nat} {t:TypeId} {cs:List Value} {L:List Box} (h:cs.length=n):OwnT (⟨g,t,cs⟩ :: L) g t n:=⟨cs,h,by simp⟩
theorem u8C_byte (l:List UInt8):u8C l=Lib.byteCells l:=rfl
theorem u8C_str (s:ByteArray):u8C s.toList=Lib.strCells s:=by rw [Lib.strCells_eq,u8C_byte,Lib.toList_data]
theorem nD (a b:List UInt8):u8C (a ++ b)=u8C a ++ u8C b:=by simp [u8C]
section
variable {P : Program} {B : Base} {N : Nat} {Q : Exit → Act → World → Prop} {k : List kI} {F : List (Nat × Value)} {V : aI} {L : List Box} {w : World}
variable {d : Option Tmp} {ty : TypeId} {pos : String} {af : Array Edge} {gd : Option (Nat × Bool)} {x y : Operand} {T T2 : TypeId} {ops : Array Oper} {rest : List Oper}
theorem exec_extern {f:FuncId} {e:Array Value→Sem Value} {args:List Operand} {ats:Array TypeId} {vs:List Value} {a:Act} (he:ExternIs P f e) (ha:Kn N F a) (hv:evL F args=some vs) :
    (execOp a.eval ⟨d,.call ⟨.value (.func f),args.toArray,ats⟩,ty,pos,af,gd⟩).run P w=((e vs.toArray).run P w).andThen fun v w'=>.ok (.value v) w':=by
  have h:=ha.evL hv
  simp [execOp,resolve,Deferred.ofValue,invoke,Act.eval,h,he.h]
theorem q_extern {f:FuncId} {e:Array Value→Sem Value} {args:List Operand} {ats:Array TypeId} {vs:List Value} {v:Value} (he:ExternIs P f e) (hv:evL F args=some vs) (hr:∀ w,(e vs.toArray).run P w=.ok v w):QP P B N V L ⟨d,.call ⟨.value (.func f),args.toArray,ats⟩,ty,pos,af,gd⟩ F v:=iH fun a w ha hs=>by
  rw [exec_extern he ha hv,hr];rfl
theorem q_pneq_same {t ty2:TypeId} {a:Addr} (hp:PInf P t) (hx:evF F x=some (.pointer (some a))) (hy:evF F y=some (.pointer (some a))):QP P B N V L ⟨d,.binOp .neq t x y ty2,ty,pos,af,gd⟩ F (.bool false):=by
  obtain⟨te,j,h1,h2⟩:=hp.h
  exact tL hx hy (fun w=>by cases y<;>simp [eqGuard]<;>(split<;>simp_all)) (fun w=>Lib.run_neq_ptr_same w a h1 h2)
theorem OwnT.shape {g n:Nat} {t:TypeId} (h:OwnT L g t n) (hs:St B V L w):w.shape? g=some (t,n):=by
  obtain⟨cs,hn,hm⟩:=h
  have ho:=(hs.own _ hm).1
  simp only [] at ho
  simp [World.shape?,ho,hn]
theorem q_toUnsafe {src dst t e:TypeId} {g n:Nat} (hs:cM P src (.pointer t)) (hd:cM P dst .unsafePointer) (hj:SzInf P t) (hx:evF F x=some (.pointer (some ⟨g,0,none⟩))) (ho:OwnT L g e n) (hn:Nat.blt 0 n=true):QP P B N V L ⟨d,.convert src dst x,ty,pos,af,gd⟩ F (.pointer (some ⟨g,0,none⟩)):=iH fun a w ha hst=>by
  obtain⟨j,h1,h2⟩:=hj.h
  have h:=Lib.run_to_unsafe (P:=P) w ⟨g,0,none⟩ hs.u hd.u h1 h2 (ho.shape hst) (by simpa [Nat.blt_eq] using hn)
  simp [execOp,ha.ev hx,h]
theorem q_fromUnsafe {src dst u e:TypeId} {g n:Nat} (hs:cM P src .unsafePointer) (hd:cM P dst (.pointer u)) (hj:SzInf P u) (hx:evF F x=some (.pointer (some ⟨g,0,none⟩))) (ho:OwnT L g e n) (hl:liesAt P P.depth e (n / P.cellsOf e) 0 u 1=true):QP P B N V L ⟨d,.convert src dst x,ty,pos,af,gd⟩ F (.pointer (some ⟨g,0,none⟩)):=iH fun a w ha hst=>by
  obtain⟨j,h1,h2⟩:=hj.h
  have h:=Lib.run_from_unsafe (P:=P) w ⟨g,0,none⟩ hs.u hd.u h1 (ho.shape hst) hl
  simp [execOp,ha.ev hx,h]
theorem q_slData {g n c:Nat} (hx:evF F x=some (.slice (some ⟨g,0,none⟩) n c)) (hc:0<c):QP P B N V L ⟨d,.call ⟨.builtin .unsafeSliceData,#[x],#[T]⟩,ty,pos,af,gd⟩ F (.pointer (some ⟨g,0,none⟩)):=iH fun a w ha hst=>by
  have h:=Lib.run_unsafeSliceData_row (P:=P) w #[T] ty ⟨g,0,none⟩ n c (by omega)
  simp [execOp,ha.ev hx,resolve,invoke,builtin,h]
theorem q_slData0 {n c:Nat} (hx:evF F x=some (.slice none n c)):QP P B N V L ⟨d,.call ⟨.builtin .unsafeSliceData,#[x],#[T]⟩,ty,pos,af,gd⟩ F (.pointer none):=iH fun a w ha hst=>by
  have h:=Lib.run_unsafeSliceData_nil (P:=P) w #[T] ty n c
  simp [execOp,ha.ev hx,resolve,invoke,builtin,h]
theorem q_ustr0 {p:Option Addr} (hx:evF F x=some (.pointer p)) (hy:evF F y=some (.int .i64 0)):QP P B N V L ⟨d,.call ⟨.builtin .unsafeString,#[x,y],#[T,T2]⟩,ty,pos,af,gd⟩ F (.string ⟨#[]⟩):=iH fun a w ha hst=>by
  have h:=Lib.run_unsafeString_none (P:=P) w T T2 ty p
  simp [execOp,ha.ev hx,ha.ev hy,resolve,invoke,builtin,h]
  rfl
theorem St.freeze {X Y:List Box} {g n:Nat} {E:TypeId} {cs:List Value} (hs:St B V (X ++ (⟨g,E,cs⟩ :: Y)) w):St B V (X ++ Y) (w.freeze ⟨g,0,none⟩ n):=by
  have hg:=hs.own ⟨g,E,cs⟩ (by simp)
  have hne:∀ b∈X ++ Y,b.g≠g:=by
    intro b hb e
    have hnd:=hs.nodup
    rw [List.map_append,List.map_cons,List.nodup_append] at hnd
    obtain⟨_,h2,h3⟩:=hnd
    rcases List.mem_append.1 hb with hb|hb
    · exact h3 b.g (List.mem_map_of_mem hb) g (by simp) e
    · exact(List.nodup_cons.1 h2).1 (List.mem_map.2 ⟨b,hb,e⟩)
  have hsub:(X ++ Y).Sublist (X ++ (⟨g,E,cs⟩ :: Y)):=List.Sublist.append (List.Sublist.refl X) (List.sublist_cons_self _ _)
  have hblk:∀ k,¬k=g→(w.freeze ⟨g,0,none⟩ n).heap[k]?=w.heap[k]?:=by
    intro k hk
    unfold World.freeze
    split
    · rfl
    · simp only [Array.getElem?_modify]
      rw [if_neg (by omega)]
  have hx:Exc [g] w (w.freeze ⟨g,0,none⟩ n):=by
    refine⟨?_,?_,?_,?_,fun k _ hn=>hblk k (by simpa using hn)⟩
    all_goals (unfold World.freeze;split)
    all_goals first|rfl|simp
  refine⟨hs.ext.trans hx (by intro y hy;simp at hy;subst hy;exact hg.2),fun p x hp=>?_,hs.old,hs.v0,fun b hb=>?_,List.Nodup.sublist (hsub.map Box.g) hs.nodup⟩
  · obtain⟨h1,h2⟩:=hs.view p x hp
    refine⟨?_,fun b hb=>h2 b (hsub.subset hb)⟩
    have hpg:¬p.block=g:=fun e=>h2 ⟨g,E,cs⟩ (by simp) e.symm
    rw [World.cell?_of_block (hblk _ hpg)];exact h1
  · have ho:=hs.own b (hsub.subset hb)
    exact⟨by rw [hblk _ (hne b hb)];exact ho.1,ho.2⟩
theorem gw_ustr {dr:iI} (hdr:dr.loud=true) {e g c:Nat} {us:List UInt8} {m:Int} {L1:List Box} {f:List Box→List Box} (hp:cM P T (.pointer e)) (hc:P.cellsOf e=1) (hx:evF F x=some (.pointer (some ⟨g,0,none⟩))) (hy:evF F y=some (.int .i64 m)) (hm:m=us.length) (hr:cU (some ⟨g,0,none⟩) us.length c e 1 (u8C us) L1) (hL:oJ L L1 f) (h0:0<us.length) (hd:okD N d=true)
    (h:GoL P B N dr ops Q k rest (sJ F d (.string ⟨us.toArray⟩)) V (f [])):GoW P B N dr ops Q k ⟨d,.call ⟨.builtin .unsafeString,#[x,y],#[T,T2]⟩,ty,pos,af,gd⟩ rest F V L:=jB hdr fun a w ha hs=>by
  subst hm
  obtain⟨X,Y,hX,hf⟩:=hL.h
  rcases hr.2 with ⟨_,h,_⟩|⟨g',cs,he,rfl,h2,h3,h4,h5⟩
  · cases h
  obtain rfl:g=g':=by injection he with he;injection he
  subst hX
  have ho:=(hs.own ⟨g,e,cs⟩ (by simp)).1
  simp only [] at ho
  have hsh:w.shape? g=some (e,cs.length):=by simp [World.shape?,ho]
  have hcell:∀ j u,us[j]?=some u→w.cell? ((⟨g,0,none⟩:Addr).add j)=some (.int .u8 u.toNat):=by
    intro j u hj
    rw [jN,Nat.zero_add]
    have hu:(u8C us)[j]?=some (.int .u8 u.toNat):=by simp [u8C,hj]
    rw [←h5,List.getElem?_take] at hu
    split at hu
    · simp [World.cell?,ho,hu]
    · cases hu
  have h63:us.length≤9223372036854775807:=by unfold maxLen at h3;omega
  have hrun:=Lib.run_unsafeString_row (P:=P) w T T2 ty e hp.u hc g cs.length hsh us (by intro e;subst e;simp at h0) (by omega) h63 hcell
  refine oD (w':=w.freeze ⟨g,0,none⟩ us.length) (v:=.string ⟨us.toArray⟩) ?_ (gS hdr h _ _ (ha.put hd _) (by rw [hf];exact hs.freeze))
  simp [execOp,ha.ev hx,ha.ev hy,resolve,invoke,builtin,hrun]
theorem pU {dr:iI} (hdr:dr.loud=true) {E n c:Nat} {dd:Nat} {A:Option Addr} {s:ByteArray} {xs:List Value} {L1:List Box} (hu:cM P T (.slice E)) (hu2:cM P T2 .string) (hi:U8Inf P E) (hx:evF F x=some (.slice A n c)) (hy:evF F y=some (.string s))
    (hr:cU A n c E 1 xs L1) (hA:A=none∨0<c) {f:List Box→List Box} (hL:oJ L L1 f) (h63:n+s.size≤1000000000) (hd:okD N (some dd)=true)
    (h:∀ A' c' L1',cU A' (n+s.size) c' E 1 (xs ++ u8C s.toList) L1'→(A'=none∨0<c')→GoL P B N dr ops Q k rest ((dd,.slice A' (n+s.size) c') :: F) V (f L1')):GoW P B N dr ops Q k ⟨some dd,.call ⟨.builtin .append,#[x,y],#[T,T2]⟩,ty,pos,af,gd⟩ rest F V L:=jB hdr fun a w ha hs=>by
  obtain⟨i,hinfo,hz,hi1,hi2⟩:=hi.h
  obtain⟨X,Y,hX,hf⟩:=hL.h
  have hown:=hr.owns hs (fun b hb=>by rw [hX];simp [hb])
  obtain⟨v',w',hrun,ho,hg,hnil⟩:=Lib.run_append_own_string (P:=P) w 0 T T2 ty E i hu.u hu2.u hinfo hz hi1 hi2 (.slice A n c) n xs hown s (by unfold maxLen;omega) (by omega) (Nat.zero_le _)
  have hxl:xs.length=n:=by simpa using hr.1
  have hat:(v'.ownBlock=(Value.slice A n c).ownBlock∨v'.ownBlock=some w.heap.size)∧(s.size=0→∃ A',v'=.slice A' (n+s.size) c∧A'=A):=by
    rcases hr.2 with ⟨_,rfl,rfl,rfl⟩|⟨g,cs,rfl,rfl,h2,h3,h4,h5⟩
    · by_cases h0:s.size=0
      · have e:=hnil.2 ⟨rfl,h0⟩
        subst e
        exact⟨.inl rfl,fun _=>⟨none,by rw [h0],rfl⟩⟩
      · have hr2:=run_append_nil_string (P:=P) w T T2 ty E i (.int .u8 0) hu.u hu2.u hinfo hz s (by omega) (by omega) (by rw [hi2];omega)
        rw [hr2] at hrun
        injection hrun with e1 e2
        subst e1
        exact⟨.inr rfl,fun h=>absurd h h0⟩
    · subst hX
      have hob:=(hs.own ⟨g,E,cs⟩ (by simp)).1
      simp only [] at hob
      by_cases hroom:n+s.size≤c
      · have hr2:=Lib.run_append_room_string (P:=P) w T T2 ty E i hu.u hu2.u hinfo hi1 g n c cs.toArray hob s hroom (by simp;omega)
        rw [hr2] at hrun
        injection hrun with e1 e2
        subst e1
        exact⟨.inl rfl,fun _=>⟨_,rfl,rfl⟩⟩
      · have holds:∀ j u,xs[j]?=some u→w.cell? ((⟨g,0,none⟩:Addr).add j)=some u:=by
          intro j u hj
          rw [jN,Nat.zero_add]
          rw [←h5,List.getElem?_take] at hj
          split at hj
          · simp [World.cell?,hob,hj]
          · cases hj
        have hr2:=Lib.run_append_grow_string (P:=P) w T T2 ty E i (.int .u8 0) hu.u hu2.u hinfo hz ⟨g,0,none⟩ n c xs (by rw [hi1];omega) holds s (by omega) (by omega) (by rw [hi2];exact growslice_fits (by omega) (by omega))
        rw [hr2] at hrun
        injection hrun with e1 e2
        subst e1
        exact⟨.inr rfl,fun h=>absurd h2 (by omega)⟩
  subst hX
  obtain⟨A',c',L1',rfl,hr',hs'⟩:=hs.grown hr hg ho hat.1
  refine oD (w':=w') (v:=.slice A' (n+s.size) c') ?_ (gS hdr (h A' c' L1' (by rw [u8C_str];exact hr') ?_) _ w' (ha.put hd _) (by rw [hf];exact hs'))
  · have hrun':(Builtin.append_ #[T,T2] ty #[.slice A n c,.string s]).run P w=.ok (.slice A' (n+s.size) c') w':=hrun
    simp [execOp,ha.ev hx,ha.ev hy,resolve,invoke,builtin,hrun']
  · by_cases h0:s.size=0
    · obtain⟨A2,e1,e2⟩:=hat.2 h0
      injection e1 with e1 _ e3
      subst e1;subst e2;subst e3;exact hA
    · rcases hr'.2 with ⟨_,h1,_⟩|⟨_,_,_,_,h2,_⟩
      · exact .inl h1
      · exact .inr (by omega)
end
end
section
abbrev tO:=Value→aI→Prop
def wL (Rs:List tO) (j:Nat):tO:=Rs.getD j (fun _ _=>False)
def lP (l:List Oper) (j:Nat):Nat:=((l[j]?).bind (·.dst)).getD 0
def Deps (l:List Oper) (Rs:List tO) (V':aI):List Nat→(List (Nat×Value)→Prop)→List (Nat×Value)→Prop
  | [],X,F=>X F
  | j :: D,X,F=>∀ v,wL Rs j v V'→Deps l Rs V' D X ((lP l j,v) :: F)
def waitsB (o:Oper) (j:Nat):Bool:=o.after.any fun e=>Region.binds .any e && Nat.beq e.on j
def depsB (o:Oper) (D:List Nat) (i:Nat):Bool:=D.all fun j=>Nat.blt j i && waitsB o j
def vG (l:List Oper) (m N:Nat) (F0:List (Nat×Value)):Bool :=
  ((List.range l.length).all fun i=>match l[i]? with|some o=>o.after.all (fun e=>Nat.blt e.on i)|none=>false) &&
  ((List.range m).all fun i=>match (l[i]?).bind (·.dst) with|some d=>Nat.blt d N && (F0.all (fun p=>!Nat.beq p.1 d)) && ((List.range i).all fun j=>!Nat.beq (lP l j) d)|none=>false)
def usedB (l:List Oper) (m:Nat):Bool:=(List.range m).all fun i=>(List.range l.length).any fun j=>Nat.blt i j && (match l[j]? with|some o=>waitsB o i|none=>false)
theorem waitsB_spec {o:Oper} {j:Nat} (h:waitsB o j=true):∃ e∈o.after,Region.binds .any e=true∧e.on=j:=by
  unfold waitsB at h
  rw [Array.any_eq_true] at h
  obtain⟨i,hi,h⟩:=h
  simp only [Bool.and_eq_true] at h
  exact⟨o.after[i],Array.getElem_mem hi,h.1,Nat.eq_of_beq_eq_true h.2⟩
theorem wp_tmps {P:Program} {o:Oper} {a:Act} {w:World} {K:Act→World→Prop} {Q:Exit→Act→World→Prop} (h:o.wp P a w K Q):o.wp P a w (fun a' w'=>K a' w'∧∃ v,a'.tmps=(a.put o.dst v).tmps) Q:=by
  unfold Oper.wp at *
  generalize (execOp a.eval o).run P w=r at *
  cases r with
  | ok n w' =>
    cases n<;>simp only [Oper.upon] at h ⊢
    case value u=>exact⟨h,u,rfl⟩
    case skip=>exact⟨h,undef,rfl⟩
    case defer d=>exact⟨h,undef,by cases o.dst<;>rfl⟩
    case enter f args =>
      refine Calls.mono h fun e w'' he=>?_
      cases e with
      | returned u=>exact⟨he,u,rfl⟩
      | panicked c=>exact he
      | outgrown=>exact he
    case row row args=>exact Rows.mono h fun u w'' he=>⟨he,u,rfl⟩
  | halt x w' =>
    cases x<;>simp only [Oper.upon] at h ⊢
    case panic u=>exact h
theorem wp_thn {P:Program} {o:Oper} {a:Act} {w:World} {X K:Act→World→Prop} {Q:Exit→Act→World→Prop} {k:List kI} (h:o.wp P a w X (evalQ P Q (.thn K :: k))):o.wp P a w X (evalQ P Q k):=by
  unfold Oper.wp at *
  generalize (execOp a.eval o).run P w=r at *
  cases r with
  | ok n w' =>
    cases n<;>simp only [Oper.upon] at h ⊢
    case value u=>exact h
    case skip=>exact h
    case defer d=>exact h
    case enter f args =>
      refine Calls.mono h fun e w'' he=>?_
      cases e with
      | returned u=>exact he
      | panicked c=>exact he
      | outgrown=>exact he
    case row row args=>exact h
  | halt x w' =>
    cases x<;>simp only [Oper.upon] at h ⊢
    case panic u=>exact h
theorem Kn.cons {N:Nat} {F:List (Nat×Value)} {a:Act} {t:Nat} {v:Value} (h:Kn N F a) (h1:Kn N [(t,v)] a):Kn N ((t,v) :: F) a :=
  ⟨h.1,h.2.1,fun s u hs=>by
    rw [jO] at hs
    split at hs
    · rename_i e;subst e
      exact h1.2.2 t u (by rw [jO,if_pos rfl];exact hs)
    · exact h.2.2 s u hs⟩
theorem Kn.kept {N:Nat} {F:List (Nat×Value)} {a a':Act} {d:Nat} {v:Value} (h:Kn N F a) (hd:∀ p∈F,p.1≠d) (h0:a'.defers=[]) (ht:a'.tmps=(a.put (some d) v).tmps):Kn N F a':=by
  refine⟨h0,by rw [ht];simpa [Act.put] using h.2.1,fun t u hu=>?_⟩
  have hne:t≠d:=by
    intro e;subst e
    clear h h0 ht
    induction F with
    | nil=>simp [jC] at hu
    | cons p F ih =>
      obtain⟨k,x⟩:=p
      rw [jO] at hu
      split at hu
      · rename_i e;exact hd (k,x) (by simp) e
      · exact ih hu (fun q hq=>hd q (List.mem_cons_of_mem _ hq))
  have:=h.2.2 t u hu
  rw [ht]
  simpa [Act.put,Array.getElem?_setIfInBounds_ne (Ne.symm hne)] using this
theorem countP_lt {p q:Nat→Bool}:∀ {l:List Nat},(∀ x∈l,q x=true→p x=true)→(∃ x∈l,p x=true∧q x=false)→l.countP q<l.countP p
  | [],_,h=>by obtain⟨x,hx,_⟩:=h;cases hx
  | y :: l,h1,h2=>by
    have hle:l.countP q≤l.countP p:=List.countP_mono_left fun x hx hq=>h1 x (List.mem_cons_of_mem _ hx) hq
    rw [List.countP_cons,List.countP_cons]
    obtain⟨x,hx,hp,hq⟩:=h2
    rcases List.mem_cons.1 hx with rfl|hx
    · rw [if_pos hp,if_neg (by rw [hq];decide)];omega
    · have:=countP_lt (l:=l) (fun x hx hq=>h1 x (List.mem_cons_of_mem _ hx) hq) ⟨x,hx,hp,hq⟩
      by_cases hy:q y=true
      · rw [if_pos hy,if_pos (h1 y (by simp) hy)];omega
      · rw [if_neg hy];split<;>omega
section
variable {P : Program} {B : Base} {N : Nat} {Q : Exit → Act → World → Prop} {k : List kI} {F : List (Nat × Value)} {V : aI} {L : List Box}
def StepAt (P:Program) (B:Base) (N:Nat) (Q:Exit→Act→World→Prop) (k:List kI) (l:List Oper) (F0:List (Nat×Value)) (V:aI) (L:List Box) (Rs:List tO) (i:Nat) (R:tO):Prop :=
  ∃ o D,l[i]?=some o∧o.guard=none∧depsB o D i=true∧(∀ v V1 V2,VLe V1 V2→R v V1→R v V2) ∧
   ∀ V',VLe V V'→Deps l Rs V' D (fun F=>∀ K:Act→World→Prop,(∀ V'' v a w,VLe V' V''→R v V''→Kn N [(lP l i,v)] a→St B V'' L w→K a w)→GoW P B N .plain l.toArray Q (.thn K :: k) o [] F V' L) F0
def Steps (P:Program) (B:Base) (N:Nat) (Q:Exit→Act→World→Prop) (k:List kI) (l:List Oper) (F0:List (Nat×Value)) (V:aI) (L:List Box) (Rs:List tO):Prop:=∀ i,i<Rs.length→StepAt P B N Q k l F0 V L (Rs.take i) i (wL Rs i)
def Grow (P:Program) (B:Base) (N:Nat) (Q:Exit→Act→World→Prop) (k:List kI) (l:List Oper) (F0:List (Nat×Value)) (V:aI) (L:List Box) (Rs:List tO):Prop :=
  Steps P B N Q k l F0 V L Rs→∀ a w,Kn N F0 a→St B V L w→wpAnyH P .any l.toArray (evalQ P Q k) (fun _=>True) l.length (Array.replicate l.length false) a w
theorem gc_grow {id:Nat} {l:List Oper} (F0:List (Nat×Value)) (hm:P.follows .mixedOrders=true) (hF:∀ p∈F0,jC F p.1=some p.2) (h:Grow P B N Q k l F0 V L []):GoC P B N (.region id l.toArray true) Q k F V L:=fun a w ha hs =>
  wp_region_held (S:=fun _=>True) hm (h (fun i hi=>by simp at hi) a _ (ha.less hF) hs.drewn)
variable {l : List Oper} {F0 : List (Nat × Value)} {Rs : List tO}
theorem getR_app {R:tO} {i:Nat} (h:i<Rs.length):wL (Rs ++ [R]) i=wL Rs i:=by
  unfold wL
  rw [List.getD_eq_getElem?_getD,List.getD_eq_getElem?_getD,List.getElem?_append_left h]
theorem getR_last {R:tO}:wL (Rs ++ [R]) Rs.length=R:=by
  unfold wL
  rw [List.getD_eq_getElem?_getD,List.getElem?_append_right (Nat.le_refl _)];simp
theorem grow_gen {o:Oper} {R:tO} {n:Nat} (D:List Nat) (hn:Rs.length=n) (ho:l[n]?=some o) (hg:o.guard=none) (hD:depsB o D n=true) (hR:∀ v V1 V2,VLe V1 V2→R v V1→R v V2)
    (hs:∀ V',VLe V V'→Deps l Rs V' D (fun F=>∀ K:Act→World→Prop,(∀ V'' v a w,VLe V' V''→R v V''→Kn N [(lP l n,v)] a→St B V'' L w→K a w)→GoW P B N .plain l.toArray Q (.thn K :: k) o [] F V' L) F0)
    (h:Grow P B N Q k l F0 V L (Rs ++ [R])):Grow P B N Q k l F0 V L Rs:=fun hst=>h fun i hi=>by
  subst hn
  rw [List.length_append,List.length_singleton] at hi
  rcases Nat.lt_or_ge i Rs.length with h1|h1
  · rw [List.take_append_of_le_length (by omega),getR_app h1];exact hst i h1
  · obtain rfl:i=Rs.length:=by omega
    rw [List.take_append_of_le_length (by omega),List.take_length,getR_last]
    exact⟨o,D,ho,hg,hD,hR,hs⟩
theorem cP {o:Oper} {x:Value} {n:Nat} (D:List Nat) (hn:Rs.length=n) (ho:l[n]?=some o) (hg:o.guard=none) (hD:depsB o D n=true)
    (hs:∀ V',VLe V V'→Deps l Rs V' D (fun F=>∀ K:Act→World→Prop,(∀ V'' v a w,VLe V' V''→v=x→Kn N [(lP l n,v)] a→St B V'' L w→K a w)→GoW P B N .plain l.toArray Q (.thn K :: k) o [] F V' L) F0)
    (h:Grow P B N Q k l F0 V L (Rs ++ [fun v _=>v=x])):Grow P B N Q k l F0 V L Rs:=grow_gen D hn ho hg hD (fun _ _ _ _ h=>h) hs h
def newR (m:Nat) (cs:List Value):tO:=fun v V=>∃ g,v=.slice (some ⟨g,0,none⟩) m m∧aL V g 0 cs
theorem grow_new {o:Oper} {cs:List Value} {m n:Nat} (D:List Nat) (hn:Rs.length=n) (ho:l[n]?=some o) (hg:o.guard=none) (hD:depsB o D n=true)
    (hs:∀ V',VLe V V'→Deps l Rs V' D (fun F=>∀ K:Act→World→Prop,(∀ V'' v a w,VLe V' V''→newR m cs v V''→Kn N [(lP l n,v)] a→St B V'' L w→K a w)→GoW P B N .plain l.toArray Q (.thn K :: k) o [] F V' L) F0)
    (h:Grow P B N Q k l F0 V L (Rs ++ [newR m cs])):Grow P B N Q k l F0 V L Rs:=grow_gen D hn ho hg hD (fun _ _ _ hV ⟨g,h1,h2⟩=>⟨g,h1,h2.le hV⟩) hs h
theorem cY {K:Act→World→Prop} {R:tO} {d:Nat} {V' V'':aI} {v:Value} (hK:∀ V'' v a w,VLe V' V''→R v V''→Kn N [(d,v)] a→St B V'' L w→K a w) (hl:jC F d=some v) (hV:VLe V' V'') (hR:R v V''):AtQ P B N Q (.thn K :: k) .normal F V'' L:=fun a w ha hs=>hK V'' v a w hV hR (ha.less (by simpa using hl)) hs
def InvG (B:Base) (N:Nat) (l:List Oper) (F0:List (Nat×Value)) (V:aI) (L:List Box) (Rs:List tO) (fuel:Nat) (listed:Array Bool) (a:Act) (w:World):Prop :=
  listed.size=l.length∧(List.range l.length).countP (fun i=>!listed.getD i true)≤fuel∧(∀ i o,l[i]?=some o→listed.getD i true=true→∀ e∈o.after,Region.binds .any e=true→listed.getD e.on false=true)∧(∀ i,Rs.length≤i→i<l.length→listed.getD i true=false) ∧
  ∃ V',VLe V V'∧St B V' L w∧Kn N F0 a∧∀ i,i<Rs.length→listed.getD i true=true→∃ v,wL Rs i v V'∧Kn N [(lP l i,v)] a
theorem getD_tf {listed:Array Bool} {i:Nat} (h:i<listed.size) (b c:Bool):listed.getD i b=listed.getD i c:=by simp [Array.getD,h]
theorem pS {listed:Array Bool} {i j:Nat} {b:Bool} (h:i<listed.size):(listed.setIfInBounds i true).getD j b=if i=j then true else listed.getD j b:=by
  simp only [Array.getD_eq_getD_getElem?,Array.getElem?_setIfInBounds]
  by_cases e:i=j
  · subst e;simp [h]
  · simp [e]
theorem qS {m:Nat} (h:vG l m N F0=true) {i:Nat} {o:Oper} (ho:l[i]?=some o) {e:Edge} (he:e∈o.after):e.on<i:=by
  unfold vG at h
  simp only [Bool.and_eq_true,List.all_eq_true,List.mem_range] at h
  have hi:i<l.length:=by
    rcases Nat.lt_or_ge i l.length with h|h
    · exact h
    · rw [List.getElem?_eq_none h] at ho;cases ho
  have:=h.1 i hi
  rw [ho] at this
  simp only [Array.all_eq_true_iff_forall_mem] at this
  simpa [Nat.blt_eq] using this e he
theorem uW {m:Nat} (h:vG l m N F0=true) {i:Nat} (hi:i<m):(∃ o,l[i]?=some o∧o.dst=some (lP l i))∧lP l i<N∧(∀ p∈F0,p.1≠lP l i)∧∀ j,j<i→lP l j≠lP l i:=by
  unfold vG at h
  simp only [Bool.and_eq_true,List.all_eq_true,List.mem_range] at h
  have h2:=h.2 i hi
  cases ho:l[i]? with
  | none=>rw [ho] at h2;simp at h2
  | some o =>
    rw [ho] at h2
    cases hd:o.dst with
    | none=>simp [hd] at h2
    | some d =>
      have e:lP l i=d:=by unfold lP;rw [ho];simp [hd]
      rw [e]
      simp [hd,Nat.blt_eq] at h2
      refine⟨⟨o,rfl,hd⟩,h2.1.1,fun p hp e=>?_,fun j hj e=>?_⟩
      · have:=h2.1.2 p.1 p.2 hp;rw [e] at this;simp at this
      · have:=h2.2 j hj;rw [e] at this;simp at this
theorem deps_all {V':aI} {a:Act} {X:List (Nat×Value)→Prop}:∀ {D:List Nat} {F:List (Nat×Value)} {Rs:List tO},Kn N F a→(∀ j∈D,∃ v,wL Rs j v V'∧Kn N [(lP l j,v)] a)→Deps l Rs V' D X F→∃ F',Kn N F' a∧X F'
  | [],F,Rs,ha,_,h=>⟨F,ha,h⟩
  | j :: D,F,Rs,ha,hD,h=>by
    obtain⟨v,h1,h2⟩:=hD j (by simp)
    exact deps_all (ha.cons h2) (fun i hi=>hD i (List.mem_cons_of_mem _ hi)) (h v h1)
theorem grow_run (hB:vG l Rs.length N F0=true) (hle:Rs.length≤l.length) (hst:Steps P B N Q k l F0 V L Rs)
    (hlast:∀ i o,Rs.length≤i→l[i]?=some o→∀ listed:Array Bool,listed.size=l.length→(∀ i o,l[i]?=some o→listed.getD i true=true→∀ e∈o.after,Region.binds .any e=true→listed.getD e.on false=true)→(∀ e∈o.after,Region.binds .any e=true→listed.getD e.on false=true)→∀ j,j<Rs.length→listed.getD j true=true)
    (hfin:∀ fuel listed a w,InvG B N l F0 V L Rs fuel listed a w→(∀ i,i<Rs.length→listed.getD i true=true)→wpAnyH P .any l.toArray (evalQ P Q k) (fun _=>True) fuel listed a w) :
    ∀ fuel listed a w,InvG B N l F0 V L Rs fuel listed a w→wpAnyH P .any l.toArray (evalQ P Q k) (fun _=>True) fuel listed a w:=by
  intro fuel
  induction fuel with
  | zero =>
    intro listed a w hI
    refine hfin 0 listed a w hI fun i hi=>?_
    have h0:(List.range l.length).countP (fun i=>!listed.getD i true)=0:=by have:=hI.2.1;omega
    rw [List.countP_eq_zero] at h0
    have:=h0 i (List.mem_range.2 (by omega))
    simpa using this
  | succ fuel ih =>
    intro listed a w hI
    by_cases hall:∀ i,i<Rs.length→listed.getD i true=true
    · exact hfin _ _ _ _ hI hall
    have ⟨hsz,hcnt,hdc,htop,V',hV,hs,ha,hvals⟩:=hI
    refine⟨fun hr=>?_,fun i hi=>?_⟩
    · exfalso
      -- the least one that has not come up may come up
      have key:∀ n i,i<n→i<Rs.length→listed.getD i true=true:=by
        intro n
        induction n with
        | zero=>intro i hi;omega
        | succ n ihn =>
          intro i hi hir
          rcases Nat.lt_or_ge i n with h|h
          · exact ihn i h hir
          · obtain rfl:i=n:=by omega
            obtain⟨⟨o,ho,_⟩,_⟩:=uW hB hir
            cases hli:listed.getD i true with
            | true=>rfl
            | false =>
              exfalso
              have hmem:i∈Region.ready .any l.toArray listed:=by
                refine mem_ready.2 ⟨hli,o,by simpa using ho,fun e he hb=>?_⟩
                have hlt:=qS hB ho he
                have:=ihn e.on hlt (by omega)
                rw [getD_tf (by omega) false true];exact this
              rw [hr] at hmem;cases hmem
      exact hall fun i hi=>key (i+1) i (by omega) hi
    · obtain⟨hun,o,ho,haft⟩:=mem_ready.1 hi
      have ho:l[i]?=some o:=by simpa using ho
      have hil:i<l.length:=by
        rcases Nat.lt_or_ge i l.length with h|h
        · exact h
        · rw [List.getElem?_eq_none h] at ho;cases ho
      rcases Nat.lt_or_ge i Rs.length with him|him
      case inr=>exact absurd (hlast i o him ho listed hsz hdc haft) hall
      obtain⟨o',D,ho',hg,hD,hmono,hstep⟩:=hst i him
      obtain rfl:o=o':=by rw [ho] at ho';injection ho'
      obtain⟨⟨o2,ho2,hdst⟩,hdN,hd0,hdj⟩:=uW hB him
      obtain rfl:o=o2:=by rw [ho] at ho2;injection ho2
      have hDv:∀ j∈D,∃ v,wL (Rs.take i) j v V'∧Kn N [(lP l j,v)] a:=by
        intro j hj
        unfold depsB at hD
        rw [List.all_eq_true] at hD
        have:=hD j hj
        simp only [Bool.and_eq_true,Nat.blt_eq] at this
        obtain⟨e,he,hb,hon⟩:=waitsB_spec this.2
        have hl:=haft e he hb
        rw [hon,getD_tf (by omega) false true] at hl
        obtain⟨v,h1,h2⟩:=hvals j (by omega) hl
        refine⟨v,?_,h2⟩
        unfold wL at h1 ⊢
        rw [List.getD_eq_getElem?_getD] at h1 ⊢
        rw [List.getElem?_take_of_lt this.1];exact h1
      obtain⟨F',hF',hX⟩:=deps_all ha hDv (hstep V' hV)
      unfold wpOp
      simp only [show (l.toArray)[i]?=some o by simpa using ho]
      rw [if_pos (by simp [Region.wanted,hg])]
      refine .inl ?_
      have hgo:=gw_plain.1 (hX (fun a' w'=>(∃ V'' v,VLe V' V''∧wL Rs i v V''∧Kn N [(lP l i,v)] a'∧St B V'' L w')) (fun V'' v a' w' h1 h2 h3 h4=>⟨V'',v,h1,h2,h3,h4⟩)) a w hF' hs
      have h2:=wp_tmps hgo
      refine wp_thn (Oper.wp_mono (fun a' w' hK=>?_) h2)
      · obtain⟨hK,u,hu⟩:=hK
        unfold wpList at hK
        obtain⟨V'',v,h1,h2,h3,h4⟩:=hK
        rw [hdst] at hu
        refine⟨trivial,ih _ a' w' ⟨by simpa using hsz,?_,?_,?_,V'',hV.trans h1,h4,ha.kept hd0 h3.1 hu,?_⟩⟩
        · have:(List.range l.length).countP (fun j=>!(listed.setIfInBounds i true).getD j true)<(List.range l.length).countP (fun j=>!listed.getD j true):=by
            refine countP_lt (fun j hj h=>?_) ⟨i,List.mem_range.2 hil,by rw [hun];rfl,?_⟩
            · rw [pS (by omega)] at h
              split at h
              · simp at h
              · exact h
            · rw [pS (by omega),if_pos rfl];rfl
          omega
        · intro j oj hoj hlj e he hb
          rw [pS (by omega)]
          split
          · rfl
          · rw [pS (by omega)] at hlj
            split at hlj
            · rename_i e1;subst e1
              obtain rfl:o=oj:=by rw [ho] at hoj;injection hoj
              exact haft e he hb
            · exact hdc j oj hoj hlj e he hb
        · intro j hj hjl
          rw [pS (by omega),if_neg (by omega)]
          exact htop j hj hjl
        · intro j hj hlj
          rw [pS (by omega)] at hlj
          split at hlj
          · rename_i e;subst e;exact⟨v,h2,h3⟩
          · rename_i hne
            obtain⟨x,q1,q2⟩:=hvals j hj hlj
            obtain⟨_,_,_,_,_,hmj,_⟩:=hst j hj
            refine⟨x,hmj x _ _ h1 q1,q2.kept ?_ h3.1 hu⟩
            intro p hp
            simp at hp;subst hp
            rcases Nat.lt_or_ge j i with h|h
            · exact hdj j h
            · exact Ne.symm ((uW hB hj).2.2.2 i (by omega))
theorem inv_start {a:Act} {w:World} (hle:Rs.length≤l.length) (ha:Kn N F0 a) (hs:St B V L w):InvG B N l F0 V L Rs l.length (Array.replicate l.length false) a w:=by
  have h0:∀ i,i<l.length→(Array.replicate l.length false).getD i true=false:=by intro i hi;simp [Array.getD,hi]
  refine⟨by simp,?_,?_,fun i _ hi=>h0 i hi,V,VLe.refl V,hs,ha,?_⟩
  · have:=List.countP_le_length (p:=fun i=>!(Array.replicate l.length false).getD i true) (l:=List.range l.length)
    rw [List.length_range] at this;exact this
  · intro i o ho hl
    have hi:i<l.length:=by
      rcases Nat.lt_or_ge i l.length with h|h
      · exact h
      · rw [List.getElem?_eq_none h] at ho;cases ho
    rw [h0 i hi] at hl;cases hl
  · intro i hi hl
    rw [h0 i (by omega)] at hl;cases hl
theorem grow_last {o:Oper} {n:Nat} (D:List Nat) (hn:Rs.length=n) (hl:l.length=n+1) (ho:l[n]?=some o) (hg:o.guard=none) (hB:vG l n N F0=true) (hU:usedB l n=true) (hD:depsB o D n=true)
    (h:∀ V',VLe V V'→Deps l Rs V' D (fun F=>GoW P B N .plain l.toArray Q k o [] F V' L) F0):Grow P B N Q k l F0 V L Rs:=fun hst a w ha hs=>by
  subst hn
  have hused:∀ i,i<Rs.length→∃ j o,i<j∧j<l.length∧l[j]?=some o∧waitsB o i=true:=by
    intro i hi
    unfold usedB at hU
    rw [List.all_eq_true] at hU
    have:=hU i (List.mem_range.2 hi)
    rw [List.any_eq_true] at this
    obtain⟨j,hj,h⟩:=this
    simp only [Bool.and_eq_true,Nat.blt_eq,List.mem_range] at h hj
    cases hoj:l[j]? with
    | none=>rw [hoj] at h;simp at h
    | some oj=>rw [hoj] at h;exact⟨j,oj,h.1,hj,hoj,h.2⟩
  refine grow_run hB (by omega) hst (fun i oi hi hoi listed hsz hdc hready=>?_) (fun fuel listed a w hI hall=>?_) _ _ _ _ (inv_start (by omega) ha hs)
  · have hil:i<l.length:=by
      rcases Nat.lt_or_ge i l.length with h|h
      · exact h
      · rw [List.getElem?_eq_none h] at hoi;cases hoi
    obtain rfl:i=Rs.length:=by omega
    have key:∀ m j,Rs.length≤j+m→j<Rs.length→listed.getD j true=true:=by
      intro m
      induction m with
      | zero=>intro j h1 h2;omega
      | succ m ihm =>
        intro j h1 h2
        obtain⟨j',oj,hlt,hjl,hoj,hw⟩:=hused j h2
        obtain⟨e,he,hb,hon⟩:=waitsB_spec hw
        have hl2:listed.getD j false=true:=by
          rcases Nat.lt_or_ge j' Rs.length with hlj|hlj
          · rw [←hon];exact hdc j' oj hoj (ihm j' (by omega) hlj) e he hb
          · obtain rfl:j'=Rs.length:=by omega
            obtain rfl:oj=oi:=by rw [hoj] at hoi;injection hoi
            rw [←hon];exact hready e he hb
        rw [getD_tf (by omega) true false];exact hl2
    exact fun j hj=>key Rs.length j (by omega) hj
  · obtain⟨hsz,hcnt,_,htop,V',hV,hs,ha,hvals⟩:=hI
    have hun:=htop Rs.length (Nat.le_refl _) (by omega)
    have hmem:∀ i,i∈Region.ready .any l.toArray listed→i=Rs.length:=by
      intro i hi
      obtain⟨hun,o,ho,_⟩:=mem_ready.1 hi
      have hil:i<l.length:=by
        rcases Nat.lt_or_ge i l.length with h|h
        · exact h
        · rw [List.getElem?_toArray,List.getElem?_eq_none h] at ho;cases ho
      rcases Nat.lt_or_ge i Rs.length with h1|h1
      · rw [hall i h1] at hun;cases hun
      · omega
    have hrd:Rs.length∈Region.ready .any l.toArray listed:=by
      refine mem_ready.2 ⟨hun,o,by simpa using ho,fun e he hb=>?_⟩
      have:=hall e.on (qS hB ho he)
      rw [getD_tf (by have:=qS hB ho he;omega) false true];exact this
    cases fuel with
    | zero =>
      exfalso
      have h0:(List.range l.length).countP (fun i=>!listed.getD i true)=0:=by omega
      rw [List.countP_eq_zero] at h0
      have:=h0 Rs.length (List.mem_range.2 (by omega))
      rw [hun] at this;simp at this
    | succ fuel =>
      refine⟨fun hr=>(by rw [hr] at hrd;cases hrd),fun i hi=>?_⟩
      obtain rfl:=hmem i hi
      have hDv:∀ j∈D,∃ v,wL Rs j v V'∧Kn N [(lP l j,v)] a:=by
        intro j hj
        unfold depsB at hD
        rw [List.all_eq_true] at hD
        have:=hD j hj
        simp only [Bool.and_eq_true,Nat.blt_eq] at this
        exact hvals j (by omega) (hall j (by omega))
      obtain⟨F',hF',hX⟩:=deps_all ha hDv (h V' hV)
      unfold wpOp
      simp only [show (l.toArray)[Rs.length]?=some o by simpa using ho]
      rw [if_pos (by simp [Region.wanted,hg])]
      refine .inl (Oper.wp_mono (fun a' w' hK=>⟨trivial,?_⟩) (gw_plain.1 hX a w hF' hs))
      unfold wpList at hK
      refine wpAnyH_done ?_ hK fuel
      apply List.eq_nil_iff_forall_not_mem.2
      intro i hi
      obtain⟨hun,o,ho,_⟩:=mem_ready.1 hi
      have hil:i<l.length:=by
        rcases Nat.lt_or_ge i l.length with h|h
        · exact h
        · rw [List.getElem?_toArray,List.getElem?_eq_none h] at ho;cases ho
      rw [pS (by omega)] at hun
      split at hun
      · cases hun
      · rw [hall i (by omega)] at hun;cases hun
end
end
section
theorem wrap_b8 (a:Int):IntKind.wrap .u8 a=((b8 a).toNat:Int):=by
  rw [b8_nat];simp [IntKind.wrap,IntKind.bits,IntKind.signed,Int.bmod]
theorem mF (l:List UInt8):(⟨l.toArray⟩:ByteArray).toList=l:=by rw [Lib.toList_data]
theorem nH (l:List UInt8):(⟨l.toArray⟩:ByteArray).size=l.length:=rfl
theorem ba_is (s:ByteArray):s=⟨s.toList.toArray⟩:=by rw [Lib.toList_data]
section
variable {P : Program} {B : Base} {N : Nat} {Q : Exit → Act → World → Prop} {k : List kI} {F : List (Nat × Value)} {V : aI} {L : List Box} {w : World}
variable {d : Option Tmp} {ty ty2 : TypeId} {pos : String} {af : Array Edge} {gd : Option (Nat × Bool)} {x y z : Operand} {T T2 : TypeId}
theorem fS {k0:IntKind} {s t:TypeId} {ds:TypeDesc} {a:Int} (hs:cM P s ds) (ht:cM P t (.int .u8)) (hx:evF F x=some (.int k0 a)):QP P B N V L ⟨d,.convert s t x,ty,pos,af,gd⟩ F (.int .u8 ((b8 a).toNat:Int)):=iH fun ac w ha _=>by
  have e:(Conv.intToInt .u8 a)=pure (.int .u8 ((b8 a).toNat:Int)):=by unfold Conv.intToInt;rw [wrap_b8]
  simp [execOp,ha.ev hx,convert,hs.h,ht.h,e]
theorem q_shr8 {k:IntKind} {t ty2:TypeId} {a:Int} (hx:evF F x=some (.int .i64 a)) (hy:evF F y=some (.int k 8)) (h:0≤a):QP P B N V L ⟨d,.binOp .shr t x y ty2,ty,pos,af,gd⟩ F (.int .i64 (a / 256)):=by
  refine tL hx hy (fun w=>by simp [eqGuard]) (fun w=>?_)
  have e:a.fdiv 256=a / 256:=Int.fdiv_eq_ediv_of_nonneg a (by decide)
  simp [binOp,Op.shift,IntKind.bits,e]
theorem ba_app (l m:List UInt8):(⟨l.toArray⟩:ByteArray) ++ ⟨m.toArray⟩=⟨(l ++ m).toArray⟩:=by
  apply ByteArray.ext;rw [ByteArray.data_append];simp
theorem jU {l m:List UInt8} (hx:evF F x=some (.string ⟨l.toArray⟩)) (hy:evF F y=some (.string ⟨m.toArray⟩)) (h:l.length+m.length≤1000000000):QP P B N V L ⟨d,.binOp .add T x y ty2,ty,pos,af,gd⟩ F (.string ⟨(l ++ m).toArray⟩):=by
  have:=tX (P:=P) (B:=B) (N:=N) (V:=V) (L:=L) (d:=d) (ty:=ty) (ty2:=ty2) (pos:=pos) (af:=af) (gd:=gd) (t:=T) hx hy (by rw [nH,nH];omega)
  rw [ba_app] at this;exact this
theorem q_sadds {l:List UInt8} {s:ByteArray} (hx:evF F x=some (.string ⟨l.toArray⟩)) (hy:evF F y=some (.string s)) (h:l.length+s.size≤1000000000):QP P B N V L ⟨d,.binOp .add T x y ty2,ty,pos,af,gd⟩ F (.string ⟨(l ++ s.toList).toArray⟩):=by
  rw [ba_is s] at hy
  exact jU hx hy (by rw [Lib.toList_data];exact h)
theorem xI {g m:Nat} {us:List UInt8} (h:aL V g 0 (u8C us)) (hm:us.length=m):cG B V L 1 (some ⟨g,0,none⟩) m (u8C us):=fW ⟨by rw [uZ];omega,fun _=>⟨g,0,rfl,h⟩⟩
theorem q_indexAddrA {E sz b o n m:Nat} (hu:cM P T (.array n E)) (hS:eD P E sz) (hn:Nat.ble 2 n=true) (hx:evF F x=some (.pointer (some ⟨b,o,none⟩))) (hi:evF F y=some (.int .i64 (m:Int))) (hk:m<n):QP P B N V L ⟨d,.indexAddr T x y,ty,pos,af,gd⟩ F (.pointer (some ⟨b,o+m * sz,none⟩)):=iH fun ac w ha hs=>by
  have h1:¬n≤m:=by omega
  have h2:=Nat.le_of_ble_eq_true hn
  simp [execOp,ha.ev hx,ha.ev hi,Instr.indexAt,Instr.sureAddr,asIntOf,hu.h,hS.h,hk,h1,jN]
structure BuildA (P:Program) (T:TypeId) (sz:Nat) (zs:List Value):Prop where
  h:(∃ n E,(∀ w,(underlying T).run P w=.ok (.array n E) w)∧∀ w,(sizeOf E).run P w=.ok sz w)∧∃ z,(∀ w,(zeroValue T).run P w=.ok z w)∧z.cells=zs.toArray
theorem run_buildA {sz:Nat} {zs us:List Value} {vs:List (Nat×Value)} (hb:BuildA P T sz zs) (hf:qK (fun i=>some (i * sz,sz)) zs vs=some us) (w:World):(Instr.build T vs.toArray).run P w=.ok (.agg us.toArray) w:=by
  obtain⟨⟨n,E,h1,h2⟩,z,h3,h4⟩:=hb.h
  have hfill:=pV _ _ _ _ hf
  unfold Instr.build
  simp only [Sem.run_bind,h3,Result.andThen_ok,h1,h2,h4]
  rw [hfill]
  rfl
theorem q_buildA {sz:Nat} {zs us:List Value} {ps:List (Nat×Operand)} {vs:List (Nat×Value)} (hb:BuildA P T sz zs) (hp:evP F ps=some vs) (hf:qK (fun i=>some (i * sz,sz)) zs vs=some us):QP P B N V L ⟨d,.build T ps.toArray,ty,pos,af,gd⟩ F (.agg us.toArray):=iH fun a w ha _=>by
  have h:=ha.evP hp
  have e:(ps.toArray.map fun (p:Nat×Operand)=>(p.1,a.eval p.2))=vs.toArray:=by rw [←h];simp
  have hr:=run_buildA hb hf w
  rw [←e] at hr
  simp only [execOp]
  have e2:(ps.toArray.map fun x=>match x with|(i,x)=>(i,a.eval x))=(ps.toArray.map fun (p:Nat×Operand)=>(p.1,a.eval p.2)):=rfl
  rw [e2,Sem.run_bind,hr]
  rfl
theorem fn_enterH {N:Nat} {f:FuncId} {fn:Func} {c:Code} {args:List Value} {Bs:List Box} {R:Value→aI→List Box→Prop} (hf:P.funcs[f]?=some fn) (hb:fn.body=some c) (hN:fn.ntmps=N) (hsz:Nat.ble args.length N=true)
    (h:∀ w,(∀ x∈jK Bs,x<w.heap.size)→GoC P ⟨V,w,jK Bs⟩ N c (bodyPost P fn (tT V w Bs R)) [] (xY args 0) V Bs):FnB P f args V Bs R:=fun w hV=>by
  have hlt:∀ x∈jK Bs,x<w.heap.size:=fun x hx=>by
    unfold jK at hx
    obtain⟨b,hb,rfl⟩:=List.mem_map.1 hx
    exact hV.lt hb
  refine calls_of_wp hf hb (h w hlt _ w ⟨rfl,?_,fun t v hv=>?_⟩ hV)
  · have:=Nat.le_of_ble_eq_true hsz
    simp [hN];omega
  · obtain⟨_,h2⟩:=pH args 0 t v hv
    have hlt:t<args.length:=by
      rcases Nat.lt_or_ge t args.length with hl|hl
      · exact hl
      · rw [List.getElem?_eq_none (by omega)] at h2;cases h2
    rw [List.getElem?_eq_getElem (by omega)] at h2
    simp only [Nat.sub_zero] at h2
    injection h2 with h2
    simp [Array.getElem?_append,hlt,h2]
theorem St.retireN (hs:St B V L w) {L':List Box} {g:Nat} {cs:List Value} (h:gH L g cs L') (hfl:g∉B.fl):∃ V',VLe V V'∧aL V' g 0 cs∧St B V' L' w:=by
  obtain⟨⟨t,hm⟩,h2,h3⟩:=h.mem
  obtain⟨h4,h5⟩:=h3 hs.nodup
  have ho:=hs.own _ hm
  have hne:∀ p x,V p=some x→p.block≠g:=fun p x hp e=>(hs.view p x hp).2 _ hm e.symm
  refine⟨boxedV V w g,fun p x hp=>?_,fun j v hj=>?_,⟨hs.ext,fun p x hp=>?_,fun p x hp hb=>?_,fun p x hp=>?_,fun b hb=>hs.own b (h2 b hb),h4⟩⟩
  · rw [jY (hne p x hp)];exact hp
  · rw [vH (g:=g) (p:=⟨g,0+j,none⟩) rfl,Nat.zero_add,hs.cell ⟨t,hm⟩];exact hj
  · by_cases e:p.block=g
    · rw [vH e] at hp
      exact⟨hp,fun b hb=>by rw [e];exact h5 b hb⟩
    · rw [jY e] at hp
      exact⟨(hs.view p x hp).1,fun b hb=>(hs.view p x hp).2 b (h2 b hb)⟩
  · by_cases e:p.block=g
    · rcases ho.2 with h6|h6
      · simp only [] at h6
        omega
      · exact absurd h6 hfl
    · rw [jY e] at hp
      exact hs.old p x hp hb
  · rw [jY (hne p x (hs.v0 p x hp))];exact hs.v0 p x hp
theorem pT {dr:iI} {ops:Array Oper} {rest:List Oper} (hdr:dr.loud=true) (hfl:∀ x∈B.fl,x<B.w.heap.size) {E sz len:Nat} {z:Value} {zs us:List Value} {ps:List (Nat×Operand)} {vs:List (Nat×Value)} (hu:cM P T (.slice E)) (hS:eD P E sz) (hz':iU P E z)
    {zc:List Value} (hzc:z.cells=zc.toArray) (hzl:sz=zc.length) (hzs:repL len zc=zs) (hp:evP F ps=some vs) (hf:qK (fun i=>some (i * sz,sz)) zs vs=some us) (hlen:(Nat.ble (len * sz) 16777216 && !Nat.beq (len * sz) 0)=true) (hd:okD N d=true)
    (h:∀ g V',VLe V V'→aL V' g 0 us→GoL P B N dr ops Q k rest (sJ F d (.slice (some ⟨g,0,none⟩) len len)) V' L):GoW P B N dr ops Q k ⟨d,.buildSlice T len ps.toArray,ty,pos,af,gd⟩ rest F V L:=jB hdr fun a w ha hs=>by
  obtain⟨V',hV',hg,hs'⟩:=(hs.alloc E us).retireN (gH.here _ _ _ _) (fun hx=>by have:=hfl _ hx;have:=hs.ext.sz;omega)
  refine oD (w':=w.alloc (.cells us.toArray E)) (v:=.slice (some ⟨w.heap.size,0,none⟩) len len) ?_ (gS hdr (h w.heap.size V' hV' hg) _ _ (ha.put hd _) hs')
  have hh:=ha.evP hp
  have e:(ps.toArray.map fun x=>match x with|(i,x)=>(i,a.eval x))=vs.toArray:=by rw [←hh];simp
  have hz:=hz'.h
  simp only [Bool.and_eq_true,Bool.not_eq_true'] at hlen
  have h1:=Nat.le_of_ble_eq_true hlen.1
  have h2:len * sz≠0:=fun e=>by rw [e] at hlen;simp at hlen
  have hfill:=pV _ _ _ _ hf
  simp only [execOp]
  rw [e]
  unfold Instr.buildSlice
  have e3:¬(2 ^ 24<len * sz):=by omega
  have h3:len≠0∧sz≠0:=⟨fun e=>h2 (by simp [e]),fun e=>h2 (by simp [e])⟩
  have hrep:(Array.range (len * sz)).map (fun i=>z.cells[i % z.cells.size]!)=zs.toArray:=by rw [hzc,hzl,rep_cells,hzs]
  simp [hu.h,hS.h,hz,e3,h3.1,h3.2,hrep,hfill]
  rw [if_neg h2]
  rfl
end
theorem cQ {l:List Oper} {Rs:List tO} {V':aI} {D:List Nat} {X:List (Nat×Value)→Prop} {F:List (Nat×Value)} {j d:Nat} {x:Value} (hR:wL Rs j=fun v _=>v=x) (hd:lP l j=d) (h:Deps l Rs V' D X ((d,x) :: F)):Deps l Rs V' (j :: D) X F:=fun v hv=>by
  rw [hR] at hv;obtain rfl:v=x:=hv;rw [hd];exact h
theorem deps_new {l:List Oper} {Rs:List tO} {V':aI} {D:List Nat} {X:List (Nat×Value)→Prop} {F:List (Nat×Value)} {j d m:Nat} {cs:List Value} (hR:wL Rs j=newR m cs) (hd:lP l j=d) (h:∀ g,aL V' g 0 cs→Deps l Rs V' D X ((d,.slice (some ⟨g,0,none⟩) m m) :: F)):Deps l Rs V' (j :: D) X F:=fun v hv=>by
  rw [hR] at hv;obtain⟨g,rfl,hg⟩:=hv;rw [hd];exact h g hg
theorem cF {l:List Oper} {Rs:List tO} {V':aI} {X:List (Nat×Value)→Prop} {F:List (Nat×Value)} (h:X F):Deps l Rs V' [] X F:=h
end
section
def parts:List UInt8→List (List UInt8)
  | []=>[[]]
  | c :: l=>if c=47 then [] :: parts l else (match parts l with|[]=>[[c]]|p :: ps=>(c :: p) :: ps)
theorem parts_no:∀ {l:List UInt8},(∀ c∈l,¬c=47)→parts l=[l]
  | [],_=>rfl
  | c :: l,h=>by rw [parts,if_neg (h c (by simp)),parts_no fun d hd=>h d (by simp [hd])]
theorem parts_at:∀ {a b:List UInt8},(∀ c∈a,¬c=47)→parts (a ++ 47 :: b)=a :: parts b
  | [],b,_=>by rw [List.nil_append,parts,if_pos rfl]
  | c :: a,b,h=>by rw [List.cons_append,parts,if_neg (h c (by simp)),parts_at fun d hd=>h d (by simp [hd])]
theorem index_no:∀ {l:List UInt8},Lib.indexByte l 47<0→∀ c∈l,¬c=47
  | [],_=>by simp
  | b :: l,h=>by
    unfold Lib.indexByte at h
    split at h
    · omega
    · rename_i hb
      split at h
      · rename_i h2
        have h2:Lib.indexByte l 47 = -1:=by simpa using h2
        intro c hc
        rcases List.mem_cons.1 hc with rfl|hc
        · simpa using hb
        · exact index_no (by omega) c hc
      · have:=Lib.indexByte_ge l 47
        rename_i h2
        have h2:¬Lib.indexByte l 47 = -1:=by simpa using h2
        omega
theorem index_at:∀ {l:List UInt8},0≤Lib.indexByte l 47→(∀ c∈l.take (Lib.indexByte l 47).toNat,¬c=47)∧l=l.take (Lib.indexByte l 47).toNat ++ 47 :: l.drop ((Lib.indexByte l 47).toNat+1)∧(Lib.indexByte l 47).toNat<l.length
  | [],h=>by simp [Lib.indexByte] at h
  | b :: l,h=>by
    unfold Lib.indexByte at h ⊢
    by_cases hb:b=47
    · subst hb;simp
    · have hb':(b == 47)=false:=by simpa using hb
      rw [hb'] at h ⊢
      by_cases h2:Lib.indexByte l 47 = -1
      · rw [h2] at h;simp at h
      · have h3:(Lib.indexByte l 47 == -1)=false:=by simpa using h2
        rw [h3] at h ⊢
        simp only [Bool.false_eq_true,if_false] at h ⊢
        have h4:=Lib.indexByte_ge l 47
        have h5:0≤Lib.indexByte l 47:=by omega
        obtain⟨g1,g2,g3⟩:=index_at h5
        rw [show (Lib.indexByte l 47+1).toNat=(Lib.indexByte l 47).toNat+1 by omega]
        refine⟨fun c hc=>?_,?_,by simp only [List.length_cons];omega⟩
        · rw [List.take_succ_cons] at hc
          rcases List.mem_cons.1 hc with rfl|hc
          · exact hb
          · exact g1 c hc
        · rw [List.take_succ_cons,List.drop_succ_cons,List.cons_append,←g2]
def xK (ps:List (List UInt8)):Bool:=ps.all eX
def dY (l:List UInt8):Int:=if l=[47] then 0 else if l=[]∨¬l.head?=some 47∨79<l.length then 4 else if ¬xK (parts (l.drop 1))=true then 4 else if 6<(parts (l.drop 1)).length then 2 else 0
def baL (ps:List (List UInt8)):List ByteArray:=ps.map fun p=>⟨p.toArray⟩
def aK (l:List UInt8):List ByteArray:=if dY l=0∧¬l=[47] then baL (parts (l.drop 1)) else []
def nY (above l:List ByteArray):Bool:=decide (above.length≤l.length) && decide (above=l.take above.length)
end
section
def xC (p:Nat) (l:List UInt8) (Bs:List Box):Prop:=∃ (a A:Option Addr) (c:Nat) (L1:List Box),Bs=⟨p,264,[.pointer a,.slice A l.length c]⟩ :: L1∧cU A l.length c 5 1 (u8C l) L1∧(A=none∨0<c)∧(a=none∨a=some ⟨p,0,none⟩)
theorem xC.nil {p:Nat}:xC p [] [⟨p,264,[.pointer none,.slice none 0 0]⟩]:=⟨none,none,0,[],rfl,cU.nil,.inl rfl,.inl rfl⟩
theorem xC.of {p n c:Nat} {a A:Option Addr} {l:List UInt8} {L1:List Box} (hr:cU A n c 5 1 (u8C l) L1) (hn:n=l.length) (hA:A=none∨0<c) (ha:a=none∨a=some ⟨p,0,none⟩):xC p l (⟨p,264,[.pointer a,.slice A n c]⟩ :: L1):=by
  subst hn;exact⟨a,A,c,L1,rfl,hr,hA,ha⟩
theorem ptr_bld:PtrIs Tryz.prog 262:=⟨by kernel_rfl⟩
theorem pinf_bld:PInf Tryz.prog 262:=⟨by obtain⟨i,h0,_⟩:=info_parts (show (Tryz.prog.info? 264).map (fun i=>(i.zero,i.size,i.bytes))=some (some (.agg #[.pointer none,.slice none 0 0]),2,32) by kernel_rfl);exact⟨_,i,Tryz.underlying262,h0⟩⟩
theorem und_upt:cM Tryz.prog 336 .unsafePointer:=⟨Tryz.underlying336⟩
theorem und_bptr:cM Tryz.prog 262 (.pointer 264):=⟨Tryz.underlying262⟩
theorem und_uptr:cM Tryz.prog 323 (.pointer 5):=⟨Tryz.underlying323⟩
theorem sz_bld:SzInf Tryz.prog 264:=⟨by obtain⟨i,h0,_,h2,_⟩:=info_parts (show (Tryz.prog.info? 264).map (fun i=>(i.zero,i.size,i.bytes))=some (some (.agg #[.pointer none,.slice none 0 0]),2,32) by kernel_rfl);exact⟨i,h0,by rw [h2];decide⟩⟩
theorem lies_bld:liesAt Tryz.prog Tryz.prog.depth 264 (2 / Tryz.prog.cellsOf 264) 0 264 1=true:=by kernel_rfl
theorem ext_noesc:ExternIs Tryz.prog 271 Extern.AbiNoEscape.same:=⟨fun args w=>run_callFunc_extern Tryz.func271 (by kernel_rfl) (by kernel_rfl) (by kernel_rfl) (by kernel_rfl) args w⟩
theorem u8_inf:U8Inf Tryz.prog 5:=⟨info_parts (show (Tryz.prog.info? 5).map (fun i=>(i.zero,i.size,i.bytes))=some (some (.int .u8 0),1,1) by kernel_rfl)⟩
theorem u8_cell:Tryz.prog.cellsOf 5=1:=by kernel_rfl
attribute [local irreducible] AtQ GoC GoL GoW QO QP Fn RV bX aL VLe cG bT
theorem copyCheck_c (V:aI) (p:Nat) (A:Option Addr) (n c:Nat) (L1:List Box) (a:Option Addr) (ha:a=none∨a=some ⟨p,0,none⟩) :
    FnB Tryz.prog 266 [.pointer (some ⟨p,0,none⟩)] V (⟨p,264,[.pointer a,.slice A n c]⟩ :: L1) fun v _ Bs=>v=.tuple #[]∧Bs=⟨p,264,[.pointer (some ⟨p,0,none⟩),.slice A n c]⟩ :: L1:=by
  rcases ha with rfl|rfl
  · (refine bI Tryz.func266 rfl Tryz.ntmps266 rfl ?_;intro w0)
    repeat' (first|(refine aE ?_;first|(refine cX ?_;(first|refine aR (q_pneq_same pinf_bld rfl rfl) ?_|refine aR (lO ptr_bld rfl) ?_))|(refine gL ?_;(first|refine aR (q_fromUnsafe und_upt und_bptr sz_bld rfl (ownT_here rfl) lies_bld) ?_|refine aR (q_toUnsafe und_bptr und_upt sz_bld rfl (ownT_here rfl) rfl) ?_))|(refine aD ?_;refine aR (q_extern ext_noesc rfl (fun w=>Lib.run_noEscape w _)) ?_)|refine st9 ?_|refine pu9 ?_)|refine cD ?_|fail)
    (first|refine nB Tryz.results266  (List.Sublist.refl _) ?_|refine nC Tryz.results266 (List.Sublist.refl _) ?_)
    exact⟨rfl,rfl⟩
  · (refine bI Tryz.func266 rfl Tryz.ntmps266 rfl ?_;intro w0)
    repeat' (first|(refine aE ?_;first|(refine cX ?_;(first|refine aR (q_pneq_same pinf_bld rfl rfl) ?_|refine aR (lO ptr_bld rfl) ?_))|refine pu9 ?_)|refine cD ?_|fail)
    (first|refine nB Tryz.results266  (List.Sublist.refl _) ?_|refine nC Tryz.results266 (List.Sublist.refl _) ?_)
    exact⟨rfl,rfl⟩
theorem jQ (V:aI) (p:Nat) (l:List UInt8) (Bs:List Box) (h:xC p l Bs) (s:ByteArray) (hm:l.length+s.size≤1000000000) :
    FnB Tryz.prog 248 [.pointer (some ⟨p,0,none⟩),.string s] V Bs fun v _ Bs'=>v=.tuple #[.int .i64 (s.size:Int),.nilIface]∧xC p (l ++ s.toList) Bs':=by
  obtain⟨a,A,c,L1,rfl,hr,hA,ha⟩:=h
  (refine bI Tryz.func248 rfl Tryz.ntmps248 rfl ?_;intro w0)
  repeat' (first|(refine aE ?_;first|(refine aD ?_;(refine aW rfl ⟨Tryz.call266⟩ rfl bF rfl (copyCheck_c _ p A l.length c L1 a ha) ?_;rintro v V1 B1 hV1 ⟨rfl,rfl⟩))|refine pu9 ?_)|refine bV ?_|fail)
  repeat' (first|(refine aE ?_;first|(refine aD ?_;(refine pU rfl und_145 und_9 u8_inf rfl rfl hr hA bF (by omega) rfl ?_;intro A2 c2 L2 hr2 hA2))|refine st9 ?_|refine pu9 ?_)|refine bV ?_|fail)
  (refine dB Tryz.results248 (aB rfl) (aB rfl) (List.Sublist.refl _) ?_)
  exact⟨rfl,xC.of (by rw [nD];exact hr2) (by rw [List.length_append,show s.toList.length=s.size by rw [Lib.toList_data];rfl]) hA2 (.inr rfl)⟩
theorem BString_c (V:aI) (p:Nat) (l:List UInt8) (Bs:List Box) (h:xC p l Bs) (hm:l.length≤1000000000) :
    FnB Tryz.prog 199 [.pointer (some ⟨p,0,none⟩)] V Bs fun v _ _=>v=.string ⟨l.toArray⟩:=by
  obtain⟨a,A,c,L1,rfl,hr,hA,ha⟩:=h
  cases l with
  | nil =>
    cases A with
    | none =>
      (refine bI Tryz.func199 rfl Tryz.ntmps199 rfl ?_;intro w0)
      repeat' (first|(refine aE ?_;refine pu9 ?_)|refine bV ?_|fail)
      refine bM (id:=1) _ mixed (List.Sublist.refl _) ?_;refine gt9 0 ?_;refine gt9 1 ?_;refine gt9 2 ?_;refine gt9 3 ?_;refine fP 4 rfl rfl (q_slData0 rfl) ?_;refine gt9 5 ?_;refine gt9 6 ?_;refine gt9 7 ?_;refine gt9 8 ?_;refine gt9 9 ?_;refine aY (i:=10) rfl ?_;(refine aR (q_ustr0 rfl rfl) ?_);refine gt9 11 ?_;refine aU (by kernel_rfl) vl9 vl9 bD ?_
      repeat' (first|refine gx9 ?_|fail)
      (refine bC Tryz.results199 (aB rfl) (List.Sublist.refl _) ?_)
      rfl
    | some ad =>
      obtain⟨g,rfl⟩:∃ g,ad=⟨g,0,none⟩:=by
        rcases hr.2 with ⟨_,h,_⟩|⟨g,_,h,_⟩
        · cases h
        · injection h with h;exact⟨g,h⟩
      have hc:0<c:=by
        rcases hA with h|h
        · cases h
        · exact h
      (refine bI Tryz.func199 rfl Tryz.ntmps199 rfl ?_;intro w0)
      repeat' (first|(refine aE ?_;refine pu9 ?_)|refine bV ?_|fail)
      refine bM (id:=1) _ mixed (List.Sublist.refl _) ?_;refine gt9 0 ?_;refine gt9 1 ?_;refine gt9 2 ?_;refine gt9 3 ?_;refine fP 4 rfl rfl (q_slData rfl hc) ?_;refine gt9 5 ?_;refine gt9 6 ?_;refine gt9 7 ?_;refine gt9 8 ?_;refine gt9 9 ?_;refine aY (i:=10) rfl ?_;(refine aR (q_ustr0 rfl rfl) ?_);refine gt9 11 ?_;refine aU (by kernel_rfl) vl9 vl9 bD ?_
      repeat' (first|refine gx9 ?_|fail)
      (refine bC Tryz.results199 (aB rfl) (List.Sublist.refl _) ?_)
      rfl
  | cons b l =>
    obtain⟨g,rfl⟩:∃ g,A=some ⟨g,0,none⟩:=by
      rcases hr.2 with ⟨_,_,h,_⟩|⟨g,_,h,_⟩
      · simp at h
      · exact⟨g,h⟩
    have hc:0<c:=by
      rcases hA with h|h
      · cases h
      · exact h
    (refine bI Tryz.func199 rfl Tryz.ntmps199 rfl ?_;intro w0)
    repeat' (first|(refine aE ?_;refine pu9 ?_)|refine bV ?_|fail)
    refine bM (id:=1) _ mixed (List.Sublist.cons_cons _ (List.nil_sublist _)) ?_;refine gt9 0 ?_;refine gt9 1 ?_;refine gt9 2 ?_;refine gt9 3 ?_;refine fP 4 rfl rfl (q_slData rfl hc) ?_;refine gt9 5 ?_;refine gt9 6 ?_;refine gt9 7 ?_;refine gt9 8 ?_;refine gt9 9 ?_;refine aY (i:=10) rfl ?_;(refine gw_ustr rfl und_uptr u8_cell rfl rfl rfl hr bF (by simp) rfl ?_);refine gt9 11 ?_;refine aU (by kernel_rfl) vl9 vl9 bD ?_
    repeat' (first|refine gx9 ?_|fail)
    (refine bC Tryz.results199 (aB rfl) (List.Sublist.refl _) ?_)
    rfl
end
section
theorem ext_index:ExternIs Tryz.prog 289 Extern.BytealgIndexByte.indexByte:=⟨fun args w=>run_callFunc_extern Tryz.func289 (by kernel_rfl) (by kernel_rfl) (by kernel_rfl) (by kernel_rfl) args w⟩
theorem fA {V V':aI} {p:Addr} {v:Value} (h:VLe V V') (hp:V p=some v):V' p=some v:=h p v hp
abbrev slash:ByteArray:=⟨#[47]⟩
theorem slash_size:(slash.size:Int)=1:=rfl
theorem ex_take9 (l:List UInt8) (n:Nat):(⟨l.toArray⟩:ByteArray).extract 0 n=⟨(l.take n).toArray⟩:=by
  rw [ba_is ((⟨l.toArray⟩:ByteArray).extract 0 n),Lib.toList_data]
  simp [ByteArray.data_extract]
theorem ex_drop9 (l:List UInt8) (n:Nat):(⟨l.toArray⟩:ByteArray).extract n (⟨l.toArray⟩:ByteArray).size=⟨(l.drop n).toArray⟩:=by
  rw [ba_is ((⟨l.toArray⟩:ByteArray).extract n (⟨l.toArray⟩:ByteArray).size),Lib.toList_data]
  simp [ByteArray.data_extract,nH]
  exact List.take_of_length_le (by rw [List.length_drop];omega)
section
variable {P : Program} {B : Base} {N : Nat} {Q : Exit → Act → World → Prop} {k : List kI} {F : List (Nat × Value)} {V : aI} {L : List Box}
variable {d : Option Tmp} {ty : TypeId} {pos : String} {af : Array Edge} {gd : Option (Nat × Bool)} {T0 : TypeId} {ops : Array Oper} {rest : List Oper}
theorem St.perm {w:World} {L':List Box} (hs:St B V L w) (hp:L'.Perm L):St B V L' w :=
  ⟨hs.ext,fun p v h=>⟨(hs.view p v h).1,fun b hb=>(hs.view p v h).2 b (hp.mem_iff.1 hb)⟩,hs.old,hs.v0,fun b hb=>hs.own b (hp.mem_iff.1 hb),(hp.map Box.g).nodup_iff.2 hs.nodup⟩
end
attribute [local irreducible] AtQ GoC GoL GoW QO QP Fn RV bX aL VLe cG bT
theorem IndexByte_c (V:aI) (l:List UInt8):Fn Tryz.prog 274 [.string ⟨l.toArray⟩,.int .u8 47] V fun v _=>v=.int .i64 (Lib.indexByte l 47):=by
  (refine aH Tryz.func274 rfl Tryz.ntmps274 rfl ?_;intro w0)
  repeat' (first|(refine aE ?_;first|(refine aD ?_;refine aR (q_extern ext_index rfl (fun w=>Lib.run_indexByteString _ _ w)) ?_)|refine pu9 ?_)|refine dQ ?_|(refine aJ rfl rfl rfl ?_ ?_<;>intro hq<;>try exact no9)|(refine bU rfl rfl rfl ?_ ?_<;>intro hq)|(refine aA rfl ?_ ?_<;>intro hq<;>try exact no9)|(refine bP rfl ?_ ?_<;>intro hq))
  all_goals (refine aQ Tryz.results274 (aB rfl) ?_)
  all_goals rfl
theorem Index_c (V:aI) (l:List UInt8):Fn Tryz.prog 269 [.string ⟨l.toArray⟩,.string slash] V fun v _=>v=.int .i64 (Lib.indexByte l 47):=by
  have hs:=slash_size
  have hc:slash[(0:Int).toNat]?=some 47:=by rfl
  (refine aH Tryz.func269 rfl Tryz.ntmps269 rfl ?_;intro w0)
  repeat' (first|(refine aE ?_;first|(refine aD ?_;refine aN rfl (aG ⟨Tryz.call274⟩ rfl (IndexByte_c _ l)) ?_)|(refine mX ?_;refine aR (kF und_9 rfl rfl (by omega) (by assumption)) ?_)|refine pu9 ?_)|refine cV ?_|(refine aA rfl ?_ ?_<;>intro hq<;>try exact no9))
  · (refine aQ Tryz.results269 (aB rfl) ?_)
    have e:l=[47]:=by have:=congrArg ByteArray.toList hq;rw [mF,mF] at this;exact this.symm
    rw [e];rfl
  · (refine aQ Tryz.results269 (aB rfl) ?_)
    rfl
def cutL (l:List UInt8):Value:=if 0≤Lib.indexByte l 47 then .tuple #[.string ⟨(l.take (Lib.indexByte l 47).toNat).toArray⟩,.string ⟨(l.drop ((Lib.indexByte l 47).toNat+1)).toArray⟩,.bool true] else .tuple #[.string ⟨l.toArray⟩,.string ⟨#[]⟩,.bool false]
theorem Cut_lc (V:aI) (l:List UInt8) (hl:l.length≤1000000):Fn Tryz.prog 259 [.string ⟨l.toArray⟩,.string slash] V fun v _=>v=cutL l:=by
  have hs:=slash_size
  have hsz:=nH l
  have hI:=Index_c V l
  unfold cutL
  by_cases h0:0≤Lib.indexByte l 47
  · obtain⟨_,_,h3⟩:=index_at h0
    rw [if_pos h0]
    (refine aH Tryz.func259 rfl Tryz.ntmps259 rfl ?_;intro w0)
    repeat' (first|(refine aE ?_;first|(refine aD ?_;refine aN rfl (aG ⟨Tryz.call269⟩ rfl (hI)) ?_)|(refine eG ?_;(first|refine aR (lX und_9 rfl rfl (by omega)) ?_|refine aR (uM und_9 rfl rfl (by omega)) ?_))|refine pu9 ?_)|refine bV ?_|(refine aA rfl ?_ ?_<;>intro hq<;>try exact no9)|refine bN (id:=3) mixed (by kernel_rfl) ?_)
    all_goals (refine eB Tryz.results259 (aB rfl) (aB rfl) (aB rfl) ?_)
    all_goals (rw [ex_take9,ex_drop9,show (Lib.indexByte l 47+(slash.size:Int)).toNat=(Lib.indexByte l 47).toNat+1 by omega])
  · rw [if_neg h0]
    (refine aH Tryz.func259 rfl Tryz.ntmps259 rfl ?_;intro w0)
    repeat' (first|(refine aE ?_;first|(refine aD ?_;refine aN rfl (aG ⟨Tryz.call269⟩ rfl (hI)) ?_)|refine pu9 ?_)|refine bV ?_|(refine aA rfl ?_ ?_<;>intro hq<;>try exact no9))
    all_goals (refine eB Tryz.results259 (aB rfl) (aB rfl) (aB rfl) ?_)
    all_goals rfl
theorem SCut_c (V:aI) (l:List UInt8) (hl:l.length≤1000000):Fn Tryz.prog 229 [.string ⟨l.toArray⟩,.string slash] V fun v _=>v=cutL l:=by
  have hC:=Cut_lc V l hl
  unfold cutL at *
  by_cases h0:0≤Lib.indexByte l 47
  · rw [if_pos h0] at hC ⊢
    (refine aH Tryz.func229 rfl Tryz.ntmps229 rfl ?_;intro w0)
    repeat' (first|(refine aE ?_;first|(refine aD ?_;refine aN rfl (aG ⟨Tryz.call259⟩ rfl (hC)) ?_)|refine pu9 ?_)|refine dQ ?_|(refine aJ rfl rfl rfl ?_ ?_<;>intro hq<;>try exact no9)|(refine bU rfl rfl rfl ?_ ?_<;>intro hq)|(refine aA rfl ?_ ?_<;>intro hq<;>try exact no9)|(refine bP rfl ?_ ?_<;>intro hq))
    all_goals (refine eB Tryz.results229 (aB rfl) (aB rfl) (aB rfl) ?_)
    all_goals rfl
  · rw [if_neg h0] at hC ⊢
    (refine aH Tryz.func229 rfl Tryz.ntmps229 rfl ?_;intro w0)
    repeat' (first|(refine aE ?_;first|(refine aD ?_;refine aN rfl (aG ⟨Tryz.call259⟩ rfl (hC)) ?_)|refine pu9 ?_)|refine dQ ?_|(refine aJ rfl rfl rfl ?_ ?_<;>intro hq<;>try exact no9)|(refine bU rfl rfl rfl ?_ ?_<;>intro hq)|(refine aA rfl ?_ ?_<;>intro hq<;>try exact no9)|(refine bP rfl ?_ ?_<;>intro hq))
    all_goals (refine eB Tryz.results229 (aB rfl) (aB rfl) (aB rfl) ?_)
    all_goals rfl
end
section
theorem take_ne {α:Type} {xs ys:List α} {k n:Nat} {a b:α} (hx:xs[k]?=some a) (hy:ys[k]?=some b) (h:¬a=b) (hk:k<n):¬xs.take n=ys.take n:=fun e=>by
  have:=congrArg (fun l=>l[k]?) e
  simp only [List.getElem?_take,if_pos hk,hx,hy] at this
  exact h (Option.some.inj this)
theorem underB_no {xs ys:List ByteArray} (h:¬xs.length≤ys.length):nY xs ys=false:=by unfold nY;rw [decide_eq_false h];rfl
theorem underB_ne {xs ys:List ByteArray} (h:¬xs=ys.take xs.length):nY xs ys=false:=by unfold nY;rw [decide_eq_false h,Bool.and_false]
theorem underB_yes {xs ys:List ByteArray} (h1:xs.length≤ys.length) (h:xs=ys.take xs.length):nY xs ys=true:=by unfold nY;rw [decide_eq_true h1,decide_eq_true h];rfl
theorem name_size {s:ByteArray} (h:eX s.toList=true):s.size≤12:=((nameZ_iff s).1 h).2.1
theorem pnot_t {b:Bool} (h:(!b)=true):b=false:=by cases b<;>simp_all
theorem pnot_f {b:Bool} (h:(!b)=false):b=true:=by cases b<;>simp_all
attribute [local irreducible] AtQ GoC GoL GoW QO QP Fn RV bX aL VLe cG bT
theorem SameNames_c (V:aI) (A B:Option Addr) (n c m e:Nat) (xs ys:List ByteArray) (h:bZ V A n xs) (g:bZ V B m ys):Fn Tryz.prog 88 [.slice A n c,.slice B m e] V fun v _=>v=.bool (decide (xs=ys)):=by
  have hl:=h.1.1
  have gl:=g.1.1
  have hm:=h.1.max
  have gm:=g.1.max
  (refine aH Tryz.func88 rfl Tryz.ntmps88 rfl ?_;intro w0)
  repeat' (first|(refine aE ?_;refine pu9 ?_)|refine bW ?_|(refine aA rfl ?_ ?_<;>intro hq<;>try exact no9))
  · (refine aQ Tryz.results88 (aB rfl) ?_)
    rw [decide_eq_false (fun e=>by subst e;omega)]
  · refine bQ (fun F V' L' m'=>∃ k:Nat,V=V'∧[]=L'∧k≤n∧xs.take k=ys.take k∧m'=n - k∧F=[(0,.slice A n c),(1,.slice B m e),(5,.int .i64 k)]) (m:=n) ⟨0,rfl,rfl,Nat.zero_le _,rfl,by omega,rfl⟩ bH rfl sl9 ?_
    rintro F V' L' m' ⟨k,rfl,rfl,hk,ht,rfl,rfl⟩
    by_cases hlt:k<n
    · obtain⟨b1,o1,x,rfl,hx,hc1,_⟩:=h.at_ hlt
      obtain⟨b2,o2,y,rfl,hy,hc2,_⟩:=g.at_ (k:=k) (by omega)
      repeat' (first|(refine aE ?_;refine pu9 ?_)|refine bW ?_|(refine aA rfl ?_ ?_<;>intro hq<;>try exact no9)|refine bN (id:=6) mixed (by kernel_rfl) ?_)
      all_goals first
        | ((refine aQ Tryz.results88 (aB rfl) ?_);rw [decide_eq_false (fun e=>by subst e;rw [hx] at hy;exact hq (Option.some.inj hy))];done)
        | (refine aZ _ (n - (k+1)) ⟨k+1,rfl,rfl,by omega,take_next hx hy ht (Decidable.not_not.1 hq),rfl,rfl⟩ (by omega) bH sl9)
    · repeat' (first|(refine aE ?_;refine pu9 ?_)|refine dR ?_|(refine aA rfl ?_ ?_<;>intro hq<;>try exact no9))
      (refine aQ Tryz.results88 (aB rfl) ?_)
      rw [List.take_of_length_le (by omega),List.take_of_length_le (by omega)] at ht
      rw [decide_eq_true ht]
theorem Under_c (V:aI) (A B:Option Addr) (n c m e:Nat) (xs ys:List ByteArray) (h:bZ V A n xs) (g:bZ V B m ys):Fn Tryz.prog 155 [.slice A n c,.slice B m e] V fun v _=>v=.bool (nY xs ys):=by
  have hl:=h.1.1
  have gl:=g.1.1
  have hm:=h.1.max
  have gm:=g.1.max
  (refine aH Tryz.func155 rfl Tryz.ntmps155 rfl ?_;intro w0)
  repeat' (first|(refine aE ?_;refine pu9 ?_)|refine bW ?_|(refine aA rfl ?_ ?_<;>intro hq<;>try exact no9))
  · (refine aQ Tryz.results155 (aB rfl) ?_)
    rw [underB_no (by omega)]
  · refine bQ (fun F V' L' m'=>∃ k:Nat,V=V'∧[]=L'∧k≤n∧xs.take k=ys.take k∧m'=n - k∧F=[(1,.slice B m e),(12,.slice A n c),(13,.int .i64 n),(14,.int .i64 k)]) (m:=n) ⟨0,rfl,rfl,Nat.zero_le _,rfl,by omega,rfl⟩ bH rfl sl9 ?_
    rintro F V' L' m' ⟨k,rfl,rfl,hk,ht,rfl,rfl⟩
    by_cases hlt:k<n
    · obtain⟨b1,o1,x,rfl,hx,hc1,_⟩:=h.at_ hlt
      obtain⟨b2,o2,y,rfl,hy,hc2,_⟩:=g.at_ (k:=k) (by omega)
      repeat' (first|(refine aE ?_;refine pu9 ?_)|refine bW ?_|(refine aA rfl ?_ ?_<;>intro hq<;>try exact no9))
      all_goals first
        | ((refine aQ Tryz.results155 (aB rfl) ?_);rw [underB_ne (fun e=>take_ne (n:=xs.length) hx hy (fun e2=>hq e2.symm) (by omega) (by rw [List.take_length];exact e))];done)
        | (refine aZ _ (n - (k+1)) ⟨k+1,rfl,rfl,by omega,take_next hx hy ht (Decidable.not_not.1 hq).symm,rfl,rfl⟩ (by omega) bH sl9)
    · repeat' (first|(refine aE ?_;refine pu9 ?_)|refine dR ?_|(refine aA rfl ?_ ?_<;>intro hq<;>try exact no9))
      (refine aQ Tryz.results155 (aB rfl) ?_)
      obtain rfl:k=n:=by omega
      rw [underB_yes (by omega) (by rw [hl,←ht,List.take_of_length_le (by omega)])]
theorem bZ.take {V:aI} {A:Option Addr} {n k:Nat} {xs:List ByteArray} (h:bZ V A n xs) (hk:k≤n):bZ V A k (xs.take k):=⟨h.1.take hk,fun x hx=>h.2 x (List.mem_of_mem_take hx)⟩
theorem RUnder_c (V:aI) (A B:Option Addr) (n c m e:Nat) (xs ys:List ByteArray) (h:bZ V A n xs) (g:bZ V B m ys) (hme:m≤e):Fn Tryz.prog 185 [.slice A n c,.slice B m e] V fun v _=>v=.bool (nY xs ys):=by
  have hl:=h.1.1
  have gl:=g.1.1
  have hm:=h.1.max
  have gm:=g.1.max
  (refine aH Tryz.func185 rfl Tryz.ntmps185 rfl ?_;intro w0)
  by_cases hle:n≤m
  · have hS:=SameNames_c V A B n c n e xs (ys.take n) h (g.take hle)
    repeat' (first|(refine aE ?_;first|(refine aD ?_;refine aN rfl (aG ⟨Tryz.call88⟩ rfl (hS)) ?_)|(refine eG ?_;(first|refine aR (cE und_47 siz_9 rfl rfl (by omega)) ?_|refine aR (dS und_47 siz_9 rfl rfl (by omega)) ?_))|refine pu9 ?_)|refine bV ?_|(refine aJ rfl rfl rfl ?_ ?_<;>intro hq<;>try exact no9))
    all_goals (refine aQ Tryz.results185 (aB rfl) ?_)
    all_goals (unfold nY;simp [hl,gl,hle])
  · repeat' (first|(refine aE ?_;refine pu9 ?_)|refine bV ?_|(refine aJ rfl rfl rfl ?_ ?_<;>intro hq<;>try exact no9))
    all_goals (refine aQ Tryz.results185 (aB rfl) ?_)
    all_goals rw [underB_no (by omega)]
    all_goals (simp;omega)
end
section
def Rise (l:List PF):Prop:=(l.map Prod.snd).Pairwise (·<·)∧∀ f∈l,0≤f.2
theorem Rise.sub {l l':List PF} (h:Rise l) (hs:(l'.map Prod.snd).Sublist (l.map Prod.snd)):Rise l':=⟨h.1.sublist hs,fun f hf=>by
  obtain⟨g,hg,he⟩:=List.mem_map.1 (hs.subset (List.mem_map_of_mem (f:=Prod.snd) hf))
  rw [←he];exact h.2 g hg⟩
theorem layP_ge:∀ (l:List PN) (i:Int),∀ f∈iA i l,i≤f.2
  | [],_,_,h=>by cases h
  | n :: l,i,f,h=>by
    rw [iA] at h
    rcases List.mem_cons.1 h with rfl|h
    · exact Int.le_refl _
    · have:=layP_ge l (i+1) f h;omega
theorem layP_rise:∀ (l:List PN) (i:Int),0≤i→Rise (iA i l)
  | [],_,_=>⟨List.Pairwise.nil,by simp [iA]⟩
  | n :: l,i,h=>by
    obtain⟨h1,h2⟩:=layP_rise l (i+1) (by omega)
    refine⟨?_,fun f hf=>?_⟩
    · rw [iA,List.map_cons,List.pairwise_cons]
      refine⟨fun x hx=>?_,h1⟩
      obtain⟨g,hg,rfl⟩:=List.mem_map.1 hx
      have:=layP_ge l (i+1) g hg
      show i<g.2;omega
    · have:=layP_ge (n :: l) i f hf;omega
theorem sV:∀ l:List PF,(dI l).Sublist l
  | []=>List.Sublist.refl _
  | f :: l=>by
    rw [dI];split
    · split
      · exact List.Sublist.cons_cons _ (List.nil_sublist _)
      · exact(sV l).cons_cons _
    · exact List.nil_sublist _
theorem shownP_subl (l:List PF):(dJ l).Sublist l:=by
  cases l with
  | nil=>exact List.Sublist.refl _
  | cons f l =>
    rw [dJ];split
    · exact List.Sublist.cons_cons _ (List.nil_sublist _)
    · exact sV _
theorem kidP_lay {s:ByteArray} {f g:PF} (h:gU s f=some g):g.2=f.2:=by
  unfold gU at h
  split at h
  · cases h2:dV f.1.ks s with
    | none=>rw [h2] at h;cases h
    | some x=>rw [h2] at h;cases h;rfl
  · cases h
theorem fm_lay (s:ByteArray):∀ l:List PF,((l.filterMap (gU s)).map Prod.snd).Sublist (l.map Prod.snd)
  | []=>List.Sublist.refl _
  | f :: l=>by
    rw [List.filterMap_cons]
    cases h:gU s f with
    | none=>exact(fm_lay s l).cons _
    | some g =>
      simp only [List.map_cons,kidP_lay h]
      exact(fm_lay s l).cons_cons _
theorem stepP_rise {l:List PF} (s:ByteArray) (h:Rise l):Rise (cO l s):=h.sub (((shownP_subl _).map Prod.snd).trans (fm_lay s l))
theorem walkP_rise (l:List PN) (ss:List ByteArray):Rise (bY l ss):=by
  have key:∀ (ss:List ByteArray) (a:List PF),Rise a→Rise (ss.foldl cO a):=fun ss=>by
    induction ss with
    | nil=>intro a ha;exact ha
    | cons s ss ih=>intro a ha;exact ih _ (stepP_rise s ha)
  exact key ss _ ((layP_rise l 0 (Int.le_refl _)).sub ((shownP_subl _).map Prod.snd))
theorem fm_congr9 {α β:Type} {p q:α→Option β}:∀ {l:List α},(∀ x∈l,p x=q x)→l.filterMap p=l.filterMap q
  | [],_=>rfl
  | x :: l,h=>by rw [List.filterMap_cons,List.filterMap_cons,h x (by simp),fm_congr9 (fun y hy=>h y (by simp [hy]))]
def cutP:List PF→List PF
  | []=>[]
  | f :: t=>if f.2=0 then t else f :: t
theorem cut_kids {r:List PF} (s:ByteArray) (h:Rise r):r.filterMap (uY true s)=(cutP r).filterMap (gU s):=by
  cases r with
  | nil=>rfl
  | cons f t =>
    obtain⟨h1,h2⟩:=h
    rw [List.map_cons,List.pairwise_cons] at h1
    have h0:=h2 f (by simp)
    have ht:t.filterMap (uY true s)=t.filterMap (gU s):=fm_congr9 fun g hg=>by
      have:=h1.1 g.2 (List.mem_map_of_mem (f:=Prod.snd) hg)
      exact if_neg fun ⟨_,hz⟩=>by omega
    rw [cutP,List.filterMap_cons]
    by_cases hf:f.2=0
    · rw [if_pos hf,kidB_cut rfl hf];exact ht
    · rw [if_neg hf,List.filterMap_cons,show uY true s f=gU s f from if_neg fun ⟨_,hz⟩=>hf hz,ht]
theorem shown_opq {l t:List PF} {f:PF} (h:dJ l=f :: t) (ho:f.1.h.opq=true):t=[]:=by
  cases l with
  | nil=>cases h
  | cons g l =>
    rw [dJ] at h;split at h
    · cases h;rfl
    · rw [dI] at h;split at h
      · split at h
        · cases h;rfl
        · rename_i hg;cases h;exact absurd ho hg
      · cases h
theorem walkP_shown (l:List PN) (ss:List ByteArray):∃ r,bY l ss=dJ r:=by
  rcases List.eq_nil_or_concat ss with rfl|⟨ss,s,rfl⟩
  · exact⟨_,rfl⟩
  · exact⟨_,by unfold bY;rw [List.concat_eq_append,List.foldl_append];rfl⟩
theorem stackK_bare {l:List PN} {ss:List ByteArray}:∀ k,k<ss.length→lI l ss true k=bY l (ss.take k)
  | 0,_=>rfl
  | k+1,h=>by
    obtain⟨s,hs⟩:∃ s,ss[k]?=some s:=⟨_,List.getElem?_eq_getElem (by omega)⟩
    rw [qL hs,nP hs,stackK_bare k (by omega),Bool.true_and,decide_eq_false (by omega),kidB_false];rfl
theorem bare_last {l:List PN} {ss:List ByteArray} {k:Nat} {s:ByteArray} (hs:ss[k]?=some s) (hk:ss.length=k+1):lI l ss true (k+1)=cO (cutP (bY l (ss.take k))) s:=by
  rw [qL hs,stackK_bare k (by omega),Bool.true_and,decide_eq_true (by omega),cut_kids s (walkP_rise _ _)];rfl
def fO (l:List PN) (ss:List ByteArray):Bool:=decide (0<ss.length) && decide (0<(lI l ss true ss.length).length)
theorem dL.drop {V:aI} {A:Option Addr} {n k c:Nat} {fs:List LF} (h:dL V A n fs) (hk:k≤n) (hc:n≤c):dL V (xL A c k 9) (n - k) (fs.drop k):=⟨h.1.drop hk hc,fun f hf=>h.2 f (List.mem_of_mem_drop hf)⟩
theorem below_yes {l:List PN} {ss:List ByteArray} {k:Nat} {s:ByteArray} {r:List PF} (hs:ss[k]?=some s) (hk:ss.length=k+1) (hr:bY l (ss.take k)=r):fO l ss=decide (0<(cO (cutP r) s).length):=by
  unfold fO;rw [hk,bare_last hs hk,hr,decide_eq_true (by omega),Bool.true_and]
attribute [local irreducible] AtQ GoC GoL GoW QO QP Fn RV bX aL VLe cG bT
theorem RBelow_c (V:aI) (A:Option Addr) (n c:Nat) (xs:List LN) (h:dP V A n xs) (hn:n≤1000) (B:Option Addr) (m e:Nat) (ss:List ByteArray) (hs:bZ V B m ss):Fn Tryz.prog 186 [.slice A n c,.slice B m e] V fun v _=>v=.bool (fO (xs.map LN.n) ss):=by
  have hW:=Stack_c V A n c xs h hn B m e ss hs true
  have sl:=hs.1.1
  have hbe:fO (xs.map LN.n) ss=(decide (0<m) && decide (0<(lI (xs.map LN.n) ss true m).length)):=by unfold fO;rw [sl]
  rw [hbe]
  generalize lI (xs.map LN.n) ss true m=r at *
  (refine aH Tryz.func186 rfl Tryz.ntmps186 rfl ?_;intro w0)
  repeat' (first|(refine aE ?_;first|(refine aD ?_;(refine aM rfl ⟨Tryz.call240⟩ rfl rfl (hW) ?_;rintro v V1 hV1 ⟨A1,n1,c1,fs,rfl,hF1,hc1,rfl⟩;have hfl:=hF1.1.1))|refine pu9 ?_)|refine bV ?_|(refine aJ rfl rfl rfl ?_ ?_<;>intro hq<;>try exact no9))
  all_goals
    (refine aQ Tryz.results186 (aB rfl) ?_)
    first
      | (rw [List.length_map,hfl];first|rfl|(refine congrArg Value.bool ?_;first|exact(decide_eq_true (by omega)).symm|exact(decide_eq_false (by omega)).symm|exact decide_eq_decide.2 (by omega)))
      | (refine congrArg Value.bool ?_;simp;omega)
      | (refine congrArg Value.bool ?_;simp [*];omega)
end
section
attribute [local irreducible] AtQ GoC GoL GoW QO QP Fn RV bX aL VLe cG bT
theorem Below_c (V:aI) (A:Option Addr) (n c:Nat) (xs:List LN) (h:dP V A n xs) (hn:n≤1000) (B:Option Addr) (m e:Nat) (ss:List ByteArray) (hs:bZ V B m ss) (hme:m≤e):Fn Tryz.prog 156 [.slice A n c,.slice B m e] V fun v _=>v=.bool (fO (xs.map LN.n) ss):=by
  have sl:=hs.1.1
  have sm:=hs.1.max
  (refine aH Tryz.func156 rfl Tryz.ntmps156 rfl ?_;intro w0)
  by_cases h0:m=0
  · subst h0
    have hb:fO (xs.map LN.n) ss=false:=by unfold fO;rw [sl];rfl
    repeat' (first|(refine aE ?_;refine pu9 ?_)|refine cD ?_|fail)
    all_goals try exact no9
    all_goals
      (refine aQ Tryz.results156 (aB rfl) ?_)
      rw [hb]
  obtain⟨k,rfl⟩:∃ k,m=k+1:=⟨m - 1,by omega⟩
  obtain⟨b2,o2,s,rfl,hx,hc2,hss⟩:=hs.at_ (k:=k) (by omega)
  have hW:=Walk_c V A n c xs h hn _ k e (ss.take k) (hs.take (by omega))
  obtain⟨r,hr⟩:∃ r,bY (xs.map LN.n) (ss.take k)=r:=⟨_,rfl⟩
  have hbl:=below_yes hx sl hr
  have hrl:=nM (xs.map LN.n) (ss.take k)
  have hra:=h.1.1
  obtain⟨r0,hr0⟩:=walkP_shown (xs.map LN.n) (ss.take k)
  rw [hr] at hW hrl hr0
  rw [List.length_map] at hrl
  have hk1:(((k+1:Nat):Int) - 1).toNat=k:=by omega
  have hW':Fn Tryz.prog 227 [.slice A n c,.slice (some ⟨b2,o2,none⟩) (((k+1:Nat):Int) - 1).toNat e] V (qM r):=by rw [hk1];exact hW
  repeat' (first|(refine aE ?_;first|(refine aD ?_;(refine aM rfl ⟨Tryz.call227⟩ rfl rfl (hW') ?_;rintro v V1 hV1 ⟨A1,n1,c1,fs,rfl,hF1,hc1,rfl⟩))|(refine eG ?_;refine aR (dS und_47 siz_9 rfl rfl ⟨by omega,by omega⟩) ?_)|refine pu9 ?_)|refine fX ?_|refine dX [0,1,3] rfl ?_)
  all_goals try exact no9
  have hfl:=hF1.1.1
  rw [List.length_map] at hrl
  have hcell:V1 ⟨b2,o2+(((k+1:Nat):Int) - 1).toNat * 1,none⟩=some (.string s):=by rw [hk1];exact fA hV1 hc2
  have hnf:∀ {r:List PF} {m:Nat},r.length=m→Value.bool (decide ((m:Int)>0))=.bool (decide (0<r.length)):=fun h=>by rw [h];first|rfl|(refine congrArg Value.bool ?_;first|exact(decide_eq_true (by omega)).symm|exact(decide_eq_false (by omega)).symm|exact decide_eq_decide.2 (by omega))
  cases fs with
  | nil =>
    obtain rfl:n1=0:=by simpa using hfl.symm
    have hS:=Step_c V1 A1 0 c1 [] hF1 (by omega) s
    rw [hbl]
    repeat' (first|(refine aE ?_;first|(refine aD ?_;(refine aM rfl ⟨Tryz.call234⟩ rfl rfl (hS) ?_;rintro v V2 hV2 ⟨A2,n2,c2,gs,rfl,hG2,hc2',hgz⟩))|refine pu9 ?_)|refine cD ?_|fail)
    all_goals try exact no9
    all_goals
      (refine aQ Tryz.results156 (aB rfl) ?_)
      have hgl:=hG2.1.1
      show _=Value.bool (decide (0<(cO (([]:List LF).map fz) s).length))
      rw [←hgz,List.length_map,hgl];first|rfl|(refine congrArg Value.bool ?_;first|exact(decide_eq_true (by omega)).symm|exact(decide_eq_false (by omega)).symm|exact decide_eq_decide.2 (by omega))
  | cons f t =>
    obtain⟨b,off,f',rfl,hf',hcf,hNf⟩:=hF1.at_ (k:=0) (by rw [←hfl,List.length_cons];omega)
    obtain rfl:f=f':=by simpa using hf'
    obtain⟨hc8,hc9⟩:=uQ hcf
    obtain⟨_,hc4⟩:=fl_bits hcf
    rw [List.length_cons] at hfl hrl
    have hn1:0<n1:=by omega
    have hfz:(fz f).2=f.lay:=rfl
    rw [List.map_cons] at hbl hr0
    rw [cutP,hfz] at hbl
    by_cases hl0:f.lay=0
    · rw [if_pos hl0] at hbl
      have hD:=hF1.drop (k:=1) hn1 hc1
      have hS:=Step_c V1 _ (n1 - 1) (c1 - 1) _ hD (by omega) s
      have hdr:(f :: t).drop 1=t:=rfl
      rw [hdr] at hS
      rw [hbl]
      repeat' (first|(refine aE ?_;first|(refine aD ?_;(refine aM rfl ⟨Tryz.call234⟩ rfl rfl (hS) ?_;rintro v V2 hV2 ⟨A2,n2,c2,gs,rfl,hG2,hc2',hgz⟩))|(refine eG ?_;refine aR (kK (l:=1) und_272 siz_306 rfl rfl hn1) ?_)|(refine cK ?_;refine aR (fL (k:=0) und_272 siz_306 rfl rfl hn1) ?_)|refine pu9 ?_)|refine bV ?_|(refine aJ rfl rfl rfl ?_ ?_<;>intro hq<;>try exact no9)|(refine aA rfl ?_ ?_<;>intro hq<;>try exact no9)|(refine bP rfl ?_ ?_<;>intro hq))
      all_goals try exact no9
      all_goals
        (refine aQ Tryz.results156 (aB rfl) ?_)
        first
          | (have hgl:=hG2.1.1;rw [←hgz,List.length_map,hgl];first|rfl|(refine congrArg Value.bool ?_;first|exact(decide_eq_true (by omega)).symm|exact(decide_eq_false (by omega)).symm|exact decide_eq_decide.2 (by omega)))
          | (have ht0:t.map fz=[]:=shown_opq hr0.symm (by first|exact hq|assumption);rw [ht0];rfl)
    · rw [if_neg hl0] at hbl
      have hS:=Step_c V1 _ n1 c1 _ hF1 (by omega) s
      rw [hbl]
      repeat' (first|(refine aE ?_;first|(refine aD ?_;(refine aM rfl ⟨Tryz.call234⟩ rfl rfl (hS) ?_;rintro v V2 hV2 ⟨A2,n2,c2,gs,rfl,hG2,hc2',hgz⟩))|(refine cK ?_;refine aR (fL (k:=0) und_272 siz_306 rfl rfl hn1) ?_)|refine pu9 ?_)|refine bV ?_|(refine aJ rfl rfl rfl ?_ ?_<;>intro hq<;>try exact no9)|(refine aA rfl ?_ ?_<;>intro hq<;>try exact no9))
      all_goals try exact no9
      all_goals
        (refine aQ Tryz.results156 (aB rfl) ?_)
        first
          | (have hgl:=hG2.1.1;rw [←List.map_cons,←hgz,List.length_map,hgl];first|rfl|(refine congrArg Value.bool ?_;first|exact(decide_eq_true (by omega)).symm|exact(decide_eq_false (by omega)).symm|exact decide_eq_decide.2 (by omega)))
          | (have ht0:t.map fz=[]:=shown_opq hr0.symm (by first|exact hq|assumption);rw [ht0];rfl)
end
section
open Go.RowKit Go.Sort
def sortRen:Go.Shelf.Ren:=⟨fun|192=>258|190=>268|125=>273|258=>272|128=>287|129=>288|302=>278|303=>279|304=>280|305=>281|306=>282|307=>283|308=>284|309=>285|310=>286|333=>291|329=>292|330=>293|334=>294|335=>295|336=>296|344=>297|n=>n,fun|31=>47|0=>0|9=>9|3=>3|46=>148|51=>350|53=>352|4=>4|183=>343|182=>342|131=>127|5=>5|218=>355|222=>359|228=>361|229=>178|n=>n,fun n=>n⟩
theorem sortLays:Go.Proofs.Lays.n192 Tryz.prog sortRen where
  mixed:=by kernel_rfl
  f125:=Tryz.func273.trans (congrArg some (by kernel_rfl))
  f128:=Tryz.func287.trans (congrArg some (by kernel_rfl))
  f129:=Tryz.func288.trans (congrArg some (by kernel_rfl))
  f190:=Tryz.func268.trans (congrArg some (by kernel_rfl))
  f192:=Tryz.func258.trans (congrArg some (by kernel_rfl))
  f258:=Tryz.func272.trans (congrArg some (by kernel_rfl))
  f302:=Tryz.func278.trans (congrArg some (by kernel_rfl))
  f303:=Tryz.func279.trans (congrArg some (by kernel_rfl))
  f304:=Tryz.func280.trans (congrArg some (by kernel_rfl))
  f305:=Tryz.func281.trans (congrArg some (by kernel_rfl))
  f306:=Tryz.func282.trans (congrArg some (by kernel_rfl))
  f307:=Tryz.func283.trans (congrArg some (by kernel_rfl))
  f308:=Tryz.func284.trans (congrArg some (by kernel_rfl))
  f309:=Tryz.func285.trans (congrArg some (by kernel_rfl))
  f310:=Tryz.func286.trans (congrArg some (by kernel_rfl))
  f329:=Tryz.func292.trans (congrArg some (by kernel_rfl))
  f330:=Tryz.func293.trans (congrArg some (by kernel_rfl))
  f333:=Tryz.func291.trans (congrArg some (by kernel_rfl))
  f334:=Tryz.func294.trans (congrArg some (by kernel_rfl))
  f335:=Tryz.func295.trans (congrArg some (by kernel_rfl))
  f336:=Tryz.func296.trans (congrArg some (by kernel_rfl))
  f344:=Tryz.func297.trans (congrArg some (by kernel_rfl))
  t0:=Tryz.underlying0
  a0:=Tryz.isAgg0
  z0:=Tryz.sizeOf0
  v0:=Tryz.zeroValue0
  t3:=Tryz.underlying3
  a3:=Tryz.isAgg3
  z3:=Tryz.sizeOf3
  v3:=Tryz.zeroValue3
  t4:=Tryz.underlying4
  a4:=Tryz.isAgg4
  z4:=Tryz.sizeOf4
  v4:=Tryz.zeroValue4
  t5:=Tryz.underlying5
  a5:=Tryz.isAgg5
  z5:=Tryz.sizeOf5
  v5:=Tryz.zeroValue5
  t9:=Tryz.underlying9
  a9:=Tryz.isAgg9
  z9:=Tryz.sizeOf9
  v9:=Tryz.zeroValue9
  t31:=Tryz.underlying47
  a31:=Tryz.isAgg47
  z31:=Tryz.sizeOf47
  v31:=Tryz.zeroValue47
  t46:=Tryz.underlying148
  a46:=Tryz.isAgg148
  z46:=Tryz.sizeOf148
  v46:=Tryz.zeroValue148
  t51:=Tryz.underlying350
  a51:=Tryz.isAgg350
  z51:=Tryz.sizeOf350
  v51:=Tryz.zeroValue350
  t53:=Tryz.underlying352
  a53:=Tryz.isAgg352
  z53:=Tryz.sizeOf352
  v53:=Tryz.zeroValue352
  t131:=Tryz.underlying127
  a131:=Tryz.isAgg127
  z131:=Tryz.sizeOf127
  v131:=Tryz.zeroValue127
  t182:=Tryz.underlying342
  a182:=Tryz.isAgg342
  z182:=Tryz.sizeOf342
  v182:=Tryz.zeroValue342
  t183:=Tryz.underlying343
  a183:=Tryz.isAgg343
  z183:=Tryz.sizeOf343
  v183:=Tryz.zeroValue343
  t218:=Tryz.underlying355
  a218:=Tryz.isAgg355
  z218:=Tryz.sizeOf355
  v218:=Tryz.zeroValue355
  t222:=Tryz.underlying359
  a222:=Tryz.isAgg359
  z222:=Tryz.sizeOf359
  v222:=Tryz.zeroValue359
  t228:=Tryz.underlying361
  a228:=Tryz.isAgg361
  z228:=Tryz.sizeOf361
  v228:=Tryz.zeroValue361
  t229:=Tryz.underlying178
  a229:=Tryz.isAgg178
  z229:=Tryz.sizeOf178
  v229:=Tryz.zeroValue178
def aC (s:ByteArray):List UInt8:=s.data.toList
def unB (l:List UInt8):ByteArray:=⟨l.toArray⟩
theorem fJ (s:ByteArray):unB (aC s)=s:=by cases s;simp [unB,aC]
def uX (ss:List ByteArray):List ByteArray:=((ss.map aC).mergeSort (fun x y=>decide (x≤y))).map unB
theorem sortS_enc (ss:List ByteArray):(uX ss).map Value.string=((ss.map aC).mergeSort (fun x y=>decide (x≤y))).map encStr:=by
  rw [uX,List.map_map];rfl
theorem enc_listB (ss:List ByteArray):ss.map Value.string=(ss.map aC).map encStr:=by
  rw [List.map_map]
  refine List.map_congr_left fun s _=>?_
  show Value.string s=Value.string (unB (aC s))
  rw [fJ]
theorem Sort_c (V:aI) {A:Option Addr} {n c E:Nat} {ss:List ByteArray} {L:List Box} (h:cU A n c E 1 (ss.map Value.string) L) (hn:n≤1000000000000):FnB Tryz.prog 258 [.slice A n c] V L fun _ V' B=>V'=V∧cU A n c E 1 ((uX ss).map Value.string) B:=fun w hs=>by
  have hlen:ss.length=n:=by have:=h.1;simpa using this
  have hr:=h
  obtain⟨h1,h|h⟩:=h
  · obtain⟨rfl,rfl,rfl,rfl⟩:=h
    have hc:=Any.sort_Strings_none sortLays none 0 w
    refine Calls.mono (f:=258) hc ?_
    rintro e w' ⟨rfl,rfl⟩
    obtain rfl:ss=[]:=List.eq_nil_of_length_eq_zero hlen
    have h0:uX []=[]:=by simp [uX]
    exact⟨.tuple #[],V,[],rfl,hs,rfl,by rw [h0];exact cU.nil⟩
  · obtain⟨g,cs,rfl,rfl,h2,h3,h4,h5⟩:=h
    have hb:=(hs.own _ (List.mem_singleton.2 rfl)).1
    rw [BT.obj_cells] at hb
    have hl':(ss.map aC).length=n:=by simpa using hlen
    have hH:Holds encStr w g 0 (ss.map aC).toArray:=holds_of_block hb (by rw [hl',←enc_listB];simpa using h5)
    have hc:=Any.sort_Strings sortLays g 0 c (ss.map aC) w hH (Array.getElem?_eq_some_iff.1 hb).1 (by omega)
    rw [hl'] at hc
    refine Calls.mono (f:=258) hc ?_
    rintro e w' ⟨rfl,nn,os,rfl⟩
    have ho:=ownsRow_sorted (n:=nn) (os:=os) (ss:=ss.map aC) (ts:=(ss.map aC).mergeSort (fun x y=>decide (x≤y))) (by simp) (Nat.zero_le g) hb (by omega) h3 (by simpa using h4)
    rw [hl',←sortS_enc] at ho
    have hg:=grownBy_sorted (w:=w) (g:=g) (n:=nn) (os:=os) ((ss.map aC).mergeSort (fun x y=>decide (x≤y))).toArray
    obtain⟨A',c',L1',e1,e2,e3⟩:=St.grown (X:=[]) (Y:=[]) (B:=⟨V,w,jK [⟨g,(E:BT),cs⟩]⟩) (V:=V) (by simpa using hs) hr hg ho (.inl rfl)
    injection e1 with e1 e4 e5
    subst e1 e5
    exact⟨.tuple #[],V,L1',rfl,by simpa using e3,rfl,e2⟩
end
end Go.Proofs.YtejkmomfpidnbabGreat
