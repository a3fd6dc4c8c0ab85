/- Walks and plain laws, part 9: what functions compute, proved once each (BxF, BxK, BxL, BxE, BxI, BxW, BxR, ReadP, ReadE, ReadE2, ReadE3, ReadQ, BxX, FlatE). -/
import Derived.Test.YtejkmomfpidnbabGreatPart8
import Derived.Test.YtejkmomfpidnbabGreatPart4
import Derived.Test.YtejkmomfpidnbabGreatPart5
import Derived.Test.YtejkmomfpidnbabGreatPart6
import Derived.Test.YtejkmomfpidnbabGreatPart3
set_option linter.unusedSimpArgs false
set_option linter.unusedVariables false
set_option maxRecDepth 100000
set_option maxHeartbeats 40000000
namespace Go.Proofs.YtejkmomfpidnbabGreat
open Go.RowKit
section
def dW:List Int→Int
  | []=>0
  | e :: l=>if ¬e=0 then e else dW l
theorem vM:∀ (l m:List Int),dW (l ++ m)=if ¬dW l=0 then dW l else dW m
  | [],m=>by rw [List.nil_append,dW,if_neg (by simp)]
  | e :: l,m=>by
    rw [List.cons_append,dW,dW,vM l m]
    by_cases h:e=0
    · rw [if_neg (not_not_intro h),if_neg (not_not_intro h)]
    · rw [if_pos h,if_pos h,if_pos h]
theorem firstF_drop {l:List Int} {k:Nat} {e:Int} (h:l[k]?=some e):dW (l.drop k)=if ¬e=0 then e else dW (l.drop (k+1)):=by
  obtain⟨hk,he⟩:=List.getElem?_eq_some_iff.1 h
  rw [List.drop_eq_getElem_cons hk,dW,he]
abbrev erC (e:Int):List Value:=[bK e]
theorem er_len (e:Int):(erC e).length=1:=rfl
theorem one_er (e:Int):gQ (bK e)=true:=by
  by_cases h:e=0
  · rw [h,cH];rfl
  · rw [cU h];rfl
theorem ones_er (l:List Int):∀ u∈l.flatMap erC,gQ u=true:=fun u hu=>by
  obtain⟨e,_,he⟩:=List.mem_flatMap.1 hu
  rw [List.mem_singleton.1 he];exact one_er e
structure CF where
  M:LM
  c:CR
  A:Option Addr
  n:Nat
  k:Nat
  q:Int
  B:Option Addr
  m:Nat
  e:Nat
  lo:List Int
abbrev cfC (x:CF):List Value:=[.slice x.M.A x.M.n x.M.c,.slice x.M.B x.M.m x.M.e,.int .i64 x.c.u,.int .i64 x.c.g,.slice x.A x.n x.k,.int .i64 x.c.d,.int .i64 x.q,.slice x.B x.m x.e]
abbrev cfV (x:CF):Value:=.agg #[.slice x.M.A x.M.n x.M.c,.slice x.M.B x.M.m x.M.e,.int .i64 x.c.u,.int .i64 x.c.g,.slice x.A x.n x.k,.int .i64 x.c.d,.int .i64 x.q,.slice x.B x.m x.e]
structure CfV (V:aD) (x:CF):Prop where
  M:nC V x.M
  xs:eM V x.A x.n x.c.xs
  lo:eM V x.B x.m x.lo
theorem CfV.le {V V':aD} {x:CF} (h:CfV V x) (hv:VLe V V'):CfV V' x:=⟨h.M.le hv,h.xs.le hv,h.lo.le hv⟩
def tA (us gs:List PR) (c:CR):Prop:=(eS us c.u).isSome=false∨(eS gs c.g).isSome=false
instance (us gs : List PR) (c : CR) : Decidable (tA us gs c) := by unfold tA; infer_instance
def uL (x:CF):List Int:=[cE x.M.us,cE x.M.gs,eT x.c.u x.c.g x.c.d x.c.xs] ++ if x.q<1∨64<x.q then [1] else []
def cfgL (x:CF) (ls:List PN):List Int:=if 3<ls.length then uL x ++ [2] else (uL x ++ ls.map (cP false)) ++ if tA x.M.us x.M.gs x.c then [11] else []
def lY (x:CF) (ls:List PN):Int:=dW (cfgL x ls)
theorem er_cells (e:Int):(bK e).cells=#[bK e]:=by
  by_cases h:e=0
  · rw [h,cH];rfl
  · rw [cU h];rfl
theorem fill_er3 {a b c:Int} {z:Value}:pM (fun i=>some (i * 1,1)) [z,z,z] [(0,bK a),(1,bK b),(2,bK c)]=some [bK a,bK b,bK c]:=by
  simp only [pM,er_cells];rfl
theorem fill_er1 {a:Int} {z:Value}:pM (fun i=>some (i * 1,1)) [z] [(0,bK a)]=some [bK a]:=by
  simp only [pM,er_cells];rfl
theorem er_row {A:Option Addr} {n c E:Nat} {es:List Int} {k:Int} {L:List Box} (hk:k≠0) (h:cO A n c E 1 (es.flatMap erC ++ [Value.iface 120 (.int .i64 k)]) L):cO A n c E 1 ((es ++ [k]).flatMap erC) L:=by
  rw [List.flatMap_append,List.flatMap_cons,List.flatMap_nil,List.append_nil,erC,cU hk];exact h
attribute [local irreducible] AtQ GoC GoL GoW QO QP Fn RV bL aG VLe bR bK
theorem first_c (V:aD) (A:Option Addr) (n c:Nat) (es:List Int) (h:eP V 1 erC A n es):Fn Tryz.prog 64 [.slice A n c] V fun v _=>v=bK (dW es):=by
  have hl:=h.1
  have hm:=h.max
  (refine aI Tryz.func64 rfl Tryz.ntmps64 rfl ?_;intro w0)
  repeat' (first|(refine aE ?_;refine pu9 ?_)|refine bY ?_|fail)
  refine bN (fun F V' L' m=>∃ k:Nat,V=V'∧[]=L'∧k≤n∧dW es=dW (es.drop k)∧m=n - k∧F=[(5,.slice A n c),(6,.int .i64 (n:Int)),(7,.int .i64 (k:Int))]) (m:=n) ⟨0,rfl,rfl,Nat.zero_le _,rfl,by omega,rfl⟩ bH rfl sl9 ?_
  rintro F V' L' m ⟨k,rfl,rfl,hkn,hf,rfl,rfl⟩
  by_cases hlt:k<n
  · obtain⟨b,off,e,rfl,he,hc⟩:=h.at_ hlt
    have hd:=firstF_drop he
    have hc0:=jN (j:=0) hc rfl
    repeat' (first|(refine aE ?_;refine pu9 ?_)|refine bY ?_|(refine aA rfl ?_ ?_<;>intro hq<;>try exact no9))
    all_goals first
      | (refine iI ?_;(refine aM Tryz.results64 (aB rfl) ?_);rw [hf,hd,if_pos hq])
      | (refine vN ?_;refine aX _ (n - (k+1)) ⟨k+1,rfl,rfl,by omega,by rw [hf,hd,if_neg hq],rfl,rfl⟩ (by omega) bH sl9)
  · repeat' (first|(refine aE ?_;refine pu9 ?_)|refine dT ?_|(refine aA rfl ?_ ?_<;>intro hq<;>try exact no9))
    all_goals
      (refine aM Tryz.results64 (aB rfl) ?_)
      rw [hf,List.drop_of_length_le (by omega)];exact cH.symm
theorem Check9_c (V:aD) (x:CF) (hx:CfV V x) (A:Option Addr) (n c:Nat) (ls:List LN) (h:dR V A n ls):Fn Tryz.prog 16 [cfV x,.slice A n c] V fun v _=>v=bK (lY x (ls.map LN.n)):=by
  have hl:=h.1.1
  have hm:=h.1.max
  have c1:=fun V2 (hV2:VLe V V2)=>xO V2 x.M.A x.M.n x.M.c x.M.us (hx.M.1.le hV2) hx.M.2.1
  have c2:=fun V2 (hV2:VLe V V2)=>xO V2 x.M.B x.M.m x.M.e x.M.gs (hx.M.2.2.1.le hV2) hx.M.2.2.2
  have c3:=fun V2 (hV2:VLe V V2)=>Check_c V2 x.c.u x.c.g x.c.d x.A x.n x.k x.c.xs (hx.xs.le hV2)
  have hc1:uL x=[cE x.M.us,cE x.M.gs,eT x.c.u x.c.g x.c.d x.c.xs] ++ if x.q<1∨64<x.q then [1] else []:=rfl
  generalize cE x.M.us=m1 at *
  generalize cE x.M.gs=m2 at *
  generalize eT x.c.u x.c.g x.c.d x.c.xs=m3 at *
  (refine aI Tryz.func16 rfl Tryz.ntmps16 rfl ?_;intro w0)
  repeat' (first|(refine aE ?_;first|(refine al9 ?_;intro γ)|refine pu9 ?_)|refine cC ?_|fail)
  refine dZ (fun F V' L'=>∃ (γ2 γ5:Nat),VLe V V'∧[⟨γ5,39,[bK m1,bK m2,bK m3]⟩,⟨γ2,29,cfC x⟩]=L'∧F=[(1,.slice A n c),(2,.pointer (some ⟨γ2,0,none⟩)),(5,.slice (some ⟨γ5,0,none⟩) 3 3)]) ?_ ?_
  · refine bX (id:=1) _ mixed (List.Sublist.refl _) ?_;refine gt9 0 ?_;refine gt9 1 ?_;refine gt9 2 ?_;refine gt9 4 ?_;refine gt9 5 ?_;refine gt9 6 ?_;refine gt9 8 ?_;refine gt9 9 ?_;refine aZ (i:=3) rfl ?_;(first|refine aP rfl (aK ⟨Tryz.call62⟩ rfl (c1 _ vl9)) ?_|refine aP rfl (aK ⟨Tryz.call62⟩ rfl (c2 _ vl9)) ?_|refine aP rfl (aK ⟨Tryz.call63⟩ rfl (c3 _ vl9)) ?_);refine aZ (i:=7) rfl ?_;(first|refine aP rfl (aK ⟨Tryz.call62⟩ rfl (c1 _ vl9)) ?_|refine aP rfl (aK ⟨Tryz.call62⟩ rfl (c2 _ vl9)) ?_|refine aP rfl (aK ⟨Tryz.call63⟩ rfl (c3 _ vl9)) ?_);refine aZ (i:=10) rfl ?_;(first|refine aP rfl (aK ⟨Tryz.call62⟩ rfl (c1 _ vl9)) ?_|refine aP rfl (aK ⟨Tryz.call62⟩ rfl (c2 _ vl9)) ?_|refine aP rfl (aK ⟨Tryz.call63⟩ rfl (c3 _ vl9)) ?_);refine aZ (i:=11) rfl ?_;(first|(refine aN rfl und_124 siz_39 zec_39 rfl rfl rfl rfl fill_er3 rfl rfl ?_;intro γ)|(refine aN rfl und_124 siz_39 zec_39 rfl rfl rfl rfl rfl rfl rfl ?_;intro γ));refine gt9 12 ?_;refine aY (by kernel_rfl) vl9 vl9 bP ?_
    all_goals (first|exact dN _ ⟨_,_,VLe.refl _,rfl,rfl⟩ bH sp9|trace_state)
  rintro F V1 L' ⟨γ2,γ5,hV1,rfl,rfl⟩
  have hr0:cO (some ⟨γ5,0,none⟩) 3 3 39 1 ([m1,m2,m3].flatMap erC) [⟨γ5,39,[bK m1,bK m2,bK m3]⟩]:=cO.close (f:=erC) (xs:=[m1,m2,m3]) (rest:=[]) er_len rfl rfl (Nat.le_refl _) (by unfold maxLen;omega)
  refine iA ?_;refine iW ?_;refine dZ (fun F V' L'=>∃ (A5:Option Addr) (n5 c5:Nat) (L5:List Box),V1=V'∧cO A5 n5 c5 39 1 ((uL x).flatMap erC) L5∧n5=(uL x).length∧L5 ++ [⟨γ2,29,cfC x⟩]=L'∧F=[(1,.slice A n c),(2,.pointer (some ⟨γ2,0,none⟩)),(5,.slice A5 n5 c5)]) ?_ ?_
  · repeat' (first|(refine aE ?_;first|(refine aC ?_;(refine aQ rfl und_124 inf_39 rfl rfl rfl hr0 aV (cY bA rfl) bJ (by omega) rfl rfl ?_;intro A3 c3 L3 hr3))|(refine cF ?_;(refine aN rfl und_124 siz_39 zec_39 rfl rfl rfl rfl rfl rfl rfl ?_;intro γ))|refine pu9 ?_)|refine jR ?_|(refine aJ rfl rfl rfl ?_ ?_<;>intro hq<;>try exact no9)|refine fE [2,3] rfl ?_|(refine aA rfl ?_ ?_<;>intro hq<;>try exact no9))
    all_goals first
      | (refine vN ?_
         rw [if_pos (by omega)] at hc1
         refine dN _ ⟨A3,_,c3,L3,rfl,?_,?_,rfl,rfl⟩ bH sp9
         · rw [hc1];exact er_row (by decide) hr3
         · rw [hc1];rfl)
      | (refine vN ?_
         rw [if_neg (by omega),List.append_nil] at hc1
         refine dN _ ⟨_,_,_,_,rfl,by rw [hc1];exact hr0,by rw [hc1];rfl,rfl,rfl⟩ bH sp9)
  rintro F V' L' ⟨A5,n5,c5,L5,rfl,hr5,hn5,rfl,rfl⟩
  have hn5b:n5≤4:=by rw [hn5,hc1];split<;>simp
  clear hc1 hr0 c1 c2 c3
  by_cases h3:3<n
  · have e9:lY x (ls.map LN.n)=dW (uL x ++ [2]):=by unfold lY cfgL;rw [if_pos (by rw [List.length_map];omega)]
    rw [e9]
    repeat' (first|(refine aE ?_;first|(refine aC ?_;(first|(refine aQ rfl und_124 inf_39 rfl rfl rfl hr5 aV (cY bA rfl) bJ (by omega) rfl rfl ?_;intro A6 c6 L6 hr6;refine kG rfl (er_row (by decide) hr6) aV ?_;intro V6 hV6 hc6;have hE:=eP.of_cells (xs:=uL x ++ [2]) hc6 er_len (by rw [List.length_append,hn5];rfl) (by unfold maxLen;omega))|refine aP rfl (aK ⟨Tryz.call64⟩ rfl (first_c _ _ _ _ _ hE)) ?_))|(refine cF ?_;(refine aN rfl und_124 siz_39 zec_39 rfl rfl rfl rfl rfl rfl rfl ?_;intro γ))|refine pu9 ?_)|refine cC ?_|(refine aA rfl ?_ ?_<;>intro hq<;>try exact no9))
    all_goals first
      | exact no9
      | (refine iI ?_;(refine aM Tryz.results16 (aB rfl) ?_);rfl)
  have e9:lY x (ls.map LN.n)=dW ((uL x ++ (ls.map LN.n).map (cP false)) ++ if tA x.M.us x.M.gs x.c then [11] else []):=by unfold lY cfgL;rw [if_neg (by rw [List.length_map];omega)]
  rw [e9]
  clear e9
  have hlm:((ls.map LN.n).map (cP false)).length=n:=by simp [hl]
  repeat' (first|(refine aE ?_;refine pu9 ?_)|refine bY ?_|(refine aA rfl ?_ ?_<;>intro hq<;>try exact no9))
  all_goals try exact no9
  refine bN (fun F V' L' m=>∃ (k:Nat) (A':Option Addr) (n' c':Nat) (Lk:List Box),VLe V1 V'∧cO A' n' c' 39 1 ((uL x ++ ((ls.map LN.n).map (cP false)).take k).flatMap erC) Lk∧n'=n5+k∧Lk ++ [⟨γ2,29,cfC x⟩]=L'∧k≤n∧m=n - k∧F=[(2,.pointer (some ⟨γ2,0,none⟩)),(5,.slice A' n' c'),(44,.slice A n c),(45,.int .i64 (n:Int)),(46,.int .i64 (k:Int))]) (m:=n) ⟨0,A5,n5,c5,L5,VLe.refl _,by rw [List.take_zero,List.append_nil];exact hr5,rfl,rfl,Nat.zero_le _,by omega,rfl⟩ bH rfl sl9 ?_
  rintro F V' L' m ⟨k,A',n',c',Lk,hV',hrk,hn',rfl,hkn,rfl,rfl⟩
  by_cases hlt:k<n
  · obtain⟨b1,o1,y,rfl,hy,hc,hyN⟩:=(h.le (hV1.trans hV')).at_ hlt
    have hT:=fun V2 (hV2:VLe V' V2)=>xN V2 y (hyN.le hV2) false
    have hke:((ls.map LN.n).map (cP false))[k]?=some (cP false y.n):=by rw [List.getElem?_map,List.getElem?_map,hy];rfl
    have htk:((ls.map LN.n).map (cP false)).take (k+1)=((ls.map LN.n).map (cP false)).take k ++ [cP false y.n]:=by rw [List.take_add_one,hke];rfl
    generalize cP false y.n=ty at *
    have hone:∀ u∈[bK ty],gQ u=true:=ones_er [ty]
    repeat' (first|(refine aE ?_;first|(refine aC ?_;(first|refine aP rfl (aK ⟨Tryz.call65⟩ rfl (hT _ vl9)) ?_|(refine aQ rfl und_124 inf_39 rfl rfl rfl hrk aV (cY bA rfl) bJ (by omega) rfl rfl ?_;intro A6 c6 L6 hr6)))|(refine cF ?_;(first|(refine aN rfl und_124 siz_39 zec_39 rfl rfl rfl rfl fill_er1 rfl rfl ?_;intro γ)|(refine aN rfl und_124 siz_39 zec_39 rfl rfl rfl rfl rfl rfl rfl ?_;intro γ)))|refine st9 ?_|(refine al9 ?_;intro γ)|refine pu9 ?_)|refine bY ?_|(refine aA rfl ?_ ?_<;>intro hq<;>try exact no9))
    all_goals
      refine aX _ (n - (k+1)) ⟨k+1,A6,n'+1,c6,L6,vl9,?_,by omega,rfl,by omega,rfl,rfl⟩ (by omega) bH sl9
      rw [htk,←List.append_assoc,List.flatMap_append];exact hr6
  · obtain rfl:k=n:=by omega
    rw [List.take_of_length_le (by omega)] at hrk
    have hal:(uL x ++ (ls.map LN.n).map (cP false)).length=n':=by rw [List.length_append,hlm];omega
    generalize hall:uL x ++ (ls.map LN.n).map (cP false)=al at *
    have hn8:n'≤8:=by omega
    have hMl:=hx.M.le (hV1.trans hV')
    have t1:=fun V2 (hV2:VLe V' V2)=>lJ V2 x.M.A x.M.n x.M.c x.M.us (hMl.1.le hV2) hMl.2.1 x.c.u
    have t2:=fun V2 (hV2:VLe V' V2)=>lJ V2 x.M.B x.M.m x.M.e x.M.gs (hMl.2.2.1.le hV2) hMl.2.2.2 x.c.g
    have hun:tA x.M.us x.M.gs x.c↔((eS x.M.us x.c.u).isSome=false∨(eS x.M.gs x.c.g).isSome=false):=Iff.rfl
    have q1:qC (eS x.M.us x.c.u)=.tuple #[.int .i64 ((eS x.M.us x.c.u).getD 0),.bool (eS x.M.us x.c.u).isSome]:=rfl
    have q2:qC (eS x.M.gs x.c.g)=.tuple #[.int .i64 ((eS x.M.gs x.c.g).getD 0),.bool (eS x.M.gs x.c.g).isSome]:=rfl
    rw [q1] at t1
    rw [q2] at t2
    clear q1 q2
    generalize (eS x.M.us x.c.u).isSome=s1 at *
    generalize (eS x.M.gs x.c.g).isSome=s2 at *
    generalize (eS x.M.us x.c.u).getD 0=d1 at *
    generalize (eS x.M.gs x.c.g).getD 0=d2 at *
    repeat' (first|(refine aE ?_;first|(refine aC ?_;(first|refine aP rfl (aK ⟨Tryz.call66⟩ rfl (t1 _ vl9)) ?_|refine aP rfl (aK ⟨Tryz.call66⟩ rfl (t2 _ vl9)) ?_|(refine aQ rfl und_124 inf_39 rfl rfl rfl hrk aV (cY bA rfl) bJ (by omega) rfl rfl ?_;intro A6 c6 L6 hr6)))|(refine cF ?_;(refine aN rfl und_124 siz_39 zec_39 rfl rfl rfl rfl rfl rfl rfl ?_;intro γ))|refine pu9 ?_)|refine gxce9 ?_|(refine bS rfl rfl rfl ?_ ?_<;>intro hq)|refine fE [7,11,12,13,14] rfl ?_|(refine aA rfl ?_ ?_<;>intro hq<;>try exact no9)|(refine bM rfl ?_ ?_<;>intro hq))
    all_goals first
      | (have e1:tA x.M.us x.M.gs x.c:=hun.2 (by first|exact .inl (nb (by assumption))|exact .inr (nb (by assumption)))
         rw [if_pos e1]
         refine gS (er_row (by decide) hr6) aV ?_
         intro V6 hV6 hc6
         have hE:=eP.of_cells (xs:=al ++ [11]) hc6 er_len (by rw [List.length_append,hal];rfl) (by unfold maxLen;omega)
         repeat' (first|(refine aE ?_;first|(refine aC ?_;refine aP rfl (aK ⟨Tryz.call64⟩ rfl (first_c _ _ _ _ _ hE)) ?_)|refine pu9 ?_)|refine cC ?_|fail)
         (refine aM Tryz.results16 (aB rfl) ?_)
         rfl)
      | (have e1:¬tA x.M.us x.M.gs x.c:=fun h9=>(hun.1 h9).elim (nbf (by assumption)) (nbf (by assumption))
         rw [if_neg e1,List.append_nil]
         refine gS hrk aV ?_
         intro V6 hV6 hc6
         have hE:=eP.of_cells (xs:=al) hc6 er_len hal (by unfold maxLen;omega)
         repeat' (first|(refine aE ?_;first|(refine aC ?_;refine aP rfl (aK ⟨Tryz.call64⟩ rfl (first_c _ _ _ _ _ hE)) ?_)|refine pu9 ?_)|refine cC ?_|fail)
         (refine aM Tryz.results16 (aB rfl) ?_)
         rfl)
end
section
theorem ones_of9 {α:Type} (f:α→List Value) (hf:∀ x,(f x).all gQ=true) (xs:List α):∀ u∈xs.flatMap f,gQ u=true:=fun u hu=>by
  obtain⟨x,_,hx⟩:=List.mem_flatMap.1 hu
  exact List.all_eq_true.1 (hf x) u hx
attribute [local irreducible] AtQ GoC GoL GoW QO QP Fn RV bL aG VLe bR bK
theorem ownMaps_c (V:aD) (M:LM) (hM:nC V M) (h1:M.n≤1000) (h2:M.m≤1000):Fn Tryz.prog 55 [lmV M] V fun v V'=>∃ M':LM,v=lmV M'∧nC V' M'∧M'.us=M.us∧M'.gs=M.gs:=by
  have c1:=hM.1.1.cells pr_len
  have c2:=hM.2.2.1.1.cells pr_len
  have o1:=ones_of9 prC (fun _=>rfl) M.us
  have o2:=ones_of9 prC (fun _=>rfl) M.gs
  have l1:=hM.1.1.1
  have l2:=hM.2.2.1.1.1
  (refine aI Tryz.func55 rfl Tryz.ntmps55 rfl ?_;intro w0)
  repeat' (first|(refine aE ?_;first|(refine al9 ?_;intro γ))|refine cC ?_|fail)
  refine dZ (fun F V' L'=>∃ (γ2:Nat) (A1 A2:Option Addr) (c1 c2:Nat) (L1 L2:List Box),V=V'∧cO A1 (0+M.n) c1 197 3 ([] ++ M.us.flatMap prC) L1∧cO A2 (0+M.m) c2 197 3 ([] ++ M.gs.flatMap prC) L2∧L1 ++ (L2 ++ [⟨γ2,24,[.slice A1 (0+M.n) c1,.slice A2 (0+M.m) c2]⟩])=L'∧F=[(2,.pointer (some ⟨γ2,0,none⟩))]) ?_ ?_
  · refine bX (id:=1) _ mixed (List.Sublist.cons _ (List.Sublist.refl _)) ?_;refine gt9 0 ?_;refine gt9 1 ?_;refine gt9 3 ?_;refine gt9 4 ?_;refine aZ (i:=2) rfl ?_;(refine aQ rfl und_22 inf_197 rfl rfl rfl cO.nil dO (fY c1) bJ (by omega) rfl rfl ?_;intro A3 c3 L3 hr3);refine aZ (i:=5) rfl ?_;(refine aQ rfl und_22 inf_197 rfl rfl rfl cO.nil dO (fY c2) bJ (by omega) rfl rfl ?_;intro A4 c4 L4 hr4);refine gt9 6 ?_;refine aZ (i:=7) rfl ?_;refine aR rfl siz_24 rfl rfl rfl rfl bJ dP rfl ?_;refine aY (by kernel_rfl) vl9 vl9 bP ?_
    all_goals exact dN _ ⟨_,A3,A4,c3,c4,L3,L4,rfl,hr3,hr4,rfl,rfl⟩ bH sp9
  rintro F V' L' ⟨γ2,A3,A4,c3,c4,L3,L4,rfl,hr3,hr4,rfl,rfl⟩
  repeat' (first|refine gx9 ?_|fail)
  all_goals
    refine fF hr3 aV ?_
    intro V3 hV3 hc3
    refine fF hr4 aV ?_
    intro V4 hV4 hc4
    have k3:=hr3.cap
    have k4:=hr4.cap
    (refine aM Tryz.results55 (aW agg_24 rfl bA (by exact rfl)) ?_)
    rw [List.nil_append] at hc3 hc4
    exact⟨⟨A3,0+M.n,c3,M.us,A4,0+M.m,c4,M.gs⟩,rfl,⟨⟨eP.of_cells (hc3.le hV4) pr_len (show M.us.length=0+M.n by omega) (show 0+M.n≤maxLen by unfold maxLen;omega),hM.1.2⟩,k3,⟨eP.of_cells hc4 pr_len (show M.gs.length=0+M.m by omega) (show 0+M.m≤maxLen by unfold maxLen;omega),hM.2.2.1.2⟩,k4⟩,rfl,rfl⟩
theorem ownCred_c (V:aD) (c:CR) (A:Option Addr) (n k:Nat) (h:eM V A n c.xs) (hn:n≤1000):Fn Tryz.prog 56 [oE c.u c.g A n k c.d] V fun v V'=>∃ (A':Option Addr) (k':Nat),v=oE c.u c.g A' n k' c.d∧eM V' A' n c.xs:=by
  have hsrc:=h.2.2
  have hl:=h.1
  (refine aI Tryz.func56 rfl Tryz.ntmps56 rfl ?_;intro w0)
  repeat' (first|(refine aE ?_;first|(refine aC ?_;(refine aQ rfl und_25 inf_3 rfl rfl rfl cO.nil dO (fY hsrc) bJ (by omega) rfl rfl ?_;intro A' k' L1 hr))|refine st9 ?_|(refine al9 ?_;intro γ)|refine pu9 ?_)|refine cC ?_|fail)
  all_goals
    refine fF hr aV ?_
    intro V2 hV2 hc2
    (refine aM Tryz.results56 (aW agg_27 rfl bA (by exact rfl)) ?_)
    have hi:=mR hl (by omega) hc2
    exact⟨A',k',by simp only [Nat.zero_add];rfl,hi⟩
end
section
def tK (c:CR):Hd:=⟨2,493,c.u,c.g,false,[],⟨#[]⟩⟩
def sF (us gs:List PR) (c:CR) (q:Int) (ls:List PN):BX:=⟨us,gs,c,q,(cS true us gs (.mk (tK c) [])).getD pnZ :: ls⟩
theorem cfg_ok {x:CF} {ls:List PN} (h:lY x ls=0):ls.length≤3∧cE x.M.us=0∧cE x.M.gs=0∧eT x.c.u x.c.g x.c.d x.c.xs=0∧(1≤x.q∧x.q≤64)∧(∀ y∈ls,cP false y=0)∧¬tA x.M.us x.M.gs x.c:=by
  have hz:∀ {l:List Int},dW l=0→∀ e∈l,e=0:=fun {l}=>by
    induction l with
    | nil=>intro _ e he;cases he
    | cons a l ih =>
      intro h e he
      rw [dW] at h
      split at h
      · rename_i h1;exact absurd h h1
      · rename_i h1
        rcases List.mem_cons.1 he with rfl|he
        · exact Decidable.not_not.1 h1
        · exact ih h e he
  unfold lY at h
  have h1:=hz h
  unfold cfgL at h1
  by_cases h3:3<ls.length
  · rw [if_pos h3] at h1
    exact absurd (h1 2 (by simp)) (by decide)
  · rw [if_neg h3] at h1
    have h2:∀ e∈uL x,e=0:=fun e he=>h1 e (by simp [he])
    unfold uL at h2
    refine⟨by omega,h2 _ (by simp),h2 _ (by simp),h2 _ (by simp),?_,fun y hy=>h1 (cP false y) (List.mem_append_left _ (List.mem_append_right _ (List.mem_map_of_mem hy))),fun hu=>?_⟩
    · by_cases hq:x.q<1∨64<x.q
      · rw [if_pos hq] at h2
        exact absurd (h2 1 (by simp)) (by decide)
      · omega
    · rw [if_pos hu] at h1
      exact absurd (h1 11 (by simp)) (by decide)
theorem qZ {us gs:List PR} {c:CR} (h:¬tA us gs c):∃ z,cS true us gs (.mk (tK c) [])=some z:=by
  unfold tA at h
  cases h1:eS us c.u with
  | none=>exact absurd (.inl (by rw [h1];rfl)) h
  | some u =>
    cases h2:eS gs c.g with
    | none=>exact absurd (.inr (by rw [h2];rfl)) h
    | some g=>exact⟨_,mD (n:=.mk (tK c) []) (u:=u) (g:=g) h1 h2⟩
theorem tree_small {u:Bool} {n:PN} (h:cP u n=0):cB eA n:=(kP h).1.imp fun _ _=>fit_small
attribute [local irreducible] AtQ GoC GoL GoW QO QP Fn RV bL aG VLe bR bK
theorem New_bx (V:aD) (x:CF) (hx:CfV V x) (A:Option Addr) (n c:Nat) (ls:List LN) (h:dR V A n ls):FnB Tryz.prog 13 [cfV x,.slice A n c] V [] fun v V' Bs'=>(¬lY x (ls.map LN.n)=0∧v=.tuple #[.pointer none,bK (lY x (ls.map LN.n))]∧Bs'=[])∨(lY x (ls.map LN.n)=0∧∃ p,v=.tuple #[.pointer (some ⟨p,0,none⟩),bK 0]∧eD V' p (sF x.M.us x.M.gs x.c x.q (ls.map LN.n)) Bs'):=by
  have hC:=Check9_c V x hx A n c ls h
  have hok:=fun h9=>cfg_ok (x:=x) (ls:=ls.map LN.n) h9
  generalize lY x (ls.map LN.n)=cf at *
  have hl:=h.1.1
  (refine bD Tryz.func13 rfl Tryz.ntmps13 rfl ?_;intro w0)
  repeat' (first|(refine aE ?_;first|(refine aC ?_;refine aP rfl (aK ⟨Tryz.call16⟩ rfl (hC)) ?_)|(refine al9 ?_;intro γ)|refine pu9 ?_)|refine cC ?_|(refine aA rfl ?_ ?_<;>intro hq<;>try exact no9))
  all_goals first
    | (refine iI ?_;(refine dA Tryz.results13 (aB rfl) (aB rfl) (List.nil_sublist _) ?_)
       exact .inl ⟨hq,rfl,rfl⟩)
    | skip
  have hcf:cf=0:=by omega
  subst hcf
  obtain⟨k1',k2,k3,k4,k5,k6,k7⟩:=hok rfl
  clear hok hC
  obtain⟨z,hz⟩:=qZ k7
  have hn1:x.M.n≤1000:=by have:=(mF k2).1;have:=hx.M.1.1.1;omega
  have hn2:x.M.m≤1000:=by have:=(mF k3).1;have:=hx.M.2.2.1.1.1;omega
  have hn3:x.n≤1000:=by have:=eY k4;have:=hx.xs.1;omega
  have hOM:=fun V2 (hV2:VLe V V2)=>ownMaps_c V2 x.M (hx.M.le hV2) hn1 hn2
  have hOC:=fun V2 (hV2:VLe V V2)=>ownCred_c V2 x.c x.A x.n x.k (hx.xs.le hV2) hn3
  refine dZ (fun F V' L'=>∃ (γ2 γ7:Nat) (M':LM) (A':Option Addr) (k':Nat),VLe V V'∧nC V' M'∧M'.us=x.M.us∧M'.gs=x.M.gs∧eM V' A' x.n x.c.xs∧[⟨γ7,113,[.slice M'.A M'.n M'.c,.slice M'.B M'.m M'.e,.int .i64 x.c.u,.int .i64 x.c.g,.slice A' x.n k',.int .i64 x.c.d,.int .i64 x.q,.slice none 0 0]⟩,⟨γ2,29,cfC x⟩]=L'∧F=[(1,.slice A n c),(2,.pointer (some ⟨γ2,0,none⟩)),(7,.pointer (some ⟨γ7,0,none⟩))]) ?_ ?_
  · refine bX (id:=4) _ mixed (List.Sublist.refl _) ?_;refine gt9 0 ?_;refine gt9 1 ?_;refine gt9 3 ?_;refine gt9 4 ?_;refine gt9 6 ?_;refine gt9 7 ?_;refine aZ (i:=2) rfl ?_;(first|(refine aS rfl ⟨Tryz.call55⟩ rfl rfl (hOM _ vl9) ?_;rintro v V1 hV1 ⟨M1,rfl,hM1,hM1u,hM1g⟩)|(refine aS rfl ⟨Tryz.call56⟩ rfl rfl (hOC _ vl9) ?_;rintro v V2 hV2 ⟨A1,k1,rfl,hI1⟩));refine aZ (i:=5) rfl ?_;(first|(refine aS rfl ⟨Tryz.call55⟩ rfl rfl (hOM _ vl9) ?_;rintro v V1 hV1 ⟨M1,rfl,hM1,hM1u,hM1g⟩)|(refine aS rfl ⟨Tryz.call56⟩ rfl rfl (hOC _ vl9) ?_;rintro v V2 hV2 ⟨A1,k1,rfl,hI1⟩));refine gt9 8 ?_;refine aZ (i:=9) rfl ?_;(refine gw_box rfl rfl rfl rfl ?_;intro γ);refine gt9 10 ?_;refine aY (by kernel_rfl) vl9 vl9 bP ?_
    all_goals exact dN _ ⟨_,_,M1,A1,k1,vl9,hM1.le vl9,hM1u,hM1g,hI1.le vl9,rfl,rfl⟩ bH sp9
  rintro F V1 L' ⟨γ2,γ7,M1,A1,kk,hV1,hM1,hM1u,hM1g,hI1,rfl,rfl⟩
  have hN:aT V1 (rG 2 493 x.c.u x.c.g false ⟨#[]⟩):=qS (Nat.zero_le _)
  have hOut:=qE V1 M1 hM1 _ hN (.mk ⟨Nat.zero_le _,Nat.zero_le _⟩ (by simp))
  rw [hM1u,hM1g,show (rG 2 493 x.c.u x.c.g false ⟨#[]⟩).n=.mk (tK x.c) [] from rfl,hz] at hOut
  repeat' (first|refine gx9 ?_|fail)
  refine dZ (fun F V' L'=>∃ (γ8:Nat) (y:LN),VLe V1 V'∧aT V' y∧y.n=z∧[⟨γ8,70,lnC y⟩,⟨γ7,113,[.slice M1.A M1.n M1.c,.slice M1.B M1.m M1.e,.int .i64 x.c.u,.int .i64 x.c.g,.slice A1 x.n kk,.int .i64 x.c.d,.int .i64 x.q,.slice none 0 0]⟩]=L'∧F=[(1,.slice A n c),(6,bK 0),(7,.pointer (some ⟨γ7,0,none⟩)),(8,.pointer (some ⟨γ8,0,none⟩))]) ?_ ?_
  · refine bX (id:=5) _ mixed (List.Sublist.refl _) ?_;refine gt9 0 ?_;refine gt9 1 ?_;refine gt9 2 ?_;refine gt9 3 ?_;refine gt9 4 ?_;refine gt9 5 ?_;refine gt9 6 ?_;refine gt9 7 ?_;refine gt9 8 ?_;refine gt9 9 ?_;refine gt9 10 ?_;(refine dL (i:=11) (j:=15) (by kernel_rfl) rfl rfl rfl rfl vl9 vl9 bP ?_ ?_<;>first|((refine aS rfl ⟨Tryz.call57⟩ rfl rfl (hOut) ?_;rintro v V2 hV2 ⟨y,rfl,hyN,hyn⟩);refine gt9 12 ?_;refine gt9 13 ?_;refine gt9 14 ?_;refine aZ (i:=15) rfl ?_;(refine cV rfl zer_70 rfl ?_;intro γ);refine aZ (i:=16) rfl ?_;refine aR rfl siz_70 rfl rfl rfl rfl bJ dP rfl ?_;refine gt9 17 ?_;refine aY (by kernel_rfl) vl9 vl9 bP ?_)|((refine cV rfl zer_70 rfl ?_;intro γ);refine aZ (i:=11) rfl ?_;(refine aS rfl ⟨Tryz.call57⟩ rfl rfl (hOut) ?_;rintro v V2 hV2 ⟨y,rfl,hyN,hyn⟩);refine gt9 12 ?_;refine gt9 13 ?_;refine gt9 14 ?_;refine aZ (i:=16) rfl ?_;refine aR rfl siz_70 rfl rfl rfl rfl bJ dP rfl ?_;refine gt9 17 ?_;refine aY (by kernel_rfl) vl9 vl9 bP ?_))
    all_goals exact dN _ ⟨_,y,hV2,hyN,hyn,rfl,rfl⟩ bH sp9
  rintro F V2 L' ⟨γ8,y,hV2,hyN,hyn,rfl,rfl⟩
  have ho1:=ones_n1 y
  repeat' (first|(refine aE ?_;refine pu9 ?_)|refine cX ?_|fail)
  all_goals first
    | (exfalso;exact absurd rfl (by assumption))
    | skip
  refine dZ (fun F V' L'=>∃ (A3:Option Addr) (c3:Nat) (L3:List Box),V2=V'∧cO A3 1 c3 70 8 ([y].flatMap lnC) L3∧⟨γ7,113,[.slice M1.A M1.n M1.c,.slice M1.B M1.m M1.e,.int .i64 x.c.u,.int .i64 x.c.g,.slice A1 x.n kk,.int .i64 x.c.d,.int .i64 x.q,.slice A3 1 c3]⟩ :: L3=L'∧F=[(1,.slice A n c),(7,.pointer (some ⟨γ7,0,none⟩))]) ?_ ?_
  · refine bX (id:=8) _ mixed (List.Sublist.cons_cons _ (List.nil_sublist _)) ?_;refine gt9 0 ?_;refine gt9 1 ?_;refine gt9 2 ?_;refine gt9 3 ?_;refine gt9 5 ?_;(refine dL (i:=4) (j:=6) (by kernel_rfl) rfl rfl rfl rfl vl9 vl9 bP ?_ ?_<;>first|((first|refine aO (bC one_30 rfl bA (by exact rfl)) ?_|refine aO (bC one_30 rfl bA (by assumption)) ?_|refine aO (cD one_30 rfl (by assumption)) ?_);refine aZ (i:=6) rfl ?_;(refine aN rfl und_30 siz_70 zec_70 rfl rfl rfl rfl rfl rfl rfl ?_;intro γ);refine aZ (i:=7) rfl ?_;(refine aQ rfl und_30 inf_70 rfl rfl rfl cO.nil dO (cY bA rfl) bJ (by omega) rfl rfl ?_;intro A3 c3 L3 hr3);refine gt9 8 ?_;refine gt9 9 ?_;refine aZ (i:=10) rfl ?_;refine aR rfl siz_30 rfl rfl rfl rfl bJ dP rfl ?_;refine aY (by kernel_rfl) vl9 vl9 bP ?_)|((refine aN rfl und_30 siz_70 zec_70 rfl rfl rfl rfl rfl rfl rfl ?_;intro γ);refine aZ (i:=4) rfl ?_;(first|refine aO (bC one_30 rfl bA (by exact rfl)) ?_|refine aO (bC one_30 rfl bA (by assumption)) ?_|refine aO (cD one_30 rfl (by assumption)) ?_);refine aZ (i:=7) rfl ?_;(refine aQ rfl und_30 inf_70 rfl rfl rfl cO.nil dO (cY bA rfl) bJ (by omega) rfl rfl ?_;intro A3 c3 L3 hr3);refine gt9 8 ?_;refine gt9 9 ?_;refine aZ (i:=10) rfl ?_;refine aR rfl siz_30 rfl rfl rfl rfl bJ dP rfl ?_;refine aY (by kernel_rfl) vl9 vl9 bP ?_))
    all_goals exact dN _ ⟨A3,c3,L3,rfl,hr3,rfl,rfl⟩ bH sp9
  rintro F V' L' ⟨A3,c3,L3,rfl,hr3,rfl,rfl⟩
  have hnl:n≤3:=by rw [←hl];simpa using k1'
  repeat' (first|(refine aE ?_;refine pu9 ?_)|refine bY ?_|fail)
  refine bN (fun F V' L' m=>∃ (k:Nat) (ys:List LN) (A':Option Addr) (c':Nat) (LA:List Box),VLe V2 V'∧cO A' (k+1) c' 70 8 ((y :: ys).flatMap lnC) LA∧ys.map LN.n=(ls.take k).map LN.n∧(∀ w∈ys,aT V' w)∧⟨γ7,113,[.slice M1.A M1.n M1.c,.slice M1.B M1.m M1.e,.int .i64 x.c.u,.int .i64 x.c.g,.slice A1 x.n kk,.int .i64 x.c.d,.int .i64 x.q,.slice A' (k+1) c']⟩ :: LA=L'∧k≤n∧m=n - k∧F=[(7,.pointer (some ⟨γ7,0,none⟩)),(55,.slice A n c),(56,.int .i64 (n:Int)),(57,.int .i64 (k:Int))]) (m:=n) ⟨0,[],A3,c3,L3,VLe.refl _,hr3,by rw [List.take_zero],by simp,rfl,Nat.zero_le _,by omega,rfl⟩ bH rfl sl9 ?_
  rintro F V' L' m ⟨k,ys,A',c',LA,hV',hr,hyz,hyN2,rfl,hk,rfl,rfl⟩
  by_cases hlt:k<n
  · obtain⟨b,off,w,hA,hw,hc,hwN⟩:=(h.le ((hV1.trans hV2).trans hV')).at_ hlt
    have hO:=fun V9 (hV9:VLe V' V9)=>Own_v V9 w (hwN.le hV9) (tree_small (k6 w.n (List.mem_map_of_mem (List.mem_of_getElem? hw))))
    repeat' (first|(refine aE ?_;first|(refine cG ?_;refine aO (bF und_30 siz_70 rfl hA rfl hlt) ?_)|refine st9 ?_|(refine al9 ?_;intro γ)|refine pu9 ?_)|refine bY ?_|(refine aA rfl ?_ ?_<;>intro hq<;>try exact no9))
    refine dZ (fun F V9 L'=>∃ (v:LN) (A4:Option Addr) (c4:Nat) (L4:List Box),VLe V' V9∧cO A4 (k+1+1) c4 70 8 ((y :: ys).flatMap lnC ++ lnC v) L4∧v.n=w.n∧aT V9 v∧⟨γ7,113,[.slice M1.A M1.n M1.c,.slice M1.B M1.m M1.e,.int .i64 x.c.u,.int .i64 x.c.g,.slice A1 x.n kk,.int .i64 x.c.d,.int .i64 x.q,.slice A4 (k+1+1) c4]⟩ :: L4=L'∧F=[(7,.pointer (some ⟨γ7,0,none⟩)),(55,.slice A n c),(56,.int .i64 (n:Int)),(57,.int .i64 (k:Int))]) ?_ ?_
    · refine bX (id:=12) _ mixed (List.Sublist.cons_cons _ (List.nil_sublist _)) ?_;refine gt9 0 ?_;refine gt9 1 ?_;refine gt9 2 ?_;refine gt9 3 ?_;refine gt9 5 ?_;(refine dL (i:=4) (j:=6) (by kernel_rfl) rfl rfl rfl rfl vl9 vl9 bP ?_ ?_<;>first|((first|refine aO (bC one_30 rfl bA (by exact rfl)) ?_|refine aO (bC one_30 rfl bA (by assumption)) ?_|refine aO (cD one_30 rfl (by assumption)) ?_);refine aZ (i:=6) rfl ?_;(refine aS rfl ⟨Tryz.call54⟩ rfl rfl (hO _ vl9) ?_;rintro v V9 hV9 ⟨v9,rfl,hvn,hvN⟩;have ho9:=ones_n1 v9);refine aZ (i:=7) rfl ?_;(refine aN rfl und_30 siz_70 zec_70 rfl rfl rfl rfl rfl rfl rfl ?_;intro γ);refine aZ (i:=8) rfl ?_;(refine aQ rfl und_30 inf_70 rfl rfl rfl hr aV (cY bA rfl) bJ (by omega) rfl rfl ?_;intro A4 c4 L4 hr4);refine gt9 9 ?_;refine gt9 10 ?_;refine aZ (i:=11) rfl ?_;refine aR rfl siz_30 rfl rfl rfl rfl bJ dP rfl ?_;refine aY (by kernel_rfl) vl9 vl9 bP ?_)|((refine aS rfl ⟨Tryz.call54⟩ rfl rfl (hO _ vl9) ?_;rintro v V9 hV9 ⟨v9,rfl,hvn,hvN⟩;have ho9:=ones_n1 v9);(refine dL (i:=4) (j:=7) (by kernel_rfl) rfl rfl rfl rfl vl9 vl9 bP ?_ ?_<;>first|((first|refine aO (bC one_30 rfl bA (by exact rfl)) ?_|refine aO (bC one_30 rfl bA (by assumption)) ?_|refine aO (cD one_30 rfl (by assumption)) ?_);refine aZ (i:=7) rfl ?_;(refine aN rfl und_30 siz_70 zec_70 rfl rfl rfl rfl rfl rfl rfl ?_;intro γ);refine aZ (i:=8) rfl ?_;(refine aQ rfl und_30 inf_70 rfl rfl rfl hr aV (cY bA rfl) bJ (by omega) rfl rfl ?_;intro A4 c4 L4 hr4);refine gt9 9 ?_;refine gt9 10 ?_;refine aZ (i:=11) rfl ?_;refine aR rfl siz_30 rfl rfl rfl rfl bJ dP rfl ?_;refine aY (by kernel_rfl) vl9 vl9 bP ?_)|((refine aN rfl und_30 siz_70 zec_70 rfl rfl rfl rfl rfl rfl rfl ?_;intro γ);refine aZ (i:=4) rfl ?_;(first|refine aO (bC one_30 rfl bA (by exact rfl)) ?_|refine aO (bC one_30 rfl bA (by assumption)) ?_|refine aO (cD one_30 rfl (by assumption)) ?_);refine aZ (i:=8) rfl ?_;(refine aQ rfl und_30 inf_70 rfl rfl rfl hr aV (cY bA rfl) bJ (by omega) rfl rfl ?_;intro A4 c4 L4 hr4);refine gt9 9 ?_;refine gt9 10 ?_;refine aZ (i:=11) rfl ?_;refine aR rfl siz_30 rfl rfl rfl rfl bJ dP rfl ?_;refine aY (by kernel_rfl) vl9 vl9 bP ?_))))
      all_goals exact dN _ ⟨v9,A4,c4,L4,vl9,hr4,hvn,hvN.le vl9,rfl,rfl⟩ bH sp9
    rintro F V9 L' ⟨v,A4,c4,L4,hV9,hr4,hvn,hvN,rfl,rfl⟩
    repeat' (first|(refine aE ?_;refine pu9 ?_)|refine cC ?_|fail)
    all_goals
      refine aX _ (n - (k+1)) ⟨k+1,ys ++ [v],A4,c4,L4,vl9,?_,?_,fun u hu=>?_,rfl,by omega,rfl,rfl⟩ (by omega) bH sl9
      · rw [show (y :: (ys ++ [v])).flatMap lnC=(y :: ys).flatMap lnC ++ lnC v by rw [←List.cons_append,List.flatMap_append];simp];exact hr4
      · rw [List.take_add_one,hw,List.map_append,List.map_append,hyz];simp [hvn]
      · rcases List.mem_append.1 hu with hu|hu
        · exact(hyN2 u hu).le hV9
        · rw [List.mem_singleton.1 hu];exact hvN
  · obtain rfl:k=n:=by omega
    rw [List.take_of_length_le (by omega)] at hyz
    have hyl:ys.length=k:=by have:=congrArg List.length hyz;simpa [hl] using this
    repeat' (first|(refine aE ?_;refine pu9 ?_)|refine dT ?_|(refine aA rfl ?_ ?_<;>intro hq<;>try exact no9))
    all_goals
      (refine dA Tryz.results13 (aB rfl) (aB rfl) (List.Sublist.refl _) ?_)
      refine .inr ⟨rfl,γ7,by rw [cH],⟨M1,A1,x.n,kk,A',k+1,c',y :: ys⟩,LA,rfl,hM1.le vl9,hM1u,hM1g,hI1.le vl9,trivial,hr,?_,by rw [List.length_cons,hyl],?_⟩
      · intro u hu
        rcases List.mem_cons.1 hu with rfl|hu
        · exact hyN.le hV'
        · exact hyN2 u hu
      · show y.n :: ys.map LN.n=(cS true x.M.us x.M.gs (.mk (tK x.c) [])).getD pnZ :: ls.map LN.n
        rw [hz,hyz,hyn];rfl
end
section
def uU (c:CR):List UInt8:=b16 c.u ++ b16 c.g ++ [b8 c.d,b8 (c.xs.length:Int)]
def lW (b:BX):List UInt8:=uU b.c ++ b.c.xs.flatMap b16 ++ fG (b.ls.headD pnZ)
def NodeR (n:PN) (v:Value) (V':aD):Prop:=∃ y:LN,v=lnV y∧aT V' y∧y.n=n
theorem BoxI.head {V:aD} {b:BX} {I:BI} (hok:bI b) (h:BoxI V b I):∃ (q o:Nat) (x0:LN),I.K=some ⟨q,o,none⟩∧0<I.m∧aG V q (o+0 * 8) (lnC x0)∧aT V x0∧b.ls.headD pnZ=x0.n∧∃ t,I.xs=x0 :: t:=by
  have hm:0<I.m:=by rw [←h.len];exact hok.l1
  obtain⟨q,o,x0,hA,hx,hc,hN⟩:=h.ls.at_ hm
  obtain⟨t,ht⟩:∃ t,I.xs=x0 :: t:=by
    cases hxs:I.xs with
    | nil=>rw [hxs] at hx;cases hx
    | cons a t=>rw [hxs] at hx;simp at hx;exact⟨t,by rw [hx]⟩
  exact⟨q,o,x0,hA,hm,hc,hN,by rw [←h.eq,ht];rfl,t,ht⟩
theorem b16_len (n:Int):(b16 n).length=2:=rfl
theorem oI (l:List Int):(l.flatMap b16).length=2 * l.length:=by
  induction l with
  | nil=>rfl
  | cons x l ih=>rw [List.flatMap_cons,List.length_append,ih,b16_len,List.length_cons];omega
theorem bytes_few (n:PN):(fG n).length≤100000:=by
  unfold fG
  split
  · rename_i h
    have:=(kP h).2;omega
  · simp
attribute [local irreducible] AtQ GoC GoL GoW QO QP Fn RV bL aG VLe bR bK
theorem btwo_c (V:aD) (n:Int) (hn:0≤n):Fn Tryz.prog 91 [.int .i64 n] V fun v _=>v=.string ⟨(b16 n).toArray⟩:=by
  (refine aI Tryz.func91 rfl Tryz.ntmps91 rfl ?_;intro w0)
  repeat' (first|(refine aE ?_;first|(refine cN ?_;(first|refine aO (q_shr8 rfl rfl hn) ?_|refine aO (q_shr rfl rfl (by omega)) ?_))|(refine eK ?_;(first|refine aO (iH (us:=b16 n) und_145 und_5 und_9 rfl (cY bA rfl)) ?_|refine aO (fD und_3 und_5 rfl) ?_))|(refine cF ?_;(refine aN rfl und_145 siz_5 zec_5 rfl rfl rfl rfl rfl rfl rfl ?_;intro γ))|refine pu9 ?_)|refine cC ?_|fail)
  all_goals (refine aM Tryz.results91 (aB rfl) ?_)
  all_goals rfl
theorem Upper_v (V:aD) (p:Nat) (b:BX) (I:BI) (hok:bI b) (h:pP V p b I):Fn Tryz.prog 28 [.pointer (some ⟨p,0,none⟩)] V (NodeR (b.ls.headD pnZ)):=by
  obtain⟨hcM,hcC,hcq,hcl⟩:=h.parts
  obtain⟨q,o,x0,hK,hm0,hc0,hN0,hhd,t,ht⟩:=h.2.head hok
  have hO:=fun V2 (hV2:VLe V V2)=>Own_v V2 x0 (hN0.le hV2) (hok.smallL h.2 x0 (by rw [ht];simp))
  rw [hhd]
  (refine aI Tryz.func28 rfl Tryz.ntmps28 rfl ?_;intro w0)
  repeat' (first|(refine aE ?_;first|(refine cG ?_;refine aO (bF (k:=0) und_30 siz_70 rfl hK rfl hm0) ?_)|(refine aC ?_;(refine aS rfl ⟨Tryz.call54⟩ rfl rfl (hO _ vl9) ?_;rintro v V2 hV2 ⟨y,rfl,hyn,hyN⟩))|refine st9 ?_|(refine al9 ?_;intro γ)|refine pu9 ?_)|refine cC ?_|fail)
  all_goals
    (refine aM Tryz.results28 (aW agg_70 rfl bA (by exact rfl)) ?_)
    exact⟨y,rfl,hyN,hyn⟩
theorem Upper_b {V:aD} {p:Nat} {b:BX} {Bs:List Box} (hok:bI b) (h:eD V p b Bs):FnB Tryz.prog 28 [.pointer (some ⟨p,0,none⟩)] V Bs fun v V' Bs'=>Bs'=Bs∧NodeR (b.ls.headD pnZ) v V' :=
  eD.read hok h (fun v V gs hc ⟨y,h1,h2,h3⟩=>⟨y,h1,h2.off hc,h3⟩) fun V' I hV hB=>Upper_v V' p b I hok hB
def CredR (c:CR) (v:Value) (V':aD):Prop:=∃ (A:Option Addr) (n k:Nat),v=oE c.u c.g A n k c.d∧eM V' A n c.xs
theorem Cred_b (V:aD) (p:Nat) (b:BX) (Bs:List Box) (hok:bI b) (h:eD V p b Bs):FnB Tryz.prog 30 [.pointer (some ⟨p,0,none⟩)] V Bs fun v V' Bs'=>Bs'=Bs∧CredR b.c v V':=by
  obtain⟨I,L1,rfl,hW⟩:=h
  have hn:I.n≤1000:=by have:=eY hok.c;have:=hW.xs.1;omega
  have hO:=fun V2 (hV2:VLe V V2)=>ownCred_c V2 b.c I.A I.n I.k (hW.xs.le hV2) hn
  (refine bD Tryz.func30 rfl Tryz.ntmps30 rfl ?_;intro w0)
  repeat' (first|(refine aE ?_;first|(refine aC ?_;(refine aS rfl ⟨Tryz.call56⟩ rfl rfl (hO _ vl9) ?_;rintro v V2 hV2 ⟨A1,k1,rfl,hI⟩))|refine st9 ?_|(refine al9 ?_;intro γ)|refine pu9 ?_)|refine cC ?_|fail)
  all_goals
    (refine bE Tryz.results30 (aW agg_27 rfl bA (by exact rfl)) (show List.Sublist (⟨p,113,bxC I b⟩ :: L1) _ from sl9) ?_)
    exact⟨rfl,A1,_,k1,rfl,hI⟩
theorem Bytes_v (V:aD) (p:Nat) (b:BX) (I:BI) (hok:bI b) (h:pP V p b I):Fn Tryz.prog 24 [.pointer (some ⟨p,0,none⟩)] V fun v _=>v=.string ⟨(lW b).toArray⟩:=by
  obtain⟨hcM,hcC,hcq,hcl⟩:=h.parts
  obtain⟨q,o,x0,hK,hm0,hc0,hN0,hhd,t,ht⟩:=h.2.head hok
  have hz:=eY hok.c
  have hxl:=h.2.xs.1
  have gu:V ⟨p,0+2+0,none⟩=some (.int .i64 b.c.u):=jN (j:=0) hcC rfl
  have gg:V ⟨p,0+2+1,none⟩=some (.int .i64 b.c.g):=jN (j:=1) hcC rfl
  have gx:V ⟨p,0+2+2,none⟩=some (.slice I.A I.n I.k):=jN (j:=2) hcC rfl
  have gd:V ⟨p,0+2+3,none⟩=some (.int .i64 b.c.d):=jN (j:=3) hcC rfl
  (refine aI Tryz.func24 rfl Tryz.ntmps24 rfl ?_;intro w0)
  have hfl0:∀ x∈([]:List Nat),x<w0.heap.size:=by simp
  repeat' (first|(refine aE ?_;refine pu9 ?_)|refine cC ?_|fail)
  refine gc_grow ([(0,.pointer (some ⟨p,0,none⟩))]) mixed (by repeat (first|exact List.forall_mem_nil _|refine List.forall_mem_cons.2 ⟨?_,?_⟩|exact rfl|(rw [hflag];exact rfl))) ?_;(apply bZ (n:=0) [] rfl rfl rfl (by kernel_rfl);(focus (intro V' hV;refine bT ?_;intro K hK;refine aO (jT rfl) ?_;refine cI rfl ?_;exact cK hK rfl (VLe.refl _) rfl));(try dsimp only [List.cons_append,List.nil_append]));(apply bZ (n:=1) [0] rfl rfl rfl (by kernel_rfl);(focus (intro V' hV;refine cA (j:=0) (d:=8) rfl rfl ?_;refine bT ?_;intro K hK;(first|refine aO (gE rfl) ?_|refine aO (iK rfl) ?_);refine cI rfl ?_;exact cK hK rfl (VLe.refl _) rfl));(try dsimp only [List.cons_append,List.nil_append]));(apply bZ (n:=2) [1] rfl rfl rfl (by kernel_rfl);(focus (intro V' hV;refine cA (j:=1) (d:=9) rfl rfl ?_;refine bT ?_;intro K hK;refine aO (dQ fld_113_1 rfl) ?_;refine cI rfl ?_;exact cK hK rfl (VLe.refl _) rfl));(try dsimp only [List.cons_append,List.nil_append]));(apply bZ (n:=3) [2] rfl rfl rfl (by kernel_rfl);(focus (intro V' hV;refine cA (j:=2) (d:=10) rfl rfl ?_;refine bT ?_;intro K hK;refine aO (dQ fld_27_0 rfl) ?_;refine cI rfl ?_;exact cK hK rfl (VLe.refl _) rfl));(try dsimp only [List.cons_append,List.nil_append]));(apply bZ (n:=4) [3] rfl rfl rfl (by kernel_rfl);(focus (intro V' hV;refine cA (j:=3) (d:=11) rfl rfl ?_;refine bT ?_;intro K hK;refine aO (cD one_3 rfl (dJ vl9 gu)) ?_;refine cI rfl ?_;exact cK hK rfl (VLe.refl _) rfl));(try dsimp only [List.cons_append,List.nil_append]));(apply bZ (n:=5) [4] rfl rfl rfl (by kernel_rfl);(focus (intro V' hV;refine cA (j:=4) (d:=12) rfl rfl ?_;refine bT ?_;intro K hK;refine aP rfl (aK ⟨Tryz.call91⟩ rfl (btwo_c _ _ (by omega))) ?_;refine cI rfl ?_;exact cK hK rfl (VLe.refl _) rfl));(try dsimp only [List.cons_append,List.nil_append]));(apply bZ (n:=6) [] rfl rfl rfl (by kernel_rfl);(focus (intro V' hV;refine bT ?_;intro K hK;refine aO (jT rfl) ?_;refine cI rfl ?_;exact cK hK rfl (VLe.refl _) rfl));(try dsimp only [List.cons_append,List.nil_append]));(apply bZ (n:=7) [6] rfl rfl rfl (by kernel_rfl);(focus (intro V' hV;refine cA (j:=6) (d:=14) rfl rfl ?_;refine bT ?_;intro K hK;(first|refine aO (gE rfl) ?_|refine aO (iK rfl) ?_);refine cI rfl ?_;exact cK hK rfl (VLe.refl _) rfl));(try dsimp only [List.cons_append,List.nil_append]));(apply bZ (n:=8) [7] rfl rfl rfl (by kernel_rfl);(focus (intro V' hV;refine cA (j:=7) (d:=15) rfl rfl ?_;refine bT ?_;intro K hK;refine aO (dQ fld_113_1 rfl) ?_;refine cI rfl ?_;exact cK hK rfl (VLe.refl _) rfl));(try dsimp only [List.cons_append,List.nil_append]));(apply bZ (n:=9) [8] rfl rfl rfl (by kernel_rfl);(focus (intro V' hV;refine cA (j:=8) (d:=16) rfl rfl ?_;refine bT ?_;intro K hK;refine aO (dQ fld_27_1 rfl) ?_;refine cI rfl ?_;exact cK hK rfl (VLe.refl _) rfl));(try dsimp only [List.cons_append,List.nil_append]));(apply bZ (n:=10) [9] rfl rfl rfl (by kernel_rfl);(focus (intro V' hV;refine cA (j:=9) (d:=17) rfl rfl ?_;refine bT ?_;intro K hK;refine aO (cD one_3 rfl (dJ vl9 gg)) ?_;refine cI rfl ?_;exact cK hK rfl (VLe.refl _) rfl));(try dsimp only [List.cons_append,List.nil_append]));(apply bZ (n:=11) [10] rfl rfl rfl (by kernel_rfl);(focus (intro V' hV;refine cA (j:=10) (d:=18) rfl rfl ?_;refine bT ?_;intro K hK;refine aP rfl (aK ⟨Tryz.call91⟩ rfl (btwo_c _ _ (by omega))) ?_;refine cI rfl ?_;exact cK hK rfl (VLe.refl _) rfl));(try dsimp only [List.cons_append,List.nil_append]));(apply bZ (n:=12) [5,11] rfl rfl rfl (by kernel_rfl);(focus (intro V' hV;refine cA (j:=5) (d:=13) rfl rfl ?_;refine cA (j:=11) (d:=19) rfl rfl ?_;refine bT ?_;intro K hK;(first|refine aO (jA rfl rfl (by simp [b16])) ?_|refine aO (sL rfl rfl (by first|omega|(simp only [ByteArray.size_append,ByteArray.size_extract];omega)|fail)) ?_);refine cI rfl ?_;exact cK hK rfl (VLe.refl _) rfl));(try dsimp only [List.cons_append,List.nil_append]));(apply bZ (n:=13) [] rfl rfl rfl (by kernel_rfl);(focus (intro V' hV;refine bT ?_;intro K hK;refine aO (jT rfl) ?_;refine cI rfl ?_;exact cK hK rfl (VLe.refl _) rfl));(try dsimp only [List.cons_append,List.nil_append]));(apply bZ (n:=14) [13] rfl rfl rfl (by kernel_rfl);(focus (intro V' hV;refine cA (j:=13) (d:=21) rfl rfl ?_;refine bT ?_;intro K hK;(first|refine aO (gE rfl) ?_|refine aO (iK rfl) ?_);refine cI rfl ?_;exact cK hK rfl (VLe.refl _) rfl));(try dsimp only [List.cons_append,List.nil_append]));(apply bZ (n:=15) [14] rfl rfl rfl (by kernel_rfl);(focus (intro V' hV;refine cA (j:=14) (d:=22) rfl rfl ?_;refine bT ?_;intro K hK;refine aO (dQ fld_113_1 rfl) ?_;refine cI rfl ?_;exact cK hK rfl (VLe.refl _) rfl));(try dsimp only [List.cons_append,List.nil_append]));(apply bZ (n:=16) [15] rfl rfl rfl (by kernel_rfl);(focus (intro V' hV;refine cA (j:=15) (d:=23) rfl rfl ?_;refine bT ?_;intro K hK;refine aO (dQ fld_27_3 rfl) ?_;refine cI rfl ?_;exact cK hK rfl (VLe.refl _) rfl));(try dsimp only [List.cons_append,List.nil_append]));(apply bZ (n:=17) [16] rfl rfl rfl (by kernel_rfl);(focus (intro V' hV;refine cA (j:=16) (d:=24) rfl rfl ?_;refine bT ?_;intro K hK;refine aO (cD one_3 rfl (dJ vl9 gd)) ?_;refine cI rfl ?_;exact cK hK rfl (VLe.refl _) rfl));(try dsimp only [List.cons_append,List.nil_append]));(apply bZ (n:=18) [17] rfl rfl rfl (by kernel_rfl);(focus (intro V' hV;refine cA (j:=17) (d:=25) rfl rfl ?_;refine bT ?_;intro K hK;(first|refine aO (fD und_3 und_5 rfl) ?_|refine aO (iH (us:=[_,_]) und_145 und_5 und_9 rfl (uZ (by assumption) rfl)) ?_);refine cI rfl ?_;exact cK hK rfl (VLe.refl _) rfl));(try dsimp only [List.cons_append,List.nil_append]));(apply bZ (n:=19) [] rfl rfl rfl (by kernel_rfl);(focus (intro V' hV;refine bT ?_;intro K hK;refine aO (jT rfl) ?_;refine cI rfl ?_;exact cK hK rfl (VLe.refl _) rfl));(try dsimp only [List.cons_append,List.nil_append]));(apply bZ (n:=20) [19] rfl rfl rfl (by kernel_rfl);(focus (intro V' hV;refine cA (j:=19) (d:=27) rfl rfl ?_;refine bT ?_;intro K hK;(first|refine aO (gE rfl) ?_|refine aO (iK rfl) ?_);refine cI rfl ?_;exact cK hK rfl (VLe.refl _) rfl));(try dsimp only [List.cons_append,List.nil_append]));(apply bZ (n:=21) [20] rfl rfl rfl (by kernel_rfl);(focus (intro V' hV;refine cA (j:=20) (d:=28) rfl rfl ?_;refine bT ?_;intro K hK;refine aO (dQ fld_113_1 rfl) ?_;refine cI rfl ?_;exact cK hK rfl (VLe.refl _) rfl));(try dsimp only [List.cons_append,List.nil_append]));(apply bZ (n:=22) [21] rfl rfl rfl (by kernel_rfl);(focus (intro V' hV;refine cA (j:=21) (d:=29) rfl rfl ?_;refine bT ?_;intro K hK;refine aO (dQ fld_27_2 rfl) ?_;refine cI rfl ?_;exact cK hK rfl (VLe.refl _) rfl));(try dsimp only [List.cons_append,List.nil_append]));(apply bZ (n:=23) [22] rfl rfl rfl (by kernel_rfl);(focus (intro V' hV;refine cA (j:=22) (d:=30) rfl rfl ?_;refine bT ?_;intro K hK;refine aO (cD one_25 rfl (dJ vl9 gx)) ?_;refine cI rfl ?_;exact cK hK rfl (VLe.refl _) rfl));(try dsimp only [List.cons_append,List.nil_append]));(apply bZ (n:=24) [23] rfl rfl rfl (by kernel_rfl);(focus (intro V' hV;refine cA (j:=23) (d:=31) rfl rfl ?_;refine bT ?_;intro K hK;refine aO (q_len rfl und_25 rfl) ?_;refine cI rfl ?_;exact cK hK rfl (VLe.refl _) rfl));(try dsimp only [List.cons_append,List.nil_append]));(apply bZ (n:=25) [24] rfl rfl rfl (by kernel_rfl);(focus (intro V' hV;refine cA (j:=24) (d:=32) rfl rfl ?_;refine bT ?_;intro K hK;(first|refine aO (fD und_3 und_5 rfl) ?_|refine aO (iH (us:=[_,_]) und_145 und_5 und_9 rfl (uZ (by assumption) rfl)) ?_);refine cI rfl ?_;exact cK hK rfl (VLe.refl _) rfl));(try dsimp only [List.cons_append,List.nil_append]));(apply grow_new (n:=26) [18,25] rfl rfl rfl (by kernel_rfl);(focus (intro V' hV;refine cA (j:=18) (d:=26) rfl rfl ?_;refine cA (j:=25) (d:=33) rfl rfl ?_;refine bT ?_;intro K hK;(refine oR rfl hfl0 und_145 siz_5 zec_5 rfl rfl rfl rfl rfl rfl rfl ?_;intro γ V2 hV2 hg2);refine cI rfl ?_;exact cK hK rfl hV2 ⟨_,rfl,hg2⟩));(try dsimp only [List.cons_append,List.nil_append]));(apply bZ (n:=27) [26] rfl rfl rfl (by kernel_rfl);(focus (intro V' hV;refine deps_new (j:=26) (d:=34) rfl rfl ?_;intro g26 hg26;refine bT ?_;intro K hK;(first|refine aO (fD und_3 und_5 rfl) ?_|refine aO (iH (us:=[_,_]) und_145 und_5 und_9 rfl (uZ (by assumption) rfl)) ?_);refine cI rfl ?_;exact cK hK rfl (VLe.refl _) rfl));(try dsimp only [List.cons_append,List.nil_append]));(apply bZ (n:=28) [12,27] rfl rfl rfl (by kernel_rfl);(focus (intro V' hV;refine cA (j:=12) (d:=20) rfl rfl ?_;refine cA (j:=27) (d:=35) rfl rfl ?_;refine bT ?_;intro K hK;(first|refine aO (jA rfl rfl (by simp [b16])) ?_|refine aO (sL rfl rfl (by first|omega|(simp only [ByteArray.size_append,ByteArray.size_extract];omega)|fail)) ?_);refine cI rfl ?_;exact cK hK rfl (VLe.refl _) rfl));(try dsimp only [List.cons_append,List.nil_append]));refine grow_last (n:=29) [28] rfl rfl rfl rfl (by kernel_rfl) (by kernel_rfl) (by kernel_rfl) ?_;intro VG hVG;refine cA (j:=28) (d:=36) rfl rfl ?_;refine bT ?_
  have gu:=dJ hVG gu
  have gg:=dJ hVG gg
  have gx:=dJ hVG gx
  have gd:=dJ hVG gd
  repeat' (first|(refine aE ?_;refine pu9 ?_)|refine bY ?_|fail)
  refine bN (fun F V' L' m=>∃ k:Nat,VLe V V'∧[]=L'∧k≤I.n∧m=I.n - k∧F=[(0,.pointer (some ⟨p,0,none⟩)),(3,.string ⟨(uU b.c ++ (b.c.xs.take k).flatMap b16).toArray⟩),(41,.slice I.A I.n I.k),(42,.int .i64 (I.n:Int)),(43,.int .i64 (k:Int))]) (m:=I.n) ⟨0,hVG,rfl,Nat.zero_le _,by omega,by rw [List.take_zero,List.flatMap_nil,List.append_nil,uU,hxl]⟩ bH rfl sl9 ?_
  rintro F V' L' m ⟨k,hV',rfl,hk,rfl,rfl⟩
  have hfl:((b.c.xs.take k).flatMap b16).length≤8:=by rw [oI,List.length_take];omega
  have hcl9:(uU b.c).length=6:=rfl
  by_cases hlt:k<I.n
  · obtain⟨b1,o1,w,hA1,hw,hcw⟩:=(h.2.xs.le hV').at_ hlt
    have hw0:0≤w:=(gF_ids _ _ hz.2.2.2.2 w (List.mem_of_getElem? hw)).1
    have htk:(b.c.xs.take (k+1)).flatMap b16=(b.c.xs.take k).flatMap b16 ++ b16 w:=by rw [List.take_add_one,hw,List.flatMap_append];simp
    repeat' (first|(refine aE ?_;first|(refine aC ?_;refine aP rfl (aK ⟨Tryz.call91⟩ rfl (btwo_c _ _ hw0)) ?_)|(refine cN ?_;refine aO (jA rfl rfl (by rw [List.length_append,b16_len];omega)) ?_)|(refine cG ?_;refine aO (bF und_25 siz_3 rfl hA1 rfl hlt) ?_)|refine pu9 ?_)|refine bY ?_|(refine aA rfl ?_ ?_<;>intro hq<;>try exact no9))
    all_goals
      refine aX _ (I.n - (k+1)) ⟨k+1,vl9,rfl,by omega,rfl,by rw [htk,←List.append_assoc]⟩ (by omega) bH sl9
  · obtain rfl:k=I.n:=by omega
    rw [List.take_of_length_le (by omega)] at hfl ⊢
    have hB:=fun V2 (hV2:VLe V V2)=>Bytes_tc V2 x0 (hN0.le hV2)
    have hbl:(fG x0.n).length≤100000:=bytes_few _
    have gl:=dJ hV' hcl
    have hc9:=hc0.le hV'
    repeat' (first|(refine aE ?_;first|(refine aC ?_;refine aP rfl (aK ⟨Tryz.call92⟩ rfl (hB _ vl9)) ?_)|(refine cN ?_;refine aO (jA rfl rfl (by rw [List.length_append];omega)) ?_)|(refine cG ?_;refine aO (bF (k:=0) und_30 siz_70 rfl hK rfl hm0) ?_)|refine pu9 ?_)|refine dT ?_|(refine aA rfl ?_ ?_<;>intro hq<;>try exact no9))
    all_goals
      (refine aM Tryz.results24 (aB rfl) ?_)
      rw [lW,hhd]
theorem Bytes_b {V:aD} {p:Nat} {b:BX} {Bs:List Box} (hok:bI b) (h:eD V p b Bs):FnB Tryz.prog 24 [.pointer (some ⟨p,0,none⟩)] V Bs fun v V' Bs'=>Bs'=Bs∧v=.string ⟨(lW b).toArray⟩ :=
  eD.read hok h (fun v V gs hc h=>h) fun V' I hV hB=>Bytes_v V' p b I hok hB
end
section
structure eW (b:BX) (r:BX×Int):Prop where
  ok:bI r.1
  us:r.1.us=b.us
  gs:r.1.gs=b.gs
  q:r.1.q=b.q
  lo:0≤r.2
  hi:r.2≤17
theorem eW.err {b:BX} (hok:bI b) {e:Int} (h0:0≤e) (h1:e≤17):eW b (b,e):=⟨hok,rfl,rfl,rfl,h0,h1⟩
theorem treeF_bdz (upper:Bool) (n:PN):0≤cP upper n∧cP upper n≤7:=by
  have:=iT upper 0 0 n (by omega)
  unfold cP;split<;>omega
theorem uA {b:BX} (hok:bI b) (u:PN):eW b (jB b u):=by
  have h9:=growOk hok u
  have hb:=treeF_bdz true u
  unfold jB at h9 ⊢
  split
  · exact eW.err hok hb.1 (by omega)
  · split
    · exact eW.err hok (by decide) (by decide)
    · rename_i h1 h2
      rw [if_neg h1,if_neg h2] at h9
      exact⟨h9,rfl,rfl,rfl,by simp,by simp⟩
theorem good_putG {b:BX} (hok:bI b) (x u:PN) (ss:List ByteArray):eW b (putG b x u ss):=by
  have:=pF_bd false x ss u
  unfold putG
  split
  · exact eW.err hok (by omega) (by omega)
  · exact uA hok _
theorem rI {b:BX} (hok:bI b) (ss:List ByteArray) (f:Hd→Hd):eW b (gY b ss f):=by
  have:=upP_bd b.ls b.us b.gs ss
  unfold gY
  split
  · exact eW.err hok (by omega) (by omega)
  · split
    · exact uA hok _
    · split
      · have:=pF_bd false (.mk (f ((eI (upP b.ls b.us b.gs ss).1 ss).getD pnZ).h) ((eI (upP b.ls b.us b.gs ss).1 ss).getD pnZ).ks) ss (upP b.ls b.us b.gs ss).1
        exact eW.err hok (by omega) (by omega)
      · exact uA hok _
theorem nU (b:BX) (l:List UInt8):0≤cZ b l∧cZ b l≤9:=by
  have h1:=wP l
  have h2:=tJ b (aU l) (aU l).length
  unfold cZ dE
  (repeat' split)<;>omega
theorem spotF_bd (b:BX) (l:List UInt8):0≤sA b l∧sA b l≤9:=by
  have h1:=wP l
  have h2:=tJ b (aU l) (aU l).length
  unfold sA dE
  split<;>omega
theorem takeF_bd (b:BX) (s:SP):0≤fK b s∧fK b s≤10:=by
  unfold fK;(repeat' split)<;>omega
theorem attrsF_bd (b:BX) (t:TH) (nm:ByteArray) (w:Int):0≤gT b t nm w∧gT b t nm w≤10:=by
  unfold gT;(repeat' split)<;>omega
theorem good_make {b:BX} (hok:bI b) (ss:List ByteArray) (par:TH) (kind mode:Int) (dt:ByteArray):eW b (lQ b ss par kind mode dt):=by
  unfold lQ
  split
  · exact eW.err hok (by decide) (by decide)
  · split
    · exact eW.err hok (by decide) (by decide)
    · split
      · exact eW.err hok (by decide) (by decide)
      · unfold make2
        have:=upP_bd b.ls b.us b.gs (ss.take (ss.length - 1))
        split
        · exact eW.err hok (by omega) (by omega)
        · exact good_putG hok _ _ _
theorem good_put {b:BX} (hok:bI b) (c:CL):eW b (gJ b c):=by
  have h1:=spotF_bd b (aH c.path)
  unfold gJ
  (repeat' split)<;>first|exact eW.err hok (by decide) (by decide)|exact eW.err hok (by omega) (by omega)|exact good_make hok _ _ _ _ _|exact rI hok _ _
theorem good_mkdir {b:BX} (hok:bI b) (c:CL):eW b (lA b c):=by
  have h1:=spotF_bd b (aH c.path)
  unfold lA
  (repeat' split)<;>first|exact eW.err hok (by decide) (by decide)|exact eW.err hok (by omega) (by omega)|exact good_make hok _ _ _ _ _
theorem goneF_bd (b:BX) (u:PN) (ss:List ByteArray):0≤jZ b u ss∧jZ b u ss≤17:=by
  have h1:=pF_bd false yF ss u
  have h2:=pF_bd true pnZ ss u
  unfold jZ;split<;>omega
theorem good_remove {b:BX} (hok:bI b) (s:ByteArray):eW b (fU b s):=by
  have h1:=nU b (aH s)
  have h2:=takeF_bd b (bG b (aH s))
  have h3:=upP_bd b.ls b.us b.gs ((aU (aH s)).take ((aU (aH s)).length - 1))
  have h4:=goneF_bd b (upP b.ls b.us b.gs ((aU (aH s)).take ((aU (aH s)).length - 1))).1 (aU (aH s))
  unfold fU gone2
  (repeat' split)<;>first|exact eW.err hok (by decide) (by decide)|exact eW.err hok (by omega) (by omega)|exact uA hok _
theorem good_move {b:BX} (hok:bI b) (s t:ByteArray):eW b (uY b s t):=by
  have h1:=nU b (aH s)
  have h2:=takeF_bd b (bG b (aH s))
  have h3:=takeF_bd b (bG b (aH t))
  have h4:=wP (aH s)
  have h5:=wP (aH t)
  have h6:=tJ b (aU (aH t)) (aU (aH t)).length
  have h7:=upP_bd b.ls b.us b.gs (aU (aH s))
  have h8:=upP_bd ((upP b.ls b.us b.gs (aU (aH s))).1 :: b.ls.tail) b.us b.gs ((aU (aH t)).take ((aU (aH t)).length - 1))
  have h9:=goneF_bd b (upP ((upP b.ls b.us b.gs (aU (aH s))).1 :: b.ls.tail) b.us b.gs ((aU (aH t)).take ((aU (aH t)).length - 1))).1 (aU (aH s))
  unfold uY dE
  split
  · exact eW.err hok (by first|decide|omega) (by first|decide|omega)
  split
  · exact eW.err hok (by first|decide|omega) (by first|decide|omega)
  split
  · exact eW.err hok (by first|decide|omega) (by first|decide|omega)
  split
  · exact eW.err hok (by first|decide|omega) (by first|decide|omega)
  split
  · exact eW.err hok (by first|decide|omega) (by first|decide|omega)
  split
  · exact eW.err hok (by first|decide|omega) (by first|decide|omega)
  split
  · exact eW.err hok (by first|decide|omega) (by first|decide|omega)
  split
  · exact eW.err hok (by first|decide|omega) (by first|decide|omega)
  split
  · exact eW.err hok (by first|decide|omega) (by first|decide|omega)
  unfold wF
  split
  · exact eW.err hok (by first|decide|omega) (by first|decide|omega)
  split
  · exact eW.err hok (by first|decide|omega) (by first|decide|omega)
  split
  · exact eW.err hok (by first|decide|omega) (by first|decide|omega)
  split
  · exact eW.err hok (by first|decide|omega) (by first|decide|omega)
  unfold xI
  split
  · exact eW.err hok (by first|decide|omega) (by first|decide|omega)
  split
  · exact eW.err hok (by first|decide|omega) (by first|decide|omega)
  unfold xT
  split
  · exact eW.err hok (by first|decide|omega) (by first|decide|omega)
  exact good_putG hok _ _ _
theorem good_mode {b:BX} (hok:bI b) (l:List UInt8) (m:Int):eW b (pS b l m):=by
  have h1:=nU b l
  unfold pS
  (repeat' split)<;>first|exact eW.err hok (by decide) (by decide)|exact eW.err hok (by omega) (by omega)|exact rI hok _ _
theorem good_own {b:BX} (hok:bI b) (l:List UInt8) (u g:Int):eW b (uM b l u g):=by
  have h1:=nU b l
  unfold uM wN
  (repeat' split)<;>first|exact eW.err hok (by decide) (by decide)|exact eW.err hok (by omega) (by omega)|exact rI hok _ _
theorem good_be {b:BX} (hok:bI b) (u g:Int):eW b (beP b u g):=by
  have h1:=becF_bd b.c.u b.c.g b.c.d b.c.xs u g
  unfold beP
  split
  · exact eW.err hok (by omega) (by omega)
  · rename_i h
    split
    · exact eW.err hok (by decide) (by decide)
    · exact⟨beOk hok (Decidable.not_not.1 h),rfl,rfl,rfl,by simp,by simp⟩
theorem good_attr {b:BX} (hok:bI b) (l:List UInt8) (nm vl:ByteArray) (drop:Bool):eW b (nK b l nm vl drop):=by
  have h1:=nU b l
  have h2:=attrsF_bd b (bG b l).th nm 2
  have h3:=getF_bd (bG b l).n.h.attrs nm
  have h4:=setF_bd (bG b l).n.h.attrs nm vl
  have h5:0≤(newA (bG b l).n.h.attrs nm vl drop).1∧(newA (bG b l).n.h.attrs nm vl drop).1≤5:=by unfold newA;split<;>omega
  unfold nK
  (repeat' split)<;>first|exact eW.err hok (by decide) (by decide)|exact eW.err hok (by omega) (by omega)|exact rI hok _ _
theorem good_do {b:BX} (hok:bI b) (c:CL):eW b ((doP b c).1,(doP b c).2.2):=by
  have h1:=nU b (aH c.path)
  have h2:=attrsF_bd b (bG b (aH c.path)).th c.name 4
  have h3:=getF_bd (bG b (aH c.path)).n.h.attrs c.name
  have hl:0≤(kB b c).2∧(kB b c).2≤17:=by unfold kB;(repeat' split)<;>first|exact⟨h1.1,show _≤(17:Int) by omega⟩|exact⟨h2.1,show _≤(17:Int) by omega⟩|exact⟨h3.1,show _≤(17:Int) by omega⟩|exact(show (0:Int)≤0∧(0:Int)≤17 from ⟨by decide,by decide⟩)|exact(show (0:Int)≤7∧(7:Int)≤17 from ⟨by decide,by decide⟩)|exact(show (0:Int)≤9∧(9:Int)≤17 from ⟨by decide,by decide⟩)|exact(show (0:Int)≤4∧(4:Int)≤17 from ⟨by decide,by decide⟩)
  have hg:0≤(sZ b c).2∧(sZ b c).2≤17:=by unfold sZ;(repeat' split)<;>first|exact⟨h1.1,show _≤(17:Int) by omega⟩|exact⟨h2.1,show _≤(17:Int) by omega⟩|exact⟨h3.1,show _≤(17:Int) by omega⟩|exact(show (0:Int)≤0∧(0:Int)≤17 from ⟨by decide,by decide⟩)|exact(show (0:Int)≤7∧(7:Int)≤17 from ⟨by decide,by decide⟩)|exact(show (0:Int)≤9∧(9:Int)≤17 from ⟨by decide,by decide⟩)|exact(show (0:Int)≤4∧(4:Int)≤17 from ⟨by decide,by decide⟩)
  have ch:∀ r:BX×Int,eW b r→eW b ((chT r).1,(chT r).2.2):=fun r h=>h
  unfold doP
  by_cases o0:1≤c.op∧c.op≤3
  · rw [if_pos o0];exact eW.err hok hl.1 hl.2
  rw [if_neg o0]
  by_cases o1:c.op=4
  · rw [if_pos o1];exact ch _ (good_put hok c)
  rw [if_neg o1]
  by_cases o2:c.op=5
  · rw [if_pos o2];exact ch _ (good_mkdir hok c)
  rw [if_neg o2]
  by_cases o3:c.op=6
  · rw [if_pos o3];exact ch _ (good_remove hok _)
  rw [if_neg o3]
  by_cases o4:c.op=7
  · rw [if_pos o4];exact ch _ (good_move hok _ _)
  rw [if_neg o4]
  by_cases o5:c.op=8
  · rw [if_pos o5];exact ch _ (good_mode hok _ _)
  rw [if_neg o5]
  by_cases o6:c.op=9
  · rw [if_pos o6];exact ch _ (good_own hok _ _ _)
  rw [if_neg o6]
  by_cases o7:c.op=10
  · rw [if_pos o7];exact ch _ (good_attr hok _ _ _ _)
  rw [if_neg o7]
  by_cases o8:c.op=11
  · rw [if_pos o8];exact ch _ (good_attr hok _ _ _ _)
  rw [if_neg o8]
  by_cases o9:c.op=12
  · rw [if_pos o9];exact eW.err hok hg.1 hg.2
  rw [if_neg o9]
  by_cases o10:c.op=13
  · rw [if_pos o10];exact ch _ (good_be hok _ _)
  rw [if_neg o10]
  by_cases o11:c.op=14
  · rw [if_pos o11];exact eW.err hok (show (0:Int)≤0 by decide) (show (0:Int)≤17 by decide)
  rw [if_neg o11]
  exact eW.err hok (show (0:Int)≤3 by decide) (show (3:Int)≤17 by decide)
end
section
def dC (b:BX):BX:={ b with q:=64 }
def upB (b:BX):PN:=b.ls.headD pnZ
theorem look_rich (b:BX) (ss:List ByteArray) (t:TH):fQ (dC b) ss t=fQ b ss t:=rfl
theorem spotK_rich (b:BX) (ss:List ByteArray):∀ k,eU (dC b) ss k=eU b ss k
  | 0=>rfl
  | k+1=>by
    rw [eU,eU,spotK_rich b ss k,look_rich]
    rfl
theorem rP (b:BX) (ss:List ByteArray):dE (dC b) ss=dE b ss:=spotK_rich b ss _
theorem jJ (b:BX) (l:List UInt8):cZ (dC b) l=cZ b l:=by unfold cZ;rw [rP]
theorem fA (b:BX) (l:List UInt8):bG (dC b) l=bG b l:=by unfold bG;rw [rP]
theorem spotF_rich (b:BX) (l:List UInt8):sA (dC b) l=sA b l:=by unfold sA;rw [rP]
structure Qt (b:BX) (r r':BX×Int):Prop where
  bad:¬r.2=0→r.1=b
  same:¬r'.2=0→r.2=r'.2
  over:r'.2=0→b.q<dS (upB r'.1)→r.2=12
  fits:r'.2=0→dS (upB r'.1)≤b.q→r.2=0∧r'.1=dC r.1
theorem Qt.err {b:BX} (hb:dS (upB b)≤b.q) (e:Int):Qt b (b,e) (dC b,e) :=
  ⟨fun _=>rfl,fun _=>rfl,fun _ h=>absurd hb (by have h:b.q<dS (upB b):=h;omega),fun h _=>⟨h,rfl⟩⟩
theorem qt_grow {b:BX} (hq:b.q≤64) (hb:dS (upB b)≤b.q) (u:PN):Qt b (jB b u) (jB (dC b) u):=by
  unfold jB
  by_cases h1:cP true u=0
  · rw [if_neg (not_not_intro h1),if_neg (not_not_intro h1)]
    by_cases h2:b.q<dS u
    · rw [if_pos h2]
      by_cases h3:(dC b).q<dS u
      · rw [if_pos h3];exact Qt.err hb 12
      · rw [if_neg h3]
        exact⟨fun _=>rfl,fun h=>absurd rfl h,fun _ _=>rfl,fun _ h=>absurd h2 (by have h:dS u≤b.q:=h;omega)⟩
    · rw [if_neg h2,if_neg (by show ¬(64:Int)<_;omega)]
      exact⟨fun h=>absurd rfl h,fun h=>absurd rfl h,fun _ h=>absurd h h2,fun _ _=>⟨rfl,rfl⟩⟩
  · rw [if_pos h1,if_pos h1];exact Qt.err hb _
section
variable {b : BX} (hq : b.q ≤ 64) (hb : dS (upB b) ≤ b.q)
include hq hb
theorem qt_putG (x u:PN) (ss:List ByteArray):Qt b (putG b x u ss) (putG (dC b) x u ss):=by
  unfold putG
  split
  · exact Qt.err hb _
  · exact qt_grow hq hb _
theorem wV (ss:List ByteArray) (f:Hd→Hd):Qt b (gY b ss f) (gY (dC b) ss f):=by
  have e1:(dC b).ls=b.ls:=rfl
  have e2:(dC b).us=b.us:=rfl
  have e3:(dC b).gs=b.gs:=rfl
  unfold gY
  rw [e1,e2,e3]
  split
  · exact Qt.err hb _
  · split
    · exact qt_grow hq hb _
    · split
      · exact Qt.err hb _
      · exact qt_grow hq hb _
theorem qt_make (ss:List ByteArray) (par:TH) (kind mode:Int) (dt:ByteArray):Qt b (lQ b ss par kind mode dt) (lQ (dC b) ss par kind mode dt):=by
  have e0:(dC b).c=b.c:=rfl
  have e1:(dC b).ls=b.ls:=rfl
  have e2:(dC b).us=b.us:=rfl
  have e3:(dC b).gs=b.gs:=rfl
  have e4:sC (dC b) par kind mode dt=sC b par kind mode dt:=rfl
  unfold lQ
  rw [e0,e2,e3,e4]
  split
  · exact Qt.err hb _
  · split
    · exact Qt.err hb _
    · cases hm:cS true b.us b.gs (.mk (sC b par kind mode dt) []) with
      | none=>exact Qt.err hb _
      | some x =>
        show Qt b (make2 b ss kind x) (make2 (dC b) ss kind x)
        unfold make2
        rw [e1,e2,e3]
        split
        · exact Qt.err hb _
        · exact qt_putG hq hb _ _ _
theorem qt_put (c:CL):Qt b (gJ b c) (gJ (dC b) c):=by
  have e0:(dC b).c=b.c:=rfl
  unfold gJ
  rw [spotF_rich,fA,e0]
  (repeat' split)<;>first|exact Qt.err hb _|exact qt_make hq hb _ _ _ _ _|exact wV hq hb _ _
theorem qt_mkdir (c:CL):Qt b (lA b c) (lA (dC b) c):=by
  unfold lA
  rw [spotF_rich,fA]
  (repeat' split)<;>first|exact Qt.err hb _|exact qt_make hq hb _ _ _ _ _
theorem qt_remove (s:ByteArray):Qt b (fU b s) (fU (dC b) s):=by
  have e1:(dC b).ls=b.ls:=rfl
  have e2:(dC b).us=b.us:=rfl
  have e3:(dC b).gs=b.gs:=rfl
  have e4:∀ s,fK (dC b) s=fK b s:=fun s=>rfl
  have e5:∀ u ss,jZ (dC b) u ss=jZ b u ss:=fun u ss=>rfl
  have e6:∀ u ss,pZ (dC b) u ss=pZ b u ss:=fun u ss=>rfl
  unfold fU gone2
  rw [jJ,fA,e1,e2,e3,e4]
  (repeat' (first|rw [e5]|rw [e6]))
  (repeat' split)<;>first|exact Qt.err hb _|exact qt_grow hq hb _
theorem qt_move (s t:ByteArray):Qt b (uY b s t) (uY (dC b) s t):=by
  have e0:(dC b).c=b.c:=rfl
  have e1:(dC b).ls=b.ls:=rfl
  have e2:(dC b).us=b.us:=rfl
  have e3:(dC b).gs=b.gs:=rfl
  have e4:∀ s,fK (dC b) s=fK b s:=fun s=>rfl
  have e5:∀ u ss,jZ (dC b) u ss=jZ b u ss:=fun u ss=>rfl
  have e6:∀ u ss,pZ (dC b) u ss=pZ b u ss:=fun u ss=>rfl
  have h4:∀ dir n u ss other,Qt b (xT b dir n u ss other) (xT (dC b) dir n u ss other):=fun dir n u ss other=>by
    unfold xT
    rw [e1,e5,e6]
    split
    · exact Qt.err hb _
    · exact qt_putG hq hb _ _ _
  have h3:∀ dir ss other,Qt b (xI b dir ss other) (xI (dC b) dir ss other):=fun dir ss other=>by
    unfold xI
    rw [e1,e2,e3]
    split
    · exact Qt.err hb _
    · split
      · exact Qt.err hb _
      · exact h4 _ _ _ _ _
  have h2:∀ a to ss other,Qt b (wF b a to ss other) (wF (dC b) a to ss other):=fun a to ss other=>by
    unfold wF
    rw [e1,e4]
    (repeat' split)<;>first|exact Qt.err hb _|exact h3 _ _ _
  unfold uY
  rw [jJ,fA,fA,rP,e0,e4]
  (repeat' split)<;>first|exact Qt.err hb _|exact h2 _ _ _ _
theorem qt_mode (l:List UInt8) (m:Int):Qt b (pS b l m) (pS (dC b) l m):=by
  have e0:(dC b).c=b.c:=rfl
  unfold pS
  rw [jJ,fA,e0]
  (repeat' split)<;>first|exact Qt.err hb _|exact wV hq hb _ _
theorem qt_own (l:List UInt8) (u g:Int):Qt b (uM b l u g) (uM (dC b) l u g):=by
  have h2:∀ u g,Qt b (wN b l u g) (wN (dC b) l u g):=fun u g=>by
    have e0:∀ t,wO (dC b) t u g=wO b t u g:=fun _=>rfl
    have e2:(dC b).us=b.us:=rfl
    have e3:(dC b).gs=b.gs:=rfl
    by_cases hm:wO b (bG b l).th u g
    · have hm':wO (dC b) (bG (dC b) l).th u g:=by rw [fA];exact hm
      unfold wN
      rw [if_neg (not_not_intro hm),if_neg (not_not_intro hm'),e2,e3]
      cases hx:cS true b.us b.gs (idN u g) with
      | none=>exact Qt.err hb _
      | some x=>exact wV hq hb _ _
    · have hm':¬wO (dC b) (bG (dC b) l).th u g:=by rw [fA];exact hm
      unfold wN
      rw [if_pos hm,if_pos hm']
      exact Qt.err hb _
  unfold uM
  rw [jJ,fA]
  (repeat' split)<;>first|exact Qt.err hb _|exact h2 _ _
theorem qt_be (u g:Int):Qt b (beP b u g) (beP (dC b) u g):=by
  have _:=hq
  have e0:(dC b).c=b.c:=rfl
  have e2:(dC b).us=b.us:=rfl
  have e3:(dC b).gs=b.gs:=rfl
  unfold beP
  rw [e0,e2,e3]
  split
  · exact Qt.err hb _
  · split
    · exact Qt.err hb _
    · exact⟨fun h=>absurd rfl h,fun h=>absurd rfl h,fun _ h=>absurd (show dS (upB b)≤b.q from hb) (by have h:b.q<dS (upB b):=h;omega),fun _ _=>⟨rfl,rfl⟩⟩
theorem qt_attr (l:List UInt8) (nm vl:ByteArray) (drop:Bool):Qt b (nK b l nm vl drop) (nK (dC b) l nm vl drop):=by
  have e4:∀ t n w,gT (dC b) t n w=gT b t n w:=fun _ _ _=>rfl
  unfold nK
  rw [jJ,fA,e4]
  (repeat' split)<;>first|exact Qt.err hb _|exact wV hq hb _ _
end
theorem lookT_rich (b:BX) (c:CL):kB (dC b) c=kB b c:=by
  have e0:(dC b).c=b.c:=rfl
  have e1:(dC b).ls=b.ls:=rfl
  unfold kB
  rw [jJ,fA,e0,e1]
theorem getP_rich (b:BX) (c:CL):sZ (dC b) c=sZ b c:=by
  have e4:∀ t n w,gT (dC b) t n w=gT b t n w:=fun _ _ _=>rfl
  unfold sZ
  rw [jJ,fA,e4]
theorem qt_do {b:BX} (hq:b.q≤64) (hb:dS (upB b)≤b.q) (c:CL):Qt b ((doP b c).1,(doP b c).2.2) ((doP (dC b) c).1,(doP (dC b) c).2.2)∧(doP (dC b) c).2.1=(doP b c).2.1:=by
  have e1:(dC b).ls=b.ls:=rfl
  have ch:∀ r r':BX×Int,Qt b r r'→Qt b ((chT r).1,(chT r).2.2) ((chT r').1,(chT r').2.2)∧(chT r').2.1=(chT r).2.1:=fun r r' h=>⟨h,rfl⟩
  unfold doP
  rw [lookT_rich,getP_rich,e1]
  by_cases o0:1≤c.op∧c.op≤3
  · rw [if_pos o0,if_pos o0];exact⟨Qt.err hb _,rfl⟩
  rw [if_neg o0,if_neg o0]
  by_cases o1:c.op=4
  · rw [if_pos o1,if_pos o1];exact ch _ _ (qt_put hq hb c)
  rw [if_neg o1,if_neg o1]
  by_cases o2:c.op=5
  · rw [if_pos o2,if_pos o2];exact ch _ _ (qt_mkdir hq hb c)
  rw [if_neg o2,if_neg o2]
  by_cases o3:c.op=6
  · rw [if_pos o3,if_pos o3];exact ch _ _ (qt_remove hq hb _)
  rw [if_neg o3,if_neg o3]
  by_cases o4:c.op=7
  · rw [if_pos o4,if_pos o4];exact ch _ _ (qt_move hq hb _ _)
  rw [if_neg o4,if_neg o4]
  by_cases o5:c.op=8
  · rw [if_pos o5,if_pos o5];exact ch _ _ (qt_mode hq hb _ _)
  rw [if_neg o5,if_neg o5]
  by_cases o6:c.op=9
  · rw [if_pos o6,if_pos o6];exact ch _ _ (qt_own hq hb _ _ _)
  rw [if_neg o6,if_neg o6]
  by_cases o7:c.op=10
  · rw [if_pos o7,if_pos o7];exact ch _ _ (qt_attr hq hb _ _ _ _)
  rw [if_neg o7,if_neg o7]
  by_cases o8:c.op=11
  · rw [if_pos o8,if_pos o8];exact ch _ _ (qt_attr hq hb _ _ _ _)
  rw [if_neg o8,if_neg o8]
  by_cases o9:c.op=12
  · rw [if_pos o9,if_pos o9];exact⟨Qt.err hb _,rfl⟩
  rw [if_neg o9,if_neg o9]
  by_cases o10:c.op=13
  · rw [if_pos o10,if_pos o10];exact ch _ _ (qt_be hq hb _ _)
  rw [if_neg o10,if_neg o10]
  by_cases o11:c.op=14
  · rw [if_pos o11,if_pos o11];exact⟨Qt.err hb _,rfl⟩
  rw [if_neg o11,if_neg o11]
  exact⟨Qt.err hb _,rfl⟩
theorem Qt.room {b:BX} {r r':BX×Int} (hb:dS (upB b)≤b.q) (h:Qt b r r'):dS (upB r.1)≤b.q:=by
  by_cases h1:r.2=0
  · by_cases h2:r'.2=0
    · by_cases h3:b.q<dS (upB r'.1)
      · have:=h.over h2 h3;omega
      · obtain⟨_,h4⟩:=h.fits h2 (by omega)
        have:upB r'.1=upB r.1:=by rw [h4];rfl
        rw [←this];omega
    · have:=h.same h2;omega
  · rw [h.bad h1];exact hb
end
section
theorem look_bd9 {xs:List PR} (h:∀ r∈xs,bdR r) {x y:Int} (hl:kU xs x=some y):0≤y∧y≤65535:=by
  obtain⟨r,hr,hi,rfl⟩:=look_some hl
  have:=h r hr
  unfold bdR at this;unfold inR at hi;omega
theorem xC {m:List PR} {x y:Int} (h:eS m x=some y):0≤y∧y≤65535:=by
  unfold eS at h
  by_cases hf:cE m=0
  · rw [if_pos hf] at h
    exact look_bd9 (fun r hr=>(mF hf).2.1 r hr) h
  · rw [if_neg hf] at h;cases h
theorem root_tree9 {u g:Int} (hu:0≤u∧u≤65535) (hg:0≤g∧g≤65535):cP true (.mk ⟨2,493,u,g,false,[],⟨#[]⟩⟩ [])=0:=by
  have h0:iO ⟨2,493,u,g,false,[],⟨#[]⟩⟩ (decide (0<([]:PKs).length)) true (decide (0=0))=0:=by
    unfold iO
    rw [if_neg (by show ¬¬((2:Int)=1∨(2:Int)=2∨(2:Int)=3);decide),if_neg (by show ¬¬((0≤(493:Int)∧(493:Int)≤4095)∧(0≤u∧u≤65535)∧(0≤g∧g≤65535));omega)]
    rfl
  unfold cP
  rw [if_neg (by show ¬¬(2:Int)=2;decide),bU,if_neg (by omega),if_neg (not_not_intro h0),dD]
theorem root_tree {us gs:List PR} {c:CR} {z:PN} (h:cS true us gs (.mk (tK c) [])=some z):cP true z=0:=by
  obtain⟨u,g,rfl,h1,h2⟩:=moved_inv h
  exact root_tree9 (xC (m:=us) h1) (xC (m:=gs) h2)
theorem newOk {x:CF} {ls:List PN} (h:lY x ls=0):bI (sF x.M.us x.M.gs x.c x.q ls):=by
  obtain⟨k1,k2,k3,k4,k5,k6,k7⟩:=cfg_ok h
  obtain⟨z,hz⟩:=qZ k7
  refine⟨k4,k5,by show 0<ls.length+1;omega,by show ls.length+1≤4;omega,fun y hy=>?_,fun j y hj hy=>?_⟩
  · have hy:(((cS true x.M.us x.M.gs (.mk (tK x.c) [])).getD pnZ) :: ls)[0]?=some y:=hy
    rw [hz] at hy
    cases hy
    exact root_tree hz
  · have hy:(((cS true x.M.us x.M.gs (.mk (tK x.c) [])).getD pnZ) :: ls)[j]?=some y:=hy
    obtain⟨i,rfl⟩:∃ i,j=i+1:=⟨j - 1,by omega⟩
    rw [List.getElem?_cons_succ] at hy
    exact k6 y (List.mem_of_getElem? hy)
end
section
structure Rd where
  l:List UInt8
  bad:Bool
def eH (st:Rd) (n:Nat):List UInt8×Rd:=if st.bad=true∨st.l.length<n then ([],⟨st.l,true⟩) else (st.l.take n,⟨st.l.drop n,false⟩)
def oneV:List UInt8→Int
  | []=>0
  | b :: _=>(b.toNat:Int)
def pairV:List UInt8→Int
  | [a,b]=>(a.toNat:Int) * 256+(b.toNat:Int)
  | _=>0
def cM (st:Rd):Int×Rd:=(oneV (eH st 1).1,(eH st 1).2)
def nN (st:Rd):Int×Rd:=((cM st).1 * 256+(cM (cM st).2).1,(cM (cM st).2).2)
def fZ (st:Rd):Int×Rd:=(pairV (eH st 2).1,(eH st 2).2)
def dH (st:Rd):ByteArray×Rd:=(⟨(eH (cM st).2 (cM st).1.toNat).1.toArray⟩,(eH (cM st).2 (cM st).1.toNat).2)
def eB:Nat→Rd→List PA×Rd
  | 0,st=>([],st)
  | k+1,st=>if st.bad=true then ([],st) else (⟨(dH st).1,(dH (dH st).2).1⟩ :: (eB k (dH (dH st).2).2).1,(eB k (dH (dH st).2).2).2)
def fX (rd:Rd→PN×Rd):Nat→Rd→PKs×Rd
  | 0,st=>([],st)
  | k+1,st=>if st.bad=true then ([],st) else (((dH st).1,(rd (dH st).2).1) :: (fX rd k (rd (dH st).2).2).1,(fX rd k (rd (dH st).2).2).2)
def hdR (k m u g:Int) (as9:List PA) (d:ByteArray):Hd:=⟨if 7<k then k - 8 else k,m,u,g,decide (7<k),as9,d⟩
def eN (two:Rd→Int×Rd):Nat→Rd→PN×Rd
  | 0,st=>(pnZ,⟨st.l,true⟩)
  | f+1,st =>
    let k:=cM st
    let m:=two k.2
    let u:=two m.2
    let g:=two u.2
    let an:=cM g.2
    let as9:=eB an.1.toNat an.2
    let d:=dH as9.2
    let kn:=cM d.2
    let ks:=fX (eN two f) kn.1.toNat kn.2
    (.mk (hdR k.1 m.1 u.1 g.1 as9.1 d.1) ks.1,ks.2)
theorem takeR_ok {st:Rd} {n:Nat} (h:(eH st n).2.bad=false):st.bad=false∧st.l=(eH st n).1 ++ (eH st n).2.l∧(eH st n).1.length=n:=by
  unfold eH at h ⊢
  split at h
  · simp at h
  · rename_i h1
    rw [if_neg h1]
    have h2:¬st.bad=true:=fun e=>h1 (.inl e)
    refine⟨by simpa using h2,by simp,?_⟩
    simp only [List.length_take];omega
theorem takeR_of {a r:List UInt8} {n:Nat} (h:a.length=n):eH ⟨a ++ r,false⟩ n=(a,⟨r,false⟩):=by
  unfold eH
  rw [if_neg (by simp;omega)]
  subst h;simp
theorem b8_of {v:Int} (h:0≤v∧v≤255):((b8 v).toNat:Int)=v:=by rw [yL];omega
theorem b8_back (b:UInt8):b8 (b.toNat:Int)=b:=by
  apply UInt8.toNat_inj.1
  have h1:=yL (b.toNat:Int)
  have h2:=b.toNat_lt
  omega
theorem qK {st:Rd} (h:(cM st).2.bad=false):st.bad=false∧st.l=b8 (cM st).1 :: (cM st).2.l∧0≤(cM st).1∧(cM st).1≤255:=by
  unfold cM at h ⊢
  obtain⟨h1,h2,h3⟩:=takeR_ok h
  refine⟨h1,?_⟩
  cases ht:(eH st 1).1 with
  | nil=>rw [ht] at h3;simp at h3
  | cons b l =>
    rw [ht] at h2 h3
    obtain rfl:l=[]:=by cases l with
      | nil=>rfl
      | cons _ _=>simp at h3
    have:=b.toNat_lt
    simp only [oneV]
    refine⟨by rw [b8_back];exact h2,by omega,by omega⟩
theorem qM {v:Int} {r:List UInt8} (h:0≤v∧v≤255):cM ⟨b8 v :: r,false⟩=(v,⟨r,false⟩):=by
  unfold cM
  have e:=takeR_of (a:=[b8 v]) (r:=r) (n:=1) rfl
  rw [show ([b8 v] ++ r:List UInt8)=b8 v :: r from rfl] at e
  rw [e]
  simp only [oneV,b8_of h]
structure TwoOk (two:Rd→Int×Rd):Prop where
  ok:∀ st,(two st).2.bad=false→st.bad=false∧st.l=b16 (two st).1 ++ (two st).2.l∧0≤(two st).1∧(two st).1≤65535
  of:∀ v r,0≤v→v≤65535→two ⟨b16 v ++ r,false⟩=(v,⟨r,false⟩)
theorem b8_eq {x y:Int} (h:x % 256=y % 256):b8 x=b8 y:=by unfold b8;rw [h]
theorem uK:TwoOk nN where
  ok:=fun st h=>by
    unfold nN at h ⊢
    obtain⟨h1,h2,h3,h4⟩:=qK h
    obtain⟨g1,g2,g3,g4⟩:=qK h1
    refine⟨g1,?_,by simp only [];omega,by simp only [];omega⟩
    rw [g2,h2]
    simp only [b16,List.cons_append,List.nil_append]
    rw [b8_eq (x:=((cM st).1 * 256+(cM (cM st).2).1) / 256) (y:=(cM st).1) (by omega),b8_eq (x:=(cM st).1 * 256+(cM (cM st).2).1) (y:=(cM (cM st).2).1) (by omega)]
  of:=fun v r h1 h2=>by
    unfold nN
    have e1:cM ⟨b16 v ++ r,false⟩=(v / 256,⟨b8 v :: r,false⟩):=qM (v:=v / 256) (by omega)
    have e2:cM ⟨b8 v :: r,false⟩=(v % 256,⟨r,false⟩):=by
      rw [b8_eq (x:=v) (y:=v % 256) (by omega)];exact qM (by omega)
    simp only [e1,e2]
    rw [show v / 256 * 256+v % 256=v by omega]
theorem twoQ_is:TwoOk fZ where
  ok:=fun st h=>by
    unfold fZ at h ⊢
    obtain⟨h1,h2,h3⟩:=takeR_ok h
    match ht:(eH st 2).1,h3 with
    | [a,b],_ =>
      rw [ht] at h2
      have ha:=a.toNat_lt
      have hb:=b.toNat_lt
      refine⟨h1,?_,by simp only [pairV];omega,by simp only [pairV];omega⟩
      rw [h2]
      simp only [b16,pairV]
      rw [b8_eq (x:=((a.toNat:Int) * 256+(b.toNat:Int)) / 256) (y:=a.toNat) (by omega),b8_eq (x:=(a.toNat:Int) * 256+(b.toNat:Int)) (y:=b.toNat) (by omega),b8_back,b8_back]
  of:=fun v r h1 h2=>by
    unfold fZ
    rw [takeR_of (a:=b16 v) (n:=2) rfl]
    have e1:=b8_of (v:=v / 256) (by omega)
    have e2:=yL v
    simp only [b16,pairV]
    rw [e1,e2,show v / 256 * 256+v % 256=v by omega]
theorem wC {st:Rd} (h:(dH st).2.bad=false):st.bad=false∧st.l=jL (dH st).1 ++ (dH st).2.l∧(dH st).1.size≤255:=by
  unfold dH at h ⊢
  obtain⟨h1,h2,h3⟩:=takeR_ok h
  obtain⟨g1,g2,g3,g4⟩:=qK h1
  have hs:((eH (cM st).2 (cM st).1.toNat).1.length:Int)=(cM st).1:=by rw [h3];omega
  refine⟨g1,?_,by simp only [gU];omega⟩
  rw [g2,h2]
  simp only [jL,gU,mA,hs,List.cons_append]
theorem wY {s:ByteArray} {r:List UInt8} (h:s.size≤255):dH ⟨jL s ++ r,false⟩=(s,⟨r,false⟩):=by
  unfold dH
  have e1:cM ⟨jL s ++ r,false⟩=((s.size:Int),⟨s.toList ++ r,false⟩):=qM (by omega)
  have e2:eH ⟨s.toList ++ r,false⟩ (s.size:Int).toNat=(s.toList,⟨r,false⟩):=takeR_of (by rw [Lib.toList_data];simp)
  simp only [e1,e2]
  rw [←ba_is s]
theorem attrsR_ok:∀ {k:Nat} {st:Rd},(eB k st).2.bad=false→st.bad=false∧st.l=iF (eB k st).1 ++ (eB k st).2.l∧(eB k st).1.length=k∧∀ a∈(eB k st).1,a.n.size≤255∧a.v.size≤255
  | 0,st,h=>by simp only [eB] at h ⊢;exact⟨h,by simp [iF],rfl,by simp⟩
  | k+1,st,h=>by
    rw [eB] at h ⊢
    split at h
    · rename_i h1;rw [h1] at h;cases h
    · rename_i h1
      rw [if_neg h1]
      obtain⟨a1,a2,a3,a4⟩:=attrsR_ok h
      obtain⟨b1,b2,b3⟩:=wC a1
      obtain⟨c1,c2,c3⟩:=wC b1
      refine⟨c1,?_,by simp only [List.length_cons,a3],fun a ha=>?_⟩
      · rw [c2,b2,a2];simp [iF]
      · rcases List.mem_cons.1 ha with rfl|ha
        · exact⟨c3,b3⟩
        · exact a4 a ha
theorem attrsR_of:∀ {l:List PA} {r:List UInt8},(∀ a∈l,a.n.size≤255∧a.v.size≤255)→eB l.length ⟨iF l ++ r,false⟩=(l,⟨r,false⟩)
  | [],r,_=>by simp [eB,iF]
  | a :: l,r,h=>by
    have ha:=h a (by simp)
    have e:iF (a :: l) ++ r=jL a.n ++ (jL a.v ++ (iF l ++ r)):=by simp [iF]
    rw [List.length_cons,eB,if_neg (by simp),e,wY ha.1]
    simp only []
    rw [wY ha.2]
    simp only []
    rw [attrsR_of fun b hb=>h b (by simp [hb])]
def RdOk (rd:Rd→PN×Rd) (G:PN→Prop):Prop:=∀ st,(rd st).2.bad=false→st.bad=false∧st.l=kM (rd st).1 ++ (rd st).2.l∧G (rd st).1
theorem kidsR_ok {rd:Rd→PN×Rd} {G:PN→Prop} (hr:RdOk rd G):∀ {k:Nat} {st:Rd},(fX rd k st).2.bad=false→st.bad=false∧st.l=jE (fX rd k st).1 ++ (fX rd k st).2.l∧(fX rd k st).1.length=k∧∀ a∈(fX rd k st).1,a.1.size≤255∧G a.2
  | 0,st,h=>by simp only [fX] at h ⊢;exact⟨h,by simp [jE],rfl,by simp⟩
  | k+1,st,h=>by
    rw [fX] at h ⊢
    split at h
    · rename_i h1;rw [h1] at h;cases h
    · rename_i h1
      rw [if_neg h1]
      obtain⟨a1,a2,a3,a4⟩:=kidsR_ok hr h
      obtain⟨b1,b2,b3⟩:=hr _ a1
      obtain⟨c1,c2,c3⟩:=wC b1
      refine⟨c1,?_,by simp only [List.length_cons,a3],fun a ha=>?_⟩
      · rw [c2,b2,a2,jE];simp
      · rcases List.mem_cons.1 ha with rfl|ha
        · exact⟨c3,b3⟩
        · exact a4 a ha
theorem kidsR_of {rd:Rd→PN×Rd} {G:PN→Prop} (hr:∀ n r,G n→rd ⟨kM n ++ r,false⟩=(n,⟨r,false⟩)):∀ {l:PKs} {r:List UInt8},(∀ a∈l,a.1.size≤255∧G a.2)→fX rd l.length ⟨jE l ++ r,false⟩=(l,⟨r,false⟩)
  | [],r,_=>by simp [fX,jE]
  | (nm,n) :: l,r,h=>by
    have ha:=h (nm,n) (by simp)
    have e:jE ((nm,n) :: l) ++ r=jL nm ++ (kM n ++ (jE l ++ r)):=by rw [jE];simp
    rw [List.length_cons,fX,if_neg (by simp),e,wY ha.1]
    simp only []
    rw [hr _ _ ha.2]
    simp only []
    rw [kidsR_of hr fun b hb=>h b (by simp [hb])]
def fitH (h:Hd):Prop:=(h.opq=false→0≤h.kind∧h.kind≤7)∧(h.opq=true→0≤h.kind∧h.kind≤247)∧(0≤h.mode∧h.mode≤65535)∧(0≤h.user∧h.user≤65535)∧(0≤h.group∧h.group≤65535)∧(h.attrs.length≤255∧∀ a∈h.attrs,a.n.size≤255∧a.v.size≤255)∧h.data.size≤255
def FitR:Nat→PN→Prop
  | 0,_=>False
  | f+1,n=>fitH n.h∧n.ks.length≤255∧∀ k∈n.ks,k.1.size≤255∧FitR f k.2
theorem nodeG_ok {two:Rd→Int×Rd} (ht:TwoOk two):∀ (f:Nat),RdOk (eN two f) (FitR f)
  | 0=>fun st h=>by simp [eN] at h
  | f+1=>fun st h=>by
    simp only [eN] at h ⊢
    generalize hk:cM st=k at *
    generalize hm:two k.2=m at *
    generalize hu:two m.2=u at *
    generalize hg:two u.2=g at *
    generalize han:cM g.2=an at *
    generalize has:eB an.1.toNat an.2=as9 at *
    generalize hd:dH as9.2=d at *
    generalize hkn:cM d.2=kn at *
    generalize hks:fX (eN two f) kn.1.toNat kn.2=ks at *
    obtain⟨a1,a2,a3,a4⟩:=kidsR_ok (nodeG_ok ht f) (k:=kn.1.toNat) (st:=kn.2) (by rw [hks];exact h)
    obtain⟨b1,b2,b3,b4⟩:=qK (st:=d.2) (by rw [hkn];exact a1)
    obtain⟨c1,c2,c3⟩:=wC (st:=as9.2) (by rw [hd];exact b1)
    obtain⟨d1,d2,d3,d4⟩:=attrsR_ok (k:=an.1.toNat) (st:=an.2) (by rw [has];exact c1)
    obtain⟨e1,e2,e3,e4⟩:=qK (st:=g.2) (by rw [han];exact d1)
    obtain⟨f1,f2,f3,f4⟩:=ht.ok u.2 (by rw [hg];exact e1)
    obtain⟨g1,g2,g3,g4⟩:=ht.ok m.2 (by rw [hu];exact f1)
    obtain⟨h1,h2,h3,h4⟩:=ht.ok k.2 (by rw [hm];exact g1)
    obtain⟨i1,i2,i3,i4⟩:=qK (st:=st) (by rw [hk];exact h1)
    rw [hk] at i2 i3 i4
    rw [hm] at h2 h3 h4
    rw [hu] at g2 g3 g4
    rw [hg] at f2 f3 f4
    rw [han] at e2 e3 e4
    rw [has] at d2 d3 d4
    rw [hd] at c2 c3
    rw [hkn] at b2 b3 b4
    rw [hks] at a2 a3 a4
    have hfl:oP (hdR k.1 m.1 u.1 g.1 as9.1 d.1)=k.1:=by
      unfold oP hdR
      by_cases h7:7<k.1
      · simp [h7]
      · simp [h7]
    refine⟨i1,?_,?_,?_,?_⟩
    · rw [wR,i2,h2,g2,f2,e2,d2,c2,b2,a2]
      unfold oX
      rw [hfl]
      have z1:((hdR k.1 m.1 u.1 g.1 as9.1 d.1).attrs.length:Int)=an.1:=by show (as9.1.length:Int)=an.1;omega
      have z2:(ks.1.length:Int)=kn.1:=by omega
      rw [z1,z2]
      simp [hdR]
    · refine⟨fun ho=>?_,fun ho=>?_,⟨h3,h4⟩,⟨g3,g4⟩,⟨f3,f4⟩,⟨by show as9.1.length≤255;omega,d4⟩,c3⟩
      · have h7:¬7<k.1:=of_decide_eq_false ho
        show 0≤(if 7<k.1 then k.1 - 8 else k.1)∧(if 7<k.1 then k.1 - 8 else k.1)≤7
        rw [if_neg h7];omega
      · have h7:7<k.1:=of_decide_eq_true ho
        show 0≤(if 7<k.1 then k.1 - 8 else k.1)∧(if 7<k.1 then k.1 - 8 else k.1)≤247
        rw [if_pos h7];omega
    · show ks.1.length≤255;omega
    · exact a4
theorem nodeG_of {two:Rd→Int×Rd} (ht:TwoOk two):∀ (f:Nat) (n:PN) (r:List UInt8),FitR f n→eN two f ⟨kM n ++ r,false⟩=(n,⟨r,false⟩)
  | 0,n,r,h=>h.elim
  | f+1,.mk h ks,r,hf=>by
    obtain⟨⟨h1,h2,h3,h4,h5,⟨h6,h7⟩,h8⟩,hk,hks⟩:=hf
    simp only [PN.h_mk,PN.ks_mk] at h1 h2 h3 h4 h5 h6 h7 h8 hk hks
    have hfb:0≤oP h∧oP h≤255∧hdR (oP h) h.mode h.user h.group h.attrs h.data=h:=by
      unfold oP
      cases ho:h.opq with
      | true =>
        have:=h2 ho
        rw [if_pos rfl]
        refine⟨by omega,by omega,?_⟩
        unfold hdR
        rw [if_pos (by omega),decide_eq_true (by omega),show h.kind+8 - 8=h.kind by omega,←ho]
      | false =>
        have:=h1 ho
        rw [if_neg (by decide)]
        refine⟨by omega,by omega,?_⟩
        unfold hdR
        rw [if_neg (by omega),decide_eq_false (by omega),←ho]
    have e:kM (.mk h ks) ++ r=b8 (oP h) :: (b16 h.mode ++ (b16 h.user ++ (b16 h.group ++ (b8 (h.attrs.length:Int) :: (iF h.attrs ++ (jL h.data ++ (b8 (ks.length:Int) :: (jE ks ++ r)))))))):=by
      rw [wR];unfold oX;simp
    rw [e]
    simp only [eN]
    rw [qM ⟨hfb.1,hfb.2.1⟩]
    simp only []
    rw [ht.of _ _ h3.1 h3.2]
    simp only []
    rw [ht.of _ _ h4.1 h4.2]
    simp only []
    rw [ht.of _ _ h5.1 h5.2]
    simp only []
    rw [qM (v:=(h.attrs.length:Int)) (by omega)]
    simp only [Int.toNat_natCast]
    rw [attrsR_of h7]
    simp only []
    rw [wY h8]
    simp only []
    rw [qM (v:=(ks.length:Int)) (by omega)]
    simp only [Int.toNat_natCast]
    rw [kidsR_of (G:=FitR f) (nodeG_of ht f) hks]
    simp only [hfb.2.2]
theorem nodeG_eq {t1 t2:Rd→Int×Rd} (h1:TwoOk t1) (h2:TwoOk t2) {f:Nat} {l:List UInt8} (h:(eN t1 f ⟨l,false⟩).2.bad=false):eN t2 f ⟨l,false⟩=eN t1 f ⟨l,false⟩:=by
  obtain⟨_,a2,a3⟩:=nodeG_ok h1 f _ h
  simp only [] at a2
  have:=nodeG_of h2 f _ (eN t1 f ⟨l,false⟩).2.l a3
  rw [←a2] at this
  rw [this]
  generalize eN t1 f ⟨l,false⟩=q at *
  obtain⟨n,r,b⟩:=q
  simp only [] at h;subst h;rfl
mutual
theorem countF_deep (upper:Bool):∀ (deep so:Nat) (n:PN),(bU upper deep so n).2=0→deep≤6∧(cB uO n→FitR (7 - deep) n)
  | deep,so,.mk h ks,h0=>by
    rw [bU] at h0
    by_cases h1:so=60∨6<deep
    · rw [if_pos h1] at h0;simp at h0
    · rw [if_neg h1] at h0
      by_cases h2:iO h (decide (0<ks.length)) upper (decide (deep=0))=0
      · rw [if_neg (not_not_intro h2)] at h0
        have hk:=countK_deep upper deep (so+1) none ks h0
        refine⟨by omega,fun hA=>?_⟩
        obtain⟨f,hf⟩:∃ f,7 - deep=f+1:=⟨6 - deep,by omega⟩
        obtain⟨p1,p2,p3,p4,p5,p6,p7,p8⟩:=hA.here
        simp only [PN.h_mk,PN.ks_mk] at p1 p2 p3 p4 p5 p6 p7 p8
        rw [hf]
        refine⟨⟨fun _=>by show 0≤h.kind∧h.kind≤7;omega,fun _=>by show 0≤h.kind∧h.kind≤247;omega,by show 0≤h.mode∧h.mode≤65535;omega,p3,p4,⟨by show h.attrs.length≤255;omega,fun a ha=>?_⟩,by show h.data.size≤255;omega⟩,by show ks.length≤255;omega,fun k hk'=>⟨by have:=p8 k hk';omega,?_⟩⟩
        · have:=p5.2 a ha;omega
        · have:=(hk k hk').2 (hA.kid hk')
          rw [show 7 - (deep+1)=f by omega] at this;exact this
      · rw [if_pos h2] at h0;exact absurd h0 h2
theorem countK_deep (upper:Bool):∀ (deep so:Nat) (prev:Option ByteArray) (ks:PKs),(dD upper deep so prev ks).2=0→∀ k∈ks,deep+1≤6∧(cB uO k.2→FitR (7 - (deep+1)) k.2)
  | deep,so,prev,[],h0=>fun k hk=>by cases hk
  | deep,so,prev,(nm,n) :: ks,h0=>by
    rw [dD] at h0
    by_cases h1:eV nm.toList=true
    · rw [if_neg (not_not_intro h1)] at h0
      split at h0
      · simp at h0
      · by_cases h3:(bU upper (deep+1) so n).2=0
        · rw [if_neg (not_not_intro h3)] at h0
          intro k hk
          rcases List.mem_cons.1 hk with rfl|hk
          · exact countF_deep upper (deep+1) so n h3
          · exact countK_deep upper deep _ _ ks h0 k hk
        · rw [if_pos h3] at h0;exact absurd h0 h3
    · rw [if_pos h1] at h0;simp at h0
end
theorem treeF_reads {upper:Bool} {n:PN} (h:cP upper n=0):FitR 7 n:=by
  have h1:=(kP h).1
  unfold cP at h
  split at h
  · omega
  · exact(countF_deep upper 0 0 n h).2 h1
end
section
abbrev oO (r:Nat) (st:Rd):Box:=⟨r,268,[.string ⟨st.l.toArray⟩,.bool st.bad]⟩
theorem ex_take (l:List UInt8) (n:Nat):(⟨l.toArray⟩:ByteArray).extract 0 n=⟨(l.take n).toArray⟩:=by
  rw [ba_is ((⟨l.toArray⟩:ByteArray).extract 0 n),Lib.toList_data]
  simp [ByteArray.data_extract]
theorem ex_drop (l:List UInt8) (n:Nat):(⟨l.toArray⟩:ByteArray).extract n (⟨l.toArray⟩:ByteArray).size=⟨(l.drop n).toArray⟩:=by
  rw [ba_is ((⟨l.toArray⟩:ByteArray).extract n (⟨l.toArray⟩:ByteArray).size),Lib.toList_data]
  simp [ByteArray.data_extract,gU]
  exact List.take_of_length_le (by rw [List.length_drop];omega)
theorem q_shl8 {P:Program} {B:Base} {N:Nat} {F:List (Nat×Value)} {V:aD} {L:List Box} {d:Option Tmp} {ty:TypeId} {pos:String} {af:Array Edge} {gd:Option (Nat×Bool)} {x y:Operand} {k:IntKind} {t ty2:TypeId} {a:Int} (hx:evF F x=some (.int .i64 a)) (hy:evF F y=some (.int k 8)) (h:0≤a∧a≤1000000000):QP P B N V L ⟨d,.binOp .shl t x y ty2,ty,pos,af,gd⟩ F (.int .i64 (a * 256)):=by
  refine pC hx hy (fun w=>by simp [eqGuard]) (fun w=>?_)
  have e:IntKind.i64.wrap (a * 256)=a * 256:=mW (by omega)
  simp [binOp,Op.shift,IntKind.bits,e]
theorem wK {st:Rd} {n:Nat} (h:st.bad=true∨st.l.length<n):eH st n=([],⟨st.l,true⟩):=by unfold eH;rw [if_pos h]
theorem takeR_yes {st:Rd} {n:Nat} (h:¬(st.bad=true∨st.l.length<n)):eH st n=(st.l.take n,⟨st.l.drop n,false⟩):=by unfold eH;rw [if_neg h]
theorem uD (st:Rd) (n:Nat):(eH st n).2.l.length≤st.l.length∧(eH st n).1.length≤n:=by
  unfold eH;split
  · simp
  · simp;omega
attribute [local irreducible] AtQ GoC GoL GoW QO QP Fn RV bL aG VLe bR bK
theorem take_c (V:aD) (r:Nat) (st:Rd) (n:Nat) (hl:st.l.length≤1000000) (hn:n≤1000000) :
    FnB Tryz.prog 267 [.pointer (some ⟨r,0,none⟩),.int .i64 n] V [oO r st] fun v _ Bs'=>v=.string ⟨(eH st n).1.toArray⟩∧Bs'=[oO r (eH st n).2]:=by
  have hsz:=gU st.l
  have ht:(((n:Int).toNat):Nat)=n:=by omega
  (refine bD Tryz.func267 rfl Tryz.ntmps267 rfl ?_;intro w0)
  repeat' (first|(refine aE ?_;first|(refine eG ?_;(first|refine aO (fP und_9 rfl rfl (by omega)) ?_|refine aO (pG und_9 rfl rfl (by omega)) ?_))|refine st9 ?_|refine pu9 ?_)|refine cX ?_|(refine aA rfl ?_ ?_<;>intro hq<;>try exact no9)|(refine bM rfl ?_ ?_<;>intro hq))
  · (refine bE Tryz.results267 (aB rfl) (List.Sublist.refl _) ?_)
    rw [wK (.inr (by omega))];exact⟨rfl,rfl⟩
  · (refine bE Tryz.results267 (aB rfl) (List.Sublist.refl _) ?_)
    rw [wK (.inl hq)]
    exact⟨rfl,by unfold oO;rw [hq]⟩
  · (refine bE Tryz.results267 (aB rfl) (List.Sublist.refl _) ?_)
    rw [takeR_yes (by rw [hq];simp;omega),ht,ex_take,ex_drop,hq]
    exact⟨rfl,rfl⟩
theorem byte_c (V:aD) (r:Nat) (st:Rd) (hl:st.l.length≤1000000) :
    FnB Tryz.prog 251 [.pointer (some ⟨r,0,none⟩)] V [oO r st] fun v _ Bs'=>v=.int .i64 (cM st).1∧Bs'=[oO r (cM st).2]:=by
  have hT:=take_c V r st 1 hl (by omega)
  unfold cM
  cases ht:(eH st 1).1 with
  | nil =>
    rw [ht] at hT
    (refine bD Tryz.func251 rfl Tryz.ntmps251 rfl ?_;intro w0)
    repeat' (first|(refine aE ?_;first|(refine aC ?_;(refine aL rfl ⟨Tryz.call267⟩ rfl aV rfl (hT) ?_;rintro v V2 B2 hV2 ⟨rfl,rfl⟩))|(refine jQ ?_;refine aO (gH und_9 rfl rfl (by omega) (by assumption)) ?_)|refine pu9 ?_)|refine eE ?_|(refine aJ rfl rfl rfl ?_ ?_<;>intro hq<;>try exact no9)|(refine bS rfl rfl rfl ?_ ?_<;>intro hq)|(refine aA rfl ?_ ?_<;>intro hq<;>try exact no9)|(refine bM rfl ?_ ?_<;>intro hq))
    all_goals first
      | ((refine bE Tryz.results251 (aB rfl) (List.Sublist.refl _) ?_);exact⟨rfl,rfl⟩)
      | (exfalso;exact hq rfl)
  | cons b l =>
    rw [ht] at hT
    have hc:(⟨(b :: l).toArray⟩:ByteArray)[(0:Int).toNat]?=some b:=by rfl
    have hb:=b.toNat_lt
    have hne:¬(⟨(b :: l).toArray⟩:ByteArray)=⟨#[]⟩:=fun e=>by have:=congrArg ByteArray.size e;simp [gU] at this
    (refine bD Tryz.func251 rfl Tryz.ntmps251 rfl ?_;intro w0)
    repeat' (first|(refine aE ?_;first|(refine aC ?_;(refine aL rfl ⟨Tryz.call267⟩ rfl aV rfl (hT) ?_;rintro v V2 B2 hV2 ⟨rfl,rfl⟩))|(refine jQ ?_;refine aO (gH und_9 rfl rfl (by omega) (by assumption)) ?_)|(refine eK ?_;refine aO (sY und_5 und_3 rfl (mW (by omega))) ?_)|refine pu9 ?_)|refine cX ?_|fail)
    all_goals first
      | ((refine bE Tryz.results251 (aB rfl) (List.Sublist.refl _) ?_);exact⟨rfl,rfl⟩)
      | (exfalso;exact hne hq)
theorem jC (st:Rd):0≤(cM st).1∧(cM st).1≤255:=by
  unfold cM
  cases (eH st 1).1 with
  | nil=>simp [oneV]
  | cons b l=>have hb:=b.toNat_lt;simp only [oneV];omega
theorem gX (st:Rd):(cM st).2.l.length≤st.l.length:=(uD st 1).1
theorem xS (st:Rd):(nN st).2.l.length≤st.l.length:=Nat.le_trans (gX _) (gX st)
theorem gB (st:Rd):(dH st).2.l.length≤st.l.length∧(dH st).1.size≤255:=by
  have h:=uD (cM st).2 (cM st).1.toNat
  have hb:=jC st
  exact⟨Nat.le_trans h.1 (gX st),by have:=h.2;show (eH (cM st).2 (cM st).1.toNat).1.length≤255;omega⟩
theorem rtwo_c (V:aD) (r:Nat) (st:Rd) (hl:st.l.length≤1000000) :
    FnB Tryz.prog 252 [.pointer (some ⟨r,0,none⟩)] V [oO r st] fun v _ Bs'=>v=.int .i64 (nN st).1∧Bs'=[oO r (nN st).2]:=by
  have h1:=jC st
  have h2:=jC (cM st).2
  have h3:=gX st
  (refine bD Tryz.func252 rfl Tryz.ntmps252 rfl ?_;intro w0)
  repeat' (first|(refine aE ?_;first|(refine aC ?_;(first|(refine aL rfl ⟨Tryz.call251⟩ rfl aV rfl (byte_c _ r st hl) ?_;rintro v V2 B2 hV2 ⟨rfl,rfl⟩)|(refine aL rfl ⟨Tryz.call251⟩ rfl aV rfl (byte_c _ r (cM st).2 (by omega)) ?_;rintro v V3 B3 hV3 ⟨rfl,rfl⟩)))|(refine cN ?_;(first|refine aO (q_shl8 rfl rfl (by omega)) ?_|refine aO (q_shl rfl rfl (by omega)) ?_))|refine pu9 ?_)|refine cC ?_|fail)
  all_goals
    (refine bE Tryz.results252 (aB rfl) (List.Sublist.refl _) ?_)
    exact⟨rfl,rfl⟩
theorem rS (V:aD) (r:Nat) (st:Rd) (hl:st.l.length≤1000000) :
    FnB Tryz.prog 253 [.pointer (some ⟨r,0,none⟩)] V [oO r st] fun v _ Bs'=>v=.string (dH st).1∧Bs'=[oO r (dH st).2]:=by
  have h1:=jC st
  have h3:=gX st
  have hT:=fun V=>take_c V r (cM st).2 (cM st).1.toNat (by omega) (by omega)
  rw [show (((cM st).1.toNat:Nat):Int)=(cM st).1 by omega] at hT
  (refine bD Tryz.func253 rfl Tryz.ntmps253 rfl ?_;intro w0)
  repeat' (first|(refine aE ?_;first|(refine aC ?_;(first|(refine aL rfl ⟨Tryz.call251⟩ rfl aV rfl (byte_c _ r st hl) ?_;rintro v V2 B2 hV2 ⟨rfl,rfl⟩)|(refine aL rfl ⟨Tryz.call267⟩ rfl aV rfl (hT _) ?_;rintro v V3 B3 hV3 ⟨rfl,rfl⟩)))|refine pu9 ?_)|refine eE ?_|(refine aJ rfl rfl rfl ?_ ?_<;>intro hq<;>try exact no9)|(refine bS rfl rfl rfl ?_ ?_<;>intro hq)|(refine aA rfl ?_ ?_<;>intro hq<;>try exact no9)|(refine bM rfl ?_ ?_<;>intro hq))
  all_goals
    (refine bE Tryz.results253 (aB rfl) (List.Sublist.refl _) ?_)
    exact⟨rfl,rfl⟩
end
section
theorem ones_k1 (e:LK):∀ u∈lkC e,gQ u=true:=fun u hu=>rZ [e] u (by simpa using hu)
theorem attrsR_step {j:Nat} {s:Rd} (h:s.bad=false):eB (j+1) s=(⟨(dH s).1,(dH (dH s).2).1⟩ :: (eB j (dH (dH s).2).2).1,(eB j (dH (dH s).2).2).2):=by rw [eB,if_neg (by rw [h];decide)]
theorem rJ {j:Nat} {s:Rd} (h:¬(0<j∧s.bad=false)):eB j s=([],s):=by
  cases j with
  | zero=>rfl
  | succ j =>
    rw [eB,if_pos]
    cases hb:s.bad with
    | true=>rfl
    | false=>exact absurd ⟨by omega,hb⟩ h
theorem kidsR_step {rd:Rd→PN×Rd} {j:Nat} {s:Rd} (h:s.bad=false):fX rd (j+1) s=(((dH s).1,(rd (dH s).2).1) :: (fX rd j (rd (dH s).2).2).1,(fX rd j (rd (dH s).2).2).2):=by rw [fX,if_neg (by rw [h];decide)]
theorem tT {rd:Rd→PN×Rd} {j:Nat} {s:Rd} (h:¬(0<j∧s.bad=false)):fX rd j s=([],s):=by
  cases j with
  | zero=>rfl
  | succ j =>
    rw [fX,if_pos]
    cases hb:s.bad with
    | true=>rfl
    | false=>exact absurd ⟨by omega,hb⟩ h
theorem vQ:∀ (j:Nat) (s:Rd),(eB j s).2.l.length≤s.l.length
  | 0,s=>Nat.le_refl _
  | j+1,s=>by
    rw [eB];split
    · exact Nat.le_refl _
    · exact Nat.le_trans (vQ j _) (Nat.le_trans (gB _).1 (gB s).1)
theorem kidsR_len {rd:Rd→PN×Rd} (hr:∀ s,(rd s).2.l.length≤s.l.length):∀ (j:Nat) (s:Rd),(fX rd j s).2.l.length≤s.l.length
  | 0,s=>Nat.le_refl _
  | j+1,s=>by
    rw [fX];split
    · exact Nat.le_refl _
    · exact Nat.le_trans (kidsR_len hr j _) (Nat.le_trans (hr _) (gB s).1)
theorem nodeG_len {two:Rd→Int×Rd} (ht:∀ s,(two s).2.l.length≤s.l.length):∀ (f:Nat) (s:Rd),(eN two f s).2.l.length≤s.l.length
  | 0,s=>Nat.le_refl _
  | f+1,s=>by
    simp only [eN]
    refine Nat.le_trans (kidsR_len (nodeG_len ht f) _ _) (Nat.le_trans (gX _) (Nat.le_trans (gB _).1 (Nat.le_trans (vQ _ _) (Nat.le_trans (gX _) (Nat.le_trans (ht _) (Nat.le_trans (ht _) (Nat.le_trans (ht _) (gX _))))))))
section
variable {P : Program} {B : Base} {N : Nat} {Q : Exit → Act → World → Prop} {k : List jI} {F : List (Nat × Value)} {V : aD} {L L' : List Box} {c : Code}
theorem gc_join (J:List (Nat×Value)→aD→List Box→Prop) (h1:GoC P B N c Q (.thn (fun a w=>∃ F V L,J F V L∧Kn N F a∧St B V L w) :: k) F V L) (h2:∀ F V L,J F V L→AtQ P B N Q k .normal F V L):GoC P B N c Q k F V L :=
  fun a w ha hs=>Code.wp_mono (fun e a w q=>by
    cases e with
    | normal=>obtain⟨F,V,L,hJ,ha,hs⟩:=q;exact h2 F V L hJ a w ha hs
    | exit i=>exact q
    | goto l=>exact q
    | ret=>exact q
    | panic ch=>exact q
    | outgrown=>exact q) (h1 a w ha hs)
theorem sub_of_eq (h:L=L'):L'.Sublist L:=h▸List.Sublist.refl _
end
attribute [local irreducible] AtQ GoC GoL GoW QO QP Fn RV bL aG VLe bR bK
theorem rnode_c (r:Nat):∀ (f deep:Nat) (V:aD) (st:Rd),deep+f=7→st.l.length≤1000000 →
    FnB Tryz.prog 200 [.pointer (some ⟨r,0,none⟩),.int .i64 deep] V [oO r st] fun v V' Bs'=>∃ y:LN,v=lnV y∧aT V' y∧y.n=(eN nN f st).1∧Bs'=[oO r (eN nN f st).2]:=by
  intro f
  induction f with
  | zero =>
    intro deep V st hdf hl
    (refine bD Tryz.func200 rfl Tryz.ntmps200 rfl ?_;intro w0)
    repeat' (first|(refine aE ?_;first|refine st9 ?_|(refine al9 ?_;intro γ)|refine pu9 ?_)|refine cC ?_|(refine aA rfl ?_ ?_<;>intro hq<;>try exact no9))
    all_goals
      (refine bE Tryz.results200 (aW agg_70 rfl bA (by exact rfl)) (List.Sublist.cons _ (List.Sublist.refl _)) ?_)
      exact⟨lnZ,rfl,aT.zero,rfl,rfl⟩
  | succ f ih =>
    intro deep V st hdf hl
    simp only [eN]
    have l1:=gX st
    have d1:=jC st
    have c1:=fun V=>byte_c V r st hl
    generalize cM st=k at *
    have l2:=xS k.2
    have c2:=fun V=>rtwo_c V r k.2 (by omega)
    generalize nN k.2=m at *
    have l3:=xS m.2
    have c3:=fun V=>rtwo_c V r m.2 (by omega)
    generalize nN m.2=u at *
    have l4:=xS u.2
    have c4:=fun V=>rtwo_c V r u.2 (by omega)
    generalize nN u.2=g at *
    have l5:=gX g.2
    have d5:=jC g.2
    have c5:=fun V=>byte_c V r g.2 (by omega)
    generalize cM g.2=an at *
    (refine bD Tryz.func200 rfl Tryz.ntmps200 rfl ?_;intro w0)
    repeat' (first|(refine aE ?_;first|(refine al9 ?_;intro γ)|refine pu9 ?_)|refine nG ?_|fail)
    refine aA rfl ?_ ?_<;>intro hd6
    · exfalso;omega
    repeat' (first|(refine aE ?_;first|(refine aC ?_;(refine aL rfl ⟨Tryz.call251⟩ rfl aV rfl (c1 _) ?_;rintro v V1 B1 hV1 ⟨rfl,rfl⟩))|refine st9 ?_|(refine al9 ?_;intro γ)|refine pu9 ?_)|refine nG ?_|fail)
    rename_i γ4
    refine gc_join (fun F V' L'=>V1=V'∧[⟨γ,70,[.int .i64 (if 7<k.1 then k.1 - 8 else k.1),.int .i64 0,.int .i64 0,.int .i64 0,.bool (decide (7<k.1)),.slice none 0 0,.string ⟨#[]⟩,.slice none 0 0]⟩,⟨γ4,70,[.int .i64 0,.int .i64 0,.int .i64 0,.int .i64 0,.bool false,.slice none 0 0,.string ⟨#[]⟩,.slice none 0 0]⟩,oO r k.2]=L'∧F=[(0,.pointer (some ⟨r,0,none⟩)),(1,.int .i64 deep),(4,.pointer (some ⟨γ4,0,none⟩)),(5,.pointer (some ⟨γ,0,none⟩))]) ?_ ?_
    · repeat' (first|(refine aE ?_;first|refine st9 ?_|refine pu9 ?_)|refine cC ?_|(refine aA rfl ?_ ?_<;>intro hq<;>try exact no9))
      all_goals exact eX _ ⟨rfl,rfl,rfl⟩ bH (sub_of_eq (by first|(rw [if_pos hq,decide_eq_true hq];rfl)|(rw [if_neg hq,decide_eq_false hq];rfl)))
    · rintro F V' L' ⟨rfl,rfl,rfl⟩
      repeat' (first|(refine aE ?_;first|(refine aC ?_;(first|(refine aL rfl ⟨Tryz.call252⟩ rfl aV rfl (c2 _) ?_;rintro v V2 B2 hV2 ⟨rfl,rfl⟩)|(refine aL rfl ⟨Tryz.call252⟩ rfl aV rfl (c3 _) ?_;rintro v V3 B3 hV3 ⟨rfl,rfl⟩)|(refine aL rfl ⟨Tryz.call252⟩ rfl aV rfl (c4 _) ?_;rintro v V4 B4 hV4 ⟨rfl,rfl⟩)|(refine aL rfl ⟨Tryz.call251⟩ rfl aV rfl (c5 _) ?_;rintro v V5 B5 hV5 ⟨rfl,rfl⟩)))|refine st9 ?_|refine pu9 ?_)|refine cC ?_|fail)
      have l6:=vQ an.1.toNat an.2
      refine gc_join (fun F V' L'=>∃ (A:Option Addr) (na ca:Nat),eC V' A na (eB an.1.toNat an.2).1∧na≤ca∧VLe V V'∧[⟨γ,70,[.int .i64 (if 7<k.1 then k.1 - 8 else k.1),.int .i64 m.1,.int .i64 u.1,.int .i64 g.1,.bool (decide (7<k.1)),.slice A na ca,.string ⟨#[]⟩,.slice none 0 0]⟩,⟨γ4,70,[.int .i64 0,.int .i64 0,.int .i64 0,.int .i64 0,.bool false,.slice none 0 0,.string ⟨#[]⟩,.slice none 0 0]⟩,oO r (eB an.1.toNat an.2).2]=L'∧F=[(0,.pointer (some ⟨r,0,none⟩)),(1,.int .i64 deep),(4,.pointer (some ⟨γ4,0,none⟩)),(5,.pointer (some ⟨γ,0,none⟩))]) ?_ ?_
      · refine kC ?_
        refine bN (fun F V' L' m'=>∃ (j:Nat) (s:Rd) (acc:List PA) (A:Option Addr) (na ca:Nat) (LA:List Box) (S:Int),VLe V V'∧(⟨γ,70,[.int .i64 (if 7<k.1 then k.1 - 8 else k.1),.int .i64 m.1,.int .i64 u.1,.int .i64 g.1,.bool (decide (7<k.1)),.slice A na ca,.string ⟨#[]⟩,.slice none 0 0]⟩ :: ⟨γ4,70,[.int .i64 0,.int .i64 0,.int .i64 0,.int .i64 0,.bool false,.slice none 0 0,.string ⟨#[]⟩,.slice none 0 0]⟩ :: oO r s :: LA:List Box)=L'∧cO A na ca 271 2 (acc.flatMap paC) LA∧acc.length=na∧(eB an.1.toNat an.2).1=acc ++ (eB j s).1∧(eB an.1.toNat an.2).2=(eB j s).2∧s.l.length≤1000000∧(∀ a∈acc,a.n.size≤255∧a.v.size≤255)∧na+j≤255∧S=j∧j=m'∧F=[(0,.pointer (some ⟨r,0,none⟩)),(1,.int .i64 deep),(4,.pointer (some ⟨γ4,0,none⟩)),(5,.pointer (some ⟨γ,0,none⟩)),(6,.int .i64 S)]) (m:=an.1.toNat) ⟨an.1.toNat,an.2,[],none,0,0,[],an.1,vl9,rfl,cO.nil,rfl,rfl,rfl,by omega,by simp,by omega,by omega,rfl,rfl⟩ bH rfl (List.Sublist.refl _) ?_
        rintro F V' L' m' ⟨j,s,acc,A,na,ca,LA,S,hV',rfl,hr,hacc,ha1,ha2,hsl,has,hnj,hS,rfl,rfl⟩
        by_cases hlt:0<j∧s.bad=false
        · obtain⟨hj,hsb⟩:=hlt
          obtain⟨j,rfl⟩:∃ i,j=i+1:=⟨j - 1,by omega⟩
          rw [attrsR_step hsb] at ha1 ha2
          have t1:=gB s
          have t2:=gB (dH s).2
          obtain⟨sl,rfl⟩:∃ sl,s=⟨sl,false⟩:=⟨s.l,by cases s;simp_all⟩
          repeat' (first|(refine aE ?_;refine pu9 ?_)|refine dG ?_|(refine aJ rfl rfl rfl ?_ ?_<;>intro hq<;>try exact no9))
          refine bX (id:=13) _ mixed (List.nil_sublist _) ?_;refine gt9 0 ?_;refine gt9 2 ?_;refine gt9 4 ?_;(refine dL (i:=1) (j:=3) (by kernel_rfl) rfl rfl rfl rfl vl9 vl9 bP ?_ ?_<;>first|((first|refine aO (bC one_67 rfl bA (by exact rfl)) ?_|refine aO (bC one_67 rfl bA (by assumption)) ?_|refine aO (cD one_67 rfl (by assumption)) ?_);refine aZ (i:=3) rfl ?_;(refine aL rfl ⟨Tryz.call253⟩ rfl aV rfl (rS _ r ⟨sl,false⟩ hsl) ?_;rintro v V6 B6 hV6 ⟨rfl,rfl⟩);refine aZ (i:=5) rfl ?_;(refine aL rfl ⟨Tryz.call253⟩ rfl aV rfl (rS _ r (dH ⟨sl,false⟩).2 (by omega)) ?_;rintro v V7 B7 hV7 ⟨rfl,rfl⟩);refine gt9 6 ?_;refine aZ (i:=7) rfl ?_;(refine aN rfl und_67 siz_271 zec_271 rfl rfl rfl rfl rfl rfl rfl ?_;intro γ);refine aZ (i:=8) rfl ?_;(refine aQ rfl und_67 inf_271 rfl rfl rfl hr aV (cY bA rfl) bJ (by omega) rfl rfl ?_;intro A2 c2 L2 hr2);refine gt9 9 ?_;refine aZ (i:=10) rfl ?_;refine aR rfl siz_67 rfl rfl rfl rfl bJ dP rfl ?_;refine aY (by kernel_rfl) vl9 vl9 bP ?_)|((refine aL rfl ⟨Tryz.call253⟩ rfl aV rfl (rS _ r ⟨sl,false⟩ hsl) ?_;rintro v V6 B6 hV6 ⟨rfl,rfl⟩);(refine dL (i:=1) (j:=5) (by kernel_rfl) rfl rfl rfl rfl vl9 vl9 bP ?_ ?_<;>first|((first|refine aO (bC one_67 rfl bA (by exact rfl)) ?_|refine aO (bC one_67 rfl bA (by assumption)) ?_|refine aO (cD one_67 rfl (by assumption)) ?_);refine aZ (i:=5) rfl ?_;(refine aL rfl ⟨Tryz.call253⟩ rfl aV rfl (rS _ r (dH ⟨sl,false⟩).2 (by omega)) ?_;rintro v V7 B7 hV7 ⟨rfl,rfl⟩);refine gt9 6 ?_;refine aZ (i:=7) rfl ?_;(refine aN rfl und_67 siz_271 zec_271 rfl rfl rfl rfl rfl rfl rfl ?_;intro γ);refine aZ (i:=8) rfl ?_;(refine aQ rfl und_67 inf_271 rfl rfl rfl hr aV (cY bA rfl) bJ (by omega) rfl rfl ?_;intro A2 c2 L2 hr2);refine gt9 9 ?_;refine aZ (i:=10) rfl ?_;refine aR rfl siz_67 rfl rfl rfl rfl bJ dP rfl ?_;refine aY (by kernel_rfl) vl9 vl9 bP ?_)|((refine aL rfl ⟨Tryz.call253⟩ rfl aV rfl (rS _ r (dH ⟨sl,false⟩).2 (by omega)) ?_;rintro v V7 B7 hV7 ⟨rfl,rfl⟩);refine gt9 6 ?_;(refine dL (i:=1) (j:=7) (by kernel_rfl) rfl rfl rfl rfl vl9 vl9 bP ?_ ?_<;>first|((first|refine aO (bC one_67 rfl bA (by exact rfl)) ?_|refine aO (bC one_67 rfl bA (by assumption)) ?_|refine aO (cD one_67 rfl (by assumption)) ?_);refine aZ (i:=7) rfl ?_;(refine aN rfl und_67 siz_271 zec_271 rfl rfl rfl rfl rfl rfl rfl ?_;intro γ);refine aZ (i:=8) rfl ?_;(refine aQ rfl und_67 inf_271 rfl rfl rfl hr aV (cY bA rfl) bJ (by omega) rfl rfl ?_;intro A2 c2 L2 hr2);refine gt9 9 ?_;refine aZ (i:=10) rfl ?_;refine aR rfl siz_67 rfl rfl rfl rfl bJ dP rfl ?_;refine aY (by kernel_rfl) vl9 vl9 bP ?_)|((refine aN rfl und_67 siz_271 zec_271 rfl rfl rfl rfl rfl rfl rfl ?_;intro γ);refine aZ (i:=1) rfl ?_;(first|refine aO (bC one_67 rfl bA (by exact rfl)) ?_|refine aO (bC one_67 rfl bA (by assumption)) ?_|refine aO (cD one_67 rfl (by assumption)) ?_);refine aZ (i:=8) rfl ?_;(refine aQ rfl und_67 inf_271 rfl rfl rfl hr aV (cY bA rfl) bJ (by omega) rfl rfl ?_;intro A2 c2 L2 hr2);refine gt9 9 ?_;refine aZ (i:=10) rfl ?_;refine aR rfl siz_67 rfl rfl rfl rfl bJ dP rfl ?_;refine aY (by kernel_rfl) vl9 vl9 bP ?_))))))
          all_goals
            repeat' (first|(refine aE ?_;refine pu9 ?_)|refine cC ?_|fail)
            refine aX _ j ⟨j,(dH (dH ⟨sl,false⟩).2).2,acc ++ [⟨(dH ⟨sl,false⟩).1,(dH (dH ⟨sl,false⟩).2).1⟩],A2,na+1,c2,L2,S - 1,vl9,rfl,by rw [List.flatMap_append];exact hr2,by rw [List.length_append,hacc];rfl,by rw [ha1];simp,ha2,by omega,fun a ha=>?_,by omega,by omega,rfl,rfl⟩ (by omega) bH sl9
            rcases List.mem_append.1 ha with ha|ha
            · exact has a ha
            · obtain rfl:=List.mem_singleton.1 ha;exact⟨t1.2,t2.2⟩
        · rw [rJ hlt,List.append_nil] at ha1
          rw [rJ hlt] at ha2
          have hcap:=hr.cap
          rw [ha1,ha2]
          refine gS hr aV ?_ (by intro x hx;simp [fW] at hx;subst hx;exact⟨_,bA⟩)
          intro V8 hV8 hc8
          have hatt:eC V8 A na acc:=lP hc8 hacc (by unfold maxLen;omega) (fun a ha=>by have:=has a ha;unfold maxLen;omega)
          rcases (show j=0∨s.bad=true by rcases Nat.eq_zero_or_pos j with h|h;exact .inl h;exact .inr (by cases hb:s.bad;exact absurd ⟨h,hb⟩ hlt;rfl)) with h0|h0
          · subst h0;subst hS
            repeat' (first|(refine aE ?_;refine pu9 ?_)|refine iX ?_|fail)
            all_goals exact eX _ ⟨A,na,ca,hatt,hcap,vl9,rfl,rfl⟩ bH sl9
          · obtain⟨sl,rfl⟩:∃ sl,s=⟨sl,true⟩:=⟨s.l,by cases s;simp_all⟩
            repeat' (first|(refine aE ?_;refine pu9 ?_)|refine iX ?_|(refine aJ rfl rfl rfl ?_ ?_<;>intro hq<;>try exact no9))
            all_goals exact eX _ ⟨A,na,ca,hatt,hcap,vl9,rfl,rfl⟩ bH sl9
      · generalize eB an.1.toNat an.2=at9 at *
        rintro F V' L' ⟨A,na,ca,hatt,hna,hV',rfl,rfl⟩
        have l7:=gB at9.2
        have c7:=fun V=>rS V r at9.2 (by omega)
        generalize dH at9.2=d at *
        have l8:=gX d.2
        have d8:=jC d.2
        have c8:=fun V=>byte_c V r d.2 (by omega)
        generalize cM d.2=kn at *
        repeat' (first|(refine aE ?_;first|(refine aC ?_;(first|(refine aL rfl ⟨Tryz.call253⟩ rfl aV rfl (c7 _) ?_;rintro v V2 B2 hV2 ⟨rfl,rfl⟩)|(refine aL rfl ⟨Tryz.call251⟩ rfl aV rfl (c8 _) ?_;rintro v V3 B3 hV3 ⟨rfl,rfl⟩)))|refine st9 ?_|refine pu9 ?_)|refine cC ?_|fail)
        have hV3':VLe V' V3:=hV2.trans hV3
        refine kC ?_
        refine bN (fun F V4 L' m'=>∃ (j:Nat) (s:Rd) (es:List LK) (K:Option Addr) (nk ck:Nat) (LK0:List Box) (S:Int),VLe V3 V4∧(⟨γ,70,[.int .i64 (if 7<k.1 then k.1 - 8 else k.1),.int .i64 m.1,.int .i64 u.1,.int .i64 g.1,.bool (decide (7<k.1)),.slice A na ca,.string d.1,.slice K nk ck]⟩ :: ⟨γ4,70,[.int .i64 0,.int .i64 0,.int .i64 0,.int .i64 0,.bool false,.slice none 0 0,.string ⟨#[]⟩,.slice none 0 0]⟩ :: oO r s :: LK0:List Box)=L'∧cO K nk ck 156 9 (es.flatMap lkC) LK0∧es.length=nk∧(fX (eN nN f) kn.1.toNat kn.2).1=es.map kz ++ (fX (eN nN f) j s).1∧(fX (eN nN f) kn.1.toNat kn.2).2=(fX (eN nN f) j s).2∧s.l.length≤1000000∧(∀ e∈es,e.nm.size≤maxLen∧aT V4 e.x)∧nk+j≤255∧S=j∧j=m'∧F=[(0,.pointer (some ⟨r,0,none⟩)),(1,.int .i64 deep),(4,.pointer (some ⟨γ4,0,none⟩)),(5,.pointer (some ⟨γ,0,none⟩)),(7,.int .i64 S)]) (m:=kn.1.toNat) ⟨kn.1.toNat,kn.2,[],none,0,0,[],kn.1,vl9,rfl,cO.nil,rfl,rfl,rfl,by omega,by simp,by omega,by omega,rfl,rfl⟩ bH rfl (List.Sublist.refl _) ?_
        rintro F V4 L' m' ⟨j,s,es,K,nk,ck,LK0,S,hV4,rfl,hr,hes,ha1,ha2,hsl,hg,hnj,hS,rfl,rfl⟩
        by_cases hlt:0<j∧s.bad=false
        · obtain⟨hj,hsb⟩:=hlt
          obtain⟨j,rfl⟩:∃ i,j=i+1:=⟨j - 1,by omega⟩
          rw [kidsR_step hsb] at ha1 ha2
          have t1:=gB s
          have t2:=nodeG_len xS f (dH s).2
          obtain⟨sl,rfl⟩:∃ sl,s=⟨sl,false⟩:=⟨s.l,by cases s;simp_all⟩
          have ht:=fun V=>rS V r ⟨sl,false⟩ hsl
          have hcall:=fun V=>ih (deep+1) V (dH ⟨sl,false⟩).2 (by omega) (by omega)
          rw [Int.natCast_add,Int.natCast_one] at hcall
          generalize dH ⟨sl,false⟩=tx at *
          generalize eN nN f tx.2=nd at *
          repeat' (first|(refine aE ?_;first|(refine aC ?_;(refine aL rfl ⟨Tryz.call253⟩ rfl aV rfl (ht _) ?_;rintro v V5 B5 hV5 ⟨rfl,rfl⟩))|refine pu9 ?_)|refine dG ?_|(refine aJ rfl rfl rfl ?_ ?_<;>intro hq<;>try exact no9))
          refine bX (id:=19) _ mixed (List.nil_sublist _) ?_;refine gt9 0 ?_;refine gt9 2 ?_;refine gt9 3 ?_;refine gt9 4 ?_;refine gt9 5 ?_;(refine dL (i:=1) (j:=6) (by kernel_rfl) rfl rfl rfl rfl vl9 vl9 bP ?_ ?_<;>first|((first|refine aO (bC one_68 rfl bA (by exact rfl)) ?_|refine aO (bC one_68 rfl bA (by assumption)) ?_|refine aO (cD one_68 rfl (by assumption)) ?_);refine aZ (i:=6) rfl ?_;(refine aL rfl ⟨Tryz.call200⟩ rfl aV rfl (hcall _) ?_;rintro v V6 B6 hV6 ⟨y,rfl,hyN,hyn,rfl⟩;have ho1:=ones_k1 ⟨tx.1,y⟩);refine gt9 7 ?_;refine aZ (i:=8) rfl ?_;(refine aN rfl und_68 siz_156 zec_156 rfl rfl rfl rfl rfl rfl rfl ?_;intro γ);refine aZ (i:=9) rfl ?_;(refine aQ rfl und_68 inf_156 rfl rfl rfl hr aV (cY bA rfl) bJ (by omega) rfl rfl ?_;intro A2 c2 L2 hr2);refine gt9 10 ?_;refine aZ (i:=11) rfl ?_;refine aR rfl siz_68 rfl rfl rfl rfl bJ dP rfl ?_;refine aY (by kernel_rfl) vl9 vl9 bP ?_)|((refine aL rfl ⟨Tryz.call200⟩ rfl aV rfl (hcall _) ?_;rintro v V6 B6 hV6 ⟨y,rfl,hyN,hyn,rfl⟩;have ho1:=ones_k1 ⟨tx.1,y⟩);refine gt9 7 ?_;(refine dL (i:=1) (j:=8) (by kernel_rfl) rfl rfl rfl rfl vl9 vl9 bP ?_ ?_<;>first|((first|refine aO (bC one_68 rfl bA (by exact rfl)) ?_|refine aO (bC one_68 rfl bA (by assumption)) ?_|refine aO (cD one_68 rfl (by assumption)) ?_);refine aZ (i:=8) rfl ?_;(refine aN rfl und_68 siz_156 zec_156 rfl rfl rfl rfl rfl rfl rfl ?_;intro γ);refine aZ (i:=9) rfl ?_;(refine aQ rfl und_68 inf_156 rfl rfl rfl hr aV (cY bA rfl) bJ (by omega) rfl rfl ?_;intro A2 c2 L2 hr2);refine gt9 10 ?_;refine aZ (i:=11) rfl ?_;refine aR rfl siz_68 rfl rfl rfl rfl bJ dP rfl ?_;refine aY (by kernel_rfl) vl9 vl9 bP ?_)|((refine aN rfl und_68 siz_156 zec_156 rfl rfl rfl rfl rfl rfl rfl ?_;intro γ);refine aZ (i:=1) rfl ?_;(first|refine aO (bC one_68 rfl bA (by exact rfl)) ?_|refine aO (bC one_68 rfl bA (by assumption)) ?_|refine aO (cD one_68 rfl (by assumption)) ?_);refine aZ (i:=9) rfl ?_;(refine aQ rfl und_68 inf_156 rfl rfl rfl hr aV (cY bA rfl) bJ (by omega) rfl rfl ?_;intro A2 c2 L2 hr2);refine gt9 10 ?_;refine aZ (i:=11) rfl ?_;refine aR rfl siz_68 rfl rfl rfl rfl bJ dP rfl ?_;refine aY (by kernel_rfl) vl9 vl9 bP ?_))))
          all_goals
            repeat' (first|(refine aE ?_;refine pu9 ?_)|refine cC ?_|fail)
            refine aX _ j ⟨j,nd.2,es ++ [⟨tx.1,y⟩],A2,nk+1,c2,L2,S - 1,vl9,rfl,by rw [List.flatMap_append];exact hr2,by rw [List.length_append,hes];rfl,by rw [ha1,List.map_append,←hyn];simp [kz],ha2,by omega,fun e he=>?_,by omega,by omega,rfl,rfl⟩ (by omega) bH sl9
            rcases List.mem_append.1 he with he|he
            · exact⟨(hg e he).1,(hg e he).2.le vl9⟩
            · obtain rfl:=List.mem_singleton.1 he;exact⟨by have:=t1.2;unfold maxLen;show tx.1.size≤_;omega,hyN⟩
        · rw [tT hlt,List.append_nil] at ha1
          rw [tT hlt] at ha2
          have hcap:=hr.cap
          rw [ha1,ha2]
          refine gS hr aV ?_ (by intro x hx;simp [fW] at hx;subst hx;exact⟨_,bA⟩)
          intro V8 hV8 hc8
          have hkids:dV V8 K nk es:=dV.of hc8 hes (by unfold maxLen;omega) (fun e he=>⟨(hg e he).1,(hg e he).2.le hV8⟩)
          have hN:aT V8 ⟨hdR k.1 m.1 u.1 g.1 at9.1 d.1,A,na,ca,K,nk,ck,es.map kz⟩:=aT.of (hatt.le (hV3'.trans (hV4.trans hV8))) hna (by have:=l7.2;unfold maxLen;show d.1.size≤_;omega) hcap hkids rfl
          rcases (show j=0∨s.bad=true by rcases Nat.eq_zero_or_pos j with h|h;exact .inl h;exact .inr (by cases hb:s.bad;exact absurd ⟨h,hb⟩ hlt;rfl)) with h0|h0
          · subst h0;subst hS
            repeat' (first|(refine aE ?_;first|refine st9 ?_|refine pu9 ?_)|refine iX ?_|fail)
            all_goals
              (refine bE Tryz.results200 (aW agg_70 rfl bA (by exact rfl)) (List.Sublist.cons _ (List.Sublist.cons _ (List.Sublist.refl _))) ?_)
              exact⟨_,rfl,hN,rfl,rfl⟩
          · obtain⟨sl,rfl⟩:∃ sl,s=⟨sl,true⟩:=⟨s.l,by cases s;simp_all⟩
            repeat' (first|(refine aE ?_;first|refine st9 ?_|refine pu9 ?_)|refine iX ?_|(refine aJ rfl rfl rfl ?_ ?_<;>intro hq<;>try exact no9))
            all_goals
              (refine bE Tryz.results200 (aW agg_70 rfl bA (by exact rfl)) (List.Sublist.cons _ (List.Sublist.cons _ (List.Sublist.refl _))) ?_)
              exact⟨_,rfl,hN,rfl,rfl⟩
end
section
def okB (two:Rd→Int×Rd) (upper:Bool) (l:List UInt8):Bool:=!(eN two 7 ⟨l,false⟩).2.bad && ((eN two 7 ⟨l,false⟩).2.l.isEmpty && decide (cP upper (eN two 7 ⟨l,false⟩).1=0))
def ParseR (two:Rd→Int×Rd) (upper:Bool) (l:List UInt8) (ok no:Value) (v:Value) (V':aD):Prop :=
  (okB two upper l=true∧∃ y:LN,v=.tuple #[lnV y,ok]∧aT V' y∧y.n=(eN two 7 ⟨l,false⟩).1)∨(okB two upper l=false∧v=.tuple #[lnV lnZ,no])
attribute [local irreducible] AtQ GoC GoL GoW QO QP Fn RV bL aG VLe bR bK
theorem TParse_c (V:aD) (l:List UInt8) (upper:Bool) (hl:l.length≤100000):Fn Tryz.prog 94 [.string ⟨l.toArray⟩,.bool upper] V (ParseR nN upper l (bK 0) (bK 17)):=by
  have hsz:=gU l
  have hcall:=fun r V=>rnode_c r 7 0 V ⟨l,false⟩ rfl (by show l.length≤1000000;omega)
  unfold ParseR okB
  generalize eN nN 7 ⟨l,false⟩=q at *
  obtain⟨n,rest,bad⟩:=q
  simp only [] at hcall ⊢
  (refine aI Tryz.func94 rfl Tryz.ntmps94 rfl ?_;intro w0)
  repeat' (first|(refine aE ?_;first|(refine aC ?_;(first|(refine aL rfl ⟨Tryz.call200⟩ rfl aV rfl (hcall _ _) ?_;rintro v V2 B2 hV2 ⟨y,rfl,hyN,hyn,rfl⟩)|refine aP rfl (aK ⟨Tryz.call65⟩ rfl (xN _ y hyN upper)) ?_))|refine st9 ?_|(refine al9 ?_;intro γ)|refine pu9 ?_)|refine cX ?_|(refine aJ rfl rfl rfl ?_ ?_<;>intro hq<;>try exact no9)|(refine bS rfl rfl rfl ?_ ?_<;>intro hq)|(refine aA rfl ?_ ?_<;>intro hq<;>try exact no9))
  all_goals (refine bB Tryz.results94 (aW agg_70 rfl bA (by exact rfl)) (aB rfl) ?_)
  · replace hq:bad=true:=hq
    refine .inr ⟨by rw [hq];rfl,by rw [cU (by decide)];rfl⟩
  · rename_i hb
    have hne:¬rest=[]:=fun e=>hq (by rw [e])
    refine .inr ⟨?_,by rw [cU (by decide)];rfl⟩
    cases rest with
    | nil=>exact absurd rfl hne
    | cons _ _=>simp
  · rename_i hb hr
    replace hb:bad=false:=hb
    rw [hyn] at hq
    refine .inr ⟨by simp [hq],by rw [cU (by decide)];rfl⟩
  · rename_i hb hr
    replace hb:bad=false:=hb
    rw [hyn] at hq
    have h0:cP upper n=0:=Decidable.not_not.1 hq
    have hr':rest=[]:=by
      have:=congrArg ByteArray.size (Decidable.not_not.1 hr)
      simpa [gU] using this
    refine .inl ⟨by rw [hb,hr',h0];rfl,y,by rw [cH];rfl,hyN,hyn⟩
end
section
theorem treeF_bd' (upper:Bool) (n:PN):0≤cP upper n∧cP upper n≤7:=by
  have:=iT upper 0 0 n (by omega)
  unfold cP;split<;>omega
theorem okB_eq (upper:Bool) (l:List UInt8):okB fZ upper l=okB nN upper l:=by
  unfold okB
  cases h:(eN nN 7 ⟨l,false⟩).2.bad with
  | false=>rw [nodeG_eq uK twoQ_is h,h]
  | true =>
    cases h2:(eN fZ 7 ⟨l,false⟩).2.bad with
    | false=>rw [nodeG_eq twoQ_is uK h2,h2] at h;cases h
    | true=>rfl
theorem okB_yes {two:Rd→Int×Rd} (ht:TwoOk two) {upper:Bool} {l:List UInt8} (h:okB two upper l=true):cP upper (eN two 7 ⟨l,false⟩).1=0∧kM (eN two 7 ⟨l,false⟩).1=l∧(eN two 7 ⟨l,false⟩).2.bad=false:=by
  unfold okB at h
  simp only [Bool.and_eq_true,Bool.not_eq_true',List.isEmpty_iff,decide_eq_true_eq] at h
  obtain⟨h1,h2,h3⟩:=h
  obtain⟨_,a2,_⟩:=nodeG_ok ht 7 _ h1
  rw [h2,List.append_nil] at a2
  exact⟨h3,a2.symm,h1⟩
theorem okB_lay {upper:Bool} {n:PN} (h:cP true n=0):okB nN upper (kM n)=decide (cP upper n=0)∧eN nN 7 ⟨kM n,false⟩=(n,⟨[],false⟩):=by
  have:=nodeG_of uK 7 n [] (treeF_reads h)
  rw [List.append_nil] at this
  refine⟨?_,this⟩
  unfold okB;rw [this];rfl
end
section
def at8 (l:List UInt8) (i:Nat):Int:=((l[i]?.getD 0).toNat:Int)
def kL (l:List UInt8) (i:Nat):Int:=at8 l i * 256+at8 l (i+1)
def nI (l:List UInt8):Nat:=(l[5]?.getD 0).toNat
def lL (l:List UInt8) (k:Nat):List Int:=(List.range k).map fun i=>kL l (6+2 * i)
def fR (l:List UInt8):CR:=⟨kL l 0,kL l 2,at8 l 4,lL l (nI l)⟩
def pD (l:List UInt8):List UInt8:=l.drop (6+2 * nI l)
def sJ (l:List UInt8):PN:=(eN nN 7 ⟨pD l,false⟩).1
def pV (q:Int) (l:List UInt8):Prop:=6+2 * nI l≤l.length∧6≤l.length∧okB nN true (pD l)=true∧eT (fR l).u (fR l).g (fR l).d (fR l).xs=0∧dS (sJ l)≤q
def uT (b:BX) (l:List UInt8):BX:={ b with c:=fR l,ls:=sJ l :: b.ls.tail }
theorem loadXs_succ (l:List UInt8) (k:Nat):lL l (k+1)=lL l k ++ [kL l (6+2 * k)]:=by unfold lL;rw [List.range_succ,List.map_append];rfl
theorem loadXs_len (l:List UInt8) (k:Nat):(lL l k).length=k:=by unfold lL;simp
theorem loadOk_box {b:BX} (hok:bI b) {q:Int} {l:List UInt8} (h:pV q l):bI (uT b l):=by
  obtain⟨_,_,h3,h4,_⟩:=h
  have h5:=(okB_yes uK h3).1
  have hl:=hok.l1
  cases hb:b.ls with
  | nil=>rw [hb] at hl;simp at hl
  | cons n0 t =>
    have e:(uT b l).ls=sJ l :: t:=by show sJ l :: b.ls.tail=_;rw [hb];rfl
    refine⟨h4,hok.q,by rw [e];simp,by rw [e];have:=hok.l4;rw [hb] at this;exact this,fun x hx=>?_,fun j x hj hx=>?_⟩
    · rw [e] at hx;cases hx;exact h5
    · rw [e] at hx
      obtain⟨i,rfl⟩:∃ i,j=i+1:=⟨j - 1,by omega⟩
      exact hok.lo (i+1) x hj (by rw [hb];exact hx)
theorem flat16_get:∀ (xs:List Int) (i:Nat) (n:Int) (r:List UInt8),xs[i]?=some n→(xs.flatMap b16 ++ r)[2 * i]?=some (b8 (n / 256))∧(xs.flatMap b16 ++ r)[2 * i+1]?=some (b8 n)
  | [],i,n,r,h=>by simp at h
  | x :: xs,0,n,r,h=>by
    simp at h;subst h
    exact⟨rfl,rfl⟩
  | x :: xs,i+1,n,r,h=>by
    rw [List.getElem?_cons_succ] at h
    have e:(x :: xs).flatMap b16 ++ r=b8 (x / 256) :: b8 x :: (xs.flatMap b16 ++ r):=rfl
    rw [e,show 2 * (i+1)=2 * i+1+1 by omega,show 2 * i+1+1+1=(2 * i+1)+1+1 by omega,List.getElem?_cons_succ,List.getElem?_cons_succ,List.getElem?_cons_succ,List.getElem?_cons_succ]
    exact flat16_get xs i n r h
theorem b16_back {n:Int} (h:0≤n∧n≤65535):((b8 (n / 256)).toNat:Int) * 256+((b8 n).toNat:Int)=n:=by
  rw [yL,yL];omega
theorem nM (b:BX):lW b=b8 (b.c.u / 256) :: b8 b.c.u :: b8 (b.c.g / 256) :: b8 b.c.g :: b8 b.c.d :: b8 (b.c.xs.length:Int) :: (b.c.xs.flatMap b16 ++ fG (upB b)):=by
  unfold lW uU upB;rfl
theorem loadK_box {b:BX} (hok:bI b):nI (lW b)=b.c.xs.length:=by
  have hz:=eY hok.c
  have:((b8 (b.c.xs.length:Int)).toNat:Int)=(b.c.xs.length:Int):=b8_of (by omega)
  rw [nM]
  show (b8 (b.c.xs.length:Int)).toNat=_
  omega
theorem load_back {b:BX} (hok:bI b):fR (lW b)=b.c:=by
  obtain⟨h1,h2,h3,h4,h5⟩:=eY hok.c
  have hx:=gF_ids _ _ h5
  have e1:kL (lW b) 0=b.c.u:=by rw [nM];exact b16_back h1
  have e2:kL (lW b) 2=b.c.g:=by rw [nM];exact b16_back h2
  have e3:at8 (lW b) 4=b.c.d:=by rw [nM];exact b8_of (by omega)
  have e4:lL (lW b) (nI (lW b))=b.c.xs:=by
    rw [loadK_box hok]
    refine List.ext_getElem? fun i=>?_
    unfold lL
    by_cases hi:i<b.c.xs.length
    · rw [List.getElem?_map,List.getElem?_range hi,List.getElem?_eq_getElem hi]
      obtain⟨f1,f2⟩:=flat16_get b.c.xs i b.c.xs[i] (fG (upB b)) (List.getElem?_eq_getElem hi)
      have g1:(lW b)[6+2 * i]?=some (b8 (b.c.xs[i] / 256)):=by
        rw [nM,show 6+2 * i=2 * i+1+1+1+1+1+1 by omega]
        simp only [List.getElem?_cons_succ];exact f1
      have g2:(lW b)[6+2 * i+1]?=some (b8 b.c.xs[i]):=by
        rw [nM,show 6+2 * i+1=(2 * i+1)+1+1+1+1+1+1 by omega]
        simp only [List.getElem?_cons_succ];exact f2
      show some (kL (lW b) (6+2 * i))=some b.c.xs[i]
      unfold kL at8
      rw [g1,g2]
      exact congrArg some (b16_back (hx _ (List.getElem_mem hi)))
    · rw [List.getElem?_eq_none (by simp;omega),List.getElem?_eq_none (by omega)]
  unfold fR
  rw [e1,e2,e3,e4]
theorem drop_box (b:BX):(lW b).drop (6+2 * b.c.xs.length)=fG (upB b):=by
  have e:lW b=(uU b.c ++ b.c.xs.flatMap b16) ++ fG (upB b):=rfl
  rw [e,List.drop_left' (by rw [List.length_append,oI];rfl)]
theorem bI.up0 {b:BX} (hok:bI b):cP true (upB b)=0:=by
  have hl:=hok.l1
  cases hb:b.ls with
  | nil=>rw [hb] at hl;simp at hl
  | cons n0 t=>unfold upB;rw [hb];exact hok.up n0 (by rw [hb];rfl)
theorem loadT_box {b:BX} (hok:bI b):pD (lW b)=kM (upB b):=by
  unfold pD
  rw [loadK_box hok,drop_box]
  unfold fG
  rw [if_pos hok.up0]
theorem loadN_box {b:BX} (hok:bI b):sJ (lW b)=upB b:=by
  unfold sJ
  rw [loadT_box hok,(okB_lay (upper:=true) hok.up0).2]
theorem loadOk_of {b:BX} (hok:bI b) {q:Int} (h:dS (upB b)≤q):pV q (lW b):=by
  have hz:=hok.c
  refine⟨?_,?_,?_,?_,?_⟩
  · rw [loadK_box hok,nM]
    have:=oI b.c.xs
    simp only [List.length_cons,List.length_append];omega
  · rw [nM];simp only [List.length_cons];omega
  · rw [loadT_box hok,(okB_lay (upper:=true) hok.up0).1,hok.up0];rfl
  · rw [load_back hok];exact hz
  · rw [loadN_box hok];exact h
end
section
structure Nok (x:LN):Prop where
  K:x.K=none
  nk:x.nk=0
  ck:x.ck=0
  ks:x.ks=[]
theorem Nok.n {x:LN} (h:Nok x):x.n=.mk x.h []:=by
  have:x.n=.mk x.h x.ks:=rfl
  rw [this,h.ks]
def nokL (h:Hd) (A:Option Addr) (n c:Nat):LN:=⟨h,A,n,c,none,0,0,[]⟩
theorem Nok.is {x:LN} (h:Nok x):x=nokL x.h x.A x.na x.ca:=by
  obtain⟨hh,A,n,c,K,nk,ck,ks⟩:=x
  obtain⟨h1,h2,h3,h4⟩:=h
  simp only at h1 h2 h3 h4
  subst h1 h2 h3 h4;rfl
theorem nok_node {V:aD} {h:Hd} {A:Option Addr} {n c:Nat} (ha:eC V A n h.attrs) (hc:n≤c) (hd:h.data.size≤maxLen):aT V (nokL h A n c):=aT.of (es:=[]) ha hc hd (Nat.le_refl _) ⟨eP.nil,by simp⟩ rfl
attribute [local irreducible] AtQ GoC GoL GoW QO QP Fn RV bL aG VLe bR bK
theorem Own0_c (V:aD) (x:LN) (hx:aT V x) (h0:Nok x) (hs:x.h.attrs.length≤100000):Fn Tryz.prog 54 [lnV x] V fun v V2=>∃ y:LN,v=lnV y∧y.h=x.h∧Nok y∧aT V2 y:=by
  obtain⟨ha,hca,hd,hck,es,hk,hks⟩:=hx.inv
  have hn0:=h0.nk
  have hal:=ha.1.1
  have hsrc:=ha.1.cells yG
  have h1:=ones_pa x.h.attrs
  (refine aI Tryz.func54 rfl Tryz.ntmps54 rfl ?_;intro w0)
  repeat' (first|(refine aE ?_;first|(refine aC ?_;(refine aQ rfl und_67 inf_271 rfl rfl rfl cO.nil (xY dO) (fY hsrc) bJ (by omega) rfl rfl ?_;intro A1 c1 L1 hr1;rw [Nat.zero_add] at hr1 ⊢;rw [List.nil_append] at hr1))|refine st9 ?_|(refine al9 ?_;intro γ)|refine pu9 ?_)|refine bY ?_|fail)
  rename_i γ1
  have hcap1:=hr1.cap
  refine gS hr1 aV ?_
  intro V2 hV2 hc2
  have ha2:eC V2 A1 x.na x.h.attrs:=lP hc2 hal (by unfold maxLen;omega) ha.2
  refine bN (fun F V3 L' m=>V2=V3∧[⟨γ,70,lnC ⟨hZ,none,0,0,none,0,0,[]⟩⟩,⟨γ1,70,[.int .i64 x.h.kind,.int .i64 x.h.mode,.int .i64 x.h.user,.int .i64 x.h.group,.bool x.h.opq,.slice A1 x.na c1,.string x.h.data,.slice x.K x.nk x.ck]⟩]=L'∧m=0∧F=[(1,.pointer (some ⟨γ1,0,none⟩)),(2,.pointer (some ⟨γ,0,none⟩)),(3,.slice none 0 0),(11,.slice x.K x.nk x.ck),(12,.int .i64 x.nk),(13,.int .i64 0)]) (m:=0) ⟨rfl,rfl,rfl,rfl⟩ bH rfl sl9 ?_
  rintro F V3 L' m ⟨rfl,rfl,rfl,rfl⟩
  repeat' (first|(refine aE ?_;first|refine st9 ?_|refine pu9 ?_)|refine dT ?_|(refine aA rfl ?_ ?_<;>intro hq<;>try exact no9))
  all_goals try exact no9
  all_goals
    (refine aM Tryz.results54 (aW agg_70 rfl bA (by exact rfl)) ?_)
    exact⟨⟨x.h,A1,x.na,c1,none,0,0,[]⟩,rfl,rfl,⟨rfl,rfl,rfl,rfl⟩,nok_node ha2 hcap1 hd⟩
end
end Go.Proofs.YtejkmomfpidnbabGreat
