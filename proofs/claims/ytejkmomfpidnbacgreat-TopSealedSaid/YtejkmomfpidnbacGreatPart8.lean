/- Walks and plain laws, part 8: what functions compute, proved once each (BxF, HostE, DiskE2, DiskE3, ReadP, MutR, HostS, HostA, HostN, HostW, BxK, BxL, BxT, BxE, QuotaP, QuotaE, HostM, HostT, HostC). -/
import Derived.Test.YtejkmomfpidnbacGreatPart7
import Derived.Test.YtejkmomfpidnbacGreatPart2
import Derived.Test.YtejkmomfpidnbacGreatPart3
import Derived.Test.YtejkmomfpidnbacGreatPart6
import Derived.Test.YtejkmomfpidnbacGreatPart5
set_option linter.unusedSimpArgs false
set_option linter.unusedVariables false
set_option maxRecDepth 100000
set_option maxHeartbeats 40000000
namespace Go.Proofs.YtejkmomfpidnbacGreat
open Go.RowKit
section
def lV:List Int→Int
  | []=>0
  | e :: l=>if ¬e=0 then e else lV l
theorem firstF_drop {l:List Int} {k:Nat} {e:Int} (h:l[k]?=some e):lV (l.drop k)=if ¬e=0 then e else lV (l.drop (k+1)):=by
  obtain⟨hk,he⟩:=List.getElem?_eq_some_iff.1 h
  rw [List.drop_eq_getElem_cons hk,lV,he]
abbrev erC (e:Int):List Value:=[bA e]
theorem er_len (e:Int):(erC e).length=1:=rfl
theorem one_er (e:Int):jF (bA e)=true:=by
  by_cases h:e=0
  · rw [h,bO];rfl
  · rw [bW h];rfl
theorem ones_er (l:List Int):∀ u∈l.flatMap erC,jF u=true:=fun u hu=>by
  obtain⟨e,_,he⟩:=List.mem_flatMap.1 hu
  rw [List.mem_singleton.1 he];exact one_er e
structure CF where
  M:LM
  c:CR
  A:Option Addr
  n:Nat
  k:Nat
  q:Int
  B:Option Addr
  m:Nat
  e:Nat
  lo:List Int
abbrev cfC (x:CF):List Value:=[.slice x.M.A x.M.n x.M.c,.slice x.M.B x.M.m x.M.e,.int .i64 x.c.u,.int .i64 x.c.g,.slice x.A x.n x.k,.int .i64 x.c.d,.int .i64 x.q,.slice x.B x.m x.e]
abbrev cfV (x:CF):Value:=.agg #[.slice x.M.A x.M.n x.M.c,.slice x.M.B x.M.m x.M.e,.int .i64 x.c.u,.int .i64 x.c.g,.slice x.A x.n x.k,.int .i64 x.c.d,.int .i64 x.q,.slice x.B x.m x.e]
structure CfV (V:aE) (x:CF):Prop where
  M:rC V x.M
  xs:eD V x.A x.n x.c.xs
  lo:eD V x.B x.m x.lo
theorem CfV.le {V V':aE} {x:CF} (h:CfV V x) (hv:VLe V V'):CfV V' x:=⟨h.M.le hv,h.xs.le hv,h.lo.le hv⟩
def unmP (us gs:List PR) (c:CR):Prop:=(gY us c.u).isSome=false∨(gY gs c.g).isSome=false
instance (us gs : List PR) (c : CR) : Decidable (unmP us gs c) := by unfold unmP; infer_instance
def yL (x:CF):List Int:=[dX x.M.us,dX x.M.gs,kZ x.c.u x.c.g x.c.d x.c.xs] ++ if x.q<1∨64<x.q then [1] else []
def cfgL (x:CF) (ls:List PN):List Int:=if 3<ls.length then yL x ++ [2] else (yL x ++ ls.map (dD false)) ++ if unmP x.M.us x.M.gs x.c then [11] else []
def jH (x:CF) (ls:List PN):Int:=lV (cfgL x ls)
theorem er_cells (e:Int):(bA e).cells=#[bA e]:=by
  by_cases h:e=0
  · rw [h,bO];rfl
  · rw [bW h];rfl
theorem fill_er3 {a b c:Int} {z:Value}:rH (fun i=>some (i * 1,1)) [z,z,z] [(0,bA a),(1,bA b),(2,bA c)]=some [bA a,bA b,bA c]:=by
  simp only [rH,er_cells];rfl
theorem fill_er1 {a:Int} {z:Value}:rH (fun i=>some (i * 1,1)) [z] [(0,bA a)]=some [bA a]:=by
  simp only [rH,er_cells];rfl
theorem er_row {A:Option Addr} {n c E:Nat} {es:List Int} {k:Int} {L:List Box} (hk:k≠0) (h:cX A n c E 1 (es.flatMap erC ++ [Value.iface 99 (.int .i64 k)]) L):cX A n c E 1 ((es ++ [k]).flatMap erC) L:=by
  rw [List.flatMap_append,List.flatMap_cons,List.flatMap_nil,List.append_nil,erC,bW hk];exact h
attribute [local irreducible] AtQ GoC GoL GoW QO QP Fn RV bF aD VLe bU bA
theorem first_c (V:aE) (A:Option Addr) (n c:Nat) (es:List Int) (h:fB V 1 erC A n es):Fn Tryz.prog 83 [.slice A n c] V fun v _=>v=bA (lV es):=by
  have hl:=h.1
  have hm:=h.max
  (refine aN Tryz.func83 rfl Tryz.ntmps83 rfl ?_;intro w0)
  repeat' (first|(refine aG ?_;refine pu9 ?_)|refine cM ?_|fail)
  refine bZ (fun F V' L' m=>∃ k:Nat,V=V'∧[]=L'∧k≤n∧lV es=lV (es.drop k)∧m=n - k∧F=[(5,.slice A n c),(6,.int .i64 (n:Int)),(7,.int .i64 (k:Int))]) (m:=n) ⟨0,rfl,rfl,Nat.zero_le _,rfl,by omega,rfl⟩ bG rfl sl9 ?_
  rintro F V' L' m ⟨k,rfl,rfl,hkn,hf,rfl,rfl⟩
  by_cases hlt:k<n
  · obtain⟨b,off,e,rfl,he,hc⟩:=h.at_ hlt
    have hd:=firstF_drop he
    have hc0:=gM (j:=0) hc rfl
    repeat' (first|(refine aG ?_;refine pu9 ?_)|refine cM ?_|(refine aA rfl ?_ ?_<;>intro hq<;>try exact no9))
    all_goals first
      | (refine kP ?_;(refine aR Tryz.results83 (aB rfl) ?_);rw [hf,hd,if_pos hq])
      | (refine xG ?_;refine aY _ (n - (k+1)) ⟨k+1,rfl,rfl,by omega,by rw [hf,hd,if_neg hq],rfl,rfl⟩ (by omega) bG sl9)
  · repeat' (first|(refine aG ?_;refine pu9 ?_)|refine eT ?_|(refine aA rfl ?_ ?_<;>intro hq<;>try exact no9))
    all_goals
      (refine aR Tryz.results83 (aB rfl) ?_)
      rw [hf,List.drop_of_length_le (by omega)];exact bO.symm
theorem Check9_c (V:aE) (x:CF) (hx:CfV V x) (A:Option Addr) (n c:Nat) (ls:List LN) (h:fN V A n ls):Fn Tryz.prog 35 [cfV x,.slice A n c] V fun v _=>v=bA (jH x (ls.map LN.n)):=by
  have hl:=h.1.1
  have hm:=h.1.max
  have c1:=fun V2 (hV2:VLe V V2)=>MCheck_c V2 x.M.A x.M.n x.M.c x.M.us (hx.M.1.le hV2) hx.M.2.1
  have c2:=fun V2 (hV2:VLe V V2)=>MCheck_c V2 x.M.B x.M.m x.M.e x.M.gs (hx.M.2.2.1.le hV2) hx.M.2.2.2
  have c3:=fun V2 (hV2:VLe V V2)=>Check_c V2 x.c.u x.c.g x.c.d x.A x.n x.k x.c.xs (hx.xs.le hV2)
  have hc1:yL x=[dX x.M.us,dX x.M.gs,kZ x.c.u x.c.g x.c.d x.c.xs] ++ if x.q<1∨64<x.q then [1] else []:=rfl
  generalize dX x.M.us=m1 at *
  generalize dX x.M.gs=m2 at *
  generalize kZ x.c.u x.c.g x.c.d x.c.xs=m3 at *
  (refine aN Tryz.func35 rfl Tryz.ntmps35 rfl ?_;intro w0)
  repeat' (first|(refine aG ?_;first|(refine al9 ?_;intro γ)|refine pu9 ?_)|refine bS ?_|fail)
  refine eK (fun F V' L'=>∃ (γ2 γ5:Nat),VLe V V'∧[⟨γ5,37,[bA m1,bA m2,bA m3]⟩,⟨γ2,29,cfC x⟩]=L'∧F=[(1,.slice A n c),(2,.pointer (some ⟨γ2,0,none⟩)),(5,.slice (some ⟨γ5,0,none⟩) 3 3)]) ?_ ?_
  · refine bT (id:=1) _ mixed (List.Sublist.refl _) ?_;refine gt9 0 ?_;refine gt9 1 ?_;refine gt9 2 ?_;refine gt9 4 ?_;refine gt9 5 ?_;refine gt9 6 ?_;refine gt9 8 ?_;refine gt9 9 ?_;refine bM (i:=3) rfl ?_;(first|refine aO rfl (aK ⟨Tryz.call82⟩ rfl (c1 _ vl9)) ?_|refine aO rfl (aK ⟨Tryz.call82⟩ rfl (c2 _ vl9)) ?_|refine aO rfl (aK ⟨Tryz.call58⟩ rfl (c3 _ vl9)) ?_);refine bM (i:=7) rfl ?_;(first|refine aO rfl (aK ⟨Tryz.call82⟩ rfl (c1 _ vl9)) ?_|refine aO rfl (aK ⟨Tryz.call82⟩ rfl (c2 _ vl9)) ?_|refine aO rfl (aK ⟨Tryz.call58⟩ rfl (c3 _ vl9)) ?_);refine bM (i:=10) rfl ?_;(first|refine aO rfl (aK ⟨Tryz.call82⟩ rfl (c1 _ vl9)) ?_|refine aO rfl (aK ⟨Tryz.call82⟩ rfl (c2 _ vl9)) ?_|refine aO rfl (aK ⟨Tryz.call58⟩ rfl (c3 _ vl9)) ?_);refine bM (i:=11) rfl ?_;(first|(refine aZ rfl und_147 siz_37 zec_37 rfl rfl rfl rfl fill_er3 rfl rfl ?_;intro γ)|(refine aZ rfl und_147 siz_37 zec_37 rfl rfl rfl rfl rfl rfl rfl ?_;intro γ));refine gt9 12 ?_;refine bC (by kernel_rfl) vl9 vl9 cC ?_
    all_goals (first|exact fP _ ⟨_,_,VLe.refl _,rfl,rfl⟩ bG sp9|trace_state)
  rintro F V1 L' ⟨γ2,γ5,hV1,rfl,rfl⟩
  have hr0:cX (some ⟨γ5,0,none⟩) 3 3 37 1 ([m1,m2,m3].flatMap erC) [⟨γ5,37,[bA m1,bA m2,bA m3]⟩]:=cX.close (f:=erC) (xs:=[m1,m2,m3]) (rest:=[]) er_len rfl rfl (Nat.le_refl _) (by unfold maxLen;omega)
  refine jJ ?_;refine jO ?_;refine eK (fun F V' L'=>∃ (A5:Option Addr) (n5 c5:Nat) (L5:List Box),V1=V'∧cX A5 n5 c5 37 1 ((yL x).flatMap erC) L5∧n5=(yL x).length∧L5 ++ [⟨γ2,29,cfC x⟩]=L'∧F=[(1,.slice A n c),(2,.pointer (some ⟨γ2,0,none⟩)),(5,.slice A5 n5 c5)]) ?_ ?_
  · repeat' (first|(refine aG ?_;first|(refine aC ?_;(refine bQ rfl und_147 inf_37 rfl rfl rfl hr0 bD (fY bN rfl) cI (by omega) rfl rfl ?_;intro A3 c3 L3 hr3))|(refine dC ?_;(refine aZ rfl und_147 siz_37 zec_37 rfl rfl rfl rfl rfl rfl rfl ?_;intro γ))|refine pu9 ?_)|refine nO ?_|(refine aJ rfl rfl rfl ?_ ?_<;>intro hq<;>try exact no9)|refine iR [2,3] rfl ?_|(refine aA rfl ?_ ?_<;>intro hq<;>try exact no9))
    all_goals first
      | (refine xG ?_
         rw [if_pos (by omega)] at hc1
         refine fP _ ⟨A3,_,c3,L3,rfl,?_,?_,rfl,rfl⟩ bG sp9
         · rw [hc1];exact er_row (by decide) hr3
         · rw [hc1];rfl)
      | (refine xG ?_
         rw [if_neg (by omega),List.append_nil] at hc1
         refine fP _ ⟨_,_,_,_,rfl,by rw [hc1];exact hr0,by rw [hc1];rfl,rfl,rfl⟩ bG sp9)
  rintro F V' L' ⟨A5,n5,c5,L5,rfl,hr5,hn5,rfl,rfl⟩
  have hn5b:n5≤4:=by rw [hn5,hc1];split<;>simp
  clear hc1 hr0 c1 c2 c3
  by_cases h3:3<n
  · have e9:jH x (ls.map LN.n)=lV (yL x ++ [2]):=by unfold jH cfgL;rw [if_pos (by rw [List.length_map];omega)]
    rw [e9]
    repeat' (first|(refine aG ?_;first|(refine aC ?_;(first|(refine bQ rfl und_147 inf_37 rfl rfl rfl hr5 bD (fY bN rfl) cI (by omega) rfl rfl ?_;intro A6 c6 L6 hr6;refine gl_shut rfl (er_row (by decide) hr6) bD ?_;intro V6 hV6 hc6;have hE:=fB.of_cells (xs:=yL x ++ [2]) hc6 er_len (by rw [List.length_append,hn5];rfl) (by unfold maxLen;omega))|refine aO rfl (aK ⟨Tryz.call83⟩ rfl (first_c _ _ _ _ _ hE)) ?_))|(refine dC ?_;(refine aZ rfl und_147 siz_37 zec_37 rfl rfl rfl rfl rfl rfl rfl ?_;intro γ))|refine pu9 ?_)|refine bS ?_|(refine aA rfl ?_ ?_<;>intro hq<;>try exact no9))
    all_goals first
      | exact no9
      | (refine kP ?_;(refine aR Tryz.results35 (aB rfl) ?_);rfl)
  have e9:jH x (ls.map LN.n)=lV ((yL x ++ (ls.map LN.n).map (dD false)) ++ if unmP x.M.us x.M.gs x.c then [11] else []):=by unfold jH cfgL;rw [if_neg (by rw [List.length_map];omega)]
  rw [e9]
  clear e9
  have hlm:((ls.map LN.n).map (dD false)).length=n:=by simp [hl]
  repeat' (first|(refine aG ?_;refine pu9 ?_)|refine cM ?_|(refine aA rfl ?_ ?_<;>intro hq<;>try exact no9))
  all_goals try exact no9
  refine bZ (fun F V' L' m=>∃ (k:Nat) (A':Option Addr) (n' c':Nat) (Lk:List Box),VLe V1 V'∧cX A' n' c' 37 1 ((yL x ++ ((ls.map LN.n).map (dD false)).take k).flatMap erC) Lk∧n'=n5+k∧Lk ++ [⟨γ2,29,cfC x⟩]=L'∧k≤n∧m=n - k∧F=[(2,.pointer (some ⟨γ2,0,none⟩)),(5,.slice A' n' c'),(44,.slice A n c),(45,.int .i64 (n:Int)),(46,.int .i64 (k:Int))]) (m:=n) ⟨0,A5,n5,c5,L5,VLe.refl _,by rw [List.take_zero,List.append_nil];exact hr5,rfl,rfl,Nat.zero_le _,by omega,rfl⟩ bG rfl sl9 ?_
  rintro F V' L' m ⟨k,A',n',c',Lk,hV',hrk,hn',rfl,hkn,rfl,rfl⟩
  by_cases hlt:k<n
  · obtain⟨b1,o1,y,rfl,hy,hc,hyN⟩:=(h.le (hV1.trans hV')).at_ hlt
    have hT:=fun V2 (hV2:VLe V' V2)=>TCheck_c V2 y (hyN.le hV2) false
    have hke:((ls.map LN.n).map (dD false))[k]?=some (dD false y.n):=by rw [List.getElem?_map,List.getElem?_map,hy];rfl
    have htk:((ls.map LN.n).map (dD false)).take (k+1)=((ls.map LN.n).map (dD false)).take k ++ [dD false y.n]:=by rw [List.take_add_one,hke];rfl
    generalize dD false y.n=ty at *
    have hone:∀ u∈[bA ty],jF u=true:=ones_er [ty]
    repeat' (first|(refine aG ?_;first|(refine aC ?_;(first|refine aO rfl (aK ⟨Tryz.call16⟩ rfl (hT _ vl9)) ?_|(refine bQ rfl und_147 inf_37 rfl rfl rfl hrk bD (fY bN rfl) cI (by omega) rfl rfl ?_;intro A6 c6 L6 hr6)))|(refine dC ?_;(first|(refine aZ rfl und_147 siz_37 zec_37 rfl rfl rfl rfl fill_er1 rfl rfl ?_;intro γ)|(refine aZ rfl und_147 siz_37 zec_37 rfl rfl rfl rfl rfl rfl rfl ?_;intro γ)))|refine st9 ?_|(refine al9 ?_;intro γ)|refine pu9 ?_)|refine cM ?_|(refine aA rfl ?_ ?_<;>intro hq<;>try exact no9))
    all_goals
      refine aY _ (n - (k+1)) ⟨k+1,A6,n'+1,c6,L6,vl9,?_,by omega,rfl,by omega,rfl,rfl⟩ (by omega) bG sl9
      rw [htk,←List.append_assoc,List.flatMap_append];exact hr6
  · obtain rfl:k=n:=by omega
    rw [List.take_of_length_le (by omega)] at hrk
    have hal:(yL x ++ (ls.map LN.n).map (dD false)).length=n':=by rw [List.length_append,hlm];omega
    generalize hall:yL x ++ (ls.map LN.n).map (dD false)=al at *
    have hn8:n'≤8:=by omega
    have hMl:=hx.M.le (hV1.trans hV')
    have t1:=fun V2 (hV2:VLe V' V2)=>mR V2 x.M.A x.M.n x.M.c x.M.us (hMl.1.le hV2) hMl.2.1 x.c.u
    have t2:=fun V2 (hV2:VLe V' V2)=>mR V2 x.M.B x.M.m x.M.e x.M.gs (hMl.2.2.1.le hV2) hMl.2.2.2 x.c.g
    have hun:unmP x.M.us x.M.gs x.c↔((gY x.M.us x.c.u).isSome=false∨(gY x.M.gs x.c.g).isSome=false):=Iff.rfl
    have q1:lookR (gY x.M.us x.c.u)=.tuple #[.int .i64 ((gY x.M.us x.c.u).getD 0),.bool (gY x.M.us x.c.u).isSome]:=rfl
    have q2:lookR (gY x.M.gs x.c.g)=.tuple #[.int .i64 ((gY x.M.gs x.c.g).getD 0),.bool (gY x.M.gs x.c.g).isSome]:=rfl
    rw [q1] at t1
    rw [q2] at t2
    clear q1 q2
    generalize (gY x.M.us x.c.u).isSome=s1 at *
    generalize (gY x.M.gs x.c.g).isSome=s2 at *
    generalize (gY x.M.us x.c.u).getD 0=d1 at *
    generalize (gY x.M.gs x.c.g).getD 0=d2 at *
    repeat' (first|(refine aG ?_;first|(refine aC ?_;(first|refine aO rfl (aK ⟨Tryz.call84⟩ rfl (t1 _ vl9)) ?_|refine aO rfl (aK ⟨Tryz.call84⟩ rfl (t2 _ vl9)) ?_|(refine bQ rfl und_147 inf_37 rfl rfl rfl hrk bD (fY bN rfl) cI (by omega) rfl rfl ?_;intro A6 c6 L6 hr6)))|(refine dC ?_;(refine aZ rfl und_147 siz_37 zec_37 rfl rfl rfl rfl rfl rfl rfl ?_;intro γ))|refine pu9 ?_)|refine gxce9 ?_|(refine cN rfl rfl rfl ?_ ?_<;>intro hq)|refine iR [7,11,12,13,14] rfl ?_|(refine aA rfl ?_ ?_<;>intro hq<;>try exact no9)|(refine bY rfl ?_ ?_<;>intro hq))
    all_goals first
      | (have e1:unmP x.M.us x.M.gs x.c:=hun.2 (by first|exact .inl (nb (by assumption))|exact .inr (nb (by assumption)))
         rw [if_pos e1]
         refine rG (er_row (by decide) hr6) bD ?_
         intro V6 hV6 hc6
         have hE:=fB.of_cells (xs:=al ++ [11]) hc6 er_len (by rw [List.length_append,hal];rfl) (by unfold maxLen;omega)
         repeat' (first|(refine aG ?_;first|(refine aC ?_;refine aO rfl (aK ⟨Tryz.call83⟩ rfl (first_c _ _ _ _ _ hE)) ?_)|refine pu9 ?_)|refine bS ?_|fail)
         (refine aR Tryz.results35 (aB rfl) ?_)
         rfl)
      | (have e1:¬unmP x.M.us x.M.gs x.c:=fun h9=>(hun.1 h9).elim (nbf (by assumption)) (nbf (by assumption))
         rw [if_neg e1,List.append_nil]
         refine rG hrk bD ?_
         intro V6 hV6 hc6
         have hE:=fB.of_cells (xs:=al) hc6 er_len hal (by unfold maxLen;omega)
         repeat' (first|(refine aG ?_;first|(refine aC ?_;refine aO rfl (aK ⟨Tryz.call83⟩ rfl (first_c _ _ _ _ _ hE)) ?_)|refine pu9 ?_)|refine bS ?_|fail)
         (refine aR Tryz.results35 (aB rfl) ?_)
         rfl)
end
section
theorem be_step {n:Int} {k j:Nat} (h:j<k):(List.replicate (k - j) (0:UInt8) ++ be j n).set (k - 1 - j) (b8 (n / 256 ^ j))=List.replicate (k - (j+1)) (0:UInt8) ++ be (j+1) n:=by
  have e:k - j=(k - (j+1))+1:=by omega
  rw [List.set_append_left _ _ (by rw [List.length_replicate];omega),e,List.replicate_succ',List.set_append_right _ _ (by rw [List.length_replicate];omega),List.length_replicate,show k - 1 - j - (k - (j+1))=0 by omega]
  rw [be];simp
attribute [local irreducible] AtQ GoC GoL GoW QO QP Fn RV bF aD VLe bU bA
theorem nS (V:aE) (n:Int) (hn:0≤n) (k:Nat) (hk:k≤1000):Fn Tryz.prog 173 [.int .i64 n,.int .i64 k] V fun v _=>v=.string ⟨(be k n).toArray⟩:=by
  (refine aN Tryz.func173 rfl Tryz.ntmps173 rfl ?_;intro w0)
  repeat' (first|(refine aG ?_;first|(refine k_makeSlice ?_;(refine gw_makeSlice (n:=k) rfl und_108 mk_u8 rfl rfl (by omega) rfl rfl ?_;intro γ0))|(refine bK ?_;refine aI (q_shr rfl rfl (by omega)) ?_)|refine pu9 ?_)|refine bS ?_|fail)
  refine cS ?_
  refine bZ (fun F V' L' m=>∃ (j:Nat) (x i:Int),V=V'∧[⟨γ0,5,(List.replicate (k - j) (0:UInt8) ++ be j n).flatMap u8F ++ []⟩]=L'∧j≤k∧x=n / 256 ^ j∧i=(k:Int) - 1 - j∧m=k - j∧F=[(0,.int .i64 x),(5,.slice (some ⟨γ0,0,none⟩) k k),(6,.int .i64 i)]) (m:=k) ⟨0,n,(k:Int) - 1,rfl,rfl,by omega,by simp,by omega,rfl,rfl⟩ bG rfl (by rw [made_u8];simp only [be,Nat.sub_zero,List.append_nil];exact List.Sublist.refl _) ?_
  rintro F V' L' m ⟨j,x,i,rfl,rfl,hj,hx,hi,rfl,rfl⟩
  by_cases hlt:j<k
  · have h0:0≤x:=by rw [hx];exact shr_nn hn j
    obtain rfl:i=((k - 1 - j:Nat):Int):=by omega
    have hle:0+(k - 1 - j) * 1+(u8F (b8 x)).length≤((List.replicate (k - j) (0:UInt8) ++ be j n).flatMap u8F ++ []).length:=by rw [List.append_nil,eU u8F lK,List.length_append,List.length_replicate,jC,lK];omega
    repeat' (first|(refine aG ?_;first|(refine bK ?_;(first|refine aI (q_shr8 rfl rfl h0) ?_|refine aI (q_shr rfl rfl (by omega)) ?_))|(refine nQ ?_;refine aI (lL und_3 und_5 rfl) ?_)|(refine cY ?_;refine aP rfl siz_5 rfl rfl rfl rfl cI puts9 rfl ?_)|refine pu9 ?_)|refine dL ?_|fail)
    all_goals
      refine aY _ (k - (j+1)) ⟨j+1,x / 256,((k - 1 - j:Nat):Int) - 1,rfl,?_,by omega,by rw [hx,shr_pow],by omega,rfl,rfl⟩ (by omega) bG sl9
      rw [←be_step hlt,hx]
      exact congrArg (fun z=>[(⟨γ0,5,z⟩:Box)]) (row_set lK (show k - 1 - j<(List.replicate (k - j) (0:UInt8) ++ be j n).length by simp [jC];omega) (b8 (n / 256 ^ j))).symm
  · obtain rfl:j=k:=by omega
    rw [show (List.replicate (j - j) (0:UInt8) ++ be j n).flatMap u8F ++ []=u8C (be j n) by rw [Nat.sub_self,List.append_nil,←u8C_flat];rfl]
    repeat' (first|(refine aG ?_;first|(refine bK ?_;refine aI (q_shr rfl rfl (by omega)) ?_)|(refine nQ ?_;refine aI (kL (us:=be j n) und_108 und_5 und_9 rfl (fY bN (by rw [wU,jC,Nat.mul_one]))) ?_)|refine pu9 ?_)|refine eT ?_|(refine aA rfl ?_ ?_<;>intro hq<;>try exact no9))
    all_goals (refine aR Tryz.results173 (aB rfl) ?_)
    all_goals rfl
theorem hnums_c (V:aE) (A:Option Addr) (n c:Nat) (xs:List Int) (h:eD V A n xs) (hx:∀ x∈xs,0≤x) (hn:n≤100000) (k:Nat) (hk:k≤100):Fn Tryz.prog 189 [.slice A n c,.int .i64 k] V fun v _=>v=.string ⟨(sF k xs).toArray⟩:=by
  have hl:=h.1
  have hc0:=fun V9=>nS V9 (n:Int) (by omega) 2 (by omega)
  (refine aN Tryz.func189 rfl Tryz.ntmps189 rfl ?_;intro w0)
  repeat' (first|(refine aG ?_;first|(refine aC ?_;refine aO rfl (aK ⟨Tryz.call173⟩ rfl (hc0 _)) ?_)|refine pu9 ?_)|refine bS ?_|fail)
  refine cS ?_
  refine bZ (fun F V' L' m=>∃ (j:Nat) (s:List UInt8),V=V'∧[]=L'∧j≤n∧s=be 2 (n:Int) ++ (xs.take j).flatMap (be k)∧m=n - j∧F=[(1,.int .i64 k),(5,.string ⟨s.toArray⟩),(11,.slice A n c),(12,.int .i64 n),(13,.int .i64 j)]) (m:=n) ⟨0,be 2 (n:Int),rfl,rfl,by omega,by simp,rfl,rfl⟩ bG rfl sl9 ?_
  rintro F V' L' m ⟨j,s,rfl,rfl,hj,hs,rfl,rfl⟩
  by_cases hlt:j<n
  · obtain⟨b,o,z,rfl,hz,hc⟩:=h.at_ hlt
    have hz0:=hx z (List.mem_of_getElem? hz)
    have hsl:s.length=2+k * j:=by rw [hs,List.length_append,jC,flat_be,List.length_take,Nat.min_eq_left (by omega)]
    have hkj:k * j≤100 * 100000:=Nat.mul_le_mul hk (by omega)
    have hc1:=fun V9=>nS V9 z hz0 k (by omega)
    repeat' (first|(refine aG ?_;first|(refine aC ?_;refine aO rfl (aK ⟨Tryz.call173⟩ rfl (hc1 _)) ?_)|(refine bK ?_;refine aI (gD rfl rfl (by rw [jC];omega)) ?_)|refine pu9 ?_)|refine cM ?_|(refine aA rfl ?_ ?_<;>intro hq<;>try exact no9))
    all_goals
      refine aY _ (n - (j+1)) ⟨j+1,s ++ be k z,rfl,rfl,by omega,by rw [fC hz,hs,List.append_assoc],rfl,rfl⟩ (by omega) bG sl9
  · obtain rfl:j=n:=by omega
    repeat' (first|(refine aG ?_;refine pu9 ?_)|refine eT ?_|(refine aA rfl ?_ ?_<;>intro hq<;>try exact no9))
    all_goals (refine aR Tryz.results189 (aB rfl) ?_)
    all_goals rw [hs,sF,hl,List.take_of_length_le (by omega)]
theorem hranges_c (V:aE) (A:Option Addr) (n c:Nat) (xs:List PR) (h:fB V 3 prC A n xs) (hx:∀ x∈xs,0≤x.i∧0≤x.o∧0≤x.c) (hn:n≤100000):Fn Tryz.prog 190 [.slice A n c] V fun v _=>v=.string ⟨(wX xs).toArray⟩:=by
  have hl:=h.1
  have hc0:=fun V9=>nS V9 (n:Int) (by omega) 1 (by omega)
  (refine aN Tryz.func190 rfl Tryz.ntmps190 rfl ?_;intro w0)
  repeat' (first|(refine aG ?_;first|(refine aC ?_;refine aO rfl (aK ⟨Tryz.call173⟩ rfl (hc0 _)) ?_)|refine pu9 ?_)|refine bS ?_|fail)
  refine cS ?_
  refine bZ (fun F V' L' m=>∃ (j:Nat) (s:List UInt8),VLe V V'∧[]=L'∧j≤n∧s=be 1 (n:Int) ++ (xs.take j).flatMap (fun r=>be 3 r.i ++ be 3 r.o ++ be 3 r.c)∧s.length=1+9 * j∧m=n - j∧F=[(3,.string ⟨s.toArray⟩),(9,.slice A n c),(10,.int .i64 n),(11,.int .i64 j)]) (m:=n) ⟨0,be 1 (n:Int),VLe.refl _,rfl,by omega,by simp,by rw [jC],rfl,rfl⟩ bG rfl sl9 ?_
  rintro F V' L' m ⟨j,s,hV',rfl,hj,hs,hsl,rfl,rfl⟩
  by_cases hlt:j<n
  · obtain⟨b,o,z,rfl,hz,hc⟩:=(h.le hV').at_ hlt
    obtain⟨z1,z2,z3⟩:=hx z (List.mem_of_getElem? hz)
    have hc1:=fun V9=>nS V9 z.i z1 3 (by omega)
    have hc2:=fun V9=>nS V9 z.o z2 3 (by omega)
    have hc3:=fun V9=>nS V9 z.c z3 3 (by omega)
    repeat' (first|(refine aG ?_;first|(refine aC ?_;(first|refine aO rfl (aK ⟨Tryz.call173⟩ rfl (hc1 _)) ?_|refine aO rfl (aK ⟨Tryz.call173⟩ rfl (hc2 _)) ?_|refine aO rfl (aK ⟨Tryz.call173⟩ rfl (hc3 _)) ?_))|(refine bK ?_;refine aI (gD rfl rfl (by (try simp only [List.length_append,jC]);omega)) ?_)|refine st9 ?_|(refine al9 ?_;intro γ)|refine pu9 ?_)|refine cM ?_|(refine aA rfl ?_ ?_<;>intro hq<;>try exact no9)|refine cO (id:=5) mixed (by kernel_rfl) ?_)
    all_goals
      refine aY _ (n - (j+1)) ⟨j+1,s ++ (be 3 z.i ++ be 3 z.o ++ be 3 z.c),vl9,rfl,by omega,by rw [fC hz,hs,List.append_assoc],by simp only [List.length_append,jC];omega,rfl,rfl⟩ (by omega) bG sl9
  · obtain rfl:j=n:=by omega
    repeat' (first|(refine aG ?_;refine pu9 ?_)|refine eT ?_|(refine aA rfl ?_ ?_<;>intro hq<;>try exact no9))
    all_goals (refine aR Tryz.results190 (aB rfl) ?_)
    all_goals rw [hs,wX,hl,List.take_of_length_le (by omega)]
theorem hplaces_c (V:aE) (A:Option Addr) (n c:Nat) (xs:List Int) (h:eD V A n xs) (hx:∀ x∈xs,0≤x∧x≤100000) (hn:n≤1000):Fn Tryz.prog 133 [.slice A n c] V fun v V'=>∃ (A':Option Addr) (c':Nat),v=.slice A' n c'∧eD V' A' n (xs.map (· * 64)):=by
  have hl:=h.1
  (refine aN Tryz.func133 rfl Tryz.ntmps133 rfl ?_;intro w0)
  repeat' (first|(refine aG ?_;refine pu9 ?_)|refine bS ?_|fail)
  refine cS ?_
  refine bZ (fun F V' L' m=>∃ (j:Nat) (A9:Option Addr) (c9:Nat) (Lg:List Box),V=V'∧Lg=L'∧cX A9 j c9 3 1 (((xs.take j).map (· * 64)).map (.int .i64)) Lg∧j≤n∧m=n - j∧F=[(3,.slice A9 j c9),(6,.slice A n c),(7,.int .i64 n),(8,.int .i64 j)]) (m:=n) ⟨0,none,0,[],rfl,rfl,cX.nil,by omega,rfl,rfl⟩ bG rfl sl9 ?_
  rintro F V' L' m ⟨j,A9,c9,Lg,rfl,rfl,hr,hj,rfl,rfl⟩
  by_cases hlt:j<n
  · obtain⟨b,o,z,rfl,hz,hc⟩:=h.at_ hlt
    obtain⟨z1,z2⟩:=hx z (List.mem_of_getElem? hz)
    have hkc:=hr.cap
    repeat' (first|(refine aG ?_;first|(refine aC ?_;(refine bQ rfl und_25 inf_3 rfl rfl rfl hr bD (fY bN rfl) cI (by omega) rfl rfl ?_;intro A8 c8 L8 hr8))|(refine dC ?_;(refine aZ rfl und_25 siz_3 zec_3 rfl rfl rfl rfl rfl rfl rfl ?_;intro γ))|refine pu9 ?_)|refine cM ?_|(refine aA rfl ?_ ?_<;>intro hq<;>try exact no9))
    all_goals
      refine aY _ (n - (j+1)) ⟨j+1,A8,c8,L8,rfl,rfl,?_,by omega,rfl,rfl⟩ (by omega) bG sl9
      rw [List.take_add_one,hz,List.map_append,List.map_append]
      exact hr8
  · obtain rfl:j=n:=by omega
    rw [List.take_of_length_le (by omega)] at hr
    refine rG hr bD ?_
    intro V5 hV5 hc5
    repeat' (first|(refine aG ?_;refine pu9 ?_)|refine eT ?_|(refine aA rfl ?_ ?_<;>intro hq<;>try exact no9))
    all_goals (refine aR Tryz.results133 (aB rfl) ?_)
    exact⟨A9,c9,rfl,rJ (by rw [List.length_map];exact hl) hn (by rw [Nat.zero_add,List.nil_append];exact hc5)⟩
end
section
theorem row_made {g n:Nat} {E:TypeId} (hn:n≤1000000):cX (some ⟨g,0,none⟩) n n E 1 ((List.replicate n (0:UInt8)).flatMap u8F) [⟨g,E,(List.replicate n (0:UInt8)).flatMap u8F⟩]:=by
  have e:=eU u8F lK (List.replicate n (0:UInt8))
  rw [List.length_replicate] at e
  exact⟨e,.inr ⟨g,_,rfl,rfl,Nat.le_refl _,by unfold maxLen;omega,e,List.take_of_length_le (by omega)⟩⟩
theorem dWrite_bad {s:DS} {a:Int} {l:List UInt8} {f:Int} (h:lO s a l.length=f) (h0:¬f=0):cZ s a l=f∧cD s a l=s:=by
  subst h
  exact⟨by rw [cZ,if_pos h0],by rw [cD,if_pos h0]⟩
theorem dWrite_ok {s:DS} {a:Int} {l:List UInt8} (h:lO s a l.length=0):cZ s a l=(if mO s l.length=true then 16 else 0)∧cD s a l=dPut s a.toNat l :=
  ⟨by rw [cZ,if_neg (by omega)],by rw [cD,if_neg (by omega)]⟩
theorem dN_short {s:DS} {m:Nat} (h:0≤s.cut∧s.cut<m):(dN s m:Int)=s.cut∧mO s m=true:=by
  unfold dN mO;rw [if_pos h];exact⟨by omega,decide_eq_true h⟩
theorem dN_long {s:DS} {m:Nat} (h:¬(0≤s.cut∧s.cut<m)):dN s m=m∧mO s m=false:=by
  unfold dN mO;rw [if_neg h];exact⟨rfl,decide_eq_false h⟩
theorem wG {s:ByteArray} {h n:Nat} (hh:h≤s.size) (hn:h≤n):(s.extract 0 h).toList.take (min (s.extract 0 h).size n)=s.toList.take h:=by
  rw [ba_take' s h hh,List.take_take,ByteArray.size_extract]
  congr 1;omega
attribute [local irreducible] AtQ GoC GoL GoW QO QP Fn RV bF aD VLe bU bA
theorem gC.eqs {p:Nat} {s t:DS} {A:Option Addr} {c n:Nat} {x z:Int} {y:Bool} {L1:List Box} (hr:cX A t.bs.length c 5 1 (t.bs.flatMap u8F) L1) (h1:t.bs.length=n) (h2:t.cut=x) (h3:t.off=y) (h4:t.wr=z):gC p t (⟨p,204,[.slice A n c,.int .i64 x,.bool y,.int .i64 z]⟩ :: L1):=by
  subst h1;subst h2;subst h3;subst h4;exact⟨A,c,L1,rfl,hr⟩
theorem New_c (V:aE) (b:Int):FnB Tryz.prog 60 [.int .i64 b] V [] fun u _ Bs'=>((0≤b∧b≤2000)∧∃ p,u=.tuple #[.pointer (some ⟨p,0,none⟩),bA 0]∧gC p ⟨List.replicate (b.toNat * 64) 0,-1,false,0⟩ Bs')∨(¬(0≤b∧b≤2000)∧u=.tuple #[.pointer none,bA 1]∧Bs'=[]):=by
  by_cases hb:0≤b∧b≤2000
  · obtain⟨m,rfl⟩:=Int.eq_ofNat_of_zero_le hb.1
    (refine aL Tryz.func60 rfl Tryz.ntmps60 rfl ?_;intro w0)
    repeat' (first|(refine aG ?_;first|(refine k_makeSlice ?_;(refine gw_makeSlice (n:=m * 64) rfl und_108 mk_u8 rfl rfl (by omega) rfl rfl ?_;intro γ0))|(refine al9 ?_;intro γ)|refine pu9 ?_)|refine bS ?_|(refine aA rfl ?_ ?_<;>intro hq<;>try exact no9))
    all_goals
      (refine bJ Tryz.results60 (aB rfl) (aB rfl) (List.Sublist.refl _) ?_)
      refine .inl ⟨hb,_,by rw [bO],?_⟩
      rw [made_u8]
      exact gC.eqs (s:=⟨[],0,false,0⟩) (by simp only [List.length_replicate,Int.toNat_natCast];exact row_made (by omega)) (by simp) rfl rfl rfl
  · (refine aL Tryz.func60 rfl Tryz.ntmps60 rfl ?_;intro w0)
    repeat' (first|(refine aG ?_;refine pu9 ?_)|refine bV ?_|(refine aJ rfl rfl rfl ?_ ?_<;>intro hq<;>try exact no9)|(refine aA rfl ?_ ?_<;>intro hq<;>try exact no9))
    all_goals
      (refine bJ Tryz.results60 (aB rfl) (aB rfl) (List.Sublist.refl _) ?_)
      exact .inr ⟨hb,by rw [bW (by decide)],rfl⟩
end
section
attribute [local irreducible] AtQ GoC GoL GoW QO QP Fn RV bF aD VLe bU bA
theorem Write_c (V:aE) (p:Nat) (s:DS) (Bs:List Box) (h:gC p s Bs) (hm:s.bs.length≤1000000) (hwr:0≤s.wr∧s.wr≤1000000000) (hcu:-9223372036854775808≤s.cut∧s.cut≤9223372036854775807) (a:Int) (str:ByteArray) (g1:-9223372036854775808≤a∧a≤9223372036854775807) (g2:str.size≤1000000) :
    FnB Tryz.prog 126 [.pointer (some ⟨p,0,none⟩),.int .i64 a,.string str] V Bs fun u _ Bs'=>u=bA (cZ s a str.toList)∧gC p (cD s a str.toList) Bs':=by
  have hw:=within_c V p s Bs h hm a str.size g1
  have h':=h
  have hsz:str.toList.length=str.size:=uG str
  obtain⟨A,c,L1,rfl,hr⟩:=h
  have hcap:=hr.cap
  cases ho:s.off with
  | true =>
    rw [ho] at h'
    obtain⟨e1,e2⟩:=dWrite_bad (l:=str.toList) (dFault_off (a:=a) (n:=str.toList.length) ho) (by decide)
    (refine aL Tryz.func126 rfl Tryz.ntmps126 rfl ?_;intro w0)
    repeat' (first|(refine aG ?_;refine pu9 ?_)|refine bV ?_|fail)
    all_goals
      (refine aV Tryz.results126 (aB rfl) (List.Sublist.refl _) ?_)
      exact⟨by rw [e1,bW (by decide)],by rw [e2];exact h'⟩
  | false =>
    rw [ho] at hw h'
    by_cases hin:0≤a∧(0:Int)≤str.size∧a≤s.bs.length∧(str.size:Int)≤s.bs.length - a
    · obtain⟨e1,e2⟩:=dWrite_ok (l:=str.toList) (dFault_ok (n:=str.toList.length) ho (by rw [hsz];exact hin))
      rw [decide_eq_true hin] at hw
      by_cases hs:0≤s.cut∧s.cut<(str.size:Int)
      · obtain⟨hk1,hsh⟩:=dN_short (s:=s) (m:=str.toList.length) (by rw [hsz];exact hs)
        have hk0:dN s str.toList.length=s.cut.toNat:=by omega
        by_cases hz:s.cut=0
        · have hk0:dN s str.toList.length=0:=by omega
          have hbs:(dPut s a.toNat str.toList).bs=s.bs:=by
            show s.bs.take a.toNat ++ str.toList.take (dN s str.toList.length) ++ s.bs.drop (a.toNat+dN s str.toList.length)=s.bs
            rw [hk0,Nat.add_zero,List.take_zero,List.append_nil,List.take_append_drop]
          have hL:cF (⟨p,204,[.slice A s.bs.length c,.int .i64 s.cut,.bool true,.int .i64 s.wr]⟩ :: L1) p 0 (u8C ([]:List UInt8)) (⟨p,204,[.slice A s.bs.length c,.int .i64 s.cut,.bool true,.int .i64 s.wr]⟩ :: L1):=cF.here _ _ _ _ _ _ (by simp [u8C])
          have hus:(str.extract 0 s.cut.toNat).toList.take (min (str.extract 0 s.cut.toNat).size (s.bs.length - a.toNat))=[]:=by rw [wG (by omega) (by omega),show s.cut.toNat=0 by omega];rfl
          have hpos:0<([]:List UInt8).length→pX A c a.toNat 1=some ⟨p,0,none⟩:=fun h=>absurd h (by simp)
          (refine aL Tryz.func126 rfl Tryz.ntmps126 rfl ?_;intro w0)
          repeat' (first|(refine aG ?_;first|(refine aC ?_;refine aO rfl (dB ⟨Tryz.call169⟩ rfl bD (hw)) ?_)|refine st9 ?_|refine pu9 ?_)|refine bV ?_|(refine aJ rfl rfl rfl ?_ ?_<;>intro hq<;>try exact no9)|(refine aA rfl ?_ ?_<;>intro hq<;>try exact no9))
          all_goals
            refine bT (id:=9) _ mixed (List.Sublist.cons_cons _ (List.nil_sublist _)) ?_;refine gt9 0 ?_;refine gt9 1 ?_;refine gt9 2 ?_;refine gt9 3 ?_;refine gt9 4 ?_;refine gO 5 rfl rfl (iV und_108 siz_5 rfl rfl (by omega)) ?_;refine gt9 6 ?_;refine gt9 7 ?_;refine gO 8 rfl rfl (vJ und_9 rfl rfl (by omega)) ?_;refine bM (i:=9) rfl ?_;(refine gw_copys rfl und_108 siz_5 rfl rfl hus hpos hL rfl ?_);refine bC (by kernel_rfl) vl9 vl9 cC ?_
          repeat' (first|(refine aG ?_;first|refine st9 ?_|refine pu9 ?_)|refine bV ?_|(refine aA rfl ?_ ?_<;>intro hq<;>try exact no9))
          all_goals
            (refine aV Tryz.results126 (aB rfl) (List.Sublist.refl _) ?_)
            refine⟨by rw [e1,hsh,if_pos rfl,bW (by decide)],?_⟩
            rw [e2]
            exact gC.eqs (s:=s) (by rw [hbs];exact hr) (by rw [hbs]) (by show (if 0≤s.cut then s.cut - (dN s str.toList.length:Int) else s.cut)=_;rw [if_pos hs.1,hk1]) hsh (by show s.wr+(dN s str.toList.length:Int)=_;rw [hk1])
        · skip
          have hbs:(dPut s a.toNat str.toList).bs=s.bs.take a.toNat ++ str.toList.take s.cut.toNat ++ s.bs.drop (a.toNat+s.cut.toNat):=by
            show s.bs.take a.toNat ++ str.toList.take (dN s str.toList.length) ++ s.bs.drop (a.toNat+dN s str.toList.length)=_
            rw [hk0]
          have hbl:(dPut s a.toNat str.toList).bs.length=s.bs.length:=vS s a.toNat str.toList (by rw [uG];omega)
          obtain⟨g,rest,rfl,rfl,hcl,hnc,hcm⟩:=hr.open (by omega)
          have hlen1:(u8C (str.toList.take s.cut.toNat)).length=s.cut.toNat:=by rw [wU,List.length_take,uG];omega
          have hlen2:(str.toList.take s.cut.toNat).length=s.cut.toNat:=by rw [List.length_take,uG];omega
          have hfit:a.toNat * 1+(u8C (str.toList.take s.cut.toNat)).length≤(s.bs.flatMap u8F ++ rest).length:=by omega
          have hus:(str.extract 0 s.cut.toNat).toList.take (min (str.extract 0 s.cut.toNat).size (s.bs.length - a.toNat))=str.toList.take s.cut.toNat:=wG (by omega) (by omega)
          have hpos:0<(str.toList.take s.cut.toNat).length→pX (some ⟨g,0,none⟩) c a.toNat 1=some ⟨g,a.toNat * 1,none⟩:=fun h=>cut' (by omega)
          (refine aL Tryz.func126 rfl Tryz.ntmps126 rfl ?_;intro w0)
          repeat' (first|(refine aG ?_;first|(refine aC ?_;refine aO rfl (dB ⟨Tryz.call169⟩ rfl bD (hw)) ?_)|refine st9 ?_|refine pu9 ?_)|refine bV ?_|(refine aJ rfl rfl rfl ?_ ?_<;>intro hq<;>try exact no9)|(refine aA rfl ?_ ?_<;>intro hq<;>try exact no9))
          all_goals
            refine bT (id:=9) _ mixed (List.Sublist.cons_cons _ (List.nil_sublist _)) ?_;refine gt9 0 ?_;refine gt9 1 ?_;refine gt9 2 ?_;refine gt9 3 ?_;refine gt9 4 ?_;refine gO 5 rfl rfl (iV und_108 siz_5 rfl rfl (by omega)) ?_;refine gt9 6 ?_;refine gt9 7 ?_;refine gO 8 rfl rfl (vJ und_9 rfl rfl (by omega)) ?_;refine bM (i:=9) rfl ?_;(refine gw_copys rfl und_108 siz_5 rfl rfl hus hpos (cF.next _ _ _ _ _ _ (cF.here _ _ _ _ _ _ hfit)) rfl ?_);refine bC (by kernel_rfl) vl9 vl9 cC ?_
            rw [u8C_flat,over' lK (by rw [hlen2];omega),hlen2]
          repeat' (first|(refine aG ?_;first|refine st9 ?_|refine pu9 ?_)|refine bV ?_|(refine aA rfl ?_ ?_<;>intro hq<;>try exact no9))
          all_goals
            (refine aV Tryz.results126 (aB rfl) (List.Sublist.refl _) ?_)
            refine⟨by rw [e1,hsh,if_pos rfl,bW (by decide)],?_⟩
            rw [e2]
            exact gC.eqs (s:=s) (by rw [hbl];rw [hbs] at hbl ⊢;exact cX.close lK hbl (by rw [List.length_append,eU u8F lK,hbl,←eU u8F lK,←List.length_append];exact hcl) hnc hcm) hbl (by show (if 0≤s.cut then s.cut - (dN s str.toList.length:Int) else s.cut)=_;rw [if_pos hs.1,hk1]) hsh (by show s.wr+(dN s str.toList.length:Int)=_;rw [hk1])
      · obtain⟨hk',hsh⟩:=dN_long (s:=s) (m:=str.toList.length) (by rw [hsz];exact hs)
        have hk0:dN s str.toList.length=str.size:=by rw [hk',hsz]
        have hk1:(dN s str.toList.length:Int)=(str.size:Int):=by rw [hk0]
        by_cases hz:str.size=0
        · have hk0:dN s str.toList.length=0:=by omega
          have hbs:(dPut s a.toNat str.toList).bs=s.bs:=by
            show s.bs.take a.toNat ++ str.toList.take (dN s str.toList.length) ++ s.bs.drop (a.toNat+dN s str.toList.length)=s.bs
            rw [hk0,Nat.add_zero,List.take_zero,List.append_nil,List.take_append_drop]
          have hL:cF (⟨p,204,[.slice A s.bs.length c,.int .i64 s.cut,.bool false,.int .i64 s.wr]⟩ :: L1) p 0 (u8C ([]:List UInt8)) (⟨p,204,[.slice A s.bs.length c,.int .i64 s.cut,.bool false,.int .i64 s.wr]⟩ :: L1):=cF.here _ _ _ _ _ _ (by simp [u8C])
          have hus:(str.extract 0 str.size).toList.take (min (str.extract 0 str.size).size (s.bs.length - a.toNat))=[]:=by rw [wG (by omega) (by omega),show str.size=0 by omega];rfl
          have hpos:0<([]:List UInt8).length→pX A c a.toNat 1=some ⟨p,0,none⟩:=fun h=>absurd h (by simp)
          (refine aL Tryz.func126 rfl Tryz.ntmps126 rfl ?_;intro w0)
          repeat' (first|(refine aG ?_;first|(refine aC ?_;refine aO rfl (dB ⟨Tryz.call169⟩ rfl bD (hw)) ?_)|refine pu9 ?_)|refine bV ?_|(refine aJ rfl rfl rfl ?_ ?_<;>intro hq<;>try exact no9)|(refine aA rfl ?_ ?_<;>intro hq<;>try exact no9))
          all_goals
            refine bT (id:=9) _ mixed (List.Sublist.cons_cons _ (List.nil_sublist _)) ?_;refine gt9 0 ?_;refine gt9 1 ?_;refine gt9 2 ?_;refine gt9 3 ?_;refine gt9 4 ?_;refine gO 5 rfl rfl (iV und_108 siz_5 rfl rfl (by omega)) ?_;refine gt9 6 ?_;refine gt9 7 ?_;refine gO 8 rfl rfl (xZ und_9 rfl rfl (by omega)) ?_;refine bM (i:=9) rfl ?_;(refine gw_copys rfl und_108 siz_5 rfl rfl hus hpos hL rfl ?_);refine bC (by kernel_rfl) vl9 vl9 cC ?_
          repeat' (first|(refine aG ?_;first|refine st9 ?_|refine pu9 ?_)|refine bV ?_|(refine aA rfl ?_ ?_<;>intro hq<;>try exact no9))
          all_goals
            (refine aV Tryz.results126 (aB rfl) (List.Sublist.refl _) ?_)
            refine⟨by rw [e1,hsh,if_neg (by decide),bO],?_⟩
            rw [e2]
            exact gC.eqs (s:=s) (by rw [hbs];exact hr) (by rw [hbs]) (by show (if 0≤s.cut then s.cut - (dN s str.toList.length:Int) else s.cut)=_;first|(rw [if_pos (by assumption),hk1];done)|(rw [if_neg (by omega)];done)) hsh (by show s.wr+(dN s str.toList.length:Int)=_;rw [hk1])
        · skip
          have hbs:(dPut s a.toNat str.toList).bs=s.bs.take a.toNat ++ str.toList.take str.size ++ s.bs.drop (a.toNat+str.size):=by
            show s.bs.take a.toNat ++ str.toList.take (dN s str.toList.length) ++ s.bs.drop (a.toNat+dN s str.toList.length)=_
            rw [hk0]
          have hbl:(dPut s a.toNat str.toList).bs.length=s.bs.length:=vS s a.toNat str.toList (by rw [uG];omega)
          obtain⟨g,rest,rfl,rfl,hcl,hnc,hcm⟩:=hr.open (by omega)
          have hlen1:(u8C (str.toList.take str.size)).length=str.size:=by rw [wU,List.length_take,uG];omega
          have hlen2:(str.toList.take str.size).length=str.size:=by rw [List.length_take,uG];omega
          have hfit:a.toNat * 1+(u8C (str.toList.take str.size)).length≤(s.bs.flatMap u8F ++ rest).length:=by omega
          have hus:(str.extract 0 str.size).toList.take (min (str.extract 0 str.size).size (s.bs.length - a.toNat))=str.toList.take str.size:=wG (by omega) (by omega)
          have hpos:0<(str.toList.take str.size).length→pX (some ⟨g,0,none⟩) c a.toNat 1=some ⟨g,a.toNat * 1,none⟩:=fun h=>cut' (by omega)
          (refine aL Tryz.func126 rfl Tryz.ntmps126 rfl ?_;intro w0)
          repeat' (first|(refine aG ?_;first|(refine aC ?_;refine aO rfl (dB ⟨Tryz.call169⟩ rfl bD (hw)) ?_)|refine pu9 ?_)|refine bV ?_|(refine aJ rfl rfl rfl ?_ ?_<;>intro hq<;>try exact no9)|(refine aA rfl ?_ ?_<;>intro hq<;>try exact no9))
          all_goals
            refine bT (id:=9) _ mixed (List.Sublist.cons_cons _ (List.nil_sublist _)) ?_;refine gt9 0 ?_;refine gt9 1 ?_;refine gt9 2 ?_;refine gt9 3 ?_;refine gt9 4 ?_;refine gO 5 rfl rfl (iV und_108 siz_5 rfl rfl (by omega)) ?_;refine gt9 6 ?_;refine gt9 7 ?_;refine gO 8 rfl rfl (xZ und_9 rfl rfl (by omega)) ?_;refine bM (i:=9) rfl ?_;(refine gw_copys rfl und_108 siz_5 rfl rfl hus hpos (cF.next _ _ _ _ _ _ (cF.here _ _ _ _ _ _ hfit)) rfl ?_);refine bC (by kernel_rfl) vl9 vl9 cC ?_
            rw [u8C_flat,over' lK (by rw [hlen2];omega),hlen2]
          repeat' (first|(refine aG ?_;first|refine st9 ?_|refine pu9 ?_)|refine bV ?_|(refine aA rfl ?_ ?_<;>intro hq<;>try exact no9))
          all_goals
            (refine aV Tryz.results126 (aB rfl) (List.Sublist.refl _) ?_)
            refine⟨by rw [e1,hsh,if_neg (by decide),bO],?_⟩
            rw [e2]
            exact gC.eqs (s:=s) (by rw [hbl];rw [hbs] at hbl ⊢;exact cX.close lK hbl (by rw [List.length_append,eU u8F lK,hbl,←eU u8F lK,←List.length_append];exact hcl) hnc hcm) hbl (by show (if 0≤s.cut then s.cut - (dN s str.toList.length:Int) else s.cut)=_;first|(rw [if_pos (by assumption),hk1];done)|(rw [if_neg (by omega)];done)) hsh (by show s.wr+(dN s str.toList.length:Int)=_;rw [hk1])
    · obtain⟨e1,e2⟩:=dWrite_bad (l:=str.toList) (dFault_bad (n:=str.toList.length) ho (by rw [hsz];exact hin)) (by decide)
      rw [decide_eq_false hin] at hw
      (refine aL Tryz.func126 rfl Tryz.ntmps126 rfl ?_;intro w0)
      repeat' (first|(refine aG ?_;first|(refine aC ?_;refine aO rfl (dB ⟨Tryz.call169⟩ rfl bD (hw)) ?_)|refine pu9 ?_)|refine bV ?_|fail)
      all_goals
        (refine aV Tryz.results126 (aB rfl) (List.Sublist.refl _) ?_)
        exact⟨by rw [e1,bW (by decide)],by rw [e2];exact h'⟩
end
section
structure Rd where
  l:List UInt8
  bad:Bool
def tB (st:Rd) (n:Nat):List UInt8×Rd:=if st.bad=true∨st.l.length<n then ([],⟨st.l,true⟩) else (st.l.take n,⟨st.l.drop n,false⟩)
def oneV:List UInt8→Int
  | []=>0
  | b :: _=>(b.toNat:Int)
def gX (st:Rd):Int×Rd:=(oneV (tB st 1).1,(tB st 1).2)
def twoR (st:Rd):Int×Rd:=((gX st).1 * 256+(gX (gX st).2).1,(gX (gX st).2).2)
def rD (st:Rd):ByteArray×Rd:=(⟨(tB (gX st).2 (gX st).1.toNat).1.toArray⟩,(tB (gX st).2 (gX st).1.toNat).2)
def attrsR:Nat→Rd→List PA×Rd
  | 0,st=>([],st)
  | k+1,st=>if st.bad=true then ([],st) else (⟨(rD st).1,(rD (rD st).2).1⟩ :: (attrsR k (rD (rD st).2).2).1,(attrsR k (rD (rD st).2).2).2)
def kidsR (rd:Rd→PN×Rd):Nat→Rd→PKs×Rd
  | 0,st=>([],st)
  | k+1,st=>if st.bad=true then ([],st) else (((rD st).1,(rd (rD st).2).1) :: (kidsR rd k (rd (rD st).2).2).1,(kidsR rd k (rd (rD st).2).2).2)
def hdR (k m u g:Int) (as9:List PA) (d:ByteArray):Hd:=⟨if 7<k then k - 8 else k,m,u,g,decide (7<k),as9,d⟩
def nodeG (two:Rd→Int×Rd):Nat→Rd→PN×Rd
  | 0,st=>(pnZ,⟨st.l,true⟩)
  | f+1,st =>
    let k:=gX st
    let m:=two k.2
    let u:=two m.2
    let g:=two u.2
    let an:=gX g.2
    let as9:=attrsR an.1.toNat an.2
    let d:=rD as9.2
    let kn:=gX d.2
    let ks:=kidsR (nodeG two f) kn.1.toNat kn.2
    (.mk (hdR k.1 m.1 u.1 g.1 as9.1 d.1) ks.1,ks.2)
theorem takeR_ok {st:Rd} {n:Nat} (h:(tB st n).2.bad=false):st.bad=false∧st.l=(tB st n).1 ++ (tB st n).2.l∧(tB st n).1.length=n:=by
  unfold tB at h ⊢
  split at h
  · simp at h
  · rename_i h1
    rw [if_neg h1]
    have h2:¬st.bad=true:=fun e=>h1 (.inl e)
    refine⟨by simpa using h2,by simp,?_⟩
    simp only [List.length_take];omega
theorem takeR_of {a r:List UInt8} {n:Nat} (h:a.length=n):tB ⟨a ++ r,false⟩ n=(a,⟨r,false⟩):=by
  unfold tB
  rw [if_neg (by simp;omega)]
  subst h;simp
theorem b8_of {v:Int} (h:0≤v∧v≤255):((b8 v).toNat:Int)=v:=by rw [b8_nat];omega
theorem b8_back (b:UInt8):b8 (b.toNat:Int)=b:=by
  apply UInt8.toNat_inj.1
  have h1:=b8_nat (b.toNat:Int)
  have h2:=b.toNat_lt
  omega
theorem byteR_ok {st:Rd} (h:(gX st).2.bad=false):st.bad=false∧st.l=b8 (gX st).1 :: (gX st).2.l∧0≤(gX st).1∧(gX st).1≤255:=by
  unfold gX at h ⊢
  obtain⟨h1,h2,h3⟩:=takeR_ok h
  refine⟨h1,?_⟩
  cases ht:(tB st 1).1 with
  | nil=>rw [ht] at h3;simp at h3
  | cons b l =>
    rw [ht] at h2 h3
    obtain rfl:l=[]:=by cases l with
      | nil=>rfl
      | cons _ _=>simp at h3
    have:=b.toNat_lt
    simp only [oneV]
    refine⟨by rw [b8_back];exact h2,by omega,by omega⟩
theorem sI {v:Int} {r:List UInt8} (h:0≤v∧v≤255):gX ⟨b8 v :: r,false⟩=(v,⟨r,false⟩):=by
  unfold gX
  have e:=takeR_of (a:=[b8 v]) (r:=r) (n:=1) rfl
  rw [show ([b8 v] ++ r:List UInt8)=b8 v :: r from rfl] at e
  rw [e]
  simp only [oneV,b8_of h]
structure TwoOk (two:Rd→Int×Rd):Prop where
  ok:∀ st,(two st).2.bad=false→st.bad=false∧st.l=b16 (two st).1 ++ (two st).2.l∧0≤(two st).1∧(two st).1≤65535
  of:∀ v r,0≤v→v≤65535→two ⟨b16 v ++ r,false⟩=(v,⟨r,false⟩)
theorem b8_eq {x y:Int} (h:x % 256=y % 256):b8 x=b8 y:=by unfold b8;rw [h]
theorem twoR_is:TwoOk twoR where
  ok:=fun st h=>by
    unfold twoR at h ⊢
    obtain⟨h1,h2,h3,h4⟩:=byteR_ok h
    obtain⟨g1,g2,g3,g4⟩:=byteR_ok h1
    refine⟨g1,?_,by simp only [];omega,by simp only [];omega⟩
    rw [g2,h2]
    simp only [b16,List.cons_append,List.nil_append]
    rw [b8_eq (x:=((gX st).1 * 256+(gX (gX st).2).1) / 256) (y:=(gX st).1) (by omega),b8_eq (x:=(gX st).1 * 256+(gX (gX st).2).1) (y:=(gX (gX st).2).1) (by omega)]
  of:=fun v r h1 h2=>by
    unfold twoR
    have e1:gX ⟨b16 v ++ r,false⟩=(v / 256,⟨b8 v :: r,false⟩):=sI (v:=v / 256) (by omega)
    have e2:gX ⟨b8 v :: r,false⟩=(v % 256,⟨r,false⟩):=by
      rw [b8_eq (x:=v) (y:=v % 256) (by omega)];exact sI (by omega)
    simp only [e1,e2]
    rw [show v / 256 * 256+v % 256=v by omega]
theorem textR_of {s:ByteArray} {r:List UInt8} (h:s.size≤255):rD ⟨qS s ++ r,false⟩=(s,⟨r,false⟩):=by
  unfold rD
  have e1:gX ⟨qS s ++ r,false⟩=((s.size:Int),⟨s.toList ++ r,false⟩):=sI (by omega)
  have e2:tB ⟨s.toList ++ r,false⟩ (s.size:Int).toNat=(s.toList,⟨r,false⟩):=takeR_of (by rw [Lib.toList_data];simp)
  simp only [e1,e2]
  rw [←ba_is s]
theorem attrsR_of:∀ {l:List PA} {r:List UInt8},(∀ a∈l,a.n.size≤255∧a.v.size≤255)→attrsR l.length ⟨nD l ++ r,false⟩=(l,⟨r,false⟩)
  | [],r,_=>by simp [attrsR,nD]
  | a :: l,r,h=>by
    have ha:=h a (by simp)
    have e:nD (a :: l) ++ r=qS a.n ++ (qS a.v ++ (nD l ++ r)):=by simp [nD]
    rw [List.length_cons,attrsR,if_neg (by simp),e,textR_of ha.1]
    simp only []
    rw [textR_of ha.2]
    simp only []
    rw [attrsR_of fun b hb=>h b (by simp [hb])]
theorem kidsR_of {rd:Rd→PN×Rd} {G:PN→Prop} (hr:∀ n r,G n→rd ⟨qT n ++ r,false⟩=(n,⟨r,false⟩)):∀ {l:PKs} {r:List UInt8},(∀ a∈l,a.1.size≤255∧G a.2)→kidsR rd l.length ⟨nG l ++ r,false⟩=(l,⟨r,false⟩)
  | [],r,_=>by simp [kidsR,nG]
  | (nm,n) :: l,r,h=>by
    have ha:=h (nm,n) (by simp)
    have e:nG ((nm,n) :: l) ++ r=qS nm ++ (qT n ++ (nG l ++ r)):=by rw [nG];simp
    rw [List.length_cons,kidsR,if_neg (by simp),e,textR_of ha.1]
    simp only []
    rw [hr _ _ ha.2]
    simp only []
    rw [kidsR_of hr fun b hb=>h b (by simp [hb])]
def fitH (h:Hd):Prop:=(h.opq=false→0≤h.kind∧h.kind≤7)∧(h.opq=true→0≤h.kind∧h.kind≤247)∧(0≤h.mode∧h.mode≤65535)∧(0≤h.user∧h.user≤65535)∧(0≤h.group∧h.group≤65535)∧(h.attrs.length≤255∧∀ a∈h.attrs,a.n.size≤255∧a.v.size≤255)∧h.data.size≤255
def FitR:Nat→PN→Prop
  | 0,_=>False
  | f+1,n=>fitH n.h∧n.ks.length≤255∧∀ k∈n.ks,k.1.size≤255∧FitR f k.2
theorem nodeG_of {two:Rd→Int×Rd} (ht:TwoOk two):∀ (f:Nat) (n:PN) (r:List UInt8),FitR f n→nodeG two f ⟨qT n ++ r,false⟩=(n,⟨r,false⟩)
  | 0,n,r,h=>h.elim
  | f+1,.mk h ks,r,hf=>by
    obtain⟨⟨h1,h2,h3,h4,h5,⟨h6,h7⟩,h8⟩,hk,hks⟩:=hf
    simp only [PN.h_mk,PN.ks_mk] at h1 h2 h3 h4 h5 h6 h7 h8 hk hks
    have hfb:0≤vE h∧vE h≤255∧hdR (vE h) h.mode h.user h.group h.attrs h.data=h:=by
      unfold vE
      cases ho:h.opq with
      | true =>
        have:=h2 ho
        rw [if_pos rfl]
        refine⟨by omega,by omega,?_⟩
        unfold hdR
        rw [if_pos (by omega),decide_eq_true (by omega),show h.kind+8 - 8=h.kind by omega,←ho]
      | false =>
        have:=h1 ho
        rw [if_neg (by decide)]
        refine⟨by omega,by omega,?_⟩
        unfold hdR
        rw [if_neg (by omega),decide_eq_false (by omega),←ho]
    have e:qT (.mk h ks) ++ r=b8 (vE h) :: (b16 h.mode ++ (b16 h.user ++ (b16 h.group ++ (b8 (h.attrs.length:Int) :: (nD h.attrs ++ (qS h.data ++ (b8 (ks.length:Int) :: (nG ks ++ r)))))))):=by
      rw [layP_eq];unfold layH;simp
    rw [e]
    simp only [nodeG]
    rw [sI ⟨hfb.1,hfb.2.1⟩]
    simp only []
    rw [ht.of _ _ h3.1 h3.2]
    simp only []
    rw [ht.of _ _ h4.1 h4.2]
    simp only []
    rw [ht.of _ _ h5.1 h5.2]
    simp only []
    rw [sI (v:=(h.attrs.length:Int)) (by omega)]
    simp only [Int.toNat_natCast]
    rw [attrsR_of h7]
    simp only []
    rw [textR_of h8]
    simp only []
    rw [sI (v:=(ks.length:Int)) (by omega)]
    simp only [Int.toNat_natCast]
    rw [kidsR_of (G:=FitR f) (nodeG_of ht f) hks]
    simp only [hfb.2.2]
mutual
theorem countF_deep (upper:Bool):∀ (deep so:Nat) (n:PN),(cE upper deep so n).2=0→deep≤6∧(cH fitP n→FitR (7 - deep) n)
  | deep,so,.mk h ks,h0=>by
    rw [cE] at h0
    by_cases h1:so=60∨6<deep
    · rw [if_pos h1] at h0;simp at h0
    · rw [if_neg h1] at h0
      by_cases h2:lA h (decide (0<ks.length)) upper (decide (deep=0))=0
      · rw [if_neg (not_not_intro h2)] at h0
        have hk:=countK_deep upper deep (so+1) none ks h0
        refine⟨by omega,fun hA=>?_⟩
        obtain⟨f,hf⟩:∃ f,7 - deep=f+1:=⟨6 - deep,by omega⟩
        obtain⟨p1,p2,p3,p4,p5,p6,p7,p8⟩:=hA.here
        simp only [PN.h_mk,PN.ks_mk] at p1 p2 p3 p4 p5 p6 p7 p8
        rw [hf]
        refine⟨⟨fun _=>by show 0≤h.kind∧h.kind≤7;omega,fun _=>by show 0≤h.kind∧h.kind≤247;omega,by show 0≤h.mode∧h.mode≤65535;omega,p3,p4,⟨by show h.attrs.length≤255;omega,fun a ha=>?_⟩,by show h.data.size≤255;omega⟩,by show ks.length≤255;omega,fun k hk'=>⟨by have:=p8 k hk';omega,?_⟩⟩
        · have:=p5.2 a ha;omega
        · have:=(hk k hk').2 (hA.kid hk')
          rw [show 7 - (deep+1)=f by omega] at this;exact this
      · rw [if_pos h2] at h0;exact absurd h0 h2
theorem countK_deep (upper:Bool):∀ (deep so:Nat) (prev:Option ByteArray) (ks:PKs),(dQ upper deep so prev ks).2=0→∀ k∈ks,deep+1≤6∧(cH fitP k.2→FitR (7 - (deep+1)) k.2)
  | deep,so,prev,[],h0=>fun k hk=>by cases hk
  | deep,so,prev,(nm,n) :: ks,h0=>by
    rw [dQ] at h0
    by_cases h1:fS nm.toList=true
    · rw [if_neg (not_not_intro h1)] at h0
      split at h0
      · simp at h0
      · by_cases h3:(cE upper (deep+1) so n).2=0
        · rw [if_neg (not_not_intro h3)] at h0
          intro k hk
          rcases List.mem_cons.1 hk with rfl|hk
          · exact countF_deep upper (deep+1) so n h3
          · exact countK_deep upper deep _ _ ks h0 k hk
        · rw [if_pos h3] at h0;exact absurd h0 h3
    · rw [if_pos h1] at h0;simp at h0
end
theorem treeF_reads {upper:Bool} {n:PN} (h:dD upper n=0):FitR 7 n:=by
  have h1:=(pQ h).1
  unfold dD at h
  split at h
  · omega
  · exact(countF_deep upper 0 0 n h).2 h1
end
section
section
variable {P : Program} {N : Nat} {F : List (Nat × Value)} {V : aE} {L : List Box} {fn : Func} {w0 : World} {V0 : aE} {Bs : List Box} {R : Value → aE → List Box → Prop}
theorem oK {r s q:ResultVar} {v u x:Value} (hr:fn.results=#[r,s,q]) (h1:RV P ⟨V0,w0,iG Bs⟩ N F V L r v) (h2:RV P ⟨V0,w0,iG Bs⟩ N F V L s u) (h3:RV P ⟨V0,w0,iG Bs⟩ N F V L q x) {L':List Box} (hL:L'.Sublist L) (hR:R (.tuple #[v,u,x]) V L'):AtQ P ⟨V0,w0,iG Bs⟩ N (bodyPost P fn (vF V0 w0 Bs R)) [] .ret F V L:=fun a w ha hs=>by
  refine⟨ha.1,_,?_,_,V,L',rfl,hs.sub hL,hR⟩
  unfold results
  rw [hr]
  exact run_res3 _ (h1 a w ha hs) (h2 a w ha hs) (h3 a w ha hs)
end
end
section
attribute [local irreducible] AtQ GoC GoL GoW QO QP Fn RV bF aD VLe bU bA
attribute [local irreducible] FnB
end
section
section
variable {P : Program} {B : Base} {N : Nat} {F : List (Nat × Value)} {V : aE} {L : List Box} {d : Option Tmp} {ty : TypeId} {pos : String} {af : Array Edge} {gd : Option (Nat × Bool)} {x y : Operand} {T : TypeId}
theorem kA {n E i:Nat} {cs:List Value} {v:Value} (hu:bR P T (.array n E)) (h1:kX P E) (hS:dI P E 1) (hx:evF F x=some (.agg cs.toArray)) (hi:evF F y=some (.int .i64 (i:Int))) (hk:i<n) (hc:cs[i]?=some v):QP P B N V L ⟨d,.index T x y,ty,pos,af,gd⟩ F v:=iD fun ac w ha _=>by
  simp [execOp,ha.ev hx,ha.ev hi,Instr.index,asIntOf,hu.h,hk,part,h1.h,hS.h,hc]
end
end
section
theorem uE:bR Tryz.prog 130 (.array 2 25):=⟨Tryz.underlying130⟩
attribute [local irreducible] AtQ GoC GoL GoW QO QP Fn RV bF aD VLe bU bA
attribute [local irreducible] FnB
end
section
theorem pG (V:aE) (d:Nat) (s:DS) (D:List Box) (h:gC d s D) {m W:Nat} (hd:hBd m W s) (hm:m≤1000000) (hW:W≤900000000) (a:Int) (l:List UInt8) (g1:-9223372036854775808≤a∧a≤9223372036854775807) (g2:l.length≤1000000) :
    FnB Tryz.prog 126 [.pointer (some ⟨d,0,none⟩),.int .i64 a,.string ⟨l.toArray⟩] V D fun u _ Bs'=>u=bA (cZ s a l)∧gC d (cD s a l) Bs':=by
  obtain⟨h1,h2,h3⟩:=hd
  have:=Write_c V d s D h (by omega) (by omega) h3 a ⟨l.toArray⟩ g1 (by rw [oZ];exact g2)
  rw [oW] at this;exact this
section
variable {P : Program} {B : Base} {N : Nat} {F : List (Nat × Value)} {V : aE} {L : List Box} {d : Option Tmp} {ty : TypeId} {pos : String} {af : Array Edge} {gd : Option (Nat × Bool)} {x : Operand} {t : TypeId}
theorem oC {lo hi:Operand} {l r:List UInt8} {i j:Int} (hu:bR P t .string) (hx:evF F x=some (.string ⟨l.toArray⟩)) (hl:evF F lo=some (.int .i64 i)) (hh:evF F hi=some (.int .i64 j)) (h1:0≤i∧i≤j) (h2:j≤(l.length:Int)) (he:(l.drop i.toNat).take (j.toNat - i.toNat)=r):QP P B N V L ⟨d,.slice t x (some lo) (some hi) none,ty,pos,af,gd⟩ F (.string ⟨r.toArray⟩):=by
  subst he
  obtain⟨a,rfl⟩:=Int.eq_ofNat_of_zero_le h1.1
  obtain⟨b,rfl⟩:=Int.eq_ofNat_of_zero_le (show 0≤j by omega)
  exact q_sslice_m hu hx hl hh (by omega) (by omega)
end
attribute [local irreducible] AtQ GoC GoL GoW QO QP Fn RV bF aD VLe bU bA
attribute [local irreducible] FnB
theorem spread_c (V:aE) (p d:Nat) (hc:List Value) (s:DS) (D:List Box) (h:gC d s D) {m W:Nat} (hd:hBd m W s) (hm:m≤1000000) (hW:W≤500000000) (A:Option Addr) (n c:Nat) (ps:List Int) (hp:eD V A n ps) (hb:∀ a∈ps,0≤a∧a≤1000000) (hn:0<n∧n≤1000) (size:Nat) (hs:1≤size∧size≤10000) (seq:Int) (hq:0≤seq) (t:List UInt8) (ht:t.length≤500000) :
    FnB Tryz.prog 132 [.pointer (some ⟨p,0,none⟩),.slice A n c,.int .i64 size,.int .i64 seq,.string ⟨t.toArray⟩] V (⟨p,127,.pointer (some ⟨d,0,none⟩) :: hc⟩ :: D) fun u _ Bs'=>u=bA (dF ps size seq t s).2∧∃ D',Bs'=⟨p,127,.pointer (some ⟨d,0,none⟩) :: hc⟩ :: D'∧gC d (dF ps size seq t s).1 D':=by
  have hl:=hp.1
  obtain⟨b0,o0,z0,hA0,hz0,hc0⟩:=hp.at_ (k:=0) (by omega)
  subst hA0
  obtain⟨z1,z2⟩:=hb z0 (List.mem_of_getElem? hz0)
  have hhd:ps.headD 0=z0:=by
    cases ps with
    | nil=>cases hz0
    | cons x l=>simp only [List.getElem?_cons_zero] at hz0;injection hz0
  have hsz:(⟨t.toArray⟩:ByteArray).size=t.length:=rfl
  have hn1:=fun V9=>nS V9 seq hq 4 (by omega)
  have hn2:=fun V9=>nS V9 ((t.length:Nat):Int) (by omega) 2 (by omega)
  have hal:0 :: (be 4 seq ++ be 2 (t.length:Int) ++ t)=allP seq t:=rfl
  have hall:=allP_len seq t
  unfold dF
  rw [hhd]
  have hw0:=fun V9=>pG V9 d s D h hd hm (by omega) z0 [0] (by omega) (by decide)
  generalize hs1:cD s z0 [0]=s1 at *
  have hd1:hBd m (W+1) s1:=by rw [←hs1];exact hd.write (by simp)
  generalize hall9:allP seq t=all at *
  (refine aL Tryz.func132 rfl Tryz.ntmps132 rfl ?_;intro w0)
  repeat' (first|(refine aG ?_;first|(refine aC ?_;(first|refine aI (pC rfl rfl rfl) ?_|refine aO rfl (aK ⟨Tryz.call173⟩ rfl (hn1 _)) ?_|refine aO rfl (aK ⟨Tryz.call173⟩ rfl (hn2 _)) ?_))|(refine bK ?_;refine aI (gD rfl rfl (by simp only [List.length_append,jC];omega)) ?_)|refine pu9 ?_)|refine bS ?_|fail)
  refine bT (id:=2) _ mixed (List.Sublist.cons_cons _ (List.nil_sublist _)) ?_;refine gt9 0 ?_;refine gt9 1 ?_;refine gt9 2 ?_;refine gt9 3 ?_;refine gt9 4 ?_;refine gt9 5 ?_;refine gt9 6 ?_;refine bM (i:=7) rfl ?_;(refine aM rfl ⟨Tryz.call126⟩ rfl bD rfl (hw0 _) ?_;rintro v V1 D1 hV1 ⟨rfl,hD1⟩);refine gt9 8 ?_;refine bC (by kernel_rfl) vl9 vl9 cC ?_
  have hal':[0] ++ (be 4 seq ++ be 2 (t.length:Int) ++ t)=all:=hal
  by_cases f0:cZ s z0 [0]=0
  · rw [if_neg (not_not_intro f0)]
    repeat' (first|(refine aG ?_;first|(refine aC ?_;refine aI (pC rfl rfl rfl) ?_)|(refine bK ?_;(refine aI (gD (l:=[0]) rfl rfl (by simp only [List.length_append,List.length_cons,List.length_nil,jC];omega)) ?_;rw [hal']))|refine pu9 ?_)|refine bS ?_|(refine aA rfl ?_ ?_<;>intro hq<;>try exact no9))
    refine cS ?_
    refine bZ (fun F V' L' m'=>∃ (k:Nat) (st:DS) (Dk:List Box),VLe V V'∧(⟨p,127,.pointer (some ⟨d,0,none⟩) :: hc⟩ :: Dk:List Box)=L'∧gC d st Dk∧hBd m (W+1+k * size) st∧k≤n∧fX size all (ps.drop k) k st=fX size all ps 0 s1∧m'=n - k∧F=[(0,.pointer (some ⟨p,0,none⟩)),(1,.slice (some ⟨b0,o0,none⟩) n c),(2,.int .i64 size),(12,.string ⟨all.toArray⟩),(37,.slice (some ⟨b0,o0,none⟩) n c),(38,.int .i64 n),(39,.int .i64 k)]) (m:=n) ⟨0,s1,D1,vl9,rfl,hD1,by rw [Nat.zero_mul];exact hd1,by omega,rfl,rfl,rfl⟩ bG rfl sl9 ?_
    rintro F V' L' m' ⟨k,st,Dk,hV',rfl,hDk,hdk,hk,hK,rfl,rfl⟩
    have hks:k * size≤1000 * 10000:=Nat.mul_le_mul (by omega) hs.2
    have hc9:V' ⟨b0,o0+0 * 1,none⟩=some (.int .i64 z0):=eZ hV' hc0
    by_cases hlt:k<n
    · obtain⟨b,o,z,hA,hz,hcz⟩:=(hp.le hV').at_ hlt
      obtain⟨rfl,rfl⟩:b0=b∧o0=o:=by injection hA with hA;injection hA with e1 e2;exact⟨e1,e2⟩
      obtain⟨y1,y2⟩:=hb z (List.mem_of_getElem? hz)
      obtain⟨hkl,hzg⟩:=List.getElem?_eq_some_iff.1 hz
      have hdr:ps.drop k=z :: ps.drop (k+1):=by rw [List.drop_eq_getElem_cons hkl,hzg]
      rw [hdr] at hK
      have haz:(⟨all.toArray⟩:ByteArray).size=all.length:=rfl
      by_cases he:all.length≤k * size
      · have hK':fX size all ps 0 s1=(st,0):=by rw [←hK];exact nZ he
        repeat' (first|(refine aG ?_;first|(refine aC ?_;refine aI (pC rfl rfl rfl) ?_)|refine pu9 ?_)|refine gxrbe9 ?_|(refine aA rfl ?_ ?_<;>intro hq<;>try exact no9))
        rw [if_neg (by rw [hK'];exact not_not_intro rfl)]
        have hw17:=fun V9=>pG V9 d st Dk hDk hdk hm (by omega) z0 [1] (by omega) (by decide)
        refine bT (id:=17) _ mixed (List.Sublist.cons_cons _ (List.nil_sublist _)) ?_;refine gt9 0 ?_;refine gt9 1 ?_;refine gt9 2 ?_;refine gt9 3 ?_;refine gt9 4 ?_;refine gt9 5 ?_;refine gt9 6 ?_;refine bM (i:=7) rfl ?_;(refine aM rfl ⟨Tryz.call126⟩ rfl bD rfl (hw17 _) ?_;rintro v V9 D9 hV9 ⟨rfl,hD9⟩);refine gt9 8 ?_;refine bC (by kernel_rfl) vl9 vl9 cC ?_
        repeat' (first|refine gx9 ?_|fail)
        all_goals
          (refine aV Tryz.results132 (aB rfl) (List.Sublist.refl _) ?_)
          exact⟨by rw [hK'],D9,rfl,by rw [hK'];exact hD9⟩
      · have hpart:(all.drop ((k:Int) * (size:Int)).toNat).take ((min ((all.length:Nat):Int) ((k:Int) * (size:Int)+(size:Int))).toNat - ((k:Int) * (size:Int)).toNat)=iF size all k:=by
          rw [show ((k:Int) * (size:Int)).toNat=k * size by rw [←Int.natCast_mul,Int.toNat_natCast],show (min ((all.length:Nat):Int) ((k:Int) * (size:Int)+(size:Int))).toNat=min all.length (k * size+size) by rw [←Int.natCast_mul];omega]
          exact part_min
        have hpl:=pL (size:=size) (i:=k) (all:=all)
        have hks9:(k:Int) * (size:Int)=((k * size:Nat):Int):=(Int.natCast_mul _ _).symm
        by_cases hk0:k=0
        · have hp1:1≤(iF size all k).length:=by unfold iF;rw [List.length_take,List.length_drop];omega
          have hto:toW size all z k=(z+1,(iF size all k).drop 1):=if_pos hk0
          have hwk:=fun V9=>pG V9 d st Dk hDk hdk hm (by omega) (z+1) ((iF size all k).drop 1) (by omega) (by rw [List.length_drop];omega)
          generalize hpp:iF size all k=pp at *
          by_cases fk:cZ st (toW size all z k).1 (toW size all z k).2=0
          · have hK2:=nL (ps:=ps.drop (k+1)) he fk
            have hdk2:=hdk.write (a:=(toW size all z k).1) (toW_len (size:=size) (i:=k) (all:=all) (a:=z))
            rw [hK] at hK2
            rw [hto] at hK2 hdk2 fk
            dsimp only at hK2 hdk2 fk
            repeat' (first|(refine aG ?_;first|(refine aC ?_;(first|refine aI (pC rfl rfl rfl) ?_|(refine aM rfl ⟨Tryz.call126⟩ rfl bD rfl (hwk _) ?_;rintro v V7 D7 hV7 ⟨rfl,hD7⟩)))|(refine fW ?_;(first|refine aI (uW (i:=1) und_9 rfl rfl (by omega)) ?_|refine aI (oC und_9 rfl rfl rfl (by omega) (by omega) hpart) ?_))|refine pu9 ?_)|refine cM ?_|(refine aA rfl ?_ ?_<;>intro hq<;>try exact no9)|refine cO (id:=12) mixed (by kernel_rfl) ?_)
            all_goals
              refine aY _ (n - (k+1)) ⟨k+1,_,D7,vl9,rfl,hD7,by rw [Nat.succ_mul,←Nat.add_assoc];exact hdk2,by omega,hK2.symm,rfl,rfl⟩ (by omega) bG sl9
          · have hK2:=oJ (ps:=ps.drop (k+1)) he fk
            rw [hK] at hK2
            rw [hto] at hK2 fk
            dsimp only at hK2 fk
            repeat' (first|(refine aG ?_;first|(refine aC ?_;(first|refine aI (pC rfl rfl rfl) ?_|(refine aM rfl ⟨Tryz.call126⟩ rfl bD rfl (hwk _) ?_;rintro v V7 D7 hV7 ⟨rfl,hD7⟩)))|(refine fW ?_;(first|refine aI (uW (i:=1) und_9 rfl rfl (by omega)) ?_|refine aI (oC und_9 rfl rfl rfl (by omega) (by omega) hpart) ?_))|refine pu9 ?_)|refine cM ?_|(refine aA rfl ?_ ?_<;>intro hq<;>try exact no9)|refine cO (id:=12) mixed (by kernel_rfl) ?_)
            all_goals
              (refine aV Tryz.results132 (aB rfl) (List.Sublist.refl _) ?_)
              rw [hK2,if_pos fk]
              exact⟨rfl,D7,rfl,hD7⟩
        · have hto:toW size all z k=(z,iF size all k):=if_neg hk0
          have hwk:=fun V9=>pG V9 d st Dk hDk hdk hm (by omega) z (iF size all k) (by omega) (by omega)
          generalize hpp:iF size all k=pp at *
          by_cases fk:cZ st (toW size all z k).1 (toW size all z k).2=0
          · have hK2:=nL (ps:=ps.drop (k+1)) he fk
            have hdk2:=hdk.write (a:=(toW size all z k).1) (toW_len (size:=size) (i:=k) (all:=all) (a:=z))
            rw [hK] at hK2
            rw [hto] at hK2 hdk2 fk
            dsimp only at hK2 hdk2 fk
            repeat' (first|(refine aG ?_;first|(refine aC ?_;(first|refine aI (pC rfl rfl rfl) ?_|(refine aM rfl ⟨Tryz.call126⟩ rfl bD rfl (hwk _) ?_;rintro v V7 D7 hV7 ⟨rfl,hD7⟩)))|(refine fW ?_;refine aI (oC und_9 rfl rfl rfl (by omega) (by omega) hpart) ?_)|refine pu9 ?_)|refine cM ?_|(refine aA rfl ?_ ?_<;>intro hq<;>try exact no9))
            all_goals
              refine aY _ (n - (k+1)) ⟨k+1,_,D7,vl9,rfl,hD7,by rw [Nat.succ_mul,←Nat.add_assoc];exact hdk2,by omega,hK2.symm,rfl,rfl⟩ (by omega) bG sl9
          · have hK2:=oJ (ps:=ps.drop (k+1)) he fk
            rw [hK] at hK2
            rw [hto] at hK2 fk
            dsimp only at hK2 fk
            repeat' (first|(refine aG ?_;first|(refine aC ?_;(first|refine aI (pC rfl rfl rfl) ?_|(refine aM rfl ⟨Tryz.call126⟩ rfl bD rfl (hwk _) ?_;rintro v V7 D7 hV7 ⟨rfl,hD7⟩)))|(refine fW ?_;refine aI (oC und_9 rfl rfl rfl (by omega) (by omega) hpart) ?_)|refine pu9 ?_)|refine cM ?_|(refine aA rfl ?_ ?_<;>intro hq<;>try exact no9))
            all_goals
              (refine aV Tryz.results132 (aB rfl) (List.Sublist.refl _) ?_)
              rw [hK2,if_pos fk]
              exact⟨rfl,D7,rfl,hD7⟩
    · obtain rfl:k=n:=by omega
      rw [List.drop_of_length_le (by omega)] at hK
      have hK':fX size all ps 0 s1=(st,0):=hK.symm
      repeat' (first|(refine aG ?_;refine pu9 ?_)|refine eT ?_|(refine aA rfl ?_ ?_<;>intro hq<;>try exact no9))
      rw [if_neg (by rw [hK'];exact not_not_intro rfl)]
      have hw17:=fun V9=>pG V9 d st Dk hDk hdk hm (by omega) z0 [1] (by omega) (by decide)
      refine bT (id:=17) _ mixed (List.Sublist.cons_cons _ (List.nil_sublist _)) ?_;refine gt9 0 ?_;refine gt9 1 ?_;refine gt9 2 ?_;refine gt9 3 ?_;refine gt9 4 ?_;refine gt9 5 ?_;refine gt9 6 ?_;refine bM (i:=7) rfl ?_;(refine aM rfl ⟨Tryz.call126⟩ rfl bD rfl (hw17 _) ?_;rintro v V9 D9 hV9 ⟨rfl,hD9⟩);refine gt9 8 ?_;refine bC (by kernel_rfl) vl9 vl9 cC ?_
      repeat' (first|refine gx9 ?_|fail)
      all_goals
        (refine aV Tryz.results132 (aB rfl) (List.Sublist.refl _) ?_)
        exact⟨by rw [hK'],D9,rfl,by rw [hK'];exact hD9⟩
  · rw [if_pos f0]
    repeat' (first|(refine aG ?_;refine pu9 ?_)|refine bS ?_|(refine aA rfl ?_ ?_<;>intro hq<;>try exact no9))
    all_goals
      (refine aV Tryz.results132 (aB rfl) (List.Sublist.refl _) ?_)
      exact⟨rfl,D1,rfl,hD1⟩
end
section
theorem ones_of9 {α:Type} (f:α→List Value) (hf:∀ x,(f x).all jF=true) (xs:List α):∀ u∈xs.flatMap f,jF u=true:=fun u hu=>by
  obtain⟨x,_,hx⟩:=List.mem_flatMap.1 hu
  exact List.all_eq_true.1 (hf x) u hx
attribute [local irreducible] AtQ GoC GoL GoW QO QP Fn RV bF aD VLe bU bA
theorem ownMaps_c (V:aE) (M:LM) (hM:rC V M) (h1:M.n≤1000) (h2:M.m≤1000):Fn Tryz.prog 36 [lmV M] V fun v V'=>∃ M':LM,v=lmV M'∧rC V' M'∧M'.us=M.us∧M'.gs=M.gs:=by
  have c1:=hM.1.1.cells vC
  have c2:=hM.2.2.1.1.cells vC
  have o1:=ones_of9 prC (fun _=>rfl) M.us
  have o2:=ones_of9 prC (fun _=>rfl) M.gs
  have l1:=hM.1.1.1
  have l2:=hM.2.2.1.1.1
  (refine aN Tryz.func36 rfl Tryz.ntmps36 rfl ?_;intro w0)
  repeat' (first|(refine aG ?_;first|(refine al9 ?_;intro γ))|refine bS ?_|fail)
  refine eK (fun F V' L'=>∃ (γ2:Nat) (A1 A2:Option Addr) (c1 c2:Nat) (L1 L2:List Box),V=V'∧cX A1 (0+M.n) c1 190 3 ([] ++ M.us.flatMap prC) L1∧cX A2 (0+M.m) c2 190 3 ([] ++ M.gs.flatMap prC) L2∧L1 ++ (L2 ++ [⟨γ2,24,[.slice A1 (0+M.n) c1,.slice A2 (0+M.m) c2]⟩])=L'∧F=[(2,.pointer (some ⟨γ2,0,none⟩))]) ?_ ?_
  · refine bT (id:=1) _ mixed (List.Sublist.cons _ (List.Sublist.refl _)) ?_;refine gt9 0 ?_;refine gt9 1 ?_;refine gt9 3 ?_;refine gt9 4 ?_;refine bM (i:=2) rfl ?_;(refine bQ rfl und_22 inf_190 rfl rfl rfl cX.nil eL (nE c1) cI (by omega) rfl rfl ?_;intro A3 c3 L3 hr3);refine bM (i:=5) rfl ?_;(refine bQ rfl und_22 inf_190 rfl rfl rfl cX.nil eL (nE c2) cI (by omega) rfl rfl ?_;intro A4 c4 L4 hr4);refine gt9 6 ?_;refine bM (i:=7) rfl ?_;refine aP rfl siz_24 rfl rfl rfl rfl cI fU rfl ?_;refine bC (by kernel_rfl) vl9 vl9 cC ?_
    all_goals exact fP _ ⟨_,A3,A4,c3,c4,L3,L4,rfl,hr3,hr4,rfl,rfl⟩ bG sp9
  rintro F V' L' ⟨γ2,A3,A4,c3,c4,L3,L4,rfl,hr3,hr4,rfl,rfl⟩
  repeat' (first|refine gx9 ?_|fail)
  all_goals
    refine iJ hr3 bD ?_
    intro V3 hV3 hc3
    refine iJ hr4 bD ?_
    intro V4 hV4 hc4
    have k3:=hr3.cap
    have k4:=hr4.cap
    (refine aR Tryz.results36 (aU agg_24 rfl bN (by exact rfl)) ?_)
    rw [List.nil_append] at hc3 hc4
    exact⟨⟨A3,0+M.n,c3,M.us,A4,0+M.m,c4,M.gs⟩,rfl,⟨⟨fB.of_cells (hc3.le hV4) vC (show M.us.length=0+M.n by omega) (show 0+M.n≤maxLen by unfold maxLen;omega),hM.1.2⟩,k3,⟨fB.of_cells hc4 vC (show M.gs.length=0+M.m by omega) (show 0+M.m≤maxLen by unfold maxLen;omega),hM.2.2.1.2⟩,k4⟩,rfl,rfl⟩
theorem ownCred_c (V:aE) (c:CR) (A:Option Addr) (n k:Nat) (h:eD V A n c.xs) (hn:n≤1000):Fn Tryz.prog 37 [uK c.u c.g A n k c.d] V fun v V'=>∃ (A':Option Addr) (k':Nat),v=uK c.u c.g A' n k' c.d∧eD V' A' n c.xs:=by
  have hsrc:=h.2.2
  have hl:=h.1
  (refine aN Tryz.func37 rfl Tryz.ntmps37 rfl ?_;intro w0)
  repeat' (first|(refine aG ?_;first|(refine aC ?_;(refine bQ rfl und_25 inf_3 rfl rfl rfl cX.nil eL (nE hsrc) cI (by omega) rfl rfl ?_;intro A' k' L1 hr))|refine st9 ?_|(refine al9 ?_;intro γ)|refine pu9 ?_)|refine bS ?_|fail)
  all_goals
    refine iJ hr bD ?_
    intro V2 hV2 hc2
    (refine aR Tryz.results37 (aU agg_27 rfl bN (by exact rfl)) ?_)
    have hi:=rJ hl (by omega) hc2
    exact⟨A',k',by simp only [Nat.zero_add];rfl,hi⟩
end
section
def rootH (c:CR):Hd:=⟨2,493,c.u,c.g,false,[],⟨#[]⟩⟩
def newB (us gs:List PR) (c:CR) (q:Int) (ls:List PN):BX:=⟨us,gs,c,q,(dK true us gs (.mk (rootH c) [])).getD pnZ :: ls⟩
theorem qL {x:CF} {ls:List PN} (h:jH x ls=0):ls.length≤3∧dX x.M.us=0∧dX x.M.gs=0∧kZ x.c.u x.c.g x.c.d x.c.xs=0∧(1≤x.q∧x.q≤64)∧(∀ y∈ls,dD false y=0)∧¬unmP x.M.us x.M.gs x.c:=by
  have hz:∀ {l:List Int},lV l=0→∀ e∈l,e=0:=fun {l}=>by
    induction l with
    | nil=>intro _ e he;cases he
    | cons a l ih =>
      intro h e he
      rw [lV] at h
      split at h
      · rename_i h1;exact absurd h h1
      · rename_i h1
        rcases List.mem_cons.1 he with rfl|he
        · exact Decidable.not_not.1 h1
        · exact ih h e he
  unfold jH at h
  have h1:=hz h
  unfold cfgL at h1
  by_cases h3:3<ls.length
  · rw [if_pos h3] at h1
    exact absurd (h1 2 (by simp)) (by decide)
  · rw [if_neg h3] at h1
    have h2:∀ e∈yL x,e=0:=fun e he=>h1 e (by simp [he])
    unfold yL at h2
    refine⟨by omega,h2 _ (by simp),h2 _ (by simp),h2 _ (by simp),?_,fun y hy=>h1 (dD false y) (List.mem_append_left _ (List.mem_append_right _ (List.mem_map_of_mem hy))),fun hu=>?_⟩
    · by_cases hq:x.q<1∨64<x.q
      · rw [if_pos hq] at h2
        exact absurd (h2 1 (by simp)) (by decide)
      · omega
    · rw [if_pos hu] at h1
      exact absurd (h1 11 (by simp)) (by decide)
theorem xU {us gs:List PR} {c:CR} (h:¬unmP us gs c):∃ z,dK true us gs (.mk (rootH c) [])=some z:=by
  unfold unmP at h
  cases h1:gY us c.u with
  | none=>exact absurd (.inl (by rw [h1];rfl)) h
  | some u =>
    cases h2:gY gs c.g with
    | none=>exact absurd (.inr (by rw [h2];rfl)) h
    | some g=>exact⟨_,yE (n:=.mk (rootH c) []) (u:=u) (g:=g) h1 h2⟩
theorem tree_small {u:Bool} {n:PN} (h:dD u n=0):cH eR n:=(pQ h).1.imp fun _ _=>fit_small
attribute [local irreducible] AtQ GoC GoL GoW QO QP Fn RV bF aD VLe bU bA
theorem New_bx (V:aE) (x:CF) (hx:CfV V x) (A:Option Addr) (n c:Nat) (ls:List LN) (h:fN V A n ls):FnB Tryz.prog 12 [cfV x,.slice A n c] V [] fun v V' Bs'=>(¬jH x (ls.map LN.n)=0∧v=.tuple #[.pointer none,bA (jH x (ls.map LN.n))]∧Bs'=[])∨(jH x (ls.map LN.n)=0∧∃ p,v=.tuple #[.pointer (some ⟨p,0,none⟩),bA 0]∧fE V' p (newB x.M.us x.M.gs x.c x.q (ls.map LN.n)) Bs'):=by
  have hC:=Check9_c V x hx A n c ls h
  have hok:=fun h9=>qL (x:=x) (ls:=ls.map LN.n) h9
  generalize jH x (ls.map LN.n)=cf at *
  have hl:=h.1.1
  (refine aL Tryz.func12 rfl Tryz.ntmps12 rfl ?_;intro w0)
  repeat' (first|(refine aG ?_;first|(refine aC ?_;refine aO rfl (aK ⟨Tryz.call35⟩ rfl (hC)) ?_)|(refine al9 ?_;intro γ)|refine pu9 ?_)|refine bS ?_|(refine aA rfl ?_ ?_<;>intro hq<;>try exact no9))
  all_goals first
    | (refine kP ?_;(refine bJ Tryz.results12 (aB rfl) (aB rfl) (List.nil_sublist _) ?_)
       exact .inl ⟨hq,rfl,rfl⟩)
    | skip
  have hcf:cf=0:=by omega
  subst hcf
  obtain⟨k1',k2,k3,k4,k5,k6,k7⟩:=hok rfl
  clear hok hC
  obtain⟨z,hz⟩:=xU k7
  have hn1:x.M.n≤1000:=by have:=(kS k2).1;have:=hx.M.1.1.1;omega
  have hn2:x.M.m≤1000:=by have:=(kS k3).1;have:=hx.M.2.2.1.1.1;omega
  have hn3:x.n≤1000:=by have:=eW k4;have:=hx.xs.1;omega
  have hOM:=fun V2 (hV2:VLe V V2)=>ownMaps_c V2 x.M (hx.M.le hV2) hn1 hn2
  have hOC:=fun V2 (hV2:VLe V V2)=>ownCred_c V2 x.c x.A x.n x.k (hx.xs.le hV2) hn3
  refine eK (fun F V' L'=>∃ (γ2 γ7:Nat) (M':LM) (A':Option Addr) (k':Nat),VLe V V'∧rC V' M'∧M'.us=x.M.us∧M'.gs=x.M.gs∧eD V' A' x.n x.c.xs∧[⟨γ7,90,[.slice M'.A M'.n M'.c,.slice M'.B M'.m M'.e,.int .i64 x.c.u,.int .i64 x.c.g,.slice A' x.n k',.int .i64 x.c.d,.int .i64 x.q,.slice none 0 0]⟩,⟨γ2,29,cfC x⟩]=L'∧F=[(1,.slice A n c),(2,.pointer (some ⟨γ2,0,none⟩)),(7,.pointer (some ⟨γ7,0,none⟩))]) ?_ ?_
  · refine bT (id:=4) _ mixed (List.Sublist.refl _) ?_;refine gt9 0 ?_;refine gt9 1 ?_;refine gt9 3 ?_;refine gt9 4 ?_;refine gt9 6 ?_;refine gt9 7 ?_;refine bM (i:=2) rfl ?_;(first|(refine aS rfl ⟨Tryz.call36⟩ rfl rfl (hOM _ vl9) ?_;rintro v V1 hV1 ⟨M1,rfl,hM1,hM1u,hM1g⟩)|(refine aS rfl ⟨Tryz.call37⟩ rfl rfl (hOC _ vl9) ?_;rintro v V2 hV2 ⟨A1,k1,rfl,hI1⟩));refine bM (i:=5) rfl ?_;(first|(refine aS rfl ⟨Tryz.call36⟩ rfl rfl (hOM _ vl9) ?_;rintro v V1 hV1 ⟨M1,rfl,hM1,hM1u,hM1g⟩)|(refine aS rfl ⟨Tryz.call37⟩ rfl rfl (hOC _ vl9) ?_;rintro v V2 hV2 ⟨A1,k1,rfl,hI1⟩));refine gt9 8 ?_;refine bM (i:=9) rfl ?_;(refine gw_box rfl rfl rfl rfl ?_;intro γ);refine gt9 10 ?_;refine bC (by kernel_rfl) vl9 vl9 cC ?_
    all_goals exact fP _ ⟨_,_,M1,A1,k1,vl9,hM1.le vl9,hM1u,hM1g,hI1.le vl9,rfl,rfl⟩ bG sp9
  rintro F V1 L' ⟨γ2,γ7,M1,A1,kk,hV1,hM1,hM1u,hM1g,hI1,rfl,rfl⟩
  have hN:aT V1 (newL 2 493 x.c.u x.c.g false ⟨#[]⟩):=newL_node (Nat.zero_le _)
  have hOut:=tF V1 M1 hM1 _ hN (.mk ⟨Nat.zero_le _,Nat.zero_le _⟩ (by simp))
  rw [hM1u,hM1g,show (newL 2 493 x.c.u x.c.g false ⟨#[]⟩).n=.mk (rootH x.c) [] from rfl,hz] at hOut
  repeat' (first|refine gx9 ?_|fail)
  refine eK (fun F V' L'=>∃ (γ8:Nat) (y:LN),VLe V1 V'∧aT V' y∧y.n=z∧[⟨γ8,50,lnC y⟩,⟨γ7,90,[.slice M1.A M1.n M1.c,.slice M1.B M1.m M1.e,.int .i64 x.c.u,.int .i64 x.c.g,.slice A1 x.n kk,.int .i64 x.c.d,.int .i64 x.q,.slice none 0 0]⟩]=L'∧F=[(1,.slice A n c),(6,bA 0),(7,.pointer (some ⟨γ7,0,none⟩)),(8,.pointer (some ⟨γ8,0,none⟩))]) ?_ ?_
  · refine bT (id:=5) _ mixed (List.Sublist.refl _) ?_;refine gt9 0 ?_;refine gt9 1 ?_;refine gt9 2 ?_;refine gt9 3 ?_;refine gt9 4 ?_;refine gt9 5 ?_;refine gt9 6 ?_;refine gt9 7 ?_;refine gt9 8 ?_;refine gt9 9 ?_;refine gt9 10 ?_;(refine iC (i:=11) (j:=15) (by kernel_rfl) rfl rfl rfl rfl vl9 vl9 cC ?_ ?_<;>first|((refine aS rfl ⟨Tryz.call38⟩ rfl rfl (hOut) ?_;rintro v V2 hV2 ⟨y,rfl,hyN,hyn⟩);refine gt9 12 ?_;refine gt9 13 ?_;refine gt9 14 ?_;refine bM (i:=15) rfl ?_;(refine eN rfl zer_50 rfl ?_;intro γ);refine bM (i:=16) rfl ?_;refine aP rfl siz_50 rfl rfl rfl rfl cI fU rfl ?_;refine gt9 17 ?_;refine bC (by kernel_rfl) vl9 vl9 cC ?_)|((refine eN rfl zer_50 rfl ?_;intro γ);refine bM (i:=11) rfl ?_;(refine aS rfl ⟨Tryz.call38⟩ rfl rfl (hOut) ?_;rintro v V2 hV2 ⟨y,rfl,hyN,hyn⟩);refine gt9 12 ?_;refine gt9 13 ?_;refine gt9 14 ?_;refine bM (i:=16) rfl ?_;refine aP rfl siz_50 rfl rfl rfl rfl cI fU rfl ?_;refine gt9 17 ?_;refine bC (by kernel_rfl) vl9 vl9 cC ?_))
    all_goals exact fP _ ⟨_,y,hV2,hyN,hyn,rfl,rfl⟩ bG sp9
  rintro F V2 L' ⟨γ8,y,hV2,hyN,hyn,rfl,rfl⟩
  have ho1:=pE y
  repeat' (first|(refine aG ?_;refine pu9 ?_)|refine bV ?_|fail)
  all_goals first
    | (exfalso;exact absurd rfl (by assumption))
    | skip
  refine eK (fun F V' L'=>∃ (A3:Option Addr) (c3:Nat) (L3:List Box),V2=V'∧cX A3 1 c3 50 8 ([y].flatMap lnC) L3∧⟨γ7,90,[.slice M1.A M1.n M1.c,.slice M1.B M1.m M1.e,.int .i64 x.c.u,.int .i64 x.c.g,.slice A1 x.n kk,.int .i64 x.c.d,.int .i64 x.q,.slice A3 1 c3]⟩ :: L3=L'∧F=[(1,.slice A n c),(7,.pointer (some ⟨γ7,0,none⟩))]) ?_ ?_
  · refine bT (id:=8) _ mixed (List.Sublist.cons_cons _ (List.nil_sublist _)) ?_;refine gt9 0 ?_;refine gt9 1 ?_;refine gt9 2 ?_;refine gt9 3 ?_;refine gt9 5 ?_;(refine iC (i:=4) (j:=6) (by kernel_rfl) rfl rfl rfl rfl vl9 vl9 cC ?_ ?_<;>first|((first|refine aI (aX one_30 rfl bN (by exact rfl)) ?_|refine aI (aX one_30 rfl bN (by assumption)) ?_|refine aI (cK one_30 rfl (by assumption)) ?_);refine bM (i:=6) rfl ?_;(refine aZ rfl und_30 siz_50 zec_50 rfl rfl rfl rfl rfl rfl rfl ?_;intro γ);refine bM (i:=7) rfl ?_;(refine bQ rfl und_30 inf_50 rfl rfl rfl cX.nil eL (fY bN rfl) cI (by omega) rfl rfl ?_;intro A3 c3 L3 hr3);refine gt9 8 ?_;refine gt9 9 ?_;refine bM (i:=10) rfl ?_;refine aP rfl siz_30 rfl rfl rfl rfl cI fU rfl ?_;refine bC (by kernel_rfl) vl9 vl9 cC ?_)|((refine aZ rfl und_30 siz_50 zec_50 rfl rfl rfl rfl rfl rfl rfl ?_;intro γ);refine bM (i:=4) rfl ?_;(first|refine aI (aX one_30 rfl bN (by exact rfl)) ?_|refine aI (aX one_30 rfl bN (by assumption)) ?_|refine aI (cK one_30 rfl (by assumption)) ?_);refine bM (i:=7) rfl ?_;(refine bQ rfl und_30 inf_50 rfl rfl rfl cX.nil eL (fY bN rfl) cI (by omega) rfl rfl ?_;intro A3 c3 L3 hr3);refine gt9 8 ?_;refine gt9 9 ?_;refine bM (i:=10) rfl ?_;refine aP rfl siz_30 rfl rfl rfl rfl cI fU rfl ?_;refine bC (by kernel_rfl) vl9 vl9 cC ?_))
    all_goals exact fP _ ⟨A3,c3,L3,rfl,hr3,rfl,rfl⟩ bG sp9
  rintro F V' L' ⟨A3,c3,L3,rfl,hr3,rfl,rfl⟩
  have hnl:n≤3:=by rw [←hl];simpa using k1'
  repeat' (first|(refine aG ?_;refine pu9 ?_)|refine cM ?_|fail)
  refine bZ (fun F V' L' m=>∃ (k:Nat) (ys:List LN) (A':Option Addr) (c':Nat) (LA:List Box),VLe V2 V'∧cX A' (k+1) c' 50 8 ((y :: ys).flatMap lnC) LA∧ys.map LN.n=(ls.take k).map LN.n∧(∀ w∈ys,aT V' w)∧⟨γ7,90,[.slice M1.A M1.n M1.c,.slice M1.B M1.m M1.e,.int .i64 x.c.u,.int .i64 x.c.g,.slice A1 x.n kk,.int .i64 x.c.d,.int .i64 x.q,.slice A' (k+1) c']⟩ :: LA=L'∧k≤n∧m=n - k∧F=[(7,.pointer (some ⟨γ7,0,none⟩)),(55,.slice A n c),(56,.int .i64 (n:Int)),(57,.int .i64 (k:Int))]) (m:=n) ⟨0,[],A3,c3,L3,VLe.refl _,hr3,by rw [List.take_zero],by simp,rfl,Nat.zero_le _,by omega,rfl⟩ bG rfl sl9 ?_
  rintro F V' L' m ⟨k,ys,A',c',LA,hV',hr,hyz,hyN2,rfl,hk,rfl,rfl⟩
  by_cases hlt:k<n
  · obtain⟨b,off,w,hA,hw,hc,hwN⟩:=(h.le ((hV1.trans hV2).trans hV')).at_ hlt
    have hO:=fun V9 (hV9:VLe V' V9)=>xO V9 w (hwN.le hV9) (tree_small (k6 w.n (List.mem_map_of_mem (List.mem_of_getElem? hw))))
    repeat' (first|(refine aG ?_;first|(refine bH ?_;refine aI (dG und_30 siz_50 rfl hA rfl hlt) ?_)|refine st9 ?_|(refine al9 ?_;intro γ)|refine pu9 ?_)|refine cM ?_|(refine aA rfl ?_ ?_<;>intro hq<;>try exact no9))
    refine eK (fun F V9 L'=>∃ (v:LN) (A4:Option Addr) (c4:Nat) (L4:List Box),VLe V' V9∧cX A4 (k+1+1) c4 50 8 ((y :: ys).flatMap lnC ++ lnC v) L4∧v.n=w.n∧aT V9 v∧⟨γ7,90,[.slice M1.A M1.n M1.c,.slice M1.B M1.m M1.e,.int .i64 x.c.u,.int .i64 x.c.g,.slice A1 x.n kk,.int .i64 x.c.d,.int .i64 x.q,.slice A4 (k+1+1) c4]⟩ :: L4=L'∧F=[(7,.pointer (some ⟨γ7,0,none⟩)),(55,.slice A n c),(56,.int .i64 (n:Int)),(57,.int .i64 (k:Int))]) ?_ ?_
    · refine bT (id:=12) _ mixed (List.Sublist.cons_cons _ (List.nil_sublist _)) ?_;refine gt9 0 ?_;refine gt9 1 ?_;refine gt9 2 ?_;refine gt9 3 ?_;refine gt9 5 ?_;(refine iC (i:=4) (j:=6) (by kernel_rfl) rfl rfl rfl rfl vl9 vl9 cC ?_ ?_<;>first|((first|refine aI (aX one_30 rfl bN (by exact rfl)) ?_|refine aI (aX one_30 rfl bN (by assumption)) ?_|refine aI (cK one_30 rfl (by assumption)) ?_);refine bM (i:=6) rfl ?_;(refine aS rfl ⟨Tryz.call39⟩ rfl rfl (hO _ vl9) ?_;rintro v V9 hV9 ⟨v9,rfl,hvn,hvN⟩;have ho9:=pE v9);refine bM (i:=7) rfl ?_;(refine aZ rfl und_30 siz_50 zec_50 rfl rfl rfl rfl rfl rfl rfl ?_;intro γ);refine bM (i:=8) rfl ?_;(refine bQ rfl und_30 inf_50 rfl rfl rfl hr bD (fY bN rfl) cI (by omega) rfl rfl ?_;intro A4 c4 L4 hr4);refine gt9 9 ?_;refine gt9 10 ?_;refine bM (i:=11) rfl ?_;refine aP rfl siz_30 rfl rfl rfl rfl cI fU rfl ?_;refine bC (by kernel_rfl) vl9 vl9 cC ?_)|((refine aS rfl ⟨Tryz.call39⟩ rfl rfl (hO _ vl9) ?_;rintro v V9 hV9 ⟨v9,rfl,hvn,hvN⟩;have ho9:=pE v9);(refine iC (i:=4) (j:=7) (by kernel_rfl) rfl rfl rfl rfl vl9 vl9 cC ?_ ?_<;>first|((first|refine aI (aX one_30 rfl bN (by exact rfl)) ?_|refine aI (aX one_30 rfl bN (by assumption)) ?_|refine aI (cK one_30 rfl (by assumption)) ?_);refine bM (i:=7) rfl ?_;(refine aZ rfl und_30 siz_50 zec_50 rfl rfl rfl rfl rfl rfl rfl ?_;intro γ);refine bM (i:=8) rfl ?_;(refine bQ rfl und_30 inf_50 rfl rfl rfl hr bD (fY bN rfl) cI (by omega) rfl rfl ?_;intro A4 c4 L4 hr4);refine gt9 9 ?_;refine gt9 10 ?_;refine bM (i:=11) rfl ?_;refine aP rfl siz_30 rfl rfl rfl rfl cI fU rfl ?_;refine bC (by kernel_rfl) vl9 vl9 cC ?_)|((refine aZ rfl und_30 siz_50 zec_50 rfl rfl rfl rfl rfl rfl rfl ?_;intro γ);refine bM (i:=4) rfl ?_;(first|refine aI (aX one_30 rfl bN (by exact rfl)) ?_|refine aI (aX one_30 rfl bN (by assumption)) ?_|refine aI (cK one_30 rfl (by assumption)) ?_);refine bM (i:=8) rfl ?_;(refine bQ rfl und_30 inf_50 rfl rfl rfl hr bD (fY bN rfl) cI (by omega) rfl rfl ?_;intro A4 c4 L4 hr4);refine gt9 9 ?_;refine gt9 10 ?_;refine bM (i:=11) rfl ?_;refine aP rfl siz_30 rfl rfl rfl rfl cI fU rfl ?_;refine bC (by kernel_rfl) vl9 vl9 cC ?_))))
      all_goals exact fP _ ⟨v9,A4,c4,L4,vl9,hr4,hvn,hvN.le vl9,rfl,rfl⟩ bG sp9
    rintro F V9 L' ⟨v,A4,c4,L4,hV9,hr4,hvn,hvN,rfl,rfl⟩
    repeat' (first|(refine aG ?_;refine pu9 ?_)|refine bS ?_|fail)
    all_goals
      refine aY _ (n - (k+1)) ⟨k+1,ys ++ [v],A4,c4,L4,vl9,?_,?_,fun u hu=>?_,rfl,by omega,rfl,rfl⟩ (by omega) bG sl9
      · rw [show (y :: (ys ++ [v])).flatMap lnC=(y :: ys).flatMap lnC ++ lnC v by rw [←List.cons_append,List.flatMap_append];simp];exact hr4
      · rw [List.take_add_one,hw,List.map_append,List.map_append,hyz];simp [hvn]
      · rcases List.mem_append.1 hu with hu|hu
        · exact(hyN2 u hu).le hV9
        · rw [List.mem_singleton.1 hu];exact hvN
  · obtain rfl:k=n:=by omega
    rw [List.take_of_length_le (by omega)] at hyz
    have hyl:ys.length=k:=by have:=congrArg List.length hyz;simpa [hl] using this
    repeat' (first|(refine aG ?_;refine pu9 ?_)|refine eT ?_|(refine aA rfl ?_ ?_<;>intro hq<;>try exact no9))
    all_goals
      (refine bJ Tryz.results12 (aB rfl) (aB rfl) (List.Sublist.refl _) ?_)
      refine .inr ⟨rfl,γ7,by rw [bO],⟨M1,A1,x.n,kk,A',k+1,c',y :: ys⟩,LA,rfl,hM1.le vl9,hM1u,hM1g,hI1.le vl9,trivial,hr,?_,by rw [List.length_cons,hyl],?_⟩
      · intro u hu
        rcases List.mem_cons.1 hu with rfl|hu
        · exact hyN.le hV'
        · exact hyN2 u hu
      · show y.n :: ys.map LN.n=(dK true x.M.us x.M.gs (.mk (rootH x.c) [])).getD pnZ :: ls.map LN.n
        rw [hz,hyz,hyn];rfl
end
section
theorem qR.boxv {V V':aE} {p:Nat} {b:BX} {I:BI} {L1:List Box} (hok:bI b) (h:qR V b I L1) (hv:VLe V V') (hp:aD V' p 0 (bxC I b)) (hc:fH V' 8 I.K I.m (I.xs.flatMap lnC)):pY V' p b I:=by
  have hm:=h.m4 hok
  exact⟨hp,h.M.le hv,h.us,h.gs,h.xs.le hv,trivial,fN.of hc h.len (by unfold maxLen;omega) (fun x hx=>(h.ls x hx).le hv),h.row.cap,h.eq⟩
section
variable {P : Program} {B : Base} {N : Nat} {Q : Exit → Act → World → Prop} {k : List kC} {F : List (Nat × Value)} {V : aE}
end
end
section
def credB (c:CR):List UInt8:=b16 c.u ++ b16 c.g ++ [b8 c.d,b8 (c.xs.length:Int)]
def eG (b:BX):List UInt8:=credB b.c ++ b.c.xs.flatMap b16 ++ eE (b.ls.headD pnZ)
def NodeR (n:PN) (v:Value) (V':aE):Prop:=∃ y:LN,v=lnV y∧aT V' y∧y.n=n
theorem BoxI.head {V:aE} {b:BX} {I:BI} (hok:bI b) (h:BoxI V b I):∃ (q o:Nat) (x0:LN),I.K=some ⟨q,o,none⟩∧0<I.m∧aD V q (o+0 * 8) (lnC x0)∧aT V x0∧b.ls.headD pnZ=x0.n∧∃ t,I.xs=x0 :: t:=by
  have hm:0<I.m:=by rw [←h.len];exact hok.l1
  obtain⟨q,o,x0,hA,hx,hc,hN⟩:=h.ls.at_ hm
  obtain⟨t,ht⟩:∃ t,I.xs=x0 :: t:=by
    cases hxs:I.xs with
    | nil=>rw [hxs] at hx;cases hx
    | cons a t=>rw [hxs] at hx;simp at hx;exact⟨t,by rw [hx]⟩
  exact⟨q,o,x0,hA,hm,hc,hN,by rw [←h.eq,ht];rfl,t,ht⟩
theorem b16_len (n:Int):(b16 n).length=2:=rfl
theorem uA (l:List Int):(l.flatMap b16).length=2 * l.length:=by
  induction l with
  | nil=>rfl
  | cons x l ih=>rw [List.flatMap_cons,List.length_append,ih,b16_len,List.length_cons];omega
theorem bytes_few (n:PN):(eE n).length≤100000:=by
  unfold eE
  split
  · rename_i h
    have:=(pQ h).2;omega
  · simp
attribute [local irreducible] AtQ GoC GoL GoW QO QP Fn RV bF aD VLe bU bA
theorem btwo_c (V:aE) (n:Int) (hn:0≤n):Fn Tryz.prog 54 [.int .i64 n] V fun v _=>v=.string ⟨(b16 n).toArray⟩:=by
  (refine aN Tryz.func54 rfl Tryz.ntmps54 rfl ?_;intro w0)
  repeat' (first|(refine aG ?_;first|(refine bK ?_;(first|refine aI (q_shr8 rfl rfl hn) ?_|refine aI (q_shr rfl rfl (by omega)) ?_))|(refine nQ ?_;(first|refine aI (kL (us:=b16 n) und_108 und_5 und_9 rfl (fY bN rfl)) ?_|refine aI (lL und_3 und_5 rfl) ?_))|(refine dC ?_;(refine aZ rfl und_108 siz_5 zec_5 rfl rfl rfl rfl rfl rfl rfl ?_;intro γ))|refine pu9 ?_)|refine bS ?_|fail)
  all_goals (refine aR Tryz.results54 (aB rfl) ?_)
  all_goals rfl
theorem Upper_v (V:aE) (p:Nat) (b:BX) (I:BI) (hok:bI b) (h:pY V p b I):Fn Tryz.prog 14 [.pointer (some ⟨p,0,none⟩)] V (NodeR (b.ls.headD pnZ)):=by
  obtain⟨hcM,hcC,hcq,hcl⟩:=h.parts
  obtain⟨q,o,x0,hK,hm0,hc0,hN0,hhd,t,ht⟩:=h.2.head hok
  have hO:=fun V2 (hV2:VLe V V2)=>xO V2 x0 (hN0.le hV2) (hok.smallL h.2 x0 (by rw [ht];simp))
  rw [hhd]
  (refine aN Tryz.func14 rfl Tryz.ntmps14 rfl ?_;intro w0)
  repeat' (first|(refine aG ?_;first|(refine bH ?_;refine aI (dG (k:=0) und_30 siz_50 rfl hK rfl hm0) ?_)|(refine aC ?_;(refine aS rfl ⟨Tryz.call39⟩ rfl rfl (hO _ vl9) ?_;rintro v V2 hV2 ⟨y,rfl,hyn,hyN⟩))|refine st9 ?_|(refine al9 ?_;intro γ)|refine pu9 ?_)|refine bS ?_|fail)
  all_goals
    (refine aR Tryz.results14 (aU agg_50 rfl bN (by exact rfl)) ?_)
    exact⟨y,rfl,hyN,hyn⟩
def CredR (c:CR) (v:Value) (V':aE):Prop:=∃ (A:Option Addr) (n k:Nat),v=uK c.u c.g A n k c.d∧eD V' A n c.xs
theorem Cred_v (V:aE) (p:Nat) (b:BX) (I:BI) (hok:bI b) (h:pY V p b I):Fn Tryz.prog 138 [.pointer (some ⟨p,0,none⟩)] V (CredR b.c):=by
  obtain⟨hcM,hcC,hcq,hcl⟩:=h.parts
  have hn:I.n≤1000:=by have:=eW hok.c;have:=h.2.xs.1;omega
  have hO:=fun V2 (hV2:VLe V V2)=>ownCred_c V2 b.c I.A I.n I.k (h.2.xs.le hV2) hn
  (refine aN Tryz.func138 rfl Tryz.ntmps138 rfl ?_;intro w0)
  repeat' (first|(refine aG ?_;first|(refine aC ?_;(refine aS rfl ⟨Tryz.call37⟩ rfl rfl (hO _ vl9) ?_;rintro v V2 hV2 ⟨A1,k1,rfl,hI⟩))|refine st9 ?_|(refine al9 ?_;intro γ)|refine pu9 ?_)|refine bS ?_|fail)
  all_goals
    (refine aR Tryz.results138 (aU agg_27 rfl bN (by exact rfl)) ?_)
    exact⟨A1,_,k1,rfl,hI⟩
theorem Bytes_v (V:aE) (p:Nat) (b:BX) (I:BI) (hok:bI b) (h:pY V p b I):Fn Tryz.prog 18 [.pointer (some ⟨p,0,none⟩)] V fun v _=>v=.string ⟨(eG b).toArray⟩:=by
  obtain⟨hcM,hcC,hcq,hcl⟩:=h.parts
  obtain⟨q,o,x0,hK,hm0,hc0,hN0,hhd,t,ht⟩:=h.2.head hok
  have hz:=eW hok.c
  have hxl:=h.2.xs.1
  have gu:V ⟨p,0+2+0,none⟩=some (.int .i64 b.c.u):=gM (j:=0) hcC rfl
  have gg:V ⟨p,0+2+1,none⟩=some (.int .i64 b.c.g):=gM (j:=1) hcC rfl
  have gx:V ⟨p,0+2+2,none⟩=some (.slice I.A I.n I.k):=gM (j:=2) hcC rfl
  have gd:V ⟨p,0+2+3,none⟩=some (.int .i64 b.c.d):=gM (j:=3) hcC rfl
  (refine aN Tryz.func18 rfl Tryz.ntmps18 rfl ?_;intro w0)
  have hfl0:∀ x∈([]:List Nat),x<w0.heap.size:=by simp
  repeat' (first|(refine aG ?_;refine pu9 ?_)|refine bS ?_|fail)
  refine gc_grow ([(0,.pointer (some ⟨p,0,none⟩))]) mixed (by repeat (first|exact List.forall_mem_nil _|refine List.forall_mem_cons.2 ⟨?_,?_⟩|exact rfl|(rw [hflag];exact rfl))) ?_;(apply cA (n:=0) [] rfl rfl rfl (by kernel_rfl);(focus (intro V' hV;refine bX ?_;intro K hK;refine aI (lY rfl) ?_;refine cJ rfl ?_;exact cL hK rfl (VLe.refl _) rfl));(try dsimp only [List.cons_append,List.nil_append]));(apply cA (n:=1) [0] rfl rfl rfl (by kernel_rfl);(focus (intro V' hV;refine cB (j:=0) (d:=8) rfl rfl ?_;refine bX ?_;intro K hK;(first|refine aI (jQ rfl) ?_|refine aI (jT rfl) ?_);refine cJ rfl ?_;exact cL hK rfl (VLe.refl _) rfl));(try dsimp only [List.cons_append,List.nil_append]));(apply cA (n:=2) [1] rfl rfl rfl (by kernel_rfl);(focus (intro V' hV;refine cB (j:=1) (d:=9) rfl rfl ?_;refine bX ?_;intro K hK;refine aI (eF fld_90_1 rfl) ?_;refine cJ rfl ?_;exact cL hK rfl (VLe.refl _) rfl));(try dsimp only [List.cons_append,List.nil_append]));(apply cA (n:=3) [2] rfl rfl rfl (by kernel_rfl);(focus (intro V' hV;refine cB (j:=2) (d:=10) rfl rfl ?_;refine bX ?_;intro K hK;refine aI (eF fld_27_0 rfl) ?_;refine cJ rfl ?_;exact cL hK rfl (VLe.refl _) rfl));(try dsimp only [List.cons_append,List.nil_append]));(apply cA (n:=4) [3] rfl rfl rfl (by kernel_rfl);(focus (intro V' hV;refine cB (j:=3) (d:=11) rfl rfl ?_;refine bX ?_;intro K hK;refine aI (cK one_3 rfl (eZ vl9 gu)) ?_;refine cJ rfl ?_;exact cL hK rfl (VLe.refl _) rfl));(try dsimp only [List.cons_append,List.nil_append]));(apply cA (n:=5) [4] rfl rfl rfl (by kernel_rfl);(focus (intro V' hV;refine cB (j:=4) (d:=12) rfl rfl ?_;refine bX ?_;intro K hK;refine aO rfl (aK ⟨Tryz.call54⟩ rfl (btwo_c _ _ (by omega))) ?_;refine cJ rfl ?_;exact cL hK rfl (VLe.refl _) rfl));(try dsimp only [List.cons_append,List.nil_append]));(apply cA (n:=6) [] rfl rfl rfl (by kernel_rfl);(focus (intro V' hV;refine bX ?_;intro K hK;refine aI (lY rfl) ?_;refine cJ rfl ?_;exact cL hK rfl (VLe.refl _) rfl));(try dsimp only [List.cons_append,List.nil_append]));(apply cA (n:=7) [6] rfl rfl rfl (by kernel_rfl);(focus (intro V' hV;refine cB (j:=6) (d:=14) rfl rfl ?_;refine bX ?_;intro K hK;(first|refine aI (jQ rfl) ?_|refine aI (jT rfl) ?_);refine cJ rfl ?_;exact cL hK rfl (VLe.refl _) rfl));(try dsimp only [List.cons_append,List.nil_append]));(apply cA (n:=8) [7] rfl rfl rfl (by kernel_rfl);(focus (intro V' hV;refine cB (j:=7) (d:=15) rfl rfl ?_;refine bX ?_;intro K hK;refine aI (eF fld_90_1 rfl) ?_;refine cJ rfl ?_;exact cL hK rfl (VLe.refl _) rfl));(try dsimp only [List.cons_append,List.nil_append]));(apply cA (n:=9) [8] rfl rfl rfl (by kernel_rfl);(focus (intro V' hV;refine cB (j:=8) (d:=16) rfl rfl ?_;refine bX ?_;intro K hK;refine aI (eF fld_27_1 rfl) ?_;refine cJ rfl ?_;exact cL hK rfl (VLe.refl _) rfl));(try dsimp only [List.cons_append,List.nil_append]));(apply cA (n:=10) [9] rfl rfl rfl (by kernel_rfl);(focus (intro V' hV;refine cB (j:=9) (d:=17) rfl rfl ?_;refine bX ?_;intro K hK;refine aI (cK one_3 rfl (eZ vl9 gg)) ?_;refine cJ rfl ?_;exact cL hK rfl (VLe.refl _) rfl));(try dsimp only [List.cons_append,List.nil_append]));(apply cA (n:=11) [10] rfl rfl rfl (by kernel_rfl);(focus (intro V' hV;refine cB (j:=10) (d:=18) rfl rfl ?_;refine bX ?_;intro K hK;refine aO rfl (aK ⟨Tryz.call54⟩ rfl (btwo_c _ _ (by omega))) ?_;refine cJ rfl ?_;exact cL hK rfl (VLe.refl _) rfl));(try dsimp only [List.cons_append,List.nil_append]));(apply cA (n:=12) [5,11] rfl rfl rfl (by kernel_rfl);(focus (intro V' hV;refine cB (j:=5) (d:=13) rfl rfl ?_;refine cB (j:=11) (d:=19) rfl rfl ?_;refine bX ?_;intro K hK;(first|refine aI (gD rfl rfl (by simp [b16])) ?_|refine aI (uX rfl rfl (by first|omega|(simp only [ByteArray.size_append,ByteArray.size_extract];omega)|fail)) ?_);refine cJ rfl ?_;exact cL hK rfl (VLe.refl _) rfl));(try dsimp only [List.cons_append,List.nil_append]));(apply cA (n:=13) [] rfl rfl rfl (by kernel_rfl);(focus (intro V' hV;refine bX ?_;intro K hK;refine aI (lY rfl) ?_;refine cJ rfl ?_;exact cL hK rfl (VLe.refl _) rfl));(try dsimp only [List.cons_append,List.nil_append]));(apply cA (n:=14) [13] rfl rfl rfl (by kernel_rfl);(focus (intro V' hV;refine cB (j:=13) (d:=21) rfl rfl ?_;refine bX ?_;intro K hK;(first|refine aI (jQ rfl) ?_|refine aI (jT rfl) ?_);refine cJ rfl ?_;exact cL hK rfl (VLe.refl _) rfl));(try dsimp only [List.cons_append,List.nil_append]));(apply cA (n:=15) [14] rfl rfl rfl (by kernel_rfl);(focus (intro V' hV;refine cB (j:=14) (d:=22) rfl rfl ?_;refine bX ?_;intro K hK;refine aI (eF fld_90_1 rfl) ?_;refine cJ rfl ?_;exact cL hK rfl (VLe.refl _) rfl));(try dsimp only [List.cons_append,List.nil_append]));(apply cA (n:=16) [15] rfl rfl rfl (by kernel_rfl);(focus (intro V' hV;refine cB (j:=15) (d:=23) rfl rfl ?_;refine bX ?_;intro K hK;refine aI (eF fld_27_3 rfl) ?_;refine cJ rfl ?_;exact cL hK rfl (VLe.refl _) rfl));(try dsimp only [List.cons_append,List.nil_append]));(apply cA (n:=17) [16] rfl rfl rfl (by kernel_rfl);(focus (intro V' hV;refine cB (j:=16) (d:=24) rfl rfl ?_;refine bX ?_;intro K hK;refine aI (cK one_3 rfl (eZ vl9 gd)) ?_;refine cJ rfl ?_;exact cL hK rfl (VLe.refl _) rfl));(try dsimp only [List.cons_append,List.nil_append]));(apply cA (n:=18) [17] rfl rfl rfl (by kernel_rfl);(focus (intro V' hV;refine cB (j:=17) (d:=25) rfl rfl ?_;refine bX ?_;intro K hK;(first|refine aI (lL und_3 und_5 rfl) ?_|refine aI (kL (us:=[_,_]) und_108 und_5 und_9 rfl (src_u8 (by assumption) rfl)) ?_);refine cJ rfl ?_;exact cL hK rfl (VLe.refl _) rfl));(try dsimp only [List.cons_append,List.nil_append]));(apply cA (n:=19) [] rfl rfl rfl (by kernel_rfl);(focus (intro V' hV;refine bX ?_;intro K hK;refine aI (lY rfl) ?_;refine cJ rfl ?_;exact cL hK rfl (VLe.refl _) rfl));(try dsimp only [List.cons_append,List.nil_append]));(apply cA (n:=20) [19] rfl rfl rfl (by kernel_rfl);(focus (intro V' hV;refine cB (j:=19) (d:=27) rfl rfl ?_;refine bX ?_;intro K hK;(first|refine aI (jQ rfl) ?_|refine aI (jT rfl) ?_);refine cJ rfl ?_;exact cL hK rfl (VLe.refl _) rfl));(try dsimp only [List.cons_append,List.nil_append]));(apply cA (n:=21) [20] rfl rfl rfl (by kernel_rfl);(focus (intro V' hV;refine cB (j:=20) (d:=28) rfl rfl ?_;refine bX ?_;intro K hK;refine aI (eF fld_90_1 rfl) ?_;refine cJ rfl ?_;exact cL hK rfl (VLe.refl _) rfl));(try dsimp only [List.cons_append,List.nil_append]));(apply cA (n:=22) [21] rfl rfl rfl (by kernel_rfl);(focus (intro V' hV;refine cB (j:=21) (d:=29) rfl rfl ?_;refine bX ?_;intro K hK;refine aI (eF fld_27_2 rfl) ?_;refine cJ rfl ?_;exact cL hK rfl (VLe.refl _) rfl));(try dsimp only [List.cons_append,List.nil_append]));(apply cA (n:=23) [22] rfl rfl rfl (by kernel_rfl);(focus (intro V' hV;refine cB (j:=22) (d:=30) rfl rfl ?_;refine bX ?_;intro K hK;refine aI (cK one_25 rfl (eZ vl9 gx)) ?_;refine cJ rfl ?_;exact cL hK rfl (VLe.refl _) rfl));(try dsimp only [List.cons_append,List.nil_append]));(apply cA (n:=24) [23] rfl rfl rfl (by kernel_rfl);(focus (intro V' hV;refine cB (j:=23) (d:=31) rfl rfl ?_;refine bX ?_;intro K hK;refine aI (q_len rfl und_25 rfl) ?_;refine cJ rfl ?_;exact cL hK rfl (VLe.refl _) rfl));(try dsimp only [List.cons_append,List.nil_append]));(apply cA (n:=25) [24] rfl rfl rfl (by kernel_rfl);(focus (intro V' hV;refine cB (j:=24) (d:=32) rfl rfl ?_;refine bX ?_;intro K hK;(first|refine aI (lL und_3 und_5 rfl) ?_|refine aI (kL (us:=[_,_]) und_108 und_5 und_9 rfl (src_u8 (by assumption) rfl)) ?_);refine cJ rfl ?_;exact cL hK rfl (VLe.refl _) rfl));(try dsimp only [List.cons_append,List.nil_append]));(apply grow_new (n:=26) [18,25] rfl rfl rfl (by kernel_rfl);(focus (intro V' hV;refine cB (j:=18) (d:=26) rfl rfl ?_;refine cB (j:=25) (d:=33) rfl rfl ?_;refine bX ?_;intro K hK;(refine jE rfl hfl0 und_108 siz_5 zec_5 rfl rfl rfl rfl rfl rfl rfl ?_;intro γ V2 hV2 hg2);refine cJ rfl ?_;exact cL hK rfl hV2 ⟨_,rfl,hg2⟩));(try dsimp only [List.cons_append,List.nil_append]));(apply cA (n:=27) [26] rfl rfl rfl (by kernel_rfl);(focus (intro V' hV;refine deps_new (j:=26) (d:=34) rfl rfl ?_;intro g26 hg26;refine bX ?_;intro K hK;(first|refine aI (lL und_3 und_5 rfl) ?_|refine aI (kL (us:=[_,_]) und_108 und_5 und_9 rfl (src_u8 (by assumption) rfl)) ?_);refine cJ rfl ?_;exact cL hK rfl (VLe.refl _) rfl));(try dsimp only [List.cons_append,List.nil_append]));(apply cA (n:=28) [12,27] rfl rfl rfl (by kernel_rfl);(focus (intro V' hV;refine cB (j:=12) (d:=20) rfl rfl ?_;refine cB (j:=27) (d:=35) rfl rfl ?_;refine bX ?_;intro K hK;(first|refine aI (gD rfl rfl (by simp [b16])) ?_|refine aI (uX rfl rfl (by first|omega|(simp only [ByteArray.size_append,ByteArray.size_extract];omega)|fail)) ?_);refine cJ rfl ?_;exact cL hK rfl (VLe.refl _) rfl));(try dsimp only [List.cons_append,List.nil_append]));refine grow_last (n:=29) [28] rfl rfl rfl rfl (by kernel_rfl) (by kernel_rfl) (by kernel_rfl) ?_;intro VG hVG;refine cB (j:=28) (d:=36) rfl rfl ?_;refine bX ?_
  have gu:=eZ hVG gu
  have gg:=eZ hVG gg
  have gx:=eZ hVG gx
  have gd:=eZ hVG gd
  repeat' (first|(refine aG ?_;refine pu9 ?_)|refine cM ?_|fail)
  refine bZ (fun F V' L' m=>∃ k:Nat,VLe V V'∧[]=L'∧k≤I.n∧m=I.n - k∧F=[(0,.pointer (some ⟨p,0,none⟩)),(3,.string ⟨(credB b.c ++ (b.c.xs.take k).flatMap b16).toArray⟩),(41,.slice I.A I.n I.k),(42,.int .i64 (I.n:Int)),(43,.int .i64 (k:Int))]) (m:=I.n) ⟨0,hVG,rfl,Nat.zero_le _,by omega,by rw [List.take_zero,List.flatMap_nil,List.append_nil,credB,hxl]⟩ bG rfl sl9 ?_
  rintro F V' L' m ⟨k,hV',rfl,hk,rfl,rfl⟩
  have hfl:((b.c.xs.take k).flatMap b16).length≤8:=by rw [uA,List.length_take];omega
  have hcl9:(credB b.c).length=6:=rfl
  by_cases hlt:k<I.n
  · obtain⟨b1,o1,w,hA1,hw,hcw⟩:=(h.2.xs.le hV').at_ hlt
    have hw0:0≤w:=(gF_ids _ _ hz.2.2.2.2 w (List.mem_of_getElem? hw)).1
    have htk:(b.c.xs.take (k+1)).flatMap b16=(b.c.xs.take k).flatMap b16 ++ b16 w:=by rw [List.take_add_one,hw,List.flatMap_append];simp
    repeat' (first|(refine aG ?_;first|(refine aC ?_;refine aO rfl (aK ⟨Tryz.call54⟩ rfl (btwo_c _ _ hw0)) ?_)|(refine bK ?_;refine aI (gD rfl rfl (by rw [List.length_append,b16_len];omega)) ?_)|(refine bH ?_;refine aI (dG und_25 siz_3 rfl hA1 rfl hlt) ?_)|refine pu9 ?_)|refine cM ?_|(refine aA rfl ?_ ?_<;>intro hq<;>try exact no9))
    all_goals
      refine aY _ (I.n - (k+1)) ⟨k+1,vl9,rfl,by omega,rfl,by rw [htk,←List.append_assoc]⟩ (by omega) bG sl9
  · obtain rfl:k=I.n:=by omega
    rw [List.take_of_length_le (by omega)] at hfl ⊢
    have hB:=fun V2 (hV2:VLe V V2)=>Bytes_tc V2 x0 (hN0.le hV2)
    have hbl:(eE x0.n).length≤100000:=bytes_few _
    have gl:=eZ hV' hcl
    have hc9:=hc0.le hV'
    repeat' (first|(refine aG ?_;first|(refine aC ?_;refine aO rfl (aK ⟨Tryz.call55⟩ rfl (hB _ vl9)) ?_)|(refine bK ?_;refine aI (gD rfl rfl (by rw [List.length_append];omega)) ?_)|(refine bH ?_;refine aI (dG (k:=0) und_30 siz_50 rfl hK rfl hm0) ?_)|refine pu9 ?_)|refine eT ?_|(refine aA rfl ?_ ?_<;>intro hq<;>try exact no9))
    all_goals
      (refine aR Tryz.results18 (aB rfl) ?_)
      rw [eG,hhd]
theorem Bytes_b {V:aE} {p:Nat} {b:BX} {Bs:List Box} (hok:bI b) (h:fE V p b Bs):FnB Tryz.prog 18 [.pointer (some ⟨p,0,none⟩)] V Bs fun v V' Bs'=>Bs'=Bs∧v=.string ⟨(eG b).toArray⟩ :=
  fE.read hok h (fun v V gs hc h=>h) fun V' I hV hB=>Bytes_v V' p b I hok hB
end
section
abbrev PM:=List (Int×Int)
def gW:PM→Int
  | []=>0
  | p :: M=>p.2+gW M
def gA (room:Int) (M:PM) (who n:Int):Int:=if n<0 then 1 else if (dR who M).isSome=true then 6 else if room - gW M<n then 13 else 0
def fO (room:Int) (M:PM) (who n:Int):PM:=if gA room M who n=0 then M ++ [(who,n)] else M
def giveF (M:PM) (who:Int):Int:=if (dR who M).isSome=true then 0 else 5
def ofP (M:PM) (who:Int):Int:=match dR who M with|some q=>q.2|none=>0
structure lI (room:Int) (k:Nat) (M:PM):Prop where
  r:0≤room∧room≤2000
  nn:∀ p∈M,0≤p.2
  s:gW M≤room
  l:M.length≤k
theorem lD:∀ (M M':PM),gW (M ++ M')=gW M+gW M'
  | [],M'=>by simp [gW]
  | p :: M,M'=>by simp only [List.cons_append,gW,lD M M'];omega
theorem uD:∀ {M:PM},(∀ p∈M,0≤p.2)→0≤gW M
  | [],_=>by simp [gW]
  | p :: M,h=>by
    have h1:=h p (by simp)
    have h2:=uD (M:=M) fun q hq=>h q (by simp [hq])
    simp only [gW];omega
theorem sumP_take (M:PM) (i:Nat) (h:∀ p∈M,0≤p.2):0≤gW (M.take i)∧gW (M.take i)≤gW M:=by
  have h1:=uD (M:=M.take i) fun q hq=>h q (List.mem_of_mem_take hq)
  have h2:=uD (M:=M.drop i) fun q hq=>h q (List.mem_of_mem_drop hq)
  have h3:=lD (M.take i) (M.drop i)
  rw [List.take_append_drop] at h3
  omega
theorem sumP_take1 {M:PM} {i:Nat} {p:Int×Int} (h:M[i]?=some p):gW (M.take (i+1))=gW (M.take i)+p.2:=by
  rw [List.take_add_one,h,lD];simp [gW]
theorem sumP_erase {M:PM} {i:Nat} {p:Int×Int} (h:M[i]?=some p):gW (M.eraseIdx i)=gW M - p.2:=by
  have hlt:i<M.length:=by
    rcases Nat.lt_or_ge i M.length with h'|h'
    · exact h'
    · rw [List.getElem?_eq_none h'] at h;cases h
  have h3:=lD (M.take i) (M.drop i)
  rw [List.take_append_drop,List.drop_eq_getElem_cons hlt] at h3
  rw [List.getElem?_eq_getElem hlt] at h;injection h with h
  rw [h] at h3
  rw [List.eraseIdx_eq_take_drop_succ,lD]
  simp only [gW] at h3;omega
theorem lI.nil {room:Int} (h:0≤room∧room≤2000):lI room 0 []:=⟨h,by simp,by simp [gW];omega,by simp⟩
theorem lI.mono {room:Int} {k k':Nat} {M:PM} (h:lI room k M) (hk:k≤k'):lI room k' M:=⟨h.r,h.nn,h.s,by have:=h.l;omega⟩
theorem lI.take {room:Int} {k:Nat} {M:PM} (h:lI room k M) (who n:Int):lI room (k+1) (fO room M who n):=by
  unfold fO
  split
  · rename_i e
    have hn:¬n<0∧¬room - gW M<n:=by
      unfold gA at e
      split at e
      · omega
      · split at e
        · omega
        · split at e
          · omega
          · omega
    refine⟨h.r,fun p hp=>?_,?_,by have:=h.l;simp;omega⟩
    · rcases List.mem_append.1 hp with hp|hp
      · exact h.nn p hp
      · simp at hp;subst hp;simp only [];omega
    · rw [lD];simp only [gW];omega
  · exact h.mono (by omega)
theorem lI.cut {room:Int} {k:Nat} {M:PM} (h:lI room k M) (who:Int):lI room (k+1) (oI who M):=by
  cases hf:dR who M with
  | none=>rw [wY hf];exact h.mono (by omega)
  | some q =>
    obtain⟨i,b⟩:=q
    obtain⟨h1,_,h3⟩:=lU hf
    rw [h3]
    have hb:=h.nn _ (List.mem_of_getElem? h1)
    simp only [] at hb
    refine⟨h.r,fun p hp=>h.nn p (List.mem_of_mem_eraseIdx hp),?_,?_⟩
    · rw [sumP_erase h1];have:=h.s;simp only [];omega
    · have:=List.length_eraseIdx_le M i;have:=h.l;omega
theorem lI.of {room:Int} {k:Nat} {M:PM} (h:lI room k M) (who:Int):0≤ofP M who∧ofP M who≤2000:=by
  unfold ofP
  cases hf:dR who M with
  | none=>simp
  | some q =>
    obtain⟨i,b⟩:=q
    have h1:=(lU hf).1
    have h2:=sumP_take1 h1
    have h3:=sumP_take M i h.nn
    have h4:=sumP_take M (i+1) h.nn
    have h5:=h.nn _ (List.mem_of_getElem? h1)
    have h6:=h.s;have h7:=h.r
    simp only [] at h2 h5 ⊢
    omega
theorem takeF_neg {room:Int} {M:PM} {who n:Int} (h:n<0):gA room M who n=1:=by unfold gA;rw [if_pos h]
theorem takeF_is {room:Int} {M:PM} {who n:Int} (h:¬n<0) (h2:(dR who M).isSome=true):gA room M who n=6:=by unfold gA;rw [if_neg h,if_pos h2]
theorem takeF_room {room:Int} {M:PM} {who n:Int} (h:¬n<0) (h2:(dR who M).isSome=false) (h3:room - gW M<n):gA room M who n=13:=by unfold gA;rw [if_neg h,if_neg (by rw [h2];decide),if_pos h3]
theorem takeF_ok {room:Int} {M:PM} {who n:Int} (h:¬n<0) (h2:(dR who M).isSome=false) (h3:¬room - gW M<n):gA room M who n=0:=by unfold gA;rw [if_neg h,if_neg (by rw [h2];decide),if_neg h3]
theorem takeM_bad {room:Int} {M:PM} {who n:Int} (h:¬gA room M who n=0):fO room M who n=M:=by unfold fO;rw [if_neg h]
theorem takeM_ok {room:Int} {M:PM} {who n:Int} (h:gA room M who n=0):fO room M who n=M ++ [(who,n)]:=by unfold fO;rw [if_pos h]
theorem giveF_no {M:PM} {who:Int} (h:dR who M=none):giveF M who=5:=by unfold giveF;rw [h];rfl
theorem giveF_ok {M:PM} {who:Int} {q:Nat×Int} (h:dR who M=some q):giveF M who=0:=by unfold giveF;rw [h];rfl
theorem sumP_cut {M:PM} {who:Int} {i:Nat} {b:Int} (h:dR who M=some (i,b)):gW (oI who M)=gW M - b:=by
  obtain⟨h1,_,h3⟩:=lU h
  rw [h3,sumP_erase h1]
end
section
theorem sP:MapIs Tryz.prog 209 mH.d (.int .i64 0):=⟨3,3,Tryz.underlying209,Tryz.underlying3,Tryz.zeroValue3⟩
abbrev xM (n:Int):Value:=.int .i64 n
def oL (p:Nat) (room:Int) (M:PM) (Bs:List Box):Prop:=∃ g es c,Bs=[⟨p,211,[.int .i64 room,.int .i64 (gW M),.map (some g)]⟩,⟨g,.map es c,[]⟩]∧fL mH xM M es
theorem oL.of {p g c:Nat} {room:Int} {M:PM} {es:Array MapEntry} {x:Int} (hM:fL mH xM M es) (h:x=gW M):oL p room M [⟨p,211,[.int .i64 room,.int .i64 x,.map (some g)]⟩,⟨g,.map es c,[]⟩]:=by
  subst h;exact⟨g,es,c,rfl,hM⟩
theorem isSome_no {α:Type} {o:Option α} (h:o.isSome=false):o=none:=by cases o<;>simp_all
attribute [local irreducible] AtQ GoC GoL GoW QO QP Fn RV bF aD VLe bU bA
theorem PNew_c (V:aE) (room:Int):FnB Tryz.prog 168 [.int .i64 room] V [] fun u _ Bs'=>((0≤room∧room≤2000)∧∃ p,u=.tuple #[.pointer (some ⟨p,0,none⟩),bA 0]∧oL p room [] Bs')∨(¬(0≤room∧room≤2000)∧u=.tuple #[.pointer none,bA 1]∧Bs'=[]):=by
  by_cases hb:0≤room∧room≤2000
  · (refine aL Tryz.func168 rfl Tryz.ntmps168 rfl ?_;intro w0)
    repeat' (first|(refine aG ?_;first|(refine k_makeMap ?_;(refine yA rfl rfl ?_;intro γ0))|(refine al9 ?_;intro γ)|refine pu9 ?_)|refine bS ?_|(refine aJ rfl rfl rfl ?_ ?_<;>intro hq<;>try exact no9)|(refine aA rfl ?_ ?_<;>intro hq<;>try exact no9))
    all_goals
      (refine bJ Tryz.results168 (aB rfl) (aB rfl) (List.Sublist.refl _) ?_)
      refine .inl ⟨hb,_,by rw [bO],?_⟩
      exact oL.of fL.nil rfl
  · (refine aL Tryz.func168 rfl Tryz.ntmps168 rfl ?_;intro w0)
    repeat' (first|(refine aG ?_;refine pu9 ?_)|refine bV ?_|(refine aJ rfl rfl rfl ?_ ?_<;>intro hq<;>try exact no9)|(refine aA rfl ?_ ?_<;>intro hq<;>try exact no9))
    all_goals
      (refine bJ Tryz.results168 (aB rfl) (aB rfl) (List.Sublist.refl _) ?_)
      exact .inr ⟨hb,by rw [bW (by decide)],rfl⟩
theorem PLeft_c (V:aE) (p:Nat) (room:Int) (M:PM) (Bs:List Box) (h:oL p room M Bs) {k:Nat} (hI:lI room k M) :
    FnB Tryz.prog 62 [.pointer (some ⟨p,0,none⟩)] V Bs fun u _ Bs'=>u=.int .i64 (room - gW M)∧Bs'=Bs:=by
  have h1:=hI.r;have h2:=hI.s;have h3:=uD hI.nn
  obtain⟨g,es,c,rfl,hM⟩:=h
  (refine aL Tryz.func62 rfl Tryz.ntmps62 rfl ?_;intro w0)
  repeat' (first|(refine aG ?_;refine pu9 ?_)|refine bS ?_|refine cO (id:=1) mixed (by kernel_rfl) ?_)
  all_goals
    (refine aV Tryz.results62 (aB rfl) (List.Sublist.refl _) ?_)
    exact⟨rfl,rfl⟩
theorem PGive_c (V:aE) (p:Nat) (room:Int) (M:PM) (Bs:List Box) (h:oL p room M Bs) {k:Nat} (hI:lI room k M) (who:Int) :
    FnB Tryz.prog 139 [.pointer (some ⟨p,0,none⟩),.int .i64 who] V Bs fun u _ Bs'=>u=bA (giveF M who)∧oL p room (oI who M) Bs':=by
  have h1:=hI.r;have h2:=hI.s;have h3:=uD hI.nn;have h4:=hI.of who
  have h':=h
  obtain⟨g,es,c,rfl,hM⟩:=h
  cases hf:dR who M with
  | none =>
    (refine aL Tryz.func139 rfl Tryz.ntmps139 rfl ?_;intro w0)
    repeat' (first|(refine aG ?_;first|(refine mU ?_;refine aI (wS (kk:=mH) (vv:=xM) sP rfl rfl hM bD) ?_;rw [hf])|refine pu9 ?_)|refine bV ?_|fail)
    all_goals
      (refine aV Tryz.results139 (aB rfl) (List.Sublist.refl _) ?_)
      rw [giveF_no hf,wY hf,bW (by decide)]
      exact⟨rfl,h'⟩
  | some q =>
    obtain⟨i,b⟩:=q
    have h5:=sumP_cut hf
    have h6:=uD (hI.cut who).nn
    have h7:=sumP_take M i hI.nn
    have h8:0≤b:=hI.nn _ (List.mem_of_getElem? (lU hf).1)
    (refine aL Tryz.func139 rfl Tryz.ntmps139 rfl ?_;intro w0)
    repeat' (first|(refine aG ?_;first|(refine mU ?_;refine aI (wS (kk:=mH) (vv:=xM) sP rfl rfl hM bD) ?_;rw [hf])|(refine aC ?_;(refine gw_delete rfl (kk:=mH) (vv:=xM) sP rfl rfl hM bD rfl ?_;intro es2 c2 hM2))|refine st9 ?_|refine pu9 ?_)|refine bV ?_|fail)
    all_goals
      (refine aV Tryz.results139 (aB rfl) (List.Sublist.refl _) ?_)
      rw [giveF_ok hf,bO]
      exact⟨rfl,oL.of hM2 h5.symm⟩
end
section
structure LW where
  x:LN
  A:Option Addr
  n:Nat
  c:Nat
  bl:List Int
abbrev lwC (l:LW):List Value:=lnC l.x ++ [.slice l.A l.n l.c]
structure TE where
  x:CF
  p:Nat
  b:BX
  I:BI
  A:Option Addr
  n:Nat
  c:Nat
  s0:List Int
  B:Option Addr
  m:Nat
  e:Nat
  s1:List Int
  turn:Int
  seq:Int
abbrev teC (t:TE):List Value:=cfC t.x ++ [.pointer (some ⟨t.p,0,none⟩),.slice t.A t.n t.c,.slice t.B t.m t.e,.int .i64 t.turn,.int .i64 t.seq]
structure HM where
  d:Nat
  q:Nat
  off:Bool
  turn:Int
  seq:Int
  lo:List (Option (Nat×LW))
  bx:List (Option (Nat×TE))
abbrev ptrV (o:Option Nat):Value:=.pointer (o.map fun g=>⟨g,0,none⟩)
def loV (l:List (Option (Nat×LW))):List Value:=l.map fun o=>ptrV (o.map Prod.fst)
def bxV (l:List (Option (Nat×TE))):List Value:=l.map fun o=>ptrV (o.map Prod.fst)
def hC (h:HM):List Value:=.pointer (some ⟨h.d,0,none⟩) :: .bool h.off :: .int .i64 h.turn :: .int .i64 h.seq :: .pointer (some ⟨h.q,0,none⟩) :: (loV h.lo ++ bxV h.bx)
def blkOk (l:List Int):Prop:=∀ z∈l,0≤z∧z≤2000
structure LowV (V:aE) (g:Nat) (l:LW):Prop where
  c:aD V g 0 (lwC l)
  x:aT V l.x
  ok:dD false l.x.n=0
  bl:eD V l.A l.n l.bl
  nn:blkOk l.bl
  few:l.n≤2000
theorem LowV.le {V V':aE} {g:Nat} {l:LW} (h:LowV V g l) (hv:VLe V V'):LowV V' g l:=⟨h.c.le hv,h.x.le hv,h.ok,h.bl.le hv,h.nn,h.few⟩
structure CfOk (x:CF):Prop where
  us:∀ r∈x.M.us,0≤r.i∧0≤r.o∧0≤r.c
  gs:∀ r∈x.M.gs,0≤r.i∧0≤r.o∧0≤r.c
  u:0≤x.c.u
  g:0≤x.c.g
  d:0≤x.c.d
  xs:∀ z∈x.c.xs,0≤z
  q:0≤x.q
  lo:∀ z∈x.lo,0≤z
  few:x.M.n≤1000∧x.M.m≤1000∧x.n≤1000∧x.m≤1000
structure TenV (V:aE) (t:TE):Prop where
  x:CfV V t.x
  cf:CfOk t.x
  ok:bI t.b
  b:pY V t.p t.b t.I
  s0:eD V t.A t.n t.s0
  s1:eD V t.B t.m t.s1
  n0:blkOk t.s0
  n1:blkOk t.s1
  few:t.n≤1000∧t.m≤1000
theorem TenV.le {V V':aE} {t:TE} (h:TenV V t) (hv:VLe V V'):TenV V' t:=⟨h.x.le hv,h.cf,h.ok,h.b.le hv,h.s0.le hv,h.s1.le hv,h.n0,h.n1,h.few⟩
structure HOk (V:aE) (Bs:List Box) (h:HM):Prop where
  l5:h.lo.length=5
  b5:h.bx.length=5
  lo:∀ (i:Nat) (g:Nat) (l:LW),h.lo[i]?=some (some (g,l))→LowV V g l
  bx:∀ (i:Nat) (g:Nat) (t:TE),h.bx[i]?=some (some (g,t))→bF Bs g (teC t)∧TenV V t
  inj:∀ (i j g:Nat) (t t':TE),h.bx[i]?=some (some (g,t))→h.bx[j]?=some (some (g,t'))→i=j
theorem HOk.le {V V':aE} {Bs:List Box} {h:HM} (k:HOk V Bs h) (hv:VLe V V'):HOk V' Bs h:=⟨k.l5,k.b5,fun i g l e=>(k.lo i g l e).le hv,fun i g t e=>⟨(k.bx i g t e).1,(k.bx i g t e).2.le hv⟩,k.inj⟩
theorem HOk.same {V:aE} {Bs:List Box} {h h':HM} (k:HOk V Bs h) (e1:h.lo=h'.lo) (e2:h.bx=h'.bx):HOk V Bs h':=⟨e1▸k.l5,e2▸k.b5,e1▸k.lo,e2▸k.bx,e2▸k.inj⟩
theorem HOk.skip {V:aE} {Bs:List Box} {h:HM} (k:HOk V Bs h) (X:List Box):HOk V (X ++ Bs) h:=⟨k.l5,k.b5,k.lo,fun i g t e=>⟨eM (k.bx i g t e).1,(k.bx i g t e).2⟩,k.inj⟩
def lowL:Option (Nat×LW)→List UInt8
  | none=>[0]
  | some (_,l)=>[1] ++ be 2 ((eE l.x.n).length:Int) ++ sF 2 l.bl
def cfL (x:CF):List UInt8:=[1] ++ be 1 x.q ++ wX x.M.us ++ wX x.M.gs ++ be 2 x.c.u ++ be 2 x.c.g ++ be 1 x.c.d ++ sF 2 x.c.xs ++ sF 1 x.lo
def tenL:Option (Nat×TE)→List UInt8
  | none=>[0]
  | some (_,t)=>cfL t.x ++ sF 2 t.s0 ++ sF 2 t.s1
def pW (h:HM):List UInt8:=h.lo.flatMap lowL ++ h.bx.flatMap tenL
theorem lo_part {h:HM} (hl:h.lo.length=5):((hC h).drop (0+5)).take 5=loV h.lo:=by
  show (loV h.lo ++ bxV h.bx).take 5=_
  rw [List.take_left' (by unfold loV;rw [List.length_map];exact hl)]
theorem bx_part {h:HM} (hl:h.lo.length=5) (hb:h.bx.length=5):((hC h).drop (0+10)).take 5=bxV h.bx:=by
  have e:(hC h).drop (0+10)=(loV h.lo ++ bxV h.bx).drop 5:=rfl
  rw [e,List.drop_left' (by unfold loV;rw [List.length_map];exact hl),List.take_of_length_le (by unfold bxV;rw [List.length_map];omega)]
theorem loV_at {l:List (Option (Nat×LW))} {k:Nat} {o:Option (Nat×LW)} (h:l[k]?=some o):(loV l)[k]?=some (ptrV (o.map Prod.fst)):=by unfold loV;rw [List.getElem?_map,h];rfl
theorem bxV_at {l:List (Option (Nat×TE))} {k:Nat} {o:Option (Nat×TE)} (h:l[k]?=some o):(bxV l)[k]?=some (ptrV (o.map Prod.fst)):=by unfold bxV;rw [List.getElem?_map,h];rfl
theorem LowV.node {V:aE} {g:Nat} {l:LW} (h:LowV V g l):aD V g (0+0) (lnC l.x):=lZ h.c 0 8 rfl
theorem LowV.blk {V:aE} {g:Nat} {l:LW} (h:LowV V g l):V ⟨g,0+8,none⟩=some (.slice l.A l.n l.c):=h.c 8 _ rfl
theorem jV:bR Tryz.prog 123 (.array 5 122):=⟨Tryz.underlying123⟩
theorem kK:bR Tryz.prog 125 (.array 5 124):=⟨Tryz.underlying125⟩
theorem kU:PtrIs Tryz.prog 122:=⟨by kernel_rfl⟩
theorem kW:PtrIs Tryz.prog 124:=⟨by kernel_rfl⟩
end
section
theorem lowL_len {V:aE} {g:Nat} {l:LW} (h:LowV V g l):(lowL (some (g,l))).length≤5000:=by
  have h1:=h.bl.1
  have h2:=h.few
  simp only [lowL,List.length_append,jC,tC,List.length_cons,List.length_nil]
  omega
theorem cfL_len {x:CF} {V:aE} (h:CfV V x) (k:CfOk x):(cfL x).length≤30000:=by
  have h1:=h.M.1.1.1
  have h2:=h.M.2.2.1.1.1
  have h3:=h.xs.1
  have h4:=h.lo.1
  obtain⟨k1,k2,k3,k4⟩:=k.few
  simp only [cfL,List.length_append,jC,tC,rangesL_len,List.length_cons,List.length_nil]
  omega
theorem tenL_len {V:aE} {g:Nat} {t:TE} (h:TenV V t):(tenL (some (g,t))).length≤40000:=by
  have h1:=cfL_len h.x h.cf
  have h2:=h.s0.1
  have h3:=h.s1.1
  have h4:=h.few
  simp only [tenL,List.length_append,tC]
  omega
attribute [local irreducible] AtQ GoC GoL GoW QO QP Fn RV bF aD VLe bU bA
attribute [local irreducible] FnB
theorem table_c (V:aE) (p:Nat) (h:HM) (Bs:List Box) (hh:bF Bs p (hC h)) (hk:HOk V Bs h):FnB Tryz.prog 170 [.pointer (some ⟨p,0,none⟩)] V Bs fun u _ Bs'=>u=.string ⟨(pW h).toArray⟩∧Bs'=Bs:=by
  have h5:=hk.l5
  have hb5:=hk.b5
  (refine aL Tryz.func170 rfl Tryz.ntmps170 rfl ?_;intro w0)
  repeat' (first|(refine aG ?_;first|(refine dA ?_;refine aI (gK agg_123 rfl hh (lo_part h5) (by unfold loV;rw [List.length_map,h5])) ?_)|refine pu9 ?_)|refine bS ?_|fail)
  refine cS ?_
  refine bZ (fun F V' L' m=>∃ (k:Nat) (s:List UInt8),VLe V V'∧Bs=L'∧k≤5∧s=(h.lo.take k).flatMap lowL∧s.length≤k * 5000∧m=5 - k∧F=[(0,.pointer (some ⟨p,0,none⟩)),(3,.string ⟨s.toArray⟩),(12,.agg (loV h.lo).toArray),(13,.int .i64 k)]) (m:=5) ⟨0,[],vl9,rfl,by omega,rfl,by simp,rfl,rfl⟩ bG rfl sl9 ?_
  rintro F V' L' m ⟨k,s,hV',rfl,hk5,hs,hsl,rfl,rfl⟩
  by_cases hlt:k<5
  · obtain⟨o,ho⟩:∃ o,h.lo[k]?=some o:=⟨_,List.getElem?_eq_getElem (by omega)⟩
    have hc:=loV_at ho
    cases o with
    | none =>
      repeat' (first|(refine aG ?_;first|(refine bK ?_;(first|refine aI (gD (m:=[0]) rfl rfl (by simp only [List.length_cons,List.length_nil];omega)) ?_|refine aI (eH kU rfl) ?_))|(refine iL ?_;refine aI (kA jV one_122 siz_122 rfl rfl hlt hc) ?_)|refine pu9 ?_)|refine fG ?_|(refine aA rfl ?_ ?_<;>intro hq<;>try exact no9))
      all_goals
        refine aY _ (5 - (k+1)) ⟨k+1,s ++ [0],vl9,rfl,by omega,by rw [fC ho,hs];rfl,by rw [List.length_append,Nat.succ_mul];simp only [List.length_cons,List.length_nil];omega,rfl,rfl⟩ (by omega) bG sl9
    | some gl =>
      obtain⟨g,l⟩:=gl
      have hL:=(hk.lo k g l ho).le hV'
      have hll:=lowL_len hL
      have hn1:=hL.node
      have hn2:=hL.blk
      have hbn:=hL.bl.1
      have hbf:=hL.few
      have hby:(eE l.x.n).length≤100000:=bytes_few l.x.n
      have hS:=fun V9 (h9:VLe V' V9)=>TSize_c V9 l.x (hL.x.le h9)
      have hN:=fun V9=>nS V9 ((eE l.x.n).length:Int) (by omega) 2 (by omega)
      have hB:=fun V9 (h9:VLe V' V9)=>hnums_c V9 l.A l.n l.c l.bl (hL.bl.le h9) (fun z hz=>(hL.nn z hz).1) (by omega) 2 (by omega)
      have hlen:(sF 2 l.bl).length≤5000:=by rw [tC];omega
      repeat' (first|(refine aG ?_;first|(refine dA ?_;refine aI (iA agg_50 rfl hn1 (by exact rfl)) ?_)|(refine bK ?_;(first|refine aI (gD rfl rfl (by simp only [List.length_append,List.length_cons,List.length_nil,jC];omega)) ?_|refine aI (eH kU rfl) ?_))|(refine iL ?_;refine aI (kA jV one_122 siz_122 rfl rfl hlt hc) ?_)|(refine aC ?_;(first|refine aO rfl (aK ⟨Tryz.call53⟩ rfl (hS _ vl9)) ?_|refine aO rfl (aK ⟨Tryz.call173⟩ rfl (hN _)) ?_|refine aO rfl (aK ⟨Tryz.call189⟩ rfl (hB _ vl9)) ?_))|refine pu9 ?_)|refine dL ?_|(refine aA rfl ?_ ?_<;>intro hq<;>try exact no9)|refine cO (id:=7) mixed (by kernel_rfl) ?_)
      all_goals
        refine aY _ (5 - (k+1)) ⟨k+1,s ++ lowL (some (g,l)),vl9,rfl,by omega,by rw [fC ho,hs],by rw [List.length_append,Nat.succ_mul];omega,rfl,rfl⟩ (by omega) bG sl9
  · obtain rfl:k=5:=by omega
    rw [List.take_of_length_le (by omega)] at hs
    repeat' (first|(refine aG ?_;first|(refine dA ?_;refine aI (gK agg_125 rfl hh (bx_part h5 hb5) (by unfold bxV;rw [List.length_map,hb5])) ?_)|refine pu9 ?_)|refine mV ?_|fail)
    refine cS ?_
    refine bZ (fun F V2 L' m=>∃ (k:Nat) (s2:List UInt8),VLe V V2∧Bs=L'∧k≤5∧s2=s ++ (h.bx.take k).flatMap tenL∧s2.length≤25000+k * 40000∧m=5 - k∧F=[(0,.pointer (some ⟨p,0,none⟩)),(3,.string ⟨s2.toArray⟩),(39,.agg (bxV h.bx).toArray),(40,.int .i64 k)]) (m:=5) ⟨0,s,vl9,rfl,by omega,by simp,by omega,rfl,rfl⟩ bG rfl sl9 ?_
    rintro F V2 L' m ⟨k,s2,hV2,rfl,hk2,hs2,hsl2,rfl,rfl⟩
    by_cases hlt:k<5
    · obtain⟨o,ho⟩:∃ o,h.bx[k]?=some o:=⟨_,List.getElem?_eq_getElem (by omega)⟩
      have hc:=bxV_at ho
      cases o with
      | none =>
        repeat' (first|(refine aG ?_;first|(refine bK ?_;(first|refine aI (gD (m:=[0]) rfl rfl (by simp only [List.length_cons,List.length_nil];omega)) ?_|refine aI (eH kW rfl) ?_))|(refine iL ?_;refine aI (kA kK one_124 siz_124 rfl rfl hlt hc) ?_)|refine pu9 ?_)|refine fG ?_|(refine aA rfl ?_ ?_<;>intro hq<;>try exact no9))
        all_goals
          refine aY _ (5 - (k+1)) ⟨k+1,s2 ++ [0],vl9,rfl,by omega,by rw [fC ho,hs2,List.append_assoc];rfl,by rw [List.length_append,Nat.succ_mul];simp only [List.length_cons,List.length_nil];omega,rfl,rfl⟩ (by omega) bG sl9
      | some gt =>
        obtain⟨g,t⟩:=gt
        obtain⟨hO,hT0⟩:=hk.bx k g t ho
        have hT:=hT0.le hV2
        have hll:=tenL_len (g:=g) hT
        have k0:=hT.cf
        have e1:t.x.M.us.length=t.x.M.n:=hT.x.M.1.1.1
        have e2:t.x.M.gs.length=t.x.M.m:=hT.x.M.2.2.1.1.1
        have e3:=hT.x.xs.1
        have e4:=hT.x.lo.1
        have e5:=hT.s0.1
        have e6:=hT.s1.1
        obtain⟨k1,k2,k3,k4⟩:=k0.few
        obtain⟨k5,k6⟩:=hT.few
        have hQ:=fun V9=>nS V9 t.x.q k0.q 1 (by omega)
        have hu:=fun V9=>nS V9 t.x.c.u k0.u 2 (by omega)
        have hg:=fun V9=>nS V9 t.x.c.g k0.g 2 (by omega)
        have hd:=fun V9=>nS V9 t.x.c.d k0.d 1 (by omega)
        have hU:=fun V9 (h9:VLe V2 V9)=>hranges_c V9 t.x.M.A t.x.M.n t.x.M.c t.x.M.us (hT.x.le h9).M.1.1 k0.us (by omega)
        have hG:=fun V9 (h9:VLe V2 V9)=>hranges_c V9 t.x.M.B t.x.M.m t.x.M.e t.x.M.gs (hT.x.le h9).M.2.2.1.1 k0.gs (by omega)
        have hX:=fun V9 (h9:VLe V2 V9)=>hnums_c V9 t.x.A t.x.n t.x.k t.x.c.xs (hT.x.le h9).xs k0.xs (by omega) 2 (by omega)
        have hLo:=fun V9 (h9:VLe V2 V9)=>hnums_c V9 t.x.B t.x.m t.x.e t.x.lo (hT.x.le h9).lo k0.lo (by omega) 1 (by omega)
        have hS0:=fun V9 (h9:VLe V2 V9)=>hnums_c V9 t.A t.n t.c t.s0 (hT.s0.le h9) (fun z hz=>(hT.n0 z hz).1) (by omega) 2 (by omega)
        have hS1:=fun V9 (h9:VLe V2 V9)=>hnums_c V9 t.B t.m t.e t.s1 (hT.s1.le h9) (fun z hz=>(hT.n1 z hz).1) (by omega) 2 (by omega)
        repeat' (first|(refine aG ?_;first|(refine dA ?_;refine aI (gK agg_29 rfl (by repeat (first|exact hO|apply cG|apply eM)) (by exact rfl) (by exact rfl)) ?_)|(refine bK ?_;refine aI (eH kW rfl) ?_)|(refine iL ?_;refine aI (kA kK one_124 siz_124 rfl rfl hlt hc) ?_)|refine st9 ?_|(refine al9 ?_;intro γ)|refine pu9 ?_)|refine dL ?_|(refine aA rfl ?_ ?_<;>intro hq<;>try exact no9))
        repeat' (first|(refine aG ?_;first|(refine dA ?_;refine aI (aX one_25 rfl (by repeat (first|exact hO|apply cG|apply eM)) (by exact rfl)) ?_)|(refine bK ?_;refine aI (gD rfl rfl (by simp only [List.length_append,List.length_cons,List.length_nil,jC,tC,rangesL_len];omega)) ?_)|(refine aC ?_;(first|refine aO rfl (aK ⟨Tryz.call173⟩ rfl (hQ _)) ?_|refine aO rfl (aK ⟨Tryz.call173⟩ rfl (hu _)) ?_|refine aO rfl (aK ⟨Tryz.call173⟩ rfl (hg _)) ?_|refine aO rfl (aK ⟨Tryz.call173⟩ rfl (hd _)) ?_|refine aO rfl (aK ⟨Tryz.call190⟩ rfl (hU _ vl9)) ?_|refine aO rfl (aK ⟨Tryz.call190⟩ rfl (hG _ vl9)) ?_|refine aO rfl (aK ⟨Tryz.call189⟩ rfl (hX _ vl9)) ?_|refine aO rfl (aK ⟨Tryz.call189⟩ rfl (hLo _ vl9)) ?_|refine aO rfl (aK ⟨Tryz.call189⟩ rfl (hS0 _ vl9)) ?_|refine aO rfl (aK ⟨Tryz.call189⟩ rfl (hS1 _ vl9)) ?_))|(refine bH ?_;(first|refine aI (cU (m:=1) uE siz_25 rfl rfl rfl (by decide)) ?_|refine aI (cU (m:=0) uE siz_25 rfl rfl rfl (by decide)) ?_))|refine pu9 ?_)|refine bS ?_|refine cO (id:=15) mixed (by kernel_rfl) ?_)
        all_goals
          refine aY _ (5 - (k+1)) ⟨k+1,s2 ++ tenL (some (g,t)),vl9,rfl,by omega,by rw [fC ho,hs2,List.append_assoc],by rw [List.length_append,Nat.succ_mul];omega,rfl,rfl⟩ (by omega) bG sl9
    · obtain rfl:k=5:=by omega
      rw [List.take_of_length_le (by omega)] at hs2
      repeat' (first|(refine aG ?_;refine pu9 ?_)|refine mV ?_|fail)
      all_goals
        (refine aV Tryz.results170 (aB rfl) (List.Sublist.refl _) ?_)
        exact⟨by rw [hs2,hs];rfl,rfl⟩
end
section
theorem flat_few {α:Type} {f:α→List UInt8} {K:Nat}:∀ {l:List α},(∀ x∈l,(f x).length≤K)→(l.flatMap f).length≤l.length * K
  | [],_=>by simp
  | x :: l,h=>by
    have h1:=h x (by simp)
    have h2:=flat_few (l:=l) fun y hy=>h y (by simp [hy])
    rw [List.flatMap_cons,List.length_append,List.length_cons,Nat.succ_mul];omega
theorem tableP_len {V:aE} {Bs:List Box} {h:HM} (hk:HOk V Bs h):(pW h).length≤300000:=by
  have h1:=flat_few (f:=lowL) (K:=5000) (l:=h.lo) fun o ho=>by
    obtain⟨i,hi⟩:=List.getElem?_of_mem ho
    cases o with
    | none=>simp [lowL]
    | some gl=>exact lowL_len (hk.lo i gl.1 gl.2 hi)
  have h2:=flat_few (f:=tenL) (K:=40000) (l:=h.bx) fun o ho=>by
    obtain⟨i,hi⟩:=List.getElem?_of_mem ho
    cases o with
    | none=>simp [tenL]
    | some gt=>exact tenL_len (g:=gt.1) (hk.bx i gt.1 gt.2 hi).2
  rw [hk.l5] at h1
  rw [hk.b5] at h2
  unfold pW
  rw [List.length_append];omega
theorem dZ {b:Box} {D R:List Box}:lT (b :: (D ++ R)) (b :: D) (fun l=>l ++ R):=⟨[],R,by simp,fun _=>rfl⟩
theorem HOk.bs {V:aE} {R:List Box} {h:HM} (k:HOk V R h) (b:Box) (D:List Box):HOk V (b :: (D ++ R)) h:=⟨k.l5,k.b5,k.lo,fun i g t e=>⟨cG (eM (k.bx i g t e).1),(k.bx i g t e).2⟩,k.inj⟩
def jU (h:HM) (s:DS):DS×Int:=dF [(1 - h.turn) * 6400] 6400 (h.seq+1) (pW h) s
def jS (h:HM) (s:DS):HM:=if (jU h s).2=0 then { h with turn:=1 - h.turn,seq:=h.seq+1 } else { h with off:=true }
attribute [local irreducible] AtQ GoC GoL GoW QO QP Fn RV bF aD VLe bU bA
attribute [local irreducible] FnB
theorem vQ (V:aE) (p:Nat) (h:HM) (s:DS) (D R:List Box) (hD:gC h.d s D) {m W:Nat} (hd:hBd m W s) (hm:m≤1000000) (hW:W≤500000000) (hk:HOk V R h) (ht:0≤h.turn∧h.turn≤1) (hs:0≤h.seq∧h.seq≤1000000000):FnB Tryz.prog 127 [.pointer (some ⟨p,0,none⟩)] V (⟨p,127,hC h⟩ :: (D ++ R)) fun u _ Bs'=>u=bA (jU h s).2∧∃ D',Bs'=⟨p,127,hC (jS h s)⟩ :: (D' ++ R)∧gC h.d (jU h s).1 D':=by
  have htl:=tableP_len hk
  have hT:=fun V9 (h9:VLe V V9)=>table_c V9 p h _ own_here ((hk.le h9).bs ⟨p,127,hC h⟩ D)
  have hS:=fun V9 g (hg:aD V9 g 0 [.int .i64 ((1 - h.turn) * 6400)])=>spread_c V9 p h.d (hC h).tail s D hD hd hm hW (some ⟨g,0,none⟩) 1 1 [(1 - h.turn) * 6400] ⟨rfl,by decide,rfl,fun _=>⟨g,0,rfl,hg⟩⟩ (by intro a ha;rw [List.mem_singleton] at ha;omega) (by decide) 6400 (by decide) (h.seq+1) (by omega) (pW h) (by omega)
  unfold jS
  generalize hcp:jU h s=r at *
  have hcp:dF [(1 - h.turn) * 6400] 6400 (h.seq+1) (pW h) s=r:=hcp
  rw [hcp] at hS
  (refine fn_enterH Tryz.func127 rfl Tryz.ntmps127 rfl ?_;intro w0 hfl0)
  repeat' (first|(refine aG ?_;refine pu9 ?_)|refine bS ?_|fail)
  refine bT (id:=2) _ mixed (List.Sublist.cons_cons _ (List.nil_sublist _)) ?_;refine gt9 0 ?_;refine gt9 1 ?_;refine gt9 2 ?_;refine gt9 4 ?_;refine gt9 5 ?_;refine gt9 6 ?_;refine gt9 7 ?_;refine gt9 8 ?_;refine gt9 9 ?_;(refine iC (i:=3) (j:=10) (by kernel_rfl) rfl rfl rfl rfl vl9 vl9 cC ?_ ?_<;>first|((first|(refine jE rfl hfl0 und_25 siz_3 zec_3 rfl rfl rfl rfl rfl rfl rfl ?_;intro γ V5 hV5 hc5)|(refine aZ rfl und_25 siz_3 zec_3 rfl rfl rfl rfl rfl rfl rfl ?_;intro γ));refine bM (i:=10) rfl ?_;(first|(refine aM rfl ⟨Tryz.call170⟩ rfl bD rfl (hT _ vl9) ?_;rintro v V6 B6 hV6 ⟨rfl,rfl⟩)|(refine aM rfl ⟨Tryz.call132⟩ rfl dZ rfl (hS _ _ (hc5.le vl9)) ?_;rintro v V7 B7 hV7 ⟨rfl,D7,rfl,hD7⟩));refine bM (i:=11) rfl ?_;(first|(refine aM rfl ⟨Tryz.call170⟩ rfl bD rfl (hT _ vl9) ?_;rintro v V6 B6 hV6 ⟨rfl,rfl⟩)|(refine aM rfl ⟨Tryz.call132⟩ rfl dZ rfl (hS _ _ (hc5.le vl9)) ?_;rintro v V7 B7 hV7 ⟨rfl,D7,rfl,hD7⟩));refine gt9 12 ?_;refine bC (by kernel_rfl) vl9 vl9 cC ?_)|((first|(refine aM rfl ⟨Tryz.call170⟩ rfl bD rfl (hT _ vl9) ?_;rintro v V6 B6 hV6 ⟨rfl,rfl⟩)|(refine aM rfl ⟨Tryz.call132⟩ rfl dZ rfl (hS _ _ (hc5.le vl9)) ?_;rintro v V7 B7 hV7 ⟨rfl,D7,rfl,hD7⟩));refine bM (i:=3) rfl ?_;(first|(refine jE rfl hfl0 und_25 siz_3 zec_3 rfl rfl rfl rfl rfl rfl rfl ?_;intro γ V5 hV5 hc5)|(refine aZ rfl und_25 siz_3 zec_3 rfl rfl rfl rfl rfl rfl rfl ?_;intro γ));refine bM (i:=11) rfl ?_;(first|(refine aM rfl ⟨Tryz.call170⟩ rfl bD rfl (hT _ vl9) ?_;rintro v V6 B6 hV6 ⟨rfl,rfl⟩)|(refine aM rfl ⟨Tryz.call132⟩ rfl dZ rfl (hS _ _ (hc5.le vl9)) ?_;rintro v V7 B7 hV7 ⟨rfl,D7,rfl,hD7⟩));refine gt9 12 ?_;refine bC (by kernel_rfl) vl9 vl9 cC ?_))
  all_goals
    by_cases hf:r.2=0
    · rw [if_pos hf]
      repeat' (first|(refine aG ?_;first|refine st9 ?_|refine pu9 ?_)|refine bS ?_|(refine aA rfl ?_ ?_<;>intro hq<;>try exact no9))
      all_goals
        (refine aV Tryz.results127 (aB rfl) (List.Sublist.refl _) ?_)
        exact⟨by rw [hf,bO],D7,rfl,hD7⟩
    · rw [if_neg hf]
      repeat' (first|(refine aG ?_;first|refine st9 ?_|refine pu9 ?_)|refine bS ?_|(refine aA rfl ?_ ?_<;>intro hq<;>try exact no9))
      all_goals
        (refine aV Tryz.results127 (aB rfl) (List.Sublist.refl _) ?_)
        exact⟨rfl,D7,rfl,hD7⟩
end
end Go.Proofs.YtejkmomfpidnbacGreat
