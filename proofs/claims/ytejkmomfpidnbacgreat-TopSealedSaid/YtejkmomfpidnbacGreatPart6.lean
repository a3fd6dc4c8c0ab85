/- Walks and plain laws, part 6: what functions compute, proved once each (LayE2, BoxP, PathE3, Whole, BoxE, BoxE2, Lend, LendN, Nodes, BoxG, BoxA, BoxC, BoxM, AttrE5, BoxS). -/
import Derived.Test.YtejkmomfpidnbacGreatPart5
import Derived.Test.YtejkmomfpidnbacGreatPart4
import Derived.Test.YtejkmomfpidnbacGreatPart3
import Derived.Test.YtejkmomfpidnbacGreatPart1
import Derived.Test.YtejkmomfpidnbacGreatPart2
set_option linter.unusedSimpArgs false
set_option linter.unusedVariables false
set_option maxRecDepth 100000
set_option maxHeartbeats 40000000
namespace Go.Proofs.YtejkmomfpidnbacGreat
open Go.RowKit
section
def eE (n:PN):List UInt8:=if dD true n=0 then qT n else []
theorem tO (n:PN):(eE n).length≤24000:=by
  unfold eE;split
  · rename_i h;exact(pQ h).2
  · simp
def bB (n:PN):Int:=(((eE n).length:Int)+63) / 64
attribute [local irreducible] AtQ GoC GoL GoW QO QP Fn RV bF aD VLe bU bA
theorem Bytes_tc (V:aE) (x:LN) (hx:aT V x):Fn Tryz.prog 55 [lnV x] V fun v _=>v=.tuple #[.string ⟨(eE x.n).toArray⟩,bA (dD true x.n)]:=by
  have hC:=TCheck_c V x hx true
  have hft:dD true x.n=0→cH fitP x.n∧(qT x.n).length≤24000:=pQ
  (refine aN Tryz.func55 rfl Tryz.ntmps55 rfl ?_;intro w0)
  repeat' (first|(refine aG ?_;first|(refine aC ?_;(first|refine aO rfl (aK ⟨Tryz.call16⟩ rfl (hC)) ?_|(refine aM rfl ⟨Tryz.call121⟩ rfl bD rfl (lay_c V x hx _ _ (VLe.refl _) (hft (Decidable.not_not.1 hq)).1 [] _ BldB.nil (by have:=(hft (Decidable.not_not.1 hq)).2;simp;omega)) ?_;rintro v V2 B2 hV2 ⟨rfl,hB2⟩)|(refine aM rfl ⟨Tryz.call122⟩ rfl bD rfl (BString_c _ _ _ B2 hB2 (by have:=(hft (Decidable.not_not.1 hq)).2;simp;omega)) ?_;rintro v V3 B3 hV3 rfl)))|(refine al9 ?_;intro γ)|refine pu9 ?_)|refine bS ?_|(refine aA rfl ?_ ?_<;>intro hq<;>try exact no9))
  · (refine bL Tryz.results55 (aB rfl) (aB rfl) ?_)
    unfold eE;rw [if_neg hq]
  · (refine bL Tryz.results55 (aB rfl) (aB rfl) ?_)
    have hq:=Decidable.not_not.1 hq
    unfold eE;rw [if_pos hq,hq,bO];rfl
theorem TSize_c (V:aE) (x:LN) (hx:aT V x):Fn Tryz.prog 53 [lnV x] V fun v _=>v=.int .i64 ((eE x.n).length:Int):=by
  have hB:=Bytes_tc V x hx
  (refine aN Tryz.func53 rfl Tryz.ntmps53 rfl ?_;intro w0)
  repeat' (first|(refine aG ?_;first|(refine aC ?_;refine aO rfl (aK ⟨Tryz.call55⟩ rfl (hB)) ?_)|(refine al9 ?_;intro γ)|refine pu9 ?_)|refine bS ?_|fail)
  all_goals (refine aR Tryz.results53 (aB rfl) ?_)
  all_goals rfl
theorem sY (V:aE) (x:LN) (hx:aT V x):Fn Tryz.prog 17 [lnV x] V fun v _=>v=.int .i64 (bB x.n):=by
  have hB:=TSize_c V x hx
  have hl:=tO x.n
  (refine aN Tryz.func17 rfl Tryz.ntmps17 rfl ?_;intro w0)
  repeat' (first|(refine aG ?_;first|(refine aC ?_;refine aO rfl (aK ⟨Tryz.call53⟩ rfl (hB)) ?_)|(refine al9 ?_;intro γ)|refine pu9 ?_)|refine bS ?_|fail)
  all_goals (refine aR Tryz.results17 (aB rfl) ?_)
  all_goals (unfold bB;refine congrArg _ ?_;omega)
end
section
structure BX where
  us:List PR
  gs:List PR
  c:CR
  q:Int
  ls:List PN
def vL (up:Bool) (us gs:List PR) (h:Hd):TH:=⟨decide (h.kind=2),h.mode,(if up=true then (pB us h.user).getD 65534 else if (gY us h.user).isSome=true then h.user else 65534),(if up=true then (pB gs h.group).getD 65534 else if (gY gs h.group).isSome=true then h.group else 65534),(if up=true then (pB us h.user).isSome && (pB gs h.group).isSome else (gY us h.user).isSome && (gY gs h.group).isSome)⟩
structure SP where
  is:Bool
  n:PN
  lay:Int
  th:TH
  par:TH
def gZ (b:BX) (ss:List ByteArray) (par:TH):SP :=
  match dT b.ls ss with
  | []=>⟨false,pnZ,0,vL true b.us b.gs hZ,par⟩
  | f :: _=>⟨true,f.1,f.2,vL (decide (f.2=0)) b.us b.gs f.1.h,par⟩
def fF (b:BX) (ss:List ByteArray):Nat→SP×Int
  | 0=>(gZ b [] thZ,0)
  | k+1=>if ¬(fF b ss k).2=0 then fF b ss k
    else if ¬(fF b ss k).1.n.h.kind=2 then ((fF b ss k).1,7)
    else if oS b.c (fF b ss k).1.th 1=false then ((fF b ss k).1,9)
    else if (gZ b (ss.take (k+1)) (fF b ss k).1.th).is=false∧k+1<ss.length then ((fF b ss k).1,5)
    else (gZ b (ss.take (k+1)) (fF b ss k).1.th,0)
def dJ (b:BX) (ss:List ByteArray):SP×Int:=fF b ss ss.length
theorem spotK_stop {b:BX} {ss:List ByteArray} {k:Nat} (h:¬(fF b ss k).2=0):∀ d,fF b ss (k+d)=fF b ss k
  | 0=>rfl
  | d+1=>by
    have:=spotK_stop h d
    rw [←Nat.add_assoc,fF,this,if_pos h]
theorem vI (b:BX) (ss:List ByteArray):∀ k,0≤(fF b ss k).2∧(fF b ss k).2≤9
  | 0=>by simp [fF]
  | k+1=>by
    have:=vI b ss k
    rw [fF]
    (repeat' split)<;>first|exact this|(simp only [];omega)|simp
def dH (b:BX) (l:List UInt8):Int:=if ¬eI l=0 then eI l else if ¬(dJ b (aQ l)).2=0 then (dJ b (aQ l)).2 else if (dJ b (aQ l)).1.is=false then 5 else 0
def bE (b:BX) (l:List UInt8):SP:=(dJ b (aQ l)).1
def kJ (b:BX) (u:PN):BX×Int:=if ¬dD true u=0 then (b,dD true u) else if b.q<bB u then (b,12) else ({ b with ls:=u :: b.ls.tail },0)
def jL (b:BX) (ss:List ByteArray) (f:Hd→Hd):BX×Int :=
  if ¬(upP b.ls b.us b.gs ss).2=0 then (b,(upP b.ls b.us b.gs ss).2)
  else if ss=[] then kJ b (.mk (f (upP b.ls b.us b.gs ss).1.h) (upP b.ls b.us b.gs ss).1.ks)
  else if ¬pF false (.mk (f ((eP (upP b.ls b.us b.gs ss).1 ss).getD pnZ).h) ((eP (upP b.ls b.us b.gs ss).1 ss).getD pnZ).ks) (upP b.ls b.us b.gs ss).1 ss=0 then (b,pF false (.mk (f ((eP (upP b.ls b.us b.gs ss).1 ss).getD pnZ).h) ((eP (upP b.ls b.us b.gs ss).1 ss).getD pnZ).ks) (upP b.ls b.us b.gs ss).1 ss)
  else kJ b (pN false (.mk (f ((eP (upP b.ls b.us b.gs ss).1 ss).getD pnZ).h) ((eP (upP b.ls b.us b.gs ss).1 ss).getD pnZ).ks) (upP b.ls b.us b.gs ss).1 ss)
end
section
theorem ba_get9 (s:ByteArray) (i:Nat):s[i]?=s.toList[i]?:=by
  rw [Lib.toList_data]
  by_cases h:i<s.size
  · rw [getElem?_pos s i h,List.getElem?_eq_getElem (by exact h)];rfl
  · rw [getElem?_neg s i h,List.getElem?_eq_none (by simpa using h)]
theorem u8_47 {b:UInt8}:(b.toNat:Int)=47↔b=47:=by
  constructor
  · intro h;exact UInt8.toNat_inj.1 (by have:(47:UInt8).toNat=47:=rfl;omega)
  · rintro rfl;rfl
theorem ba_inj9 {l m:List UInt8}:(⟨l.toArray⟩:ByteArray)=⟨m.toArray⟩↔l=m:=by
  constructor
  · intro h;have:=congrArg ByteArray.toList h;rwa [oW,oW] at this
  · rintro rfl;rfl
theorem ex_mid9 (l:List UInt8) (i j:Nat):(⟨l.toArray⟩:ByteArray).extract i j=⟨((l.drop i).take (j - i)).toArray⟩:=by
  rw [ba_is ((⟨l.toArray⟩:ByteArray).extract i j),Lib.toList_data]
  simp [ByteArray.data_extract]
section
variable {P : Program} {B : Base} {N : Nat} {F : List (Nat × Value)} {V : aE} {L : List Box}
variable {d : Option Tmp} {ty : TypeId} {pos : String} {af : Array Edge} {gd : Option (Nat × Bool)} {t : TypeId} {x : Operand}
theorem uW {lo:Operand} {l:List UInt8} {i:Nat} (hu:bR P t .string) (hx:evF F x=some (.string ⟨l.toArray⟩)) (hl:evF F lo=some (.int .i64 (i:Int))) (h2:i≤l.length):QP P B N V L ⟨d,.slice t x (some lo) none none,ty,pos,af,gd⟩ F (.string ⟨(l.drop i).toArray⟩):=by
  have:=pT (P:=P) (B:=B) (N:=N) (V:=V) (L:=L) (d:=d) (ty:=ty) (pos:=pos) (af:=af) (gd:=gd) hu hx hl (by rw [oZ];exact h2)
  rw [ex_drop9] at this;exact this
theorem q_sslice_m {lo hi:Operand} {l:List UInt8} {i j:Nat} (hu:bR P t .string) (hx:evF F x=some (.string ⟨l.toArray⟩)) (hl:evF F lo=some (.int .i64 (i:Int))) (hh:evF F hi=some (.int .i64 (j:Int))) (h1:i≤j) (h2:j≤l.length):QP P B N V L ⟨d,.slice t x (some lo) (some hi) none,ty,pos,af,gd⟩ F (.string ⟨((l.drop i).take (j - i)).toArray⟩):=by
  have:=q_sslice (P:=P) (B:=B) (N:=N) (V:=V) (L:=L) (d:=d) (ty:=ty) (pos:=pos) (af:=af) (gd:=gd) hu hx hl hh h1 (by rw [oZ];exact h2)
  rw [ex_mid9] at this;exact this
end
def mQ (l:List UInt8) (er:Value) (v:Value) (V':aE):Prop:=∃ (A:Option Addr) (n c:Nat),v=.tuple #[.slice A n c,er]∧cV V' A n (aQ l)∧n≤c
theorem pathF_root:eI [47]=0:=by unfold eI;rw [if_pos rfl]
theorem pathN_root:aQ [47]=[]:=by unfold aQ;rw [if_neg (fun h=>h.2 rfl)]
theorem pathF_bad {l:List UInt8} (h0:¬l=[47]) (h:l=[]∨¬l.head?=some 47∨79<l.length):eI l=4:=by unfold eI;rw [if_neg h0,if_pos h]
theorem pathF_name {r:List UInt8} (h0:¬r=[]) (h2:r.length≤78) (h:allN (parts r)=false):eI (47 :: r)=4:=by
  unfold eI;rw [if_neg (by simpa using h0),if_neg (by simp;omega),if_pos (by show ¬allN (parts r)=true;rw [h];decide)]
theorem pathF_many {r:List UInt8} (h0:¬r=[]) (h2:r.length≤78) (h:allN (parts r)=true) (h6:6<(parts r).length):eI (47 :: r)=2:=by
  unfold eI;rw [if_neg (by simpa using h0),if_neg (by simp;omega),if_neg (by show ¬¬allN (parts r)=true;rw [h];decide)];exact if_pos h6
theorem pathF_ok {r:List UInt8} (h0:¬r=[]) (h2:r.length≤78) (h:allN (parts r)=true) (h6:¬6<(parts r).length):eI (47 :: r)=0:=by
  unfold eI;rw [if_neg (by simpa using h0),if_neg (by simp;omega),if_neg (by show ¬¬allN (parts r)=true;rw [h];decide)];exact if_neg h6
theorem pathN_no {l:List UInt8} (h:¬eI l=0):aQ l=[]:=by unfold aQ;rw [if_neg (fun hh=>h hh.1)]
theorem pathN_ok {r:List UInt8} (h0:¬r=[]) (h:eI (47 :: r)=0):aQ (47 :: r)=baL (parts r):=by unfold aQ;rw [if_pos ⟨h,by simpa using h0⟩];rfl
theorem pathF_bd (l:List UInt8):0≤eI l∧eI l≤7:=by unfold eI;(repeat' split)<;>omega
theorem allN_no {ps qs:List (List UInt8)} {p:List UInt8} (h:fS p=false):allN (ps ++ p :: qs)=false:=by
  unfold allN;rw [List.all_append,List.all_cons,h];simp
theorem allN_snoc {ps:List (List UInt8)} {p:List UInt8} (h1:allN ps=true) (h:fS p=true):allN (ps ++ [p])=true:=by
  unfold allN at *;rw [List.all_append,h1];simp [h]
theorem baL_snoc {ps:List (List UInt8)} {p:List UInt8}:(baL (ps ++ [p])).flatMap strC=(baL ps).flatMap strC ++ [.string ⟨p.toArray⟩]:=by
  unfold baL;simp
theorem mQ.err {l:List UInt8} {V:aE} {er:Value} (h:¬eI l=0):mQ l er (.tuple #[.slice none 0 0,er]) V:=⟨none,0,0,rfl,by rw [pathN_no h];exact cV.nil,Nat.le_refl _⟩
theorem mQ.root {V:aE} {er:Value}:mQ [47] er (.tuple #[.slice none 0 0,er]) V:=⟨none,0,0,rfl,by rw [pathN_root];exact cV.nil,Nat.le_refl _⟩
theorem mQ.ok {r:List UInt8} {V:aE} {er:Value} {A:Option Addr} {n c:Nat} {ps:List (List UInt8)} (h0:¬r=[]) (h2:r.length≤78) (hp:parts r=ps) (h:allN ps=true) (h6:¬6<ps.length) (hc:fH V 1 A n ((baL ps).flatMap strC)) (hl:ps.length=n) (hnc:n≤c):mQ (47 :: r) er (.tuple #[.slice A n c,er]) V:=by
  subst hp
  refine⟨A,n,c,rfl,?_,hnc⟩
  rw [pathN_ok h0 (pathF_ok h0 h2 h h6)]
  refine⟨fB.of_cells hc (fun _=>rfl) (by unfold baL;rw [List.length_map];exact hl) (by unfold maxLen;omega),fun s hs=>?_⟩
  obtain⟨p,hp,rfl⟩:=List.mem_map.1 hs
  have:=name_size (s:=⟨p.toArray⟩) (by rw [oW];exact List.all_eq_true.1 h p hp)
  unfold maxLen;omega
attribute [local irreducible] AtQ GoC GoL GoW QO QP Fn RV bF aD VLe bU bA
theorem Split_c (V:aE) (l:List UInt8) (hl:l.length≤1000000):Fn Tryz.prog 88 [.string ⟨l.toArray⟩] V (mQ l (bA (eI l))):=by
  have hsz:=oZ l
  by_cases hroot:l=[47]
  · subst hroot
    (refine aN Tryz.func88 rfl Tryz.ntmps88 rfl ?_;intro w0)
    repeat' (first|(refine aG ?_;refine pu9 ?_)|refine bV ?_|fail)
    all_goals first
      | (exfalso;exact hq rfl)
      | ((refine bL Tryz.results88 (aB rfl) (aB rfl) ?_);rw [pathF_root,bO];exact mQ.root)
  by_cases hbad:l=[]∨¬l.head?=some 47∨79<l.length
  · have hf:=pathF_bad hroot hbad
    cases l with
    | nil =>
      (refine aN Tryz.func88 rfl Tryz.ntmps88 rfl ?_;intro w0)
      repeat' (first|(refine aG ?_;refine pu9 ?_)|refine bV ?_|fail)
      all_goals first
        | ((refine bL Tryz.results88 (aB rfl) (aB rfl) ?_);rw [hf,bW (by decide)];exact mQ.err (by omega))
        | (exfalso;first|exact hq rfl|exact hroot (ba_inj9.1 hq))
    | cons a r =>
      have hc:(⟨(a :: r).toArray⟩:ByteArray)[((0:Int)).toNat]?=some a:=by rw [ba_get9,oW];rfl
      have hb:¬a=47∨79<(a :: r).length:=by
        rcases hbad with h|h|h
        · cases h
        · left;rintro rfl;exact h rfl
        · exact .inr h
      (refine aN Tryz.func88 rfl Tryz.ntmps88 rfl ?_;intro w0)
      repeat' (first|(refine aG ?_;first|(refine iL ?_;refine aI (rU und_9 rfl rfl (by omega) (by assumption)) ?_)|refine pu9 ?_)|refine bV ?_|(refine aJ rfl rfl rfl ?_ ?_<;>intro hq<;>try exact no9)|(refine aA rfl ?_ ?_<;>intro hq<;>try exact no9))
      all_goals first
        | ((refine bL Tryz.results88 (aB rfl) (aB rfl) ?_);rw [hf,bW (by decide)];exact mQ.err (by omega))
        | (exfalso;exact hroot ((ba_inj9 (m:=[47])).1 hq))
        | (exfalso;rename_i hb1;have hb3:a=47:=u8_47.1 (by omega);rcases hb with hb|hb;exact hb hb3;rw [hsz] at hq;omega)
  obtain⟨r,rfl⟩:∃ r,l=47 :: r:=by
    cases l with
    | nil=>exact absurd (.inl rfl) hbad
    | cons a r =>
      refine⟨r,?_⟩
      by_cases ha:a=47
      · rw [ha]
      · exact absurd (.inr (.inl (by simpa using ha))) hbad
  have hr0:¬r=[]:=fun e=>hroot (by rw [e])
  have hr78:r.length≤78:=by
    refine Nat.not_lt.1 fun h=>hbad (.inr (.inr ?_));simp only [List.length_cons];omega
  have hc:(⟨(47 :: r).toArray⟩:ByteArray)[((0:Int)).toNat]?=some 47:=by rw [ba_get9,oW];rfl
  (refine aN Tryz.func88 rfl Tryz.ntmps88 rfl ?_;intro w0)
  repeat' (first|(refine aG ?_;first|(refine iL ?_;refine aI (rU und_9 rfl rfl (by omega) (by assumption)) ?_)|(refine fW ?_;(first|refine aI (uW (i:=1) und_9 rfl rfl (by simp)) ?_|refine aI (pT und_9 rfl rfl (by omega)) ?_|refine aI (rA und_9 rfl rfl (by omega)) ?_))|refine pu9 ?_)|refine cM ?_|(refine aA rfl ?_ ?_<;>intro hq<;>try exact no9))
  · exfalso;exact hroot ((ba_inj9 (m:=[47])).1 hq)
  all_goals first
    | (exfalso;rw [hsz] at hq;simp only [List.length_cons] at hq;omega)
    | exact no9
    | skip
  refine bZ (fun F V' L' m=>∃ (u:List UInt8) (ps:List (List UInt8)) (A:Option Addr) (n c:Nat) (LA:List Box),V=V'∧LA=L'∧cX A n c 9 1 ((baL ps).flatMap strC) LA∧ps.length=n∧parts r=ps ++ parts u∧allN ps=true∧n+u.length≤78∧m=u.length∧F=[(4,.slice A n c),(5,.string ⟨u.toArray⟩)]) (m:=r.length) ⟨r,[],none,0,0,[],rfl,rfl,cX.nil,rfl,rfl,rfl,by omega,rfl,rfl⟩ bG rfl sl9 ?_
  rintro F V' L' m ⟨u,ps,A,n,c,LA,rfl,rfl,hr,hn,hps,hall,hnu,rfl,rfl⟩
  have hcut:=SCut_c V u (by omega)
  unfold cutL at hcut
  by_cases h0:0≤Lib.indexByte u 47
  · obtain⟨g1,g2,g3⟩:=index_at h0
    rw [if_pos h0] at hcut
    have hpu:parts u=u.take (Lib.indexByte u 47).toNat :: parts (u.drop ((Lib.indexByte u 47).toNat+1)):=by
      conv=>lhs;rw [g2]
      exact parts_at g1
    rw [hpu] at hps
    have hN:=Name_c V ⟨(u.take (Lib.indexByte u 47).toNat).toArray⟩ (by rw [oZ,List.length_take];omega)
    rw [oW] at hN
    have hdl:(u.drop ((Lib.indexByte u 47).toNat+1)).length<u.length:=by rw [List.length_drop];omega
    generalize u.take (Lib.indexByte u 47).toNat=one at *
    generalize u.drop ((Lib.indexByte u 47).toNat+1)=more at *
    repeat' (first|(refine aG ?_;first|(refine aC ?_;(first|refine aO rfl (aK ⟨Tryz.call148⟩ rfl (hcut)) ?_|refine aO rfl (aK ⟨Tryz.call120⟩ rfl (hN)) ?_|(refine bQ rfl und_40 inf_9 rfl rfl rfl hr bD (fY bN rfl) cI (by omega) rfl rfl ?_;intro A2 c2 L2 hr2)))|(refine dC ?_;(refine aZ rfl und_40 siz_9 zec_9 rfl rfl rfl rfl rfl rfl rfl ?_;intro γ))|refine pu9 ?_)|refine dL ?_|(refine bY rfl ?_ ?_<;>intro hq))
    · (refine bL Tryz.results88 (aB rfl) (aB rfl) ?_)
      have hf:=pathF_name hr0 hr78 (by rw [hps];exact allN_no (pnot_t hq))
      rw [hf,bW (by decide)];exact mQ.err (by omega)
    · refine aY _ more.length ⟨more,ps ++ [one],A2,n+1,c2,L2,rfl,rfl,by rw [baL_snoc];exact hr2,by simp [hn],by rw [hps];simp,allN_snoc hall (pnot_f hq),by omega,rfl,rfl⟩ hdl bG sl9
  · rw [if_neg h0] at hcut
    have hpu:parts u=[u]:=parts_no (index_no (by omega))
    rw [hpu] at hps
    have hN:=Name_c V ⟨u.toArray⟩ (by rw [oZ];omega)
    rw [oW] at hN
    repeat' (first|(refine aG ?_;first|(refine aC ?_;(first|refine aO rfl (aK ⟨Tryz.call148⟩ rfl (hcut)) ?_|refine aO rfl (aK ⟨Tryz.call120⟩ rfl (hN)) ?_|(refine bQ rfl und_40 inf_9 rfl rfl rfl hr bD (fY bN rfl) cI (by omega) rfl rfl ?_;intro A2 c2 L2 hr2;have hcap:=hr2.cap)))|(refine dC ?_;(refine aZ rfl und_40 siz_9 zec_9 rfl rfl rfl rfl rfl rfl rfl ?_;intro γ))|refine pu9 ?_)|refine fG ?_|(refine aA rfl ?_ ?_<;>intro hq<;>try exact no9)|(refine bY rfl ?_ ?_<;>intro hq))
    · (refine bL Tryz.results88 (aB rfl) (aB rfl) ?_)
      have hf:=pathF_name hr0 hr78 (by rw [hps];exact allN_no (pnot_t hq))
      rw [hf,bW (by decide)];exact mQ.err (by omega)
    · (refine bL Tryz.results88 (aB rfl) (aB rfl) ?_)
      rename_i hnm
      have hf:=pathF_many hr0 hr78 (by rw [hps];exact allN_snoc hall (pnot_f hnm)) (by rw [hps];simp;omega)
      rw [hf,bW (by decide)];exact mQ.err (by omega)
    · rename_i hnm
      refine iJ hr2 bD ?_
      intro V2 hV2 hc2
      (refine bL Tryz.results88 (aB rfl) (aB rfl) ?_)
      have h6:¬6<(ps ++ [u]).length:=by simp;omega
      have hall2:=allN_snoc hall (pnot_f hnm)
      rw [pathF_ok hr0 hr78 (by rw [hps];exact hall2) (by rw [hps];exact h6),bO]
      exact mQ.ok hr0 hr78 hps hall2 h6 (by rw [baL_snoc];exact hc2) (by simp [hn]) hcap
end
section
theorem spl_get:∀ (vs cs:List Value) (i j:Nat),i+vs.length≤cs.length→(spl cs i vs)[j]?=if i≤j∧j<i+vs.length then vs[j - i]? else cs[j]?
  | [],cs,i,j,_=>by
    rw [if_neg (by simp)];rfl
  | v :: vs,cs,i,j,h=>by
    rw [List.length_cons] at h
    rw [spl,spl_get vs (cs.set i v) (i+1) j (by rw [List.length_set];omega),List.length_cons]
    by_cases h1:i+1≤j∧j<i+1+vs.length
    · rw [if_pos h1,if_pos (by omega),show j - i=(j - (i+1))+1 by omega,List.getElem?_cons_succ]
    · rw [if_neg h1]
      by_cases h2:j=i
      · subst h2
        rw [if_pos (by omega),Nat.sub_self,List.getElem?_cons_zero,List.getElem?_set_self (by omega)]
      · rw [if_neg (by omega),List.getElem?_set_ne (by omega)]
theorem nI {cs vs:List Value} (h:vs.length=cs.length):spl cs 0 vs=vs:=by
  apply List.ext_getElem?
  intro j
  rw [spl_get vs cs 0 j (by omega)]
  by_cases h1:j<vs.length
  · rw [if_pos (by omega)];rfl
  · rw [if_neg (by omega),List.getElem?_eq_none (by omega),List.getElem?_eq_none (by omega)]
theorem cF.whole (g:Nat) (t:TypeId) (cs:List Value) (L:List Box) (vs:List Value) (h:vs.length=cs.length):cF (⟨g,t,cs⟩ :: L) g 0 vs (⟨g,t,vs⟩ :: L):=by
  have:=cF.here g t cs L 0 vs (by omega)
  rwa [nI h] at this
end
section
structure BI where
  M:LM
  A:Option Addr
  n:Nat
  k:Nat
  K:Option Addr
  m:Nat
  e:Nat
  xs:List LN
abbrev mC (M:LM):List Value:=[.slice M.A M.n M.c,.slice M.B M.m M.e]
abbrev crC (c:CR) (A:Option Addr) (n k:Nat):List Value:=[.int .i64 c.u,.int .i64 c.g,.slice A n k,.int .i64 c.d]
abbrev bxC (I:BI) (b:BX):List Value:=[.slice I.M.A I.M.n I.M.c,.slice I.M.B I.M.m I.M.e,.int .i64 b.c.u,.int .i64 b.c.g,.slice I.A I.n I.k,.int .i64 b.c.d,.int .i64 b.q,.slice I.K I.m I.e]
structure BoxI (V:aE) (b:BX) (I:BI):Prop where
  M:rC V I.M
  us:I.M.us=b.us
  gs:I.M.gs=b.gs
  xs:eD V I.A I.n b.c.xs
  nk:True
  ls:fN V I.K I.m I.xs
  le:I.m≤I.e
  eq:I.xs.map LN.n=b.ls
theorem BoxI.len {V:aE} {b:BX} {I:BI} (h:BoxI V b I):b.ls.length=I.m:=by rw [←h.eq,List.length_map];exact h.ls.1.1
theorem BoxI.up {V V':aE} {b:BX} {I:BI} (h:BoxI V b I) (hv:VLe V V'):BoxI V' b I:=⟨h.M.le hv,h.us,h.gs,h.xs.le hv,h.nk,h.ls.le hv,h.le,h.eq⟩
def pY (V:aE) (p:Nat) (b:BX) (I:BI):Prop:=aD V p 0 (bxC I b)∧BoxI V b I
theorem pY.le {V V':aE} {p:Nat} {b:BX} {I:BI} (h:pY V p b I) (hv:VLe V V'):pY V' p b I:=⟨h.1.le hv,h.2.up hv⟩
theorem lZ {V:aE} {g o:Nat} {xs:List Value} (h:aD V g o xs) (a n:Nat) {ys:List Value} (hy:(xs.drop a).take n=ys):aD V g (o+a) ys:=fun j v hj=>by
  subst hy
  rw [List.getElem?_take] at hj
  split at hj
  · rw [List.getElem?_drop] at hj
    have:=h (a+j) v hj
    rw [show o+a+j=o+(a+j) by omega];exact this
  · cases hj
theorem pY.parts {V:aE} {p:Nat} {b:BX} {I:BI} (h:pY V p b I):aD V p (0+0) (mC I.M)∧aD V p (0+2) (crC b.c I.A I.n I.k)∧V ⟨p,0+6,none⟩=some (.int .i64 b.q)∧V ⟨p,0+7,none⟩=some (.slice I.K I.m I.e) :=
  ⟨lZ h.1 0 2 rfl,lZ h.1 2 4 rfl,h.1 6 _ rfl,h.1 7 _ rfl⟩
structure bI (b:BX):Prop where
  c:kZ b.c.u b.c.g b.c.d b.c.xs=0
  q:1≤b.q∧b.q≤64
  l1:0<b.ls.length
  l4:b.ls.length≤4
  up:∀ x,b.ls[0]?=some x→dD true x=0
  lo:∀ j x,0<j→b.ls[j]?=some x→dD false x=0
theorem bI.tree {b:BX} (h:bI b):∀ x∈b.ls,∃ u,dD u x=0:=fun x hx=>by
  obtain⟨j,hj,rfl⟩:=List.getElem_of_mem hx
  rcases Nat.eq_zero_or_pos j with rfl|h0
  · exact⟨true,h.up _ (List.getElem?_eq_getElem hj)⟩
  · exact⟨false,h.lo j _ h0 (List.getElem?_eq_getElem hj)⟩
theorem fit_small {h:Hd} {ks:PKs} (k:fitP h ks):eR h ks:=by
  obtain⟨_,_,_,_,h5,_,h7,_⟩:=k
  exact⟨by have:=h5.1;omega,by omega⟩
theorem bI.fit {b:BX} (h:bI b):∀ x∈b.ls,cH fitP x:=fun x hx=>by
  obtain⟨u,hu⟩:=h.tree x hx
  exact(pQ hu).1
theorem bI.small {b:BX} (h:bI b):∀ x∈b.ls,cH eR x:=fun x hx=>(h.fit x hx).imp fun _ _=>fit_small
theorem bI.smallL {V:aE} {b:BX} {I:BI} (h:bI b) (hI:BoxI V b I):∀ x∈I.xs,cH eR x.n:=fun x hx=>h.small _ (by rw [←hI.eq];exact List.mem_map_of_mem (f:=LN.n) hx)
theorem bI.names {b:BX} (h:bI b):∀ x∈b.ls,cH nmP x:=fun x hx=>by
  obtain⟨u,hu⟩:=h.tree x hx
  exact tree_names hu
theorem bI.d {b:BX} (h:bI b):0≤b.c.d∧b.c.d≤15:=(eW h.c).2.2.1
theorem bI.root {b:BX} (h:bI b):∃ n0 t,b.ls=n0 :: t∧n0.h.kind=2:=by
  cases hl:b.ls with
  | nil=>have:=h.l1;rw [hl] at this;simp at this
  | cons n0 t=>exact⟨n0,t,rfl,(vW.1 (h.up n0 (by rw [hl];rfl))).1⟩
theorem n_hd' {y:LN} {p:PN} (h:y.n=p):y.h=p.h:=by rw [←h];rfl
section
variable {B : Base} {N : Nat} {F : List (Nat × Value)} {V : aE} {L : List Box}
variable {d : Option Tmp} {ty : TypeId} {pos : String} {af : Array Edge} {gd : Option (Nat × Bool)}
theorem bx_152_0_1_3 {x0 x1 x3:Operand} {a1 a2 a3 a4 a5 a6 a7 a8 c1 c2 c3 c4 c5:Value} {n:Int} (h0:evF F x0=some (.agg #[a1,a2,a3,a4,a5,a6,a7,a8])) (h1:evF F x1=some (.int .i64 n)) (h3:evF F x3=some (.agg #[c1,c2,c3,c4,c5])) :
    QP Tryz.prog B N V L ⟨d,.build 152 #[(0,x0),(1,x1),(3,x3)],ty,pos,af,gd⟩ F (.agg #[a1,a2,a3,a4,a5,a6,a7,a8,.int .i64 n,.bool false,.int .i64 0,.int .i64 0,.int .i64 0,.bool false,c1,c2,c3,c4,c5]) :=
  wD (ps:=[(0,x0),(1,x1),(3,x3)]) (vs:=[(0,.agg #[a1,a2,a3,a4,a5,a6,a7,a8]),(1,.int .i64 n),(3,.agg #[c1,c2,c3,c4,c5])]) (us:=[a1,a2,a3,a4,a5,a6,a7,a8,.int .i64 n,.bool false,.int .i64 0,.int .i64 0,.int .i64 0,.bool false,c1,c2,c3,c4,c5]) bld_152 (by simp [evP,h0,h1,h3]) (by kernel_rfl)
end
abbrev foC (x:LN) (lay:Int) (par th:TH):List Value:=[.int .i64 x.h.kind,.int .i64 x.h.mode,.int .i64 x.h.user,.int .i64 x.h.group,.bool x.h.opq,.slice x.A x.na x.ca,.string x.h.data,.slice x.K x.nk x.ck,.int .i64 lay,.bool par.dir,.int .i64 par.mode,.int .i64 par.user,.int .i64 par.group,.bool par.mapped,.bool th.dir,.int .i64 th.mode,.int .i64 th.user,.int .i64 th.group,.bool th.mapped]
abbrev foV (x:LN) (lay:Int) (par th:TH):Value:=.agg (foC x lay par th).toArray
def FoundR (s:SP) (v:Value) (V':aE):Prop:=∃ x:LN,v=.tuple #[foV x s.lay s.par s.th,.bool s.is]∧aT V' x∧x.n=s.n
theorem xB {b:BX} {ss:List ByteArray} {par:TH} (h:dT b.ls ss=[]):gZ b ss par=⟨false,pnZ,0,vL true b.us b.gs hZ,par⟩:=by unfold gZ;rw [h]
theorem lR {b:BX} {ss:List ByteArray} {par:TH} {f:PF} {t:List PF} (h:dT b.ls ss=f :: t):gZ b ss par=⟨true,f.1,f.2,vL (decide (f.2=0)) b.us b.gs f.1.h,par⟩:=by unfold gZ;rw [h]
attribute [local irreducible] AtQ GoC GoL GoW QO QP Fn RV bF aD VLe bU bA
theorem seen_c (V:aE) (p:Nat) (b:BX) (I:BI) (hok:bI b) (h:pY V p b I) (B:Option Addr) (m e:Nat) (ss:List ByteArray) (hs:cV V B m ss):Fn Tryz.prog 149 [.pointer (some ⟨p,0,none⟩),.slice B m e] V (FoundR (gZ b ss thZ)):=by
  obtain⟨hcM,hcC,hcq,hcl⟩:=h.parts
  have hI:=h.2
  have hm4:I.m≤4:=by rw [←hI.len];exact hok.l4
  have hL:=LookM_c V I.K I.m I.e I.xs hI.ls (by omega) (hok.smallL hI) B m e ss hs
  rw [hI.eq] at hL
  have hS:=fun V' (hV:VLe V V') (x:LN) (hx:aT V' x) (u:Bool) (h0:Hd) (hh:x.h=h0) (th:TH) (ht:vL u b.us b.gs h0=th)=>(by
    have h9:=Seen_c V' I.M (hI.M.le hV) x hx u
    rw [hI.us,hI.gs,hh] at h9
    have e:seenV u b.us b.gs h0=thV th:=by rw [←ht];rfl
    rw [e] at h9
    exact h9:Fn Tryz.prog 182 [lmV I.M,lnV x,.bool u] V' fun v _=>v=thV th)
  rcases hw:dT b.ls ss with _|⟨f,t⟩
  · rw [hw] at hL
    rw [xB hw]
    have hS1:=fun V' (hV:VLe V V')=>hS V' hV lnZ aT.zero true hZ rfl _ rfl
    generalize vL true b.us b.gs hZ=th at hS1 ⊢
    clear hS
    (refine aN Tryz.func149 rfl Tryz.ntmps149 rfl ?_;intro w0)
    repeat' (first|(refine aG ?_;first|(refine aC ?_;(refine aS rfl ⟨Tryz.call151⟩ rfl rfl (hL) ?_;rintro v V1 hV1 (⟨_,rfl⟩|⟨_,_,_,hx,_⟩);rotate_left;cases hx;have hcM1:=hcM.le hV1))|refine st9 ?_|(refine al9 ?_;intro γ)|refine pu9 ?_)|refine bS ?_|fail)
    refine bT (id:=2) _ mixed (List.Sublist.cons_cons _ (List.nil_sublist _)) ?_;refine gt9 0 ?_;refine gt9 1 ?_;refine gt9 2 ?_;refine gt9 3 ?_;refine gt9 4 ?_;refine gt9 5 ?_;refine gt9 6 ?_;refine gt9 7 ?_;refine gt9 8 ?_;refine gt9 11 ?_;refine bM (i:=9) rfl ?_;refine aO rfl (aK ⟨Tryz.call182⟩ rfl (hS1 _ vl9)) ?_;refine gO 10 rfl rfl (bx_152_0_1_3 rfl rfl rfl) ?_;refine bM (i:=12) rfl ?_;refine aP rfl siz_152 rfl rfl rfl rfl cI lP rfl ?_;refine gt9 13 ?_;refine bC (by kernel_rfl) vl9 vl9 cC ?_
    all_goals
      repeat' (first|refine gx9 ?_|fail)
      (refine bL Tryz.results149 (aU agg_152 rfl bN (by exact rfl)) (aB rfl) ?_)
      exact⟨lnZ,rfl,aT.zero,rfl⟩
  · rw [hw] at hL
    rw [lR hw]
    obtain⟨fn,fl⟩:=f
    have hS1:=fun V' (hV:VLe V V') (y:LN) (hy:aT V' y) (hh:y.h=fn.h)=>hS V' hV y hy (decide (fl=0)) fn.h hh _ rfl
    show Fn _ _ _ _ (FoundR ⟨true,fn,fl,vL (decide (fl=0)) b.us b.gs fn.h,thZ⟩)
    generalize vL (decide (fl=0)) b.us b.gs fn.h=th at hS1 ⊢
    clear hS
    (refine aN Tryz.func149 rfl Tryz.ntmps149 rfl ?_;intro w0)
    repeat' (first|(refine aG ?_;first|(refine aC ?_;(refine aS rfl ⟨Tryz.call151⟩ rfl rfl (hL) ?_;rintro v V1 hV1 (⟨hx,_⟩|⟨f',t',y,hx,rfl,hyN,hyn⟩);cases hx;cases hx;have hcM1:=hcM.le hV1))|refine st9 ?_|(refine al9 ?_;intro γ)|refine pu9 ?_)|refine bS ?_|fail)
    have hyh:=n_hd' hyn
    have hS2:=fun V' (hV:VLe V1 V')=>hS1 V' (hV1.trans hV) y (hyN.le hV) hyh
    refine bT (id:=2) _ mixed (List.Sublist.cons_cons _ (List.nil_sublist _)) ?_;refine gt9 0 ?_;refine gt9 1 ?_;refine gt9 2 ?_;refine gt9 3 ?_;refine gt9 4 ?_;refine gt9 5 ?_;refine gt9 6 ?_;refine gt9 7 ?_;refine gt9 8 ?_;refine gt9 11 ?_;refine bM (i:=9) rfl ?_;refine aO rfl (aK ⟨Tryz.call182⟩ rfl (hS2 _ (VLe.refl _))) ?_;refine gO 10 rfl rfl (bx_152_0_1_3 rfl rfl rfl) ?_;refine bM (i:=12) rfl ?_;refine aP rfl siz_152 rfl rfl rfl rfl cI lP rfl ?_;refine gt9 13 ?_;refine bC (by kernel_rfl) vl9 vl9 cC ?_
    all_goals
      repeat' (first|refine gx9 ?_|fail)
      (refine bL Tryz.results149 (aU agg_152 rfl bN (by exact rfl)) (aB rfl) ?_)
      exact⟨y,rfl,hyN.le vl9,hyn⟩
def ToR (s:SP×Int) (v:Value) (V':aE):Prop:=(s.2=0∧∃ x:LN,v=.tuple #[foV x s.1.lay s.1.par s.1.th,.bool s.1.is,bA 0]∧aT V' x∧x.n=s.1.n)∨(¬s.2=0∧v=.tuple #[foV lnZ 0 thZ thZ,.bool false,bA s.2])
theorem look_mode {b:BX} (hok:bI b) (ss:List ByteArray) (par:TH):0≤(gZ b ss par).th.mode∧(gZ b ss par).th.mode≤4095:=by
  cases hw:dT b.ls ss with
  | nil=>rw [xB hw];show 0≤(0:Int)∧(0:Int)≤4095;omega
  | cons f t =>
    rw [lR hw]
    have:=(kE hok.fit ss f (by rw [hw];simp)).here
    exact this.2.1
theorem wT {b:BX} (hok:bI b) (ss:List ByteArray):∀ k,0≤(fF b ss k).1.th.mode∧(fF b ss k).1.th.mode≤4095
  | 0=>look_mode hok _ _
  | k+1=>by
    have ih:=wT hok ss k
    rw [fF]
    (repeat' split)<;>first|exact ih|exact look_mode hok _ _
theorem look_par {b:BX} {ss:List ByteArray} {par:TH}:(gZ b ss par).par=par:=by unfold gZ;split<;>rfl
theorem look_th {b:BX} {ss:List ByteArray} {par par':TH}:(gZ b ss par).th=(gZ b ss par').th∧(gZ b ss par).n=(gZ b ss par').n∧(gZ b ss par).lay=(gZ b ss par').lay∧(gZ b ss par).is=(gZ b ss par').is:=by unfold gZ;split<;>exact⟨rfl,rfl,rfl,rfl⟩
theorem uH {V:aE} {A:Option Addr} {n k:Nat} {xs:List ByteArray} (h:cV V A n xs) (hk:k≤n):cV V A k (xs.take k):=⟨h.1.take hk,fun x hx=>h.2 x (List.mem_of_mem_take hx)⟩
theorem spot_on {b:BX} {ss:List ByteArray} {k:Nat} {s:SP} (h:fF b ss k=(s,0)):fF b ss (k+1)=if ¬s.n.h.kind=2 then (s,7) else if oS b.c s.th 1=false then (s,9) else if (gZ b (ss.take (k+1)) s.th).is=false∧k+1<ss.length then (s,5) else (gZ b (ss.take (k+1)) s.th,0):=by
  rw [fF,h,if_neg (by simp)]
theorem spot_end {b:BX} {ss:List ByteArray} {k:Nat} {r:SP×Int} (h:fF b ss (k+1)=r) (hr:¬r.2=0) (hk:k<ss.length):dJ b ss=r:=by
  have h2:=spotK_stop (b:=b) (ss:=ss) (k:=k+1) (by rw [h];exact hr) (ss.length - (k+1))
  rw [show k+1+(ss.length - (k+1))=ss.length by omega,h] at h2
  exact h2
theorem ToR.no {s:SP×Int} {e:Int} {V':aE} (h:s.2=e) (he:¬e=0):ToR s (.tuple #[foV lnZ 0 thZ thZ,.bool false,.iface 99 (.int .i64 e)]) V':=.inr ⟨by rw [h];exact he,by rw [h,bW he]⟩
theorem to_c (V:aE) (p:Nat) (b:BX) (I:BI) (hok:bI b) (h:pY V p b I) (B:Option Addr) (m e:Nat) (ss:List ByteArray) (hs:cV V B m ss) (hme:m≤e):Fn Tryz.prog 89 [.pointer (some ⟨p,0,none⟩),.slice B m e] V (ToR (dJ b ss)):=by
  have sl:=hs.1.1
  have sm:=hs.1.max
  have hd:=hok.d
  obtain⟨n0,t0,hls,hkd0⟩:=hok.root
  have hr0:dT b.ls []=(n0,0) :: (if n0.h.opq=true then [] else eB (mX 1 t0)):=by
    show mZ b.ls=_
    rw [hls];exact yD hkd0
  have hS0:Fn Tryz.prog 149 [.pointer (some ⟨p,0,none⟩),.slice none 0 0] V (FoundR ⟨true,n0,0,vL true b.us b.gs n0.h,thZ⟩):=by
    have:=seen_c V p b I hok h none 0 0 [] cV.nil
    rw [lR hr0] at this;exact this
  have e0:fF b ss 0=(⟨true,n0,0,vL true b.us b.gs n0.h,thZ⟩,0):=by rw [fF,lR hr0];rfl
  generalize vL true b.us b.gs n0.h=th0 at e0 hS0
  (refine aN Tryz.func89 rfl Tryz.ntmps89 rfl ?_;intro w0)
  repeat' (first|(refine aG ?_;first|(refine aC ?_;(refine aS rfl ⟨Tryz.call149⟩ rfl rfl (hS0) ?_;rintro v V1 hV1 ⟨x,rfl,hxN,hxn⟩))|(refine cY ?_;refine aP rfl siz_152 rfl rfl rfl rfl cI lP rfl ?_)|(refine al9 ?_;intro γ)|refine pu9 ?_)|refine cM ?_|fail)
  rename_i g4
  refine bZ (fun F V' L' m'=>∃ (k:Nat) (x:LN) (n:PN) (lay:Int) (th par:TH),VLe V1 V'∧aT V' x∧x.n=n∧fF b ss k=(⟨true,n,lay,th,par⟩,0)∧[⟨γ,152,foC x lay par th⟩,⟨g4,152,foC lnZ 0 thZ thZ⟩]=L'∧k≤m∧m'=m - k∧F=[(0,.pointer (some ⟨p,0,none⟩)),(1,.slice B m e),(4,.pointer (some ⟨g4,0,none⟩)),(7,.pointer (some ⟨γ,0,none⟩)),(18,.int .i64 m),(19,.int .i64 (k:Int))]) (m:=m) ⟨0,x,n0,0,th0,thZ,VLe.refl _,hxN,hxn,e0,rfl,Nat.zero_le _,by omega,rfl⟩ bG rfl sl9 ?_
  rintro F V' L' m' ⟨k,x,n,lay,th,par,hV',hxN,rfl,hsp,rfl,hkm,rfl,rfl⟩
  have hV0:=hV1.trans hV'
  have hth:=wT hok ss k
  rw [hsp] at hth
  by_cases hlt:k<m
  · have hb':=h.le hV0
    obtain⟨hcM,hcC,hcq,hcl⟩:=hb'.parts
    have hon:=spot_on hsp
    have hend:=fun (r:SP×Int) (hr:fF b ss (k+1)=r) (hn:¬r.2=0)=>spot_end hr hn (by omega)
    by_cases hkd:x.n.h.kind=2
    · have hMay:=fun V2 (hV2:VLe V' V2)=>May_c V2 b.c I.A I.n I.k (hb'.2.xs.le hV2) hd th hth 1 (.inl rfl)
      cases hmy:oS b.c th 1 with
      | false =>
        rw [hmy] at hMay
        have hsp2:=hend _ (hon.trans (by rw [if_neg (not_not_intro hkd),if_pos hmy])) (by simp)
        repeat' (first|(refine aG ?_;first|(refine aC ?_;refine aO rfl (aK ⟨Tryz.call87⟩ rfl (hMay _ vl9)) ?_)|(refine cY ?_;refine aP rfl siz_152 rfl rfl rfl rfl cI lP rfl ?_)|refine pu9 ?_)|refine dL ?_|(refine aA rfl ?_ ?_<;>intro hq<;>try exact no9)|refine cO (id:=7) mixed (by kernel_rfl) ?_)
        all_goals first
          | (exfalso;exact absurd hkd (by assumption))
          | skip
        all_goals
          (refine jW Tryz.results89 (aU agg_152 rfl bN (by exact rfl)) (aB rfl) (aB rfl) ?_)
          rw [hsp2]
          exact ToR.no rfl (by decide)
      | true =>
        rw [hmy] at hMay
        rw [if_neg (not_not_intro hkd),if_neg (by rw [hmy];decide)] at hon
        have hstr:=uH (hs.le hV0) (k:=k+1) (by omega)
        have hS:=seen_c V' p b I hok hb' B (k+1) e _ hstr
        have hl1:=look_th (b:=b) (ss:=ss.take (k+1)) (par:=th) (par':=thZ)
        have hl2:=look_par (b:=b) (ss:=ss.take (k+1)) (par:=th)
        have hS':=fun V2 (hV2:VLe V' V2)=>seen_c V2 p b I hok (hb'.le hV2) B (k+1) e _ (hstr.le hV2)
        generalize gZ b (ss.take (k+1)) thZ=s9 at hl1 hS hS'
        generalize hs8:gZ b (ss.take (k+1)) th=s8 at hl1 hl2 hon
        obtain⟨is8,n8,lay8,th8,par8⟩:=s8
        obtain⟨is9,n9,lay9,th9,par9⟩:=s9
        obtain⟨l1,l2,l3,l4⟩:=hl1
        simp only at l1 l2 l3 l4 hl2
        subst l1 l2 l3 l4 hl2
        simp only at hon
        have hon:fF b ss (k+1)=if is8=false∧k+1<ss.length then (⟨true,x.n,lay,par8,par⟩,5) else (⟨is8,n8,lay8,th8,par8⟩,0):=hon
        have e11:((k:Int)+1).toNat=k+1:=by omega
        cases is8 with
        | false =>
          by_cases hk1:k+1<m
          · have hsp2:=hend _ (hon.trans (if_pos ⟨rfl,by omega⟩)) (by simp)
            repeat' (first|(refine aG ?_;first|(refine aC ?_;(first|refine aO rfl (aK ⟨Tryz.call87⟩ rfl (hMay _ vl9)) ?_|(refine aS rfl ⟨Tryz.call149⟩ rfl rfl (hS' _ vl9) ?_;rintro v V3 hV3 ⟨y,rfl,hyN,hyn⟩)))|(refine cY ?_;refine aP rfl siz_152 rfl rfl rfl rfl cI lP rfl ?_)|(refine fW ?_;(first|refine aI (dY (h:=k+1) und_40 siz_9 rfl rfl (by omega)) ?_|refine aI (dY und_40 siz_9 rfl rfl (by omega)) ?_|refine aI (gQ und_40 siz_9 rfl rfl (by omega)) ?_))|(refine al9 ?_;intro γ)|refine pu9 ?_)|refine dL ?_|(refine aA rfl ?_ ?_<;>intro hq<;>try exact no9)|refine cO (id:=7) mixed (by kernel_rfl) ?_)
            all_goals first
              | (exfalso;exact absurd hkd (by assumption))
              | exact no9
              | skip
            all_goals
              (refine jW Tryz.results89 (aU agg_152 rfl bN (by exact rfl)) (aB rfl) (aB rfl) ?_)
              rw [hsp2]
              exact ToR.no rfl (by decide)
          · have hfin:dJ b ss=(⟨false,n8,lay8,th8,par8⟩,0):=by
              have:=hon.trans (if_neg (by rintro ⟨_,h9⟩;omega))
              unfold dJ
              rw [show ss.length=k+1 by omega];exact this
            repeat' (first|(refine aG ?_;first|(refine aC ?_;(first|refine aO rfl (aK ⟨Tryz.call87⟩ rfl (hMay _ vl9)) ?_|(refine aS rfl ⟨Tryz.call149⟩ rfl rfl (hS' _ vl9) ?_;rintro v V3 hV3 ⟨y,rfl,hyN,hyn⟩)))|(refine cY ?_;refine aP rfl siz_152 rfl rfl rfl rfl cI lP rfl ?_)|(refine fW ?_;(first|refine aI (dY (h:=k+1) und_40 siz_9 rfl rfl (by omega)) ?_|refine aI (dY und_40 siz_9 rfl rfl (by omega)) ?_|refine aI (gQ und_40 siz_9 rfl rfl (by omega)) ?_))|refine st9 ?_|(refine al9 ?_;intro γ)|refine pu9 ?_)|refine dL ?_|(refine aA rfl ?_ ?_<;>intro hq<;>try exact no9)|refine cO (id:=7) mixed (by kernel_rfl) ?_)
            all_goals first
              | (exfalso;exact absurd hkd (by assumption))
              | exact no9
              | skip
            all_goals
              (refine jW Tryz.results89 (aU agg_152 rfl bN (by exact rfl)) (aB rfl) (aB rfl) ?_)
              rw [hfin]
              exact .inl ⟨rfl,y,(by rw [bO];first|done|rfl),hyN.le vl9,hyn⟩
        | true =>
          have hnx:=hon.trans (if_neg (by rintro ⟨h9,_⟩;cases h9))
          repeat' (first|(refine aG ?_;first|(refine aC ?_;(first|refine aO rfl (aK ⟨Tryz.call87⟩ rfl (hMay _ vl9)) ?_|(refine aS rfl ⟨Tryz.call149⟩ rfl rfl (hS' _ vl9) ?_;rintro v V3 hV3 ⟨y,rfl,hyN,hyn⟩)))|(refine cY ?_;refine aP rfl siz_152 rfl rfl rfl rfl cI lP rfl ?_)|(refine fW ?_;(first|refine aI (dY (h:=k+1) und_40 siz_9 rfl rfl (by omega)) ?_|refine aI (dY und_40 siz_9 rfl rfl (by omega)) ?_|refine aI (gQ und_40 siz_9 rfl rfl (by omega)) ?_))|refine st9 ?_|(refine al9 ?_;intro γ)|refine pu9 ?_)|refine dL ?_|(refine aA rfl ?_ ?_<;>intro hq<;>try exact no9)|refine cO (id:=7) mixed (by kernel_rfl) ?_)
          all_goals first
            | (exfalso;exact absurd hkd (by assumption))
            | exact no9
            | skip
          all_goals refine aY _ (m - (k+1)) ⟨k+1,y,n8,lay8,th8,par8,hV'.trans hV3,hyN,hyn,hnx,rfl,by omega,rfl,rfl⟩ (by omega) bG sl9
    · have hsp2:=hend _ (hon.trans (if_pos hkd)) (by simp)
      repeat' (first|(refine aG ?_;first|(refine cY ?_;refine aP rfl siz_152 rfl rfl rfl rfl cI lP rfl ?_)|refine pu9 ?_)|refine cM ?_|(refine aA rfl ?_ ?_<;>intro hq<;>try exact no9))
      all_goals first
        | (exfalso;exact absurd (by assumption) hkd)
        | (exfalso;exact absurd hkd (by assumption))
        | (exfalso;rename_i hq9;exact hq9 hkd)
        | skip
      all_goals
        (refine jW Tryz.results89 (aU agg_152 rfl bN (by exact rfl)) (aB rfl) (aB rfl) ?_)
        rw [hsp2]
        exact ToR.no rfl (by decide)
  · obtain rfl:k=m:=by omega
    have hfin:dJ b ss=(⟨true,x.n,lay,th,par⟩,0):=by
      unfold dJ
      rw [sl];exact hsp
    repeat' (first|(refine aG ?_;first|(refine cY ?_;refine aP rfl siz_152 rfl rfl rfl rfl cI lP rfl ?_)|refine pu9 ?_)|refine eT ?_|(refine aA rfl ?_ ?_<;>intro hq<;>try exact no9))
    all_goals try exact no9
    all_goals
      (refine jW Tryz.results89 (aU agg_152 rfl bN (by exact rfl)) (aB rfl) (aB rfl) ?_)
      rw [hfin]
      exact .inl ⟨rfl,x,(by rw [bO];first|done|rfl),hxN.le vl9,rfl⟩
end
section
def oQ (b:BX) (l:List UInt8) (v:Value) (V':aE):Prop:=(dH b l=0∧∃ (A:Option Addr) (n c:Nat) (x:LN),v=.tuple #[.slice A n c,foV x (bE b l).lay (bE b l).par (bE b l).th,bA 0]∧cV V' A n (aQ l)∧n≤c∧aT V' x∧x.n=(bE b l).n)∨(¬dH b l=0∧∃ (A:Option Addr) (n c:Nat) (x:LN) (lay:Int) (par th:TH),v=.tuple #[.slice A n c,foV x lay par th,bA (dH b l)])
theorem oQ.no {b:BX} {l:List UInt8} {e:Int} {A:Option Addr} {n c:Nat} {x:LN} {lay:Int} {par th:TH} {V':aE} (h:dH b l=e) (he:¬e=0):oQ b l (.tuple #[.slice A n c,foV x lay par th,bA e]) V':=.inr ⟨by rw [h];exact he,A,n,c,x,lay,par,th,by rw [h]⟩
theorem there_path {b:BX} {l:List UInt8} (h:¬eI l=0):dH b l=eI l:=if_pos h
theorem there_spot {b:BX} {l:List UInt8} (h:eI l=0) (h2:¬(dJ b (aQ l)).2=0):dH b l=(dJ b (aQ l)).2:=by unfold dH;rw [if_neg (not_not_intro h),if_pos h2]
theorem there_none {b:BX} {l:List UInt8} (h:eI l=0) (h2:(dJ b (aQ l)).2=0) (h3:(dJ b (aQ l)).1.is=false):dH b l=5:=by unfold dH;rw [if_neg (not_not_intro h),if_neg (not_not_intro h2),if_pos h3]
theorem there_ok {b:BX} {l:List UInt8} (h:eI l=0) (h2:(dJ b (aQ l)).2=0) (h3:(dJ b (aQ l)).1.is=true):dH b l=0:=by unfold dH;rw [if_neg (not_not_intro h),if_neg (not_not_intro h2),if_neg (by rw [h3];decide)]
attribute [local irreducible] AtQ GoC GoL GoW QO QP Fn RV bF aD VLe bU bA
theorem there_c (V:aE) (p:Nat) (b:BX) (I:BI) (hok:bI b) (h:pY V p b I) (l:List UInt8) (hl:l.length≤1000000):Fn Tryz.prog 85 [.pointer (some ⟨p,0,none⟩),.string ⟨l.toArray⟩] V (oQ b l):=by
  have hS:=Split_c V l hl
  have hsb:=vI b (aQ l) (aQ l).length
  by_cases hp:eI l=0
  · rw [hp] at hS
    (refine aN Tryz.func85 rfl Tryz.ntmps85 rfl ?_;intro w0)
    repeat' (first|(refine aG ?_;first|(refine aC ?_;(refine aS rfl ⟨Tryz.call88⟩ rfl rfl (hS) ?_;rintro v V1 hV1 ⟨A1,n1,c1,rfl,hS1,hc1⟩))|(refine bK ?_;refine aI (oV rfl) ?_)|(refine al9 ?_;intro γ)|refine pu9 ?_)|refine bV ?_|fail)
    have hT:=to_c V1 p b I hok (h.le hV1) A1 n1 c1 _ hS1 hc1
    by_cases hs2:(dJ b (aQ l)).2=0
    · cases his:(dJ b (aQ l)).1.is with
      | false =>
        have hth:=there_none hp hs2 his
        rw [show dJ b (aQ l)=((dJ b (aQ l)).1,(dJ b (aQ l)).2) from rfl] at hT
        generalize (dJ b (aQ l)).1=s at *
        obtain⟨is0,n0,lay0,th0,par0⟩:=s
        simp only at his
        subst his
        repeat' (first|(refine aG ?_;first|(refine aC ?_;(refine aS rfl ⟨Tryz.call89⟩ rfl rfl (hT) ?_;rintro v V2 hV2 (⟨_,x,rfl,hxN,hxn⟩|⟨hx,_⟩);rotate_left;exact absurd hs2 hx))|(refine bK ?_;refine aI (oV rfl) ?_)|(refine cY ?_;refine aP rfl siz_152 rfl rfl rfl rfl cI lP rfl ?_)|(refine al9 ?_;intro γ)|refine pu9 ?_)|refine bV ?_|fail)
        refine bT (id:=7) _ mixed (List.Sublist.cons_cons _ (List.nil_sublist _)) ?_;refine gt9 0 ?_;refine gt9 1 ?_;refine gt9 2 ?_;refine gt9 3 ?_;refine bM (i:=4) rfl ?_;refine aP rfl siz_152 rfl rfl rfl rfl cI lP rfl ?_;refine gt9 5 ?_;refine bC (by kernel_rfl) vl9 vl9 cC ?_
        all_goals
          repeat' (first|refine gx9 ?_|fail)
          (refine jW Tryz.results85 (aB rfl) (aU agg_152 rfl bN (by exact rfl)) (aB rfl) ?_)
          rw [←bW (e:=5) (by decide)]
          exact oQ.no hth (by decide)
      | true =>
        have hth:=there_ok hp hs2 his
        have hts:bE b l=(dJ b (aQ l)).1:=rfl
        rw [show dJ b (aQ l)=((dJ b (aQ l)).1,(dJ b (aQ l)).2) from rfl] at hT
        generalize (dJ b (aQ l)).1=s at *
        obtain⟨is0,n0,lay0,th0,par0⟩:=s
        simp only at his
        subst his
        repeat' (first|(refine aG ?_;first|(refine aC ?_;(refine aS rfl ⟨Tryz.call89⟩ rfl rfl (hT) ?_;rintro v V2 hV2 (⟨_,x,rfl,hxN,hxn⟩|⟨hx,_⟩);rotate_left;exact absurd hs2 hx))|(refine bK ?_;refine aI (oV rfl) ?_)|(refine cY ?_;refine aP rfl siz_152 rfl rfl rfl rfl cI lP rfl ?_)|(refine al9 ?_;intro γ)|refine pu9 ?_)|refine bV ?_|fail)
        refine bT (id:=7) _ mixed (List.Sublist.cons_cons _ (List.nil_sublist _)) ?_;refine gt9 0 ?_;refine gt9 1 ?_;refine gt9 2 ?_;refine gt9 3 ?_;refine bM (i:=4) rfl ?_;refine aP rfl siz_152 rfl rfl rfl rfl cI lP rfl ?_;refine gt9 5 ?_;refine bC (by kernel_rfl) vl9 vl9 cC ?_
        all_goals
          repeat' (first|refine gx9 ?_|fail)
          (refine jW Tryz.results85 (aB rfl) (aU agg_152 rfl bN (by exact rfl)) (aB rfl) ?_)
          refine .inl ⟨hth,A1,n1,c1,x,?_,hS1.le hV2,hc1,hxN,by rw [hts];exact hxn⟩
          rw [hts]
          first|done|rfl
    · have hth:=there_spot hp hs2
      repeat' (first|(refine aG ?_;first|(refine aC ?_;(refine aS rfl ⟨Tryz.call89⟩ rfl rfl (hT) ?_;rintro v V2 hV2 (⟨hx,_⟩|⟨_,rfl⟩);exact absurd hx hs2))|(refine bK ?_;refine aI (oV rfl) ?_)|(refine cY ?_;refine aP rfl siz_152 rfl rfl rfl rfl cI lP rfl ?_)|(refine al9 ?_;intro γ)|refine pu9 ?_)|refine bV ?_|(refine aJ rfl rfl rfl ?_ ?_<;>intro hq<;>try exact no9))
      all_goals first
        | (exfalso;exact hs2 (by assumption))
        | skip
      refine bT (id:=7) _ mixed (List.Sublist.cons_cons _ (List.nil_sublist _)) ?_;refine gt9 0 ?_;refine gt9 1 ?_;refine gt9 2 ?_;refine gt9 3 ?_;refine bM (i:=4) rfl ?_;refine aP rfl siz_152 rfl rfl rfl rfl cI lP rfl ?_;refine gt9 5 ?_;refine bC (by kernel_rfl) vl9 vl9 cC ?_
      all_goals
        repeat' (first|refine gx9 ?_|fail)
        (refine jW Tryz.results85 (aB rfl) (aU agg_152 rfl bN (by exact rfl)) (aB rfl) ?_)
        exact oQ.no hth hs2
  · have hth:=there_path (b:=b) hp
    (refine aN Tryz.func85 rfl Tryz.ntmps85 rfl ?_;intro w0)
    repeat' (first|(refine aG ?_;first|(refine aC ?_;(refine aS rfl ⟨Tryz.call88⟩ rfl rfl (hS) ?_;rintro v V1 hV1 ⟨A1,n1,c1,rfl,hS1,hc1⟩))|(refine bK ?_;refine aI (oV rfl) ?_)|(refine cY ?_;refine aP rfl siz_152 rfl rfl rfl rfl cI lP rfl ?_)|(refine al9 ?_;intro γ)|refine pu9 ?_)|refine bS ?_|(refine aA rfl ?_ ?_<;>intro hq<;>try exact no9))
    all_goals first
      | (exfalso;exact absurd hp (by assumption))
      | skip
    all_goals
      (refine jW Tryz.results85 (aB rfl) (aU agg_152 rfl bN (by exact rfl)) (aB rfl) ?_)
      exact oQ.no (x:=lnZ) (lay:=0) (par:=thZ) (th:=thZ) hth hp
def gH (b:BX) (s:SP):Int:=if oS b.c s.par 2=false then 9 else if takesT b.c s.par s.th=false then 10 else 0
theorem takes_c (V:aE) (p:Nat) (b:BX) (I:BI) (hok:bI b) (h:pY V p b I) (x:LN) (lay:Int) (s:SP) (hp:0≤s.par.mode∧s.par.mode≤4095) (ht:0≤s.th.mode∧s.th.mode≤4095):Fn Tryz.prog 94 [.pointer (some ⟨p,0,none⟩),foV x lay s.par s.th] V fun v _=>v=bA (gH b s):=by
  obtain⟨hcM,hcC,hcq,hcl⟩:=h.parts
  have hd:=hok.d
  have hMay:=fun V2 (hV2:VLe V V2)=>May_c V2 b.c I.A I.n I.k (h.2.xs.le hV2) hd s.par hp 2 (.inr (.inl rfl))
  have hTk:=fun V2=>Takes_c V2 b.c I.A I.n I.k hd s.par s.th hp
  cases hmy:oS b.c s.par 2 with
  | false =>
    have e:gH b s=9:=if_pos hmy
    rw [e]
    rw [hmy] at hMay
    (refine aN Tryz.func94 rfl Tryz.ntmps94 rfl ?_;intro w0)
    repeat' (first|(refine aG ?_;first|(refine aC ?_;refine aO rfl (aK ⟨Tryz.call87⟩ rfl (hMay _ vl9)) ?_)|(refine al9 ?_;intro γ)|refine pu9 ?_)|refine bV ?_|refine cO (id:=1) mixed (by kernel_rfl) ?_)
    all_goals
      (refine aR Tryz.results94 (aB rfl) ?_)
      exact cP 9 rfl
  | true =>
    rw [hmy] at hMay
    cases htk:takesT b.c s.par s.th with
    | false =>
      have e:gH b s=10:=by unfold gH;rw [if_neg (by rw [hmy];decide),if_pos htk]
      rw [e]
      rw [htk] at hTk
      (refine aN Tryz.func94 rfl Tryz.ntmps94 rfl ?_;intro w0)
      repeat' (first|(refine aG ?_;first|(refine aC ?_;(first|refine aO rfl (aK ⟨Tryz.call87⟩ rfl (hMay _ vl9)) ?_|refine aO rfl (aK ⟨Tryz.call150⟩ rfl (hTk _)) ?_))|(refine al9 ?_;intro γ)|refine pu9 ?_)|refine bV ?_|refine cO (id:=1) mixed (by kernel_rfl) ?_|refine cO (id:=3) mixed (by kernel_rfl) ?_)
      all_goals
        (refine aR Tryz.results94 (aB rfl) ?_)
        exact cP 10 rfl
    | true =>
      have e:gH b s=0:=by unfold gH;rw [if_neg (by rw [hmy];decide),if_neg (by rw [htk];decide)]
      rw [e]
      rw [htk] at hTk
      (refine aN Tryz.func94 rfl Tryz.ntmps94 rfl ?_;intro w0)
      repeat' (first|(refine aG ?_;first|(refine aC ?_;(first|refine aO rfl (aK ⟨Tryz.call87⟩ rfl (hMay _ vl9)) ?_|refine aO rfl (aK ⟨Tryz.call150⟩ rfl (hTk _)) ?_))|(refine al9 ?_;intro γ)|refine pu9 ?_)|refine bV ?_|refine cO (id:=1) mixed (by kernel_rfl) ?_|refine cO (id:=3) mixed (by kernel_rfl) ?_)
      all_goals
        (refine aR Tryz.results94 (aB rfl) ?_)
        exact bO.symm
def jG (b:BX) (th:TH) (nm:ByteArray) (want:Int):Int:=if eV nm=1 then (if oS b.c th want=false then 9 else 0) else if uU b.c th=false then 10 else 0
theorem attrs_c (V:aE) (p:Nat) (b:BX) (I:BI) (hok:bI b) (h:pY V p b I) (th:TH) (ht:0≤th.mode∧th.mode≤4095) (nm:ByteArray) (hm:nm.size≤9223372036854775807) (want:Int) (hw:want=1∨want=2∨want=4):Fn Tryz.prog 109 [.pointer (some ⟨p,0,none⟩),thV th,.string nm,.int .i64 want] V fun v _=>v=bA (jG b th nm want):=by
  obtain⟨hcM,hcC,hcq,hcl⟩:=h.parts
  have hd:=hok.d
  have hMay:=fun V2 (hV2:VLe V V2)=>May_c V2 b.c I.A I.n I.k (h.2.xs.le hV2) hd th ht want hw
  have hOw:=fun V2=>Owns_c V2 b.c I.A I.n I.k hd th
  have hC:=fun V2=>kV V2 nm hm
  have e:jG b th nm want=if eV nm=1 then (if oS b.c th want=false then 9 else 0) else if uU b.c th=false then 10 else 0:=rfl
  rw [e]
  generalize oS b.c th want=m1 at *
  generalize uU b.c th=o1 at *
  (refine aN Tryz.func109 rfl Tryz.ntmps109 rfl ?_;intro w0)
  repeat' (first|(refine aG ?_;first|(refine aC ?_;(first|refine aO rfl (aK ⟨Tryz.call108⟩ rfl (hC _)) ?_|refine aO rfl (aK ⟨Tryz.call87⟩ rfl (hMay _ vl9)) ?_|refine aO rfl (aK ⟨Tryz.call102⟩ rfl (hOw _)) ?_))|(refine al9 ?_;intro γ)|refine pu9 ?_)|refine bS ?_|(refine aA rfl ?_ ?_<;>intro hq<;>try exact no9)|(refine bY rfl ?_ ?_<;>intro hq)|refine cO (id:=2) mixed (by kernel_rfl) ?_|refine cO (id:=5) mixed (by kernel_rfl) ?_)
  all_goals
    (refine aR Tryz.results109 (aB rfl) ?_)
    first
      | (rw [if_pos (by assumption),if_pos (by simpa using hq)];exact cP 9 rfl)
      | (rw [if_pos (by assumption),if_neg (by simpa using hq)];exact bO.symm)
      | (rw [if_neg (by assumption),if_pos (by simpa using hq)];exact cP 10 rfl)
      | (rw [if_neg (by assumption),if_neg (by simpa using hq)];exact bO.symm)
structure CL where
  op:Int
  path:ByteArray
  other:ByteArray
  name:ByteArray
  data:ByteArray
  a:Int
  b:Int
abbrev clC (c:CL):List Value:=[.int .i64 c.op,.string c.path,.string c.other,.string c.name,.string c.data,.int .i64 c.a,.int .i64 c.b]
abbrev clV (c:CL):Value:=.agg #[.int .i64 c.op,.string c.path,.string c.other,.string c.name,.string c.data,.int .i64 c.a,.int .i64 c.b]
structure TD where
  kind:Int
  mode:Int
  user:Int
  group:Int
  size:Int
  names:List ByteArray
  data:ByteArray
def tdZ:TD:=⟨0,0,0,0,0,[],⟨#[]⟩⟩
abbrev tdV (t:TD) (A:Option Addr) (n c:Nat):Value:=.agg #[.int .i64 t.kind,.int .i64 t.mode,.int .i64 t.user,.int .i64 t.group,.int .i64 t.size,.slice A n c,.string t.data]
def gJ (r:TD×Int) (ev:Value) (v:Value) (V':aE):Prop:=∃ (A:Option Addr) (n c:Nat),v=.tuple #[tdV r.1 A n c,ev]∧cV V' A n r.1.names∧n≤c
theorem gJ.zero {ev:Value} {e:Int} {V':aE}:gJ (tdZ,e) ev (.tuple #[tdV tdZ none 0 0,ev]) V':=⟨none,0,0,rfl,cV.nil,Nat.le_refl _⟩
theorem gJ.no {e:Int} {V':aE} (he:¬e=0):gJ (tdZ,e) (bA e) (.tuple #[tdV tdZ none 0 0,.iface 99 (.int .i64 e)]) V':=by rw [bW he];exact gJ.zero
def mS (b:BX) (c:CL):TD×Int :=
  if ¬dH b (aH c.path)=0 then (tdZ,dH b (aH c.path))
  else if c.op=1 then (⟨(bE b (aH c.path)).n.h.kind,(bE b (aH c.path)).n.h.mode,(bE b (aH c.path)).th.user,(bE b (aH c.path)).th.group,((bE b (aH c.path)).n.h.data.size:Int)+((lC (dT b.ls (aQ (aH c.path)))).length:Int),[],⟨#[]⟩⟩,0)
  else if ¬(bE b (aH c.path)).th.dir=decide (c.op=2) then (tdZ,7)
  else if oS b.c (bE b (aH c.path)).th 4=false then (tdZ,9)
  else (⟨0,0,0,0,0,lC (dT b.ls (aQ (aH c.path))),(bE b (aH c.path)).n.h.data⟩,0)
theorem there_s (V:aE) (p:Nat) (b:BX) (I:BI) (hok:bI b) (h:pY V p b I) (s:ByteArray) (hl:s.size≤1000000):Fn Tryz.prog 85 [.pointer (some ⟨p,0,none⟩),.string s] V (oQ b (aH s)):=by
  have:=there_c V p b I hok h (aH s) (by show s.data.toList.length≤1000000;rw [Array.length_toList];exact hl)
  have e:(⟨(aH s).toArray⟩:ByteArray)=s:=kH s
  rw [e] at this;exact this
theorem iU {b:BX} (hok:bI b) (l:List UInt8):0≤(bE b l).th.mode∧(bE b l).th.mode≤4095:=wT hok _ _
theorem look_data {b:BX} (hok:bI b) (ss:List ByteArray) (par:TH):(gZ b ss par).n.h.data.size≤200:=by
  cases hw:dT b.ls ss with
  | nil=>rw [xB hw];exact Nat.zero_le _
  | cons f t =>
    rw [lR hw]
    have:=(kE hok.fit ss f (by rw [hw];simp)).here
    exact this.2.2.2.2.2.1
theorem spot_data {b:BX} (hok:bI b) (ss:List ByteArray):∀ k,(fF b ss k).1.n.h.data.size≤200
  | 0=>look_data hok _ _
  | k+1=>by
    have ih:=spot_data hok ss k
    rw [fF]
    (repeat' split)<;>first|exact ih|exact look_data hok _ _
theorem there_data {b:BX} (hok:bI b) (l:List UInt8):(bE b l).n.h.data.size≤200:=spot_data hok _ _
theorem box_names {b:BX} (hok:bI b) (ss:List ByteArray):(eX (dT b.ls ss)).length≤1000000:=by
  have h1:=names_few (kE (p:=eR) hok.small ss)
  have h2:=sN b.ls ss
  have h3:=hok.l4
  omega
theorem look_c (V:aE) (p:Nat) (b:BX) (I:BI) (hok:bI b) (h:pY V p b I) (c:CL) (hc:c.path.size≤1000000):Fn Tryz.prog 40 [.pointer (some ⟨p,0,none⟩),clV c] V (gJ (mS b c) (bA (mS b c).2)):=by
  have hT:=there_s V p b I hok h c.path hc
  have hmo:=iU hok (aH c.path)
  have hd:=hok.d
  have hm4:I.m≤4:=by rw [←h.2.len];exact hok.l4
  have hnm:=box_names hok (aQ (aH c.path))
  by_cases hf:dH b (aH c.path)=0
  · have e1:mS b c=if c.op=1 then (⟨(bE b (aH c.path)).n.h.kind,(bE b (aH c.path)).n.h.mode,(bE b (aH c.path)).th.user,(bE b (aH c.path)).th.group,((bE b (aH c.path)).n.h.data.size:Int)+((lC (dT b.ls (aQ (aH c.path)))).length:Int),[],⟨#[]⟩⟩,0)
      else if ¬(bE b (aH c.path)).th.dir=decide (c.op=2) then (tdZ,7)
      else if oS b.c (bE b (aH c.path)).th 4=false then (tdZ,9)
      else (⟨0,0,0,0,0,lC (dT b.ls (aQ (aH c.path))),(bE b (aH c.path)).n.h.data⟩,0):=if_neg (not_not_intro hf)
    rw [e1]
    (refine aN Tryz.func40 rfl Tryz.ntmps40 rfl ?_;intro w0)
    repeat' (first|(refine aG ?_;first|(refine aC ?_;(refine aS rfl ⟨Tryz.call85⟩ rfl rfl (hT) ?_;rintro v V1 hV1 (⟨_,A1,n1,c1,x,rfl,hS1,hc1,hxN,hxn⟩|⟨hx,_⟩);rotate_left;exact absurd hf hx;have hb1:=h.le hV1;obtain⟨hcM1,hcC1,hcq1,hcl1⟩:=hb1.parts))|(refine cY ?_;refine aP rfl siz_152 rfl rfl rfl rfl cI lP rfl ?_)|(refine bK ?_;refine aI (vT und_4 rfl rfl) ?_)|(refine al9 ?_;intro γ)|refine pu9 ?_)|refine bV ?_|fail)
    have hLi:=List_c V1 I.K I.m I.e I.xs hb1.2.ls (by omega) A1 n1 c1 _ hS1 (by rw [hb1.2.eq];exact hnm)
    rw [hb1.2.eq] at hLi
    have hll:=listP_len (dT b.ls (aQ (aH c.path)))
    have hxh:=n_hd' hxn
    have hds:=(hxN.inv).2.2.1
    rw [←hxh]
    have hMay:=fun V2 (hV2:VLe V1 V2)=>May_c V2 b.c I.A I.n I.k (hb1.2.xs.le hV2) hd (bE b (aH c.path)).th hmo 4 (.inr (.inr rfl))
    generalize lC (dT b.ls (aQ (aH c.path)))=ls at *
    generalize (bE b (aH c.path)).th=th at *
    generalize (bE b (aH c.path)).par=par at *
    generalize oS b.c th 4=m4 at *
    have hds':x.h.data.size≤200:=by rw [hxh];exact there_data hok _
    repeat' (first|(refine aG ?_;first|(refine aC ?_;(refine aS rfl ⟨Tryz.call86⟩ rfl rfl (hLi) ?_;rintro v V2 hV2 ⟨A2,n2,c2,rfl,hS2,hc2⟩;have hsl:=hS2.1.1;have hcC2:=hcC1.le hV2))|(refine bK ?_;refine aI (vT und_4 rfl rfl) ?_)|refine st9 ?_|refine pu9 ?_)|refine bS ?_|(refine aA rfl ?_ ?_<;>intro hq<;>try exact no9))
    all_goals first
      | ((refine bL Tryz.results40 (aU agg_42 rfl bN (by exact rfl)) (aB rfl) ?_)
         rw [if_pos (show c.op=1 from hq)]
         exact⟨none,0,0,by rw [bO,hsl];first|done|rfl,cV.nil,Nat.le_refl _⟩)
      | ((refine bL Tryz.results40 (aU agg_42 rfl bN (by exact rfl)) (aB rfl) ?_)
         rename_i hq1
         rw [if_neg hq1,if_pos hq]
         exact gJ.no (by decide))
      | skip
    rename_i hq1
    have hq2:¬¬th.dir=decide (c.op=2):=hq
    repeat' (first|(refine aG ?_;first|(refine aC ?_;refine aO rfl (aK ⟨Tryz.call87⟩ rfl (hMay _ vl9)) ?_)|refine st9 ?_|refine pu9 ?_)|refine bS ?_|(refine bY rfl ?_ ?_<;>intro hq)|refine cO (id:=9) mixed (by kernel_rfl) ?_)
    all_goals
      (refine bL Tryz.results40 (aU agg_42 rfl bN (by exact rfl)) (aB rfl) ?_)
      rw [if_neg hq1,if_neg hq2]
      first
        | (rw [if_pos (by simpa using hq)];exact gJ.no (by decide))
        | (rw [if_neg (by simpa using hq)]
           exact⟨A2,n2,c2,by rw [bO];first|done|rfl,hS2.le vl9,hc2⟩)
  · have e1:mS b c=(tdZ,dH b (aH c.path)):=if_pos hf
    rw [e1]
    (refine aN Tryz.func40 rfl Tryz.ntmps40 rfl ?_;intro w0)
    repeat' (first|(refine aG ?_;first|(refine aC ?_;(refine aS rfl ⟨Tryz.call85⟩ rfl rfl (hT) ?_;rintro v V1 hV1 (⟨hx,_⟩|⟨_,A1,n1,c1,x,lay,par,th,rfl⟩);exact absurd hx hf))|(refine cY ?_;refine aP rfl siz_152 rfl rfl rfl rfl cI lP rfl ?_)|(refine bK ?_;refine aI (vT und_4 rfl rfl) ?_)|refine st9 ?_|(refine al9 ?_;intro γ)|refine pu9 ?_)|refine bS ?_|(refine aA rfl ?_ ?_<;>intro hq<;>try exact no9))
    all_goals first
      | (exfalso;exact hf (by assumption))
      | skip
    all_goals
      (refine bL Tryz.results40 (aU agg_42 rfl bN (by exact rfl)) (aB rfl) ?_)
      exact gJ.zero
end
section
def lX:List (Nat×List Value)→Addr→Option Value
  | [],_=>none
  | (g,cs) :: t,p=>if p.block=g∧p.spot=none then cs[p.off]? else lX t p
def aE.plus (V:aE) (Cs:List (Nat×List Value)):aE:=fun p=>(V p).or (lX Cs p)
def aE.off (V:aE) (gs:List Nat):aE:=fun p=>if p.block∈gs then none else V p
theorem nU {V:aE} {Cs:List (Nat×List Value)}:VLe V (V.plus Cs):=fun p x h=>by unfold aE.plus;rw [h];rfl
theorem tQ:∀ {Cs:List (Nat×List Value)} {p:Addr} {x:Value},lX Cs p=some x→∃ cs,(p.block,cs)∈Cs∧p.spot=none∧cs[p.off]?=some x
  | [],_,_,h=>by cases h
  | (g,cs) :: t,p,x,h=>by
    rw [lX] at h
    by_cases hc:p.block=g∧p.spot=none
    · rw [if_pos hc] at h
      exact⟨cs,by rw [hc.1];simp,hc.2,h⟩
    · rw [if_neg hc] at h
      obtain⟨cs',h1,h2,h3⟩:=tQ h
      exact⟨cs',by simp [h1],h2,h3⟩
def Lent (Cs:List (Nat×List Value)) (Bs:List Box):Prop:=∀ c∈Cs,∃ (t:TypeId) (cs:List Value),(⟨c.1,.cells t,cs⟩:Box)∈Bs∧c.2 <+: cs
theorem Lent.in_ {Cs:List (Nat×List Value)} {Bs:List Box} (h:Lent Cs Bs) {B:Base} {V:aE} {w:World} (hs:St B V Bs w):VIn (V.plus Cs) w:=fun p x hp=>by
  unfold aE.plus at hp
  cases hV:V p with
  | some y=>rw [hV] at hp;cases hp;exact(hs.view p _ hV).1
  | none =>
    rw [hV] at hp
    obtain⟨cs,h1,h2,h3⟩:=tQ hp
    obtain⟨t,cs',h4,h5⟩:=h _ h1
    have:=hs.cell (g:=p.block) (cs:=cs') ⟨t,h4⟩ p.off
    obtain⟨r,hr⟩:=h5
    have e:cs'[p.off]?=some x:=by
      rw [←hr,List.getElem?_append_left (List.getElem?_eq_some_iff.1 h3).1];exact h3
    rw [e] at this
    obtain⟨pb,po,ps⟩:=p
    simp only at h2
    subst h2
    exact this
structure Apart (V:aE) (Bs:List Box):Prop where
  v:∀ p x,V p=some x→∀ b∈Bs,b.g≠p.block
  nd:(Bs.map Box.g).Nodup
theorem St.apart {B:Base} {V:aE} {Bs:List Box} {w:World} (hs:St B V Bs w):Apart V Bs:=⟨fun p x hp=>(hs.view p x hp).2,hs.nodup⟩
theorem tL {V:aE} {Bs:List Box} {Cs:List (Nat×List Value)} {g:Nat} {cs:List Value} (ha:Apart V Bs) (hg:g∈iG Bs) (hc:∀ j,lX Cs ⟨g,j,none⟩=cs[j]?):aD (V.plus Cs) g 0 cs:=fun j v hj=>by
  unfold aE.plus
  rw [Nat.zero_add]
  cases hV:V ⟨g,j,none⟩ with
  | some y =>
    obtain⟨b,hb,he⟩:=List.mem_map.1 hg
    exact absurd he (ha.v _ _ hV b hb)
  | none=>rw [hc j,hj];rfl
section
variable {P : Program}
theorem Fn.lend {f:FuncId} {args:List Value} {V:aE} {Bs:List Box} {Cs:List (Nat×List Value)} {R:Value→aE→Prop} (hL:Lent Cs Bs) (h:Apart V Bs→Fn P f args (V.plus Cs) R) :
    FnB P f args V Bs fun v V2 Bs'=>Bs'=Bs∧∃ V3,VLe (V.plus Cs) V3∧V2=V3.off (iG Bs)∧R v V3∧∀ p x,p.block∈iG Bs→V3 p=some x→lX Cs p=some x:=fun w hs=>by
  refine(h hs.apart w (hL.in_ hs)).mono fun e w' ⟨v,he,hx,V3,h1,h2,h3,h4⟩=>?_
  have hlt:∀ g∈iG Bs,g<w.heap.size:=fun g hg=>by
    obtain⟨b,hb,rfl⟩:=List.mem_map.1 hg
    exact hs.lt hb
  have hVn:∀ p x,V p=some x→¬p.block∈iG Bs:=fun p x hp hg=>by
    obtain⟨b,hb,he⟩:=List.mem_map.1 hg
    exact(hs.view p x hp).2 b hb he
  have hcl:∀ p x,p.block∈iG Bs→V3 p=some x→lX Cs p=some x:=fun p x hg hp=>by
    have:=h3 p x hp (hlt _ hg)
    unfold aE.plus at this
    cases hV:V p with
    | some y=>exact absurd hg (hVn p y hV)
    | none=>rw [hV] at this;exact this
  refine⟨v,V3.off (iG Bs),Bs,he,⟨?_,?_,?_,?_,?_,hs.nodup⟩,rfl,V3,h1,rfl,h4,hcl⟩
  · exact⟨hx.os,hx.tape,hx.output,hx.size,fun k hk _=>hx.block k hk⟩
  · intro p x hp
    unfold aE.off at hp
    split at hp
    · cases hp
    · rename_i hn
      exact⟨h2 p x hp,fun b hb e=>hn (by rw [←e];exact List.mem_map_of_mem (f:=Box.g) hb)⟩
  · intro p x hp hlt2
    unfold aE.off at hp
    split at hp
    · cases hp
    · rename_i hn
      have:=h3 p x hp hlt2
      unfold aE.plus at this
      cases hV:V p with
      | some y =>
        rw [hV] at this
        show V p=some x
        rw [hV];exact this
      | none =>
        rw [hV] at this
        obtain⟨cs,g1,_,_⟩:=tQ this
        obtain⟨t,cs',g4,_⟩:=hL _ g1
        exact absurd (List.mem_map_of_mem (f:=Box.g) g4) hn
  · intro p x hp
    unfold aE.off
    rw [if_neg (hVn p x hp)]
    exact h1 p x (nU p x hp)
  · intro b hb
    exact⟨(hx.block b.g (hs.lt hb)).trans (hs.own b hb).1,.inr (List.mem_map_of_mem (f:=Box.g) hb)⟩
end
def yJ (V:aE) (gs:List Nat):Prop:=∀ b o s,b∈gs→V ⟨b,o,none⟩=some (.string s)→s.size=0∧∀ u,V ⟨b,o+1,none⟩=some u→∃ A n c,u=.slice A n c
def calmC (cs:List Value):Prop:=∀ (i:Nat) (s:ByteArray),cs[i]?=some (.string s)→s.size=0∧∀ u,cs[i+1]?=some u→∃ A n c,u=.slice A n c
theorem off_at {V:aE} {gs:List Nat} {p:Addr} {x:Value} (hn:¬p.block∈gs) (h:V p=some x):V.off gs p=some x:=by unfold aE.off;rw [if_neg hn];exact h
theorem yJ.of {V:aE} {gs:List Nat} {Cs:List (Nat×List Value)} (h:∀ p x,p.block∈gs→V p=some x→lX Cs p=some x) (hc:∀ c∈Cs,calmC c.2) (hu:(Cs.map Prod.fst).Nodup):yJ V gs:=fun b o s hb hs=>by
  have key:∀ {Cs:List (Nat×List Value)},(Cs.map Prod.fst).Nodup→∀ {cs:List Value} {o:Nat} {x:Value},(b,cs)∈Cs→lX Cs ⟨b,o,none⟩=some x→cs[o]?=some x:=fun {Cs}=>by
    induction Cs with
    | nil=>intro _ cs o x hm;cases hm
    | cons c Cs ih =>
      intro hu cs o x hm hx
      obtain⟨g,cs0⟩:=c
      rw [List.map_cons,List.nodup_cons] at hu
      rw [lX] at hx
      rcases List.mem_cons.1 hm with h1|h1
      · cases h1
        rw [if_pos ⟨rfl,rfl⟩] at hx;exact hx
      · have hne:¬b=g:=fun e=>hu.1 (by rw [←e];exact List.mem_map.2 ⟨_,h1,rfl⟩)
        rw [if_neg (by rintro ⟨e,_⟩;exact hne e)] at hx
        exact ih hu.2 h1 hx
  obtain⟨cs,h1,h2,h3⟩:=tQ (h _ _ hb hs)
  obtain⟨h4,h5⟩:=hc _ h1 _ _ h3
  exact⟨h4,fun u hu2=>h5 u (key hu h1 (h _ _ hb hu2))⟩
end
section
theorem cells_off {V:aE} {gs:List Nat} {b o:Nat} {cs:List Value} (hb:¬b∈gs) (h:aD V b o cs):aD (V.off gs) b o cs:=fun j v hj=>off_at hb (h j v hj)
theorem els_off {α:Type} {V:aE} {gs:List Nat} {sz:Nat} {f:α→List Value} {A:Option Addr} {n:Nat} {xs:List α} (h:fB V sz f A n xs) (hb:∀ (b o:Nat) (x:α),b∈gs→¬aD V b o (f x)):fB (V.off gs) sz f A n xs:=by
  refine⟨h.1,h.2.1,fun hn=>?_⟩
  obtain⟨b,off,ha,hc⟩:=h.2.2 hn
  have hl:=h.1
  have h0:xs[0]?=some (xs[0]'(by omega)):=List.getElem?_eq_getElem (by omega)
  have hnb:¬b∈gs:=fun hm=>hb b _ _ hm (hc 0 _ h0)
  exact⟨b,off,ha,fun k x hk=>cells_off hnb (hc k x hk)⟩
theorem fD.off {V:aE} {gs:List Nat} (hc:yJ V gs) {A:Option Addr} {n:Nat} {xs:List PA} (h:fD V A n xs):fD (V.off gs) A n xs :=
  ⟨els_off h.1 (fun b o x hb hx=>by
    obtain⟨_,h2⟩:=hc b (o+0) x.n hb (hx 0 _ rfl)
    obtain⟨A',n',c',h3⟩:=h2 _ (hx 1 _ rfl)
    cases h3),h.2⟩
theorem kids_off {V:aE} {gs:List Nat} (hc:yJ V gs) {A:Option Addr} {n:Nat} {es:List LK} (h:fB V 9 lkC A n es):fB (V.off gs) 9 lkC A n es :=
  els_off h fun b o x hb hx=>by
    obtain⟨_,h2⟩:=hc b (o+0) x.nm hb (hx 0 _ rfl)
    obtain⟨A',n',c',h3⟩:=h2 _ (hx 1 _ rfl)
    cases h3
theorem aT.off {V:aE} {gs:List Nat} (hc:yJ V gs) {x:LN} (h:aT V x):aT (V.off gs) x:=by
  induction h with
  | mk x es ha hca hd hk hck hks hn hs ih=>exact .mk x es (ha.off hc) hca hd (kids_off hc hk) hck hks hn ih
theorem cV.off {V:aE} {gs:List Nat} (hc:yJ V gs) {A:Option Addr} {n:Nat} {xs:List ByteArray} (h:cV V A n xs) (hne:∀ s∈xs,0<s.size):cV (V.off gs) A n xs:=by
  refine⟨⟨h.1.1,h.1.2.1,fun hn=>?_⟩,h.2⟩
  obtain⟨b,off,ha,hcs⟩:=h.1.2.2 hn
  have hl:=h.1.1
  have h0:xs[0]?=some (xs[0]'(by omega)):=List.getElem?_eq_getElem (by omega)
  have hnb:¬b∈gs:=fun hm=>by
    obtain⟨h1,_⟩:=hc b (off+0 * 1+0) _ hm (hcs 0 _ h0 0 _ rfl)
    have:=hne _ (List.getElem_mem (by omega:0<xs.length))
    omega
  exact⟨b,off,ha,fun k x hk=>cells_off hnb (hcs k x hk)⟩
end
section
theorem ones_ln (l:List LN):∀ u∈l.flatMap lnC,jF u=true:=fun u hu=>by
  obtain⟨r,_,hr⟩:=List.mem_flatMap.1 hu
  simp only [List.mem_cons,List.not_mem_nil,or_false] at hr
  rcases hr with rfl|rfl|rfl|rfl|rfl|rfl|rfl|rfl<;>rfl
theorem pE (x:LN):∀ u∈lnC x,jF u=true:=fun u hu=>ones_ln [x] u (by simpa using hu)
theorem uV (x:LN):(lnC x).length=8:=rfl
theorem fN.of {V:aE} {A:Option Addr} {n:Nat} {xs:List LN} (hc:fH V 8 A n (xs.flatMap lnC)) (hl:xs.length=n) (hm:n≤maxLen) (hg:∀ x∈xs,aT V x):fN V A n xs:=⟨fB.of_cells hc uV hl hm,hg⟩
attribute [local irreducible] AtQ GoC GoL GoW QO QP Fn RV bF aD VLe bU bA
end
section
structure qR (V:aE) (b:BX) (I:BI) (L1:List Box):Prop where
  M:rC V I.M
  us:I.M.us=b.us
  gs:I.M.gs=b.gs
  xs:eD V I.A I.n b.c.xs
  nk:True
  row:cX I.K I.m I.e 50 8 (I.xs.flatMap lnC) L1
  ls:∀ x∈I.xs,aT V x
  len:I.xs.length=I.m
  eq:I.xs.map LN.n=b.ls
def fE (V:aE) (p:Nat) (b:BX) (Bs:List Box):Prop:=∃ (I:BI) (L1:List Box),Bs=⟨p,90,bxC I b⟩ :: L1∧qR V b I L1
theorem qR.le {V V':aE} {b:BX} {I:BI} {L1:List Box} (h:qR V b I L1) (hv:VLe V V'):qR V' b I L1:=⟨h.M.le hv,h.us,h.gs,h.xs.le hv,h.nk,h.row,fun x hx=>(h.ls x hx).le hv,h.len,h.eq⟩
theorem fE.le {V V':aE} {p:Nat} {b:BX} {Bs:List Box} (h:fE V p b Bs) (hv:VLe V V'):fE V' p b Bs:=by
  obtain⟨I,L1,h1,h2⟩:=h
  exact⟨I,L1,h1,h2.le hv⟩
theorem qR.lens {V:aE} {b:BX} {I:BI} {L1:List Box} (h:qR V b I L1):b.ls.length=I.m:=by rw [←h.eq,List.length_map,h.len]
theorem qR.open_ {V:aE} {b:BX} {I:BI} {L1:List Box} (h:qR V b I L1) (hok:bI b):∃ (q:Nat) (x0:LN) (xt:List LN) (rest:List Value),I.K=some ⟨q,0,none⟩∧I.xs=x0 :: xt∧L1=[⟨q,50,(x0 :: xt).flatMap lnC ++ rest⟩]∧((x0 :: xt).flatMap lnC ++ rest).length=I.e * 8∧I.m≤I.e∧I.e≤maxLen∧0<I.m:=by
  have hm:0<I.m:=by rw [←h.lens];exact hok.l1
  obtain⟨q,rest,h1,h2,h3,h4,h5⟩:=h.row.open hm
  obtain⟨x0,xt,hx⟩:∃ x0 xt,I.xs=x0 :: xt:=by
    cases hxs:I.xs with
    | nil=>have:=h.len;rw [hxs] at this;simp at this;omega
    | cons x t=>exact⟨x,t,rfl⟩
  rw [hx] at h2 h3
  exact⟨q,x0,xt,rest,h1,hx,h2,h3,h4,h5,hm⟩
theorem calm_bx (I:BI) (b:BX):calmC (bxC I b):=fun i s h=>by
  match i,h with
  | 0,h=>simp at h
  | 1,h=>simp at h
  | 2,h=>simp at h
  | 3,h=>simp at h
  | 4,h=>simp at h
  | 5,h=>simp at h
  | 6,h=>simp at h
  | 7,h=>simp at h
  | i+8,h=>simp at h
theorem tX:∀ {xs:List LN},(∀ x∈xs,x.h.data.size=0)→calmC (xs.flatMap lnC)
  | [],_=>fun i s h=>by simp at h
  | x :: xs,hx=>fun i s h=>by
    have ih:=tX (xs:=xs) fun y hy=>hx y (by simp [hy])
    rw [List.flatMap_cons] at h ⊢
    have h0:=hx x (by simp)
    match i,h with
    | 0,h=>simp at h
    | 1,h=>simp at h
    | 2,h=>simp at h
    | 3,h=>simp at h
    | 4,h=>simp at h
    | 5,h=>simp at h
    | 6,h =>
      simp at h
      refine⟨by rw [←h];exact h0,fun u hu=>?_⟩
      simp at hu
      exact⟨_,_,_,hu.symm⟩
    | 7,h=>simp at h
    | i+8,h =>
      have h':(xs.flatMap lnC)[i]?=some (.string s):=by
        rw [List.getElem?_append_right (by show 8≤i+8;omega)] at h
        exact h
      obtain⟨g1,g2⟩:=ih i s h'
      refine⟨g1,fun u hu=>g2 u ?_⟩
      rw [List.getElem?_append_right (by show 8≤i+8+1;omega)] at hu
      exact hu
theorem bI.data {V:aE} {b:BX} {I:BI} {L1:List Box} (hok:bI b) (h:qR V b I L1):∀ x∈I.xs,x.h.data.size=0:=fun x hx=>by
  have hm:x.n∈b.ls:=by rw [←h.eq];exact List.mem_map_of_mem (f:=LN.n) hx
  obtain⟨u,hu⟩:=hok.tree _ hm
  obtain⟨hk,hc⟩:=vW.1 hu
  obtain⟨_,h1,_⟩:=wN.1 hc
  unfold lA at h1
  have hk':x.h.kind=2:=hk
  by_cases hd:x.h.data.size=0
  · exact hd
  · exfalso
    split at h1
    · omega
    · split at h1
      · omega
      · split at h1
        · rename_i h9;exact h9 h1
        · split at h1
          · omega
          · split at h1
            · omega
            · rename_i h9
              exact h9 (.inr (.inl ⟨by show ¬x.h.kind=1;omega,by show 0<x.h.data.size;omega⟩))
theorem fE.lend {V:aE} {p:Nat} {b:BX} {Bs:List Box} (hok:bI b) (h:fE V p b Bs):∃ (I:BI) (Cs:List (Nat×List Value)),Lent Cs Bs∧(∀ c∈Cs,calmC c.2)∧(Apart V Bs→(Cs.map Prod.fst).Nodup∧pY (V.plus Cs) p b I):=by
  obtain⟨I,L1,rfl,hW⟩:=h
  obtain⟨q,x0,xt,rest,hK,hx,rfl,hlen,hme,hml,hm⟩:=hW.open_ hok
  have hd:=hok.data hW
  refine⟨I,[(p,bxC I b),(q,(x0 :: xt).flatMap lnC)],?_,?_,fun ha=>?_⟩
  · intro c hc
    simp only [List.mem_cons,List.not_mem_nil,or_false] at hc
    rcases hc with rfl|rfl
    · exact⟨_,_,List.mem_cons_self,List.prefix_refl _⟩
    · exact⟨_,_,List.mem_cons_of_mem _ List.mem_cons_self,List.prefix_append _ _⟩
  · intro c hc
    simp only [List.mem_cons,List.not_mem_nil,or_false] at hc
    rcases hc with rfl|rfl
    · exact calm_bx I b
    · exact tX (by rw [←hx];exact hd)
  · have hnd:=ha.nd
    simp only [List.map_cons,List.map_nil,List.nodup_cons,List.mem_singleton,List.not_mem_nil,not_false_eq_true,List.nodup_nil,and_true,true_and] at hnd
    have hpq:¬p=q:=hnd
    refine⟨by simp [hpq],tL ha (by unfold iG;simp) (fun j=>by rw [lX,if_pos ⟨rfl,rfl⟩]),?_⟩
    have hq:aD (V.plus [(p,bxC I b),(q,(x0 :: xt).flatMap lnC)]) q 0 ((x0 :: xt).flatMap lnC):=tL ha (by unfold iG;simp) (fun j=>by rw [lX,if_neg (by rintro ⟨e,_⟩;exact hpq e.symm),lX,if_pos ⟨rfl,rfl⟩])
    refine⟨hW.M.le nU,hW.us,hW.gs,hW.xs.le nU,hW.nk,?_,hme,hW.eq⟩
    rw [hK,hx]
    refine fN.of ⟨?_,fun _=>⟨q,0,rfl,hq⟩⟩ (by rw [←hx];exact hW.len) (Nat.le_trans hme hml) (fun y hy=>(hW.ls y (by rw [hx];exact hy)).le nU)
    rw [eU lnC uV,←hx,hW.len]
theorem fE.read {f:FuncId} {args:List Value} {V:aE} {p:Nat} {b:BX} {Bs:List Box} {R:Value→aE→Prop} (hok:bI b) (h:fE V p b Bs) (hR:∀ v V gs,yJ V gs→R v V→R v (V.off gs)) (hc:∀ V' I,VLe V V'→pY V' p b I→Fn Tryz.prog f args V' R):FnB Tryz.prog f args V Bs fun v V' Bs'=>Bs'=Bs∧R v V':=fun w hs=>by
  obtain⟨I,Cs,h1,h2,h3⟩:=h.lend hok
  obtain⟨h4,h5⟩:=h3 hs.apart
  refine(Fn.lend h1 (fun _=>hc _ I nU h5) w hs).mono fun e w' ⟨v,V',Bs',he,hst,hB,V3,g1,g2,g3,g4⟩=>?_
  exact⟨v,V',Bs',he,hst,hB,by rw [g2];exact hR v V3 _ (yJ.of g4 h2 h4) g3⟩
theorem ToR.off {s:SP×Int} {v:Value} {V:aE} {gs:List Nat} (hc:yJ V gs) (h:ToR s v V):ToR s v (V.off gs):=by
  rcases h with ⟨h1,x,h2,h3,h4⟩|h
  · exact .inl ⟨h1,x,h2,h3.off hc,h4⟩
  · exact .inr h
theorem name_pos {s:ByteArray} (h:fS s.toList=true):0<s.size:=by
  rcases Nat.eq_zero_or_pos s.size with h0|h0
  · exfalso
    have:s.toList=[]:=List.eq_nil_of_length_eq_zero (by rw [Lib.toList_data,Array.length_toList];exact h0)
    rw [this] at h
    exact absurd h (by decide)
  · exact h0
theorem pathN_pos {l:List UInt8}:∀ s∈aQ l,0<s.size:=fun s hs=>by
  unfold aQ at hs
  split at hs
  · rename_i hc
    obtain⟨h1,h2⟩:=hc
    unfold eI at h1
    rw [if_neg h2] at h1
    split at h1
    · omega
    · split at h1
      · omega
      · rename_i h3
        have h3:=Decidable.not_not.1 h3
        obtain⟨q,hq,rfl⟩:=List.mem_map.1 hs
        have:=List.all_eq_true.1 h3 q hq
        refine name_pos ?_
        rw [Lib.toList_data];exact this
  · cases hs
theorem oQ.off {b:BX} {l:List UInt8} {v:Value} {V:aE} {gs:List Nat} (hc:yJ V gs) (h:oQ b l v V):oQ b l v (V.off gs):=by
  rcases h with ⟨h1,A,n,c,x,h2,h3,h4,h5,h6⟩|h
  · exact .inl ⟨h1,A,n,c,x,h2,h3.off hc pathN_pos,h4,h5.off hc,h6⟩
  · exact .inr h
theorem grow_bad {b:BX} {u:PN} (h:¬dD true u=0):kJ b u=(b,dD true u):=if_pos h
theorem grow_quota {b:BX} {u:PN} (h:dD true u=0) (h2:b.q<bB u):kJ b u=(b,12):=by unfold kJ;rw [if_neg (not_not_intro h),if_pos h2]
theorem grow_ok {b:BX} {u:PN} (h:dD true u=0) (h2:¬b.q<bB u):kJ b u=({ b with ls:=u :: b.ls.tail },0):=by unfold kJ;rw [if_neg (not_not_intro h),if_neg h2]
def ChB (p:Nat) (r:BX×Int) (v:Value) (V':aE) (Bs':List Box):Prop:=v=bA r.2∧fE V' p r.1 Bs'
theorem bI.grow {b:BX} {u:PN} (hok:bI b) (h:dD true u=0):bI { b with ls:=u :: b.ls.tail }:=by
  obtain⟨n0,t,hl,_⟩:=hok.root
  have h4:=hok.l4
  refine⟨hok.c,hok.q,by simp,?_,?_,?_⟩
  · show (u :: b.ls.tail).length≤4
    rw [hl] at h4 ⊢;simpa using h4
  · intro x hx
    have hx:(u :: b.ls.tail)[0]?=some x:=hx
    simp at hx;rw [←hx];exact h
  · intro j x hj hx
    have hx:(u :: b.ls.tail)[j]?=some x:=hx
    obtain⟨j',rfl⟩:∃ j',j=j'+1:=⟨j - 1,by omega⟩
    refine hok.lo (j'+1) x (by omega) ?_
    rw [hl] at hx ⊢
    simpa using hx
theorem growOk {b:BX} (hok:bI b) (u:PN):bI (kJ b u).1:=by
  unfold kJ
  split
  · exact hok
  · rename_i h
    split
    · exact hok
    · exact hok.grow (Decidable.not_not.1 h)
attribute [local irreducible] AtQ GoC GoL GoW QO QP Fn RV bF aD VLe bU bA
theorem grows_c (V:aE) (p:Nat) (b:BX) (Bs:List Box) (hok:bI b) (h:fE V p b Bs) (y:LN) (hy:aT V y):FnB Tryz.prog 97 [.pointer (some ⟨p,0,none⟩),lnV y] V Bs (ChB p (kJ b y.n)):=by
  have h0:=h
  obtain⟨I,L1,rfl,hW⟩:=h
  obtain⟨q,x0,xt,rest,hK,hx,rfl,hlen,hme,hml,hm⟩:=hW.open_ hok
  have hC:=fun V2 (hV2:VLe V V2)=>TCheck_c V2 y (hy.le hV2) true
  have hB:=fun V2 (hV2:VLe V V2)=>sY V2 y (hy.le hV2)
  by_cases ht:dD true y.n=0
  · rw [ht] at hC
    by_cases hq2:b.q<bB y.n
    · rw [grow_quota ht hq2]
      (refine aL Tryz.func97 rfl Tryz.ntmps97 rfl ?_;intro w0)
      repeat' (first|(refine aG ?_;first|(refine aC ?_;(first|refine aO rfl (aK ⟨Tryz.call16⟩ rfl (hC _ vl9)) ?_|refine aO rfl (aK ⟨Tryz.call17⟩ rfl (hB _ vl9)) ?_))|(refine al9 ?_;intro γ)|refine pu9 ?_)|refine bV ?_|(refine aA rfl ?_ ?_<;>intro hq<;>try exact no9)|refine cO (id:=4) mixed (by kernel_rfl) ?_)
      all_goals try exact no9
      all_goals
        (refine aV Tryz.results97 (aB rfl) (List.Sublist.cons _ (List.Sublist.refl _)) ?_)
        exact⟨cP 12 rfl,I,_,rfl,hW⟩
    · rw [grow_ok ht hq2]
      (refine aL Tryz.func97 rfl Tryz.ntmps97 rfl ?_;intro w0)
      repeat' (first|(refine aG ?_;first|(refine aC ?_;(first|refine aO rfl (aK ⟨Tryz.call16⟩ rfl (hC _ vl9)) ?_|refine aO rfl (aK ⟨Tryz.call17⟩ rfl (hB _ vl9)) ?_))|(refine al9 ?_;intro γ)|refine pu9 ?_)|refine bV ?_|(refine aA rfl ?_ ?_<;>intro hq<;>try exact no9)|refine cO (id:=4) mixed (by kernel_rfl) ?_)
      all_goals try exact no9
      refine bT (id:=6) _ mixed (List.Sublist.cons_cons _ (List.Sublist.cons_cons _ (List.nil_sublist _))) ?_;refine gt9 0 ?_;refine gt9 1 ?_;refine gt9 2 ?_;refine gt9 3 ?_;refine gt9 4 ?_;refine gO 5 rfl rfl (dG (k:=0) und_30 siz_50 rfl hK rfl hm) ?_;refine bM (i:=6) rfl ?_;refine aP rfl siz_50 rfl rfl rfl rfl cI fU rfl ?_;refine bC (by kernel_rfl) vl9 vl9 cC ?_
      all_goals
        repeat' (first|(refine aG ?_;refine pu9 ?_)|refine bS ?_|fail)
        (refine aV Tryz.results97 (aB rfl) (List.Sublist.cons _ (List.Sublist.refl _)) ?_)
        refine⟨bO.symm,{ I with xs:=y :: xt },_,rfl,hW.M,hW.us,hW.gs,hW.xs,hW.nk,?_,?_,?_,?_⟩
        · show cX I.K I.m I.e _ 8 _ _
          rw [hK]
          exact cX.close (f:=lnC) uV (by rw [←hW.len,hx];rfl) (show ((y :: xt).flatMap lnC ++ rest).length=I.e * 8 by rw [←hlen];simp) hme hml
        · intro z hz
          rcases List.mem_cons.1 hz with rfl|hz
          · exact hy
          · exact hW.ls z (by rw [hx];exact List.mem_cons_of_mem _ hz)
        · show (y :: xt).length=I.m
          rw [←hW.len,hx];rfl
        · show y.n :: xt.map LN.n=y.n :: b.ls.tail
          rw [←hW.eq,hx];rfl
  · rw [grow_bad ht]
    (refine aL Tryz.func97 rfl Tryz.ntmps97 rfl ?_;intro w0)
    repeat' (first|(refine aG ?_;first|(refine aC ?_;refine aO rfl (aK ⟨Tryz.call16⟩ rfl (hC _ vl9)) ?_)|(refine al9 ?_;intro γ)|refine pu9 ?_)|refine bS ?_|(refine aA rfl ?_ ?_<;>intro hq<;>try exact no9))
    all_goals first
      | (exfalso;exact ht (by assumption))
      | skip
    all_goals
      (refine aV Tryz.results97 (aB rfl) (List.Sublist.cons _ (List.Sublist.refl _)) ?_)
      exact⟨rfl,I,_,rfl,hW⟩
end
section
section
variable {P : Program} {B : Base} {N : Nat} {Q : Exit → Act → World → Prop} {k : List kC} {F : List (Nat × Value)} {V : aE} {L : List Box} {w : World}
variable {d : Option Tmp} {ty : TypeId} {pos : String} {af : Array Edge} {gd : Option (Nat × Bool)} {ops : Array Oper} {rest : List Oper}
theorem gc_swap {c:Code} {a b d:Box} {l:List Box} (h:GoC P B N c Q k F V (a :: d :: b :: l)):GoC P B N c Q k F V (a :: b :: d :: l):=gc_order sp9 h
theorem rT {dr:iM} (hdr:dr.loud=true) {f:FuncId} {fo:Operand} {args:List Operand} {ats:Array TypeId} {vs fs cs:List Value} {Bs:List Box} {R:Value→aE→List Box→Prop} {g:List Box→List Box} (he:lB P f) (hf:evF F fo=some (.func (.func f) fs.toArray cs.toArray)) (hv:evL F args=some vs) (hL:lT L Bs g) (hd:okD N d=true) (hc:FnB P f (fs ++ vs ++ cs) V Bs R)
    (h:∀ v V' Bs',VLe V V'→R v V' Bs'→GoL P B N dr ops Q k rest (qQ F d v) V' (g Bs')):GoW P B N dr ops Q k ⟨d,.call ⟨.value fo,args.toArray,ats⟩,ty,pos,af,gd⟩ rest F V L:=iI hdr fun a w ha hs=>by
  obtain⟨X,Y,hX,hg⟩:=hL.h
  subst hX
  unfold Oper.wp
  rw [exec_callv he ha hf hv]
  have hsub:Bs.Sublist (X ++ (Bs ++ Y)):=(List.sublist_append_left Bs Y).trans (List.sublist_append_right X (Bs ++ Y))
  refine(hc w (hs.sub' hsub)).mono fun e w' ⟨v,V',Bs',he',hst,hR⟩=>?_
  subst he'
  have h1:=h v V' Bs' hst.v0 hR
  rw [hg] at h1
  exact fQ hdr h1 _ _ (ha.put hd v) (hs.callB hst)
end
theorem uQ {a b:Box} {L:List Box}:lT (a :: b :: L) [a,b] (fun l=>l ++ L):=⟨[],L,rfl,fun _=>rfl⟩
theorem fit_light {h:Hd} {ks:PKs} (k:fitP h ks):jK h ks:=by
  obtain⟨_,_,_,_,h5,h6,h7,h8⟩:=k
  refine⟨?_,by omega,by omega,fun k hk=>by have:=h8 k hk;omega⟩
  unfold oT
  simp only [Bool.and_eq_true,decide_eq_true_eq,List.all_eq_true]
  exact⟨by have:=h5.1;omega,fun a ha=>by have:=h5.2 a ha;omega⟩
theorem bI.light {b:BX} (h:bI b):∀ x∈b.ls,cH jK x:=fun x hx=>(h.fit x hx).imp fun _ _=>fit_light
theorem UpR.off {r:PN×Int} {ev v:Value} {V:aE} {gs:List Nat} (hc:yJ V gs) (h:UpR r ev v V):UpR r ev v (V.off gs):=by
  obtain⟨y,h1,h2,h3⟩:=h
  exact⟨y,h1,h2.off hc,h3⟩
theorem UpB_c {V:aE} {p:Nat} {b:BX} {I:BI} {L1:List Box} (hok:bI b) (hW:qR V b I L1) (Bo:Option Addr) (m e:Nat) (ss:List ByteArray) (hs:cV V Bo m ss) (hme:m≤e) (hm:m≤100) :
    FnB Tryz.prog 95 [.slice I.K I.m I.e,lmV I.M,.slice Bo m e] V (⟨p,90,bxC I b⟩ :: L1) fun v V' Bs'=>Bs'=⟨p,90,bxC I b⟩ :: L1∧UpR (upP b.ls b.us b.gs ss) (bA (upP b.ls b.us b.gs ss).2) v V':=fun w hst=>by
  obtain⟨q,x0,xt,rest,hK,hx,hL1,hlen,hme2,hml,hm0⟩:=hW.open_ hok
  have hB:fE V p b (⟨p,90,bxC I b⟩ :: L1):=⟨I,L1,rfl,hW⟩
  have hm4:I.m≤4:=by rw [←hW.lens];exact hok.l4
  subst hL1
  have hlent:Lent [(q,(x0 :: xt).flatMap lnC)] (⟨p,90,bxC I b⟩ :: [⟨q,50,(x0 :: xt).flatMap lnC ++ rest⟩]):=by
    intro c hc
    rw [List.mem_singleton.1 hc]
    exact⟨_,_,List.mem_cons_of_mem _ List.mem_cons_self,List.prefix_append _ _⟩
  have hd:=hok.data hW
  have hcl:∀ c∈[(q,(x0 :: xt).flatMap lnC)],calmC c.2:=by
    intro c hc
    rw [List.mem_singleton.1 hc]
    exact tX (by rw [←hx];exact hd)
  have hq:aD (V.plus [(q,(x0 :: xt).flatMap lnC)]) q 0 ((x0 :: xt).flatMap lnC):=tL hst.apart (by unfold iG;simp) (fun j=>by rw [lX,if_pos ⟨rfl,rfl⟩])
  have hN:fN (V.plus [(q,(x0 :: xt).flatMap lnC)]) I.K I.m I.xs:=by
    rw [hK,hx]
    refine fN.of ⟨?_,fun _=>⟨q,0,rfl,hq⟩⟩ (by rw [←hx];exact hW.len) (Nat.le_trans hme2 hml) (fun y hy=>(hW.ls y (by rw [hx];exact hy)).le nU)
    rw [eU lnC uV,←hx,hW.len]
  have hU:=Up_c (V.plus [(q,(x0 :: xt).flatMap lnC)]) I.K I.m I.e I.xs hN (by omega) (fun x hx9=>hok.light _ (by rw [←hW.eq];exact List.mem_map_of_mem (f:=LN.n) hx9)) I.M (hW.M.le nU) Bo m e ss (hs.le nU) hme hm
  rw [hW.eq,hW.us,hW.gs] at hU
  refine(Fn.lend hlent (fun _=>hU) w hst).mono fun e w' ⟨v,V',Bs',he,hst2,hB2,V3,g1,g2,g3,g4⟩=>?_
  exact⟨v,V',Bs',he,hst2,hB2,by rw [g2];exact g3.off (yJ.of g4 hcl (by simp))⟩
def AlterC (f:FuncId) (cs:List Value) (p:Nat) (b:BX) (φ:Hd→Hd) (V:aE):Prop:=∀ V0,VLe V V0→∀ (I:BI),eD V0 I.A I.n b.c.xs→∀ (g:Nat) (x:LN),0≤x.h.mode∧x.h.mode≤4095→aT V0 x→FnB Tryz.prog f ([.pointer (some ⟨g,0,none⟩)] ++ cs) V0 [⟨g,50,lnC x⟩,⟨p,90,bxC I b⟩] fun v V' Bs'=>∃ y:LN,Bs'=[⟨g,50,lnC y⟩,⟨p,90,bxC I b⟩]∧y.n=.mk (φ x.h) x.ks∧aT V' y
theorem upK_bd9 {l:List PN} {us gs:List PR} {ss:List ByteArray} {u0:PN} (hl:∀ x∈l,cH jK x) (h0:cH jK u0):∀ i,(upK l us gs ss u0 i).2=0→cH (fV (80+i)) (upK l us gs ss u0 i).1
  | 0,_=>h0.imp fun _ _=>rB
  | i+1,h=>by
    have hprev:(upK l us gs ss u0 i).2=0:=by
      by_cases hp:(upK l us gs ss u0 i).2=0
      · exact hp
      · rw [upK,if_neg hp] at h;exact absurd h hp
    have ih:=upK_bd9 hl h0 i hprev
    rw [upK_on hprev] at h ⊢
    generalize (upK l us gs ss u0 i).1=u at *
    have hup:cH (fV (80+(i+1))) u:=ih.imp fun _ _=>kN (by omega)
    cases hq:dT l (ss.take (i+1)) with
    | nil=>rw [qJ hq];exact hup
    | cons f r =>
      by_cases hf:f.2=0
      · rw [sA hq hf];exact hup
      · cases hm:dK true us gs (oM f.1) with
        | none=>rw [vZ hq hf hm] at h;simp at h
        | some x =>
          by_cases hp:pF false x u (ss.take (i+1))=0
          · rw [rZ hq hf hm hp]
            have hlf:=kE hl (ss.take (i+1)) f (by rw [hq];simp)
            have hlb:cH jK (oM f.1):=uS (fun hd ks hh=>⟨hh.1,hh.2.1,by simp,by simp⟩) hlf
            have hlp:cH jK x:=sT (fun hd ks u g hh=>hh) hm hlb
            exact vH (hlp.imp fun _ _ hh=>kN (Nat.le_add_right 80 i) (rB hh)) hp ih
          · rw [sM hq hf hm hp] at h;exact absurd h hp
theorem up_bd9 {l:List PN} {us gs:List PR} {ss:List ByteArray} (hl:∀ x∈l,cH jK x) (h0:cH jK (l.headD pnZ)) (hm:ss.length≤100) (h:(upP l us gs ss).2=0):cH (fV 200) (upP l us gs ss).1:=by
  unfold upP at h ⊢
  by_cases hw:dT l ss=[]
  · rw [if_pos hw] at h;simp at h
  · rw [if_neg hw] at h ⊢
    exact(upK_bd9 hl h0 ss.length h).imp fun _ _ hh=>kN (by omega) hh
def qM (h:Hd) (ks:PKs):Prop:=0≤h.mode∧h.mode≤4095
theorem edit_md {x:PN} {hd:Hd} {ks:PKs} {s:ByteArray} (hn:qM hd ks) (hk:∀ k∈ks,cH qM k.2) (hx:cH qM x):cH qM (.mk hd (nF false x ks s)):=by
  refine .mk hn fun k hk2=>?_
  rcases pO hk2 with h|h
  · exact hk k h
  · rw [h];exact hx
theorem pN_md {x:PN} (hx:cH qM x):∀ {l:List ByteArray} {n:PN},pF false x n l=0→cH qM n→cH qM (pN false x n l)
  | [],n,h,_=>by simp [pF] at h
  | [s],n,_,hm=>by
    rw [pN]
    exact edit_md hm.here (fun k hk=>hm.kid hk) hx
  | s :: t :: l,n,h,hm=>by
    obtain⟨hk,m,hm2,h3⟩:=pF_cons.1 h
    rw [pN_cons hm2]
    exact edit_md hm.here (fun k hk=>hm.kid hk) (pN_md hx h3 (hm.kid (lJ hm2)))
theorem upK_md {l:List PN} {us gs:List PR} {ss:List ByteArray} {u0:PN} (hl:∀ x∈l,cH qM x) (h0:cH qM u0):∀ i,(upK l us gs ss u0 i).2=0→cH qM (upK l us gs ss u0 i).1
  | 0,_=>h0
  | i+1,h=>by
    have hprev:(upK l us gs ss u0 i).2=0:=by
      by_cases hp:(upK l us gs ss u0 i).2=0
      · exact hp
      · rw [upK,if_neg hp] at h;exact absurd h hp
    have hup:=upK_md hl h0 i hprev
    rw [upK_on hprev] at h ⊢
    generalize (upK l us gs ss u0 i).1=u at *
    cases hq:dT l (ss.take (i+1)) with
    | nil=>rw [qJ hq];exact hup
    | cons f r =>
      by_cases hf:f.2=0
      · rw [sA hq hf];exact hup
      · cases hm:dK true us gs (oM f.1) with
        | none=>rw [vZ hq hf hm] at h;simp at h
        | some x =>
          by_cases hp:pF false x u (ss.take (i+1))=0
          · rw [rZ hq hf hm hp]
            have hlf:=kE hl (ss.take (i+1)) f (by rw [hq];simp)
            have hlb:cH qM (oM f.1):=uS (fun hd ks hh=>hh) hlf
            exact pN_md (sT (fun hd ks u g hh=>hh) hm hlb) hp hup
          · rw [sM hq hf hm hp] at h;exact absurd h hp
theorem up_md {l:List PN} {us gs:List PR} {ss:List ByteArray} (hl:∀ x∈l,cH qM x) (h0:cH qM (l.headD pnZ)) (h:(upP l us gs ss).2=0):cH qM (upP l us gs ss).1:=by
  unfold upP at h ⊢
  by_cases hw:dT l ss=[]
  · rw [if_pos hw] at h;simp at h
  · rw [if_neg hw] at h ⊢
    exact upK_md hl h0 ss.length h
theorem oB {h:Hd} {ks:PKs} (k:fV 200 h ks):eR h ks:=⟨by have:=k.1;omega,by have:=k.2;omega⟩
theorem uY {p:Hd→PKs→Prop}:∀ {l:List ByteArray} {n x:PN},cH p n→eP n l=some x→cH p x
  | [],n,x,h,hf=>by rw [eP] at hf;cases hf;exact h
  | s :: l,n,x,h,hf=>by
    rw [findP_cons] at hf
    split at hf
    · cases hl:gT n.ks s with
      | none=>rw [hl] at hf;cases hf
      | some m=>rw [hl] at hf;exact uY (h.kid (lJ hl)) hf
    · cases hf
theorem alter_up {b:BX} {ss:List ByteArray} {φ:Hd→Hd} (h:¬(upP b.ls b.us b.gs ss).2=0):jL b ss φ=(b,(upP b.ls b.us b.gs ss).2):=if_pos h
theorem alter_root {b:BX} {φ:Hd→Hd} (h:(upP b.ls b.us b.gs []).2=0):jL b [] φ=kJ b (.mk (φ (upP b.ls b.us b.gs []).1.h) (upP b.ls b.us b.gs []).1.ks):=by unfold jL;rw [if_neg (not_not_intro h),if_pos rfl]
theorem alter_put {b:BX} {ss:List ByteArray} {φ:Hd→Hd} {n:PN} (h:(upP b.ls b.us b.gs ss).2=0) (hs:¬ss=[]) (hn:PN.mk (φ ((eP (upP b.ls b.us b.gs ss).1 ss).getD pnZ).h) ((eP (upP b.ls b.us b.gs ss).1 ss).getD pnZ).ks=n):jL b ss φ=if ¬pF false n (upP b.ls b.us b.gs ss).1 ss=0 then (b,pF false n (upP b.ls b.us b.gs ss).1 ss) else kJ b (pN false n (upP b.ls b.us b.gs ss).1 ss):=by
  unfold jL;rw [if_neg (not_not_intro h),if_neg hs,hn]
attribute [local irreducible] AtQ GoC GoL GoW QO QP Fn RV bF aD VLe bU bA
theorem alter_c {f:FuncId} {cs:List Value} {φ:Hd→Hd} (he:lB Tryz.prog f) (V:aE) (p:Nat) (b:BX) (Bs:List Box) (hok:bI b) (h:fE V p b Bs) (hA:AlterC f cs p b φ V) (hφ:∀ h:Hd,h.attrs.length≤1000→(φ h).attrs.length≤1000) (Bo:Option Addr) (m e:Nat) (ss:List ByteArray) (hs:cV V Bo m ss) (hme:m≤e) (hm:m≤100) :
    FnB Tryz.prog 91 [.pointer (some ⟨p,0,none⟩),.slice Bo m e,.func (.func f) #[] cs.toArray] V Bs (ChB p (jL b ss φ)):=by
  have sl:=hs.1.1
  obtain⟨I,L1,rfl,hW⟩:=h
  have hU:=fun V2 (hV2:VLe V V2)=>UpB_c (p:=p) hok (hW.le hV2) Bo m e ss (hs.le hV2) hme hm
  obtain⟨n0,t0,hls,hkd0⟩:=hok.root
  have hbd:=up_bd9 (us:=b.us) (gs:=b.gs) (ss:=ss) hok.light (by rw [hls];exact hok.light n0 (by rw [hls];simp)) (by omega)
  have hmds:∀ x∈b.ls,cH qM x:=fun x hx=>(hok.fit x hx).imp fun _ _ k=>k.2.1
  have hmd:=up_md (us:=b.us) (gs:=b.gs) (ss:=ss) hmds (by rw [hls];exact hmds n0 (by rw [hls];simp))
  generalize hup:upP b.ls b.us b.gs ss=up at *
  (refine aL Tryz.func91 rfl Tryz.ntmps91 rfl ?_;intro w0)
  repeat' (first|(refine aG ?_;refine pu9 ?_)|refine bS ?_|fail)
  refine eK (fun F V' L'=>∃ (γ7:Nat) (y:LN),VLe V V'∧aT V' y∧y.n=up.1∧⟨γ7,50,lnC y⟩ :: ⟨p,90,bxC I b⟩ :: L1=L'∧F=[(0,.pointer (some ⟨p,0,none⟩)),(1,.slice Bo m e),(2,.func (.func f) #[] cs.toArray),(7,.pointer (some ⟨γ7,0,none⟩)),(8,bA up.2)]) ?_ ?_
  · refine bT (id:=1) _ mixed (List.Sublist.refl _) ?_;refine gt9 0 ?_;refine gt9 1 ?_;refine gt9 2 ?_;refine gt9 3 ?_;refine gt9 4 ?_;refine gt9 5 ?_;refine gt9 6 ?_;refine gt9 7 ?_;refine gt9 8 ?_;(refine iC (i:=9) (j:=13) (by kernel_rfl) rfl rfl rfl rfl vl9 vl9 cC ?_ ?_<;>first|((refine aM rfl ⟨Tryz.call95⟩ rfl bD rfl (hU _ vl9) ?_;rintro v V2 B2 hV2 ⟨rfl,y,rfl,hyN,hyn⟩);refine gt9 10 ?_;refine gt9 11 ?_;refine gt9 12 ?_;refine bM (i:=13) rfl ?_;(refine eN rfl zer_50 rfl ?_;intro γ);refine bM (i:=14) rfl ?_;refine aP rfl siz_50 rfl rfl rfl rfl cI fU rfl ?_;refine gt9 15 ?_;refine bC (by kernel_rfl) vl9 vl9 cC ?_)|((refine eN rfl zer_50 rfl ?_;intro γ);refine bM (i:=9) rfl ?_;(refine aM rfl ⟨Tryz.call95⟩ rfl bD rfl (hU _ vl9) ?_;rintro v V2 B2 hV2 ⟨rfl,y,rfl,hyN,hyn⟩);refine gt9 10 ?_;refine gt9 11 ?_;refine gt9 12 ?_;refine bM (i:=14) rfl ?_;refine aP rfl siz_50 rfl rfl rfl rfl cI fU rfl ?_;refine gt9 15 ?_;refine bC (by kernel_rfl) vl9 vl9 cC ?_))
    all_goals exact fP _ ⟨_,y,hV2,hyN,hyn,rfl,rfl⟩ bG sp9
  · rintro F V2 L' ⟨γ7,y,hV2,hyN,hyn,rfl,rfl⟩
    have hWV:=hW.le hV2
    by_cases hu:up.2=0
    · have hub:=hbd hu
      have hum:=hmd hu
      by_cases hs0:ss=[]
      · subst hs0
        have e9:jL b [] φ=kJ b (.mk (φ y.n.h) y.n.ks):=by rw [alter_root (by rw [hup];exact hu),hup,hyn]
        rw [e9]
        have hG:=fun V3 (hV3:VLe V2 V3) (z:LN) (hz:aT V3 z)=>grows_c V3 p b _ hok ⟨I,L1,rfl,hWV.le hV3⟩ z hz
        have hF:=fun V3 (hV3:VLe V2 V3)=>hA V3 (hV2.trans hV3) I (hWV.xs.le hV3) γ7 y (show 0≤y.n.h.mode∧y.n.h.mode≤4095 by rw [hyn];exact hum.here) (hyN.le hV3)
        repeat' (first|(refine aG ?_;refine pu9 ?_)|refine gx9 ?_|refine iR [2,4] rfl ?_|(refine aA rfl ?_ ?_<;>intro hq<;>try exact no9))
        all_goals first
          | (exfalso;exact absurd hu (by assumption))
          | (exfalso;simp at sl;omega)
          | skip
        repeat' (first|(refine aG ?_;first|(refine aC ?_;(refine rT (fs:=[]) rfl he rfl rfl uQ rfl (hF _ vl9) ?_;rintro v V3 B3 hV3 ⟨y3,rfl,hy3n,hy3N⟩;simp only [List.cons_append,List.nil_append]))|refine pu9 ?_)|refine gx9 ?_|refine dW (id:=5) ?_)
        have hG2:=hG _ vl9 y3 hy3N
        rw [show y3.n=.mk (φ y.n.h) y.n.ks from hy3n] at hG2
        repeat' (first|(refine aG ?_;first|(refine aC ?_;(refine aM rfl ⟨Tryz.call97⟩ rfl bD rfl (hG2) ?_;rintro v V4 B4 hV4 ⟨rfl,hB4⟩))|refine pu9 ?_)|refine bS ?_|fail)
        all_goals
          (refine aV Tryz.results91 (aB rfl) (List.Sublist.cons _ (List.Sublist.refl _)) ?_)
          exact⟨rfl,hB4⟩
      · have hbF:cH eR ((eP up.1 ss).getD pnZ):=by
          cases hf:eP up.1 ss with
          | none=>exact .mk ⟨Nat.zero_le _,Nat.zero_le _⟩ (by simp)
          | some x=>exact uY (hub.imp fun _ _=>oB) hf
        have hbH:((eP up.1 ss).getD pnZ).h.attrs.length≤1000:=by
          cases hf:eP up.1 ss with
          | none=>exact Nat.zero_le _
          | some x=>exact(uY hub hf).here.1
        have hbM:0≤((eP up.1 ss).getD pnZ).h.mode∧((eP up.1 ss).getD pnZ).h.mode≤4095:=by
          cases hf:eP up.1 ss with
          | none=>exact⟨Int.le_refl _,by decide⟩
          | some x=>exact(uY hum hf).here
        have e9:=alter_put (b:=b) (ss:=ss) (φ:=φ) (by rw [hup];exact hu) hs0 rfl
        rw [hup] at e9
        rw [e9]
        have hn1:cH eR (PN.mk (φ ((eP up.1 ss).getD pnZ).h) ((eP up.1 ss).getD pnZ).ks):=by
          refine .mk ⟨?_,hbF.here.2⟩ (fun k hk=>hbF.kid hk)
          have:=hφ _ hbH
          omega
        have hFd:=fun V3 (hV3:VLe V2 V3)=>Find_c V3 y (hyN.le hV3) (by rw [hyn];exact hub.imp fun _ _=>oB) Bo m e ss (hs.le (hV2.trans hV3))
        rw [hyn] at hFd
        have hF:=fun V3 (hV3:VLe V2 V3) g (z:LN) (hzn:z.n=(eP up.1 ss).getD pnZ) (hz:aT V3 z)=>hA V3 (hV2.trans hV3) I (hWV.xs.le hV3) g z (show 0≤z.n.h.mode∧z.n.h.mode≤4095 by rw [hzn];exact hbM) hz
        generalize hnn:(PN.mk (φ ((eP up.1 ss).getD pnZ).h) ((eP up.1 ss).getD pnZ).ks)=n1 at *
        have hPut:∀ V5,VLe V2 V5→∀ z:LN,aT V5 z→z.n=n1→Fn Tryz.prog 101 [lnV y,.slice Bo m e,lnV z] V5 (rR false n1 up.1 ss):=fun V5 h5 z hz hzn=>by
          have h9:=Put_c V5 y (hyN.le h5) (by rw [hyn];exact hub.imp fun _ _=>mG (by omega)) Bo m e ss (hs.le (hV2.trans h5)) hme z hz (by rw [hzn];exact hn1)
          rw [hzn,hyn] at h9
          exact h9
        have hG:=fun V3 (hV3:VLe V2 V3) (z:LN) (hz:aT V3 z)=>grows_c V3 p b _ hok ⟨I,L1,rfl,hWV.le hV3⟩ z hz
        repeat' (first|(refine aG ?_;first|(refine aC ?_;(refine aS rfl ⟨Tryz.call100⟩ rfl rfl (hFd _ vl9) ?_;rintro v V3 hV3 ⟨z,rfl,hzN,hzn⟩))|refine st9 ?_|(refine al9 ?_;intro γ)|refine pu9 ?_)|refine gx9 ?_|refine iR [2,4,7] rfl ?_|(refine aA rfl ?_ ?_<;>intro hq<;>try exact no9))
        all_goals first
          | (exfalso;exact absurd hu (by assumption))
          | (exfalso;exact hs0 (List.eq_nil_of_length_eq_zero (by omega)))
          | skip
        refine gc_swap ?_
        repeat' (first|(refine aG ?_;first|(refine aC ?_;(refine rT (fs:=[]) rfl he rfl rfl uQ rfl (hF _ vl9 _ z hzn hzN) ?_;rintro v V4 B4 hV4 ⟨y3,rfl,hy3n,hy3N⟩;simp only [List.cons_append,List.nil_append]))|refine pu9 ?_)|refine gx9 ?_|refine dW (id:=8) ?_)
        have hy3:y3.n=n1:=by
          rw [hy3n,←hnn,←hzn]
          rfl
        refine gc_swap ?_
        have hP:=hPut _ vl9 y3 hy3N hy3
        by_cases hpf:pF false n1 up.1 ss=0
        · rw [if_neg (not_not_intro hpf)]
          repeat' (first|(refine aG ?_;first|(refine aC ?_;(refine aS rfl ⟨Tryz.call101⟩ rfl rfl (hP) ?_;rintro v V5 hV5 ⟨x5,rfl,hx5N,hx5n⟩))|refine st9 ?_|refine pu9 ?_)|refine bS ?_|fail)
          rw [putP,if_pos hpf] at hx5n
          have e0:∀ l,l=lnC x5→spl (lnC y) 0 l=lnC x5:=fun l hl=>by rw [hl];exact nI rfl
          rw [e0 _ ?_]
          rotate_left
          · rfl
          have hG2:=hG _ vl9 x5 hx5N
          rw [hx5n] at hG2
          repeat' (first|(refine aG ?_;first|(refine aC ?_;(refine aM rfl ⟨Tryz.call97⟩ rfl bD rfl (hG2) ?_;rintro v V6 B6 hV6 ⟨rfl,hB6⟩))|refine pu9 ?_)|refine bS ?_|(refine aA rfl ?_ ?_<;>intro hq<;>try exact no9))
          all_goals first
            | (exfalso;exact absurd hpf (by assumption))
            | skip
          all_goals
            (refine aV Tryz.results91 (aB rfl) (List.Sublist.cons _ (List.Sublist.cons _ (List.Sublist.refl _))) ?_)
            exact⟨rfl,hB6⟩
        · rw [if_pos hpf]
          repeat' (first|(refine aG ?_;first|(refine aC ?_;(refine aS rfl ⟨Tryz.call101⟩ rfl rfl (hP) ?_;rintro v V5 hV5 ⟨x5,rfl,hx5N,hx5n⟩))|refine st9 ?_|refine pu9 ?_)|refine bS ?_|(refine aA rfl ?_ ?_<;>intro hq<;>try exact no9))
          all_goals first
            | (exfalso;exact hpf (by assumption))
            | skip
          all_goals
            (refine aV Tryz.results91 (aB rfl) (List.Sublist.cons _ (List.Sublist.cons _ (List.Sublist.refl _))) ?_)
            exact⟨rfl,I,_,rfl,hWV.le vl9⟩
    · rw [alter_up (by rw [hup];exact hu),hup]
      repeat' (first|(refine aG ?_;refine pu9 ?_)|refine bS ?_|(refine aA rfl ?_ ?_<;>intro hq<;>try exact no9))
      all_goals first
        | (exfalso;exact hu (by assumption))
        | skip
      all_goals
        (refine aV Tryz.results91 (aB rfl) (List.Sublist.cons _ (List.Sublist.refl _)) ?_)
        exact⟨rfl,I,_,rfl,hWV⟩
end
section
attribute [local irreducible] AtQ GoC GoL GoW QO QP Fn RV bF aD VLe bU bA
theorem mode1_c (V:aE) (p:Nat) (b:BX) (γ:Nat) (m:Int) (hγ:V ⟨γ,0,none⟩=some (.int .i64 m)):AlterC 104 [.pointer (some ⟨γ,0,none⟩)] p b (fun h=>{ h with mode:=m }) V:=by
  intro V0 hV I hI g x hmd hx
  have h0:=eZ hV hγ
  obtain⟨ha,hca,hd,hck,es,hk,hks⟩:=hx.inv
  (refine aL Tryz.func104 rfl Tryz.ntmps104 rfl ?_;intro w0)
  repeat' (first|(refine aG ?_;first|refine st9 ?_|refine pu9 ?_)|refine bS ?_|fail)
  all_goals
    (first|refine oE Tryz.results104  (List.Sublist.refl _) ?_|refine oF Tryz.results104 (List.Sublist.refl _) ?_)
    exact⟨{ x with h:={ x.h with mode:=m } },rfl,rfl,.mk _ es ha hca hd hk.1 hck hks (fun e he=>(hk.2 e he).1) (fun e he=>(hk.2 e he).2)⟩
theorem set1_c (V:aE) (p:Nat) (b:BX) (γ:Nat) (A:Option Addr) (n c:Nat) (xs:List PA) (hγ:V ⟨γ,0,none⟩=some (.slice A n c)) (hA:fD V A n xs) (hnc:n≤c):AlterC 112 [.pointer (some ⟨γ,0,none⟩)] p b (fun h=>{ h with attrs:=xs }) V:=by
  intro V0 hV I hI g x hmd hx
  have h0:=eZ hV hγ
  obtain⟨ha,hca,hd,hck,es,hk,hks⟩:=hx.inv
  (refine aL Tryz.func112 rfl Tryz.ntmps112 rfl ?_;intro w0)
  repeat' (first|(refine aG ?_;first|refine st9 ?_|refine pu9 ?_)|refine bS ?_|fail)
  all_goals
    (first|refine oE Tryz.results112  (List.Sublist.refl _) ?_|refine oF Tryz.results112 (List.Sublist.refl _) ?_)
    exact⟨{ x with h:={ x.h with attrs:=xs },A:=A,na:=n,ca:=c },rfl,rfl,.mk _ es (hA.le hV) hnc hd hk.1 hck hks (fun e he=>(hk.2 e he).1) (fun e he=>(hk.2 e he).2)⟩
theorem own1_c (V:aE) (p:Nat) (b:BX) (hd0:0≤b.c.d∧b.c.d≤15) (γ δ:Nat) (u g:Int) (h2:V ⟨γ,2,none⟩=some (.int .i64 u)) (h3:V ⟨γ,3,none⟩=some (.int .i64 g)) (hp:V ⟨δ,0,none⟩=some (.pointer (some ⟨p,0,none⟩))):AlterC 107 [.pointer (some ⟨γ,0,none⟩),.pointer (some ⟨δ,0,none⟩)] p b (fun h=>{ h with user:=u,group:=g,mode:=uT b.c.d h.mode }) V:=by
  intro V0 hV I hI q x hmd hx
  have h2':=eZ hV h2
  have h3':=eZ hV h3
  have hp':=eZ hV hp
  obtain⟨ha,hca,hd,hck,es,hk,hks⟩:=hx.inv
  have hW:=fun V2=>Wipe_c V2 b.c.u b.c.g b.c.d I.A I.n I.k x.h.mode hmd.1 hmd.2 hd0.1 hd0.2
  (refine aL Tryz.func107 rfl Tryz.ntmps107 rfl ?_;intro w0)
  repeat' (first|refine gx9 ?_|fail)
  refine bT (id:=0) _ mixed (List.nil_sublist _) ?_;refine gt9 0 ?_;refine gt9 1 ?_;refine gt9 2 ?_;refine gt9 3 ?_;refine gt9 4 ?_;refine gt9 5 ?_;refine gt9 6 ?_;refine gt9 7 ?_;refine bM (i:=8) rfl ?_;refine aP rfl siz_3 rfl rfl rfl rfl cI fU rfl ?_;refine gt9 9 ?_;refine gt9 10 ?_;refine bM (i:=11) rfl ?_;refine aP rfl siz_3 rfl rfl rfl rfl cI fU rfl ?_;refine bC (by kernel_rfl) vl9 vl9 cC ?_
  all_goals repeat' (first|(refine xE ?_;(first|refine jJ ?_|refine xD rfl ?_)))
  all_goals refine bT (id:=1) _ mixed (List.Sublist.cons _ (List.Sublist.refl _)) ?_;refine gt9 0 ?_;refine gt9 1 ?_;refine gt9 2 ?_;refine gt9 3 ?_;refine gt9 4 ?_;refine gt9 5 ?_;refine gt9 6 ?_;refine gt9 7 ?_;refine bM (i:=8) rfl ?_;(first|refine aI (aX one_3 rfl bN (by exact rfl)) ?_|refine aI (aX one_3 rfl bN (by assumption)) ?_|refine aI (cK one_3 rfl (by assumption)) ?_);refine bM (i:=9) rfl ?_;refine aO rfl (aK ⟨Tryz.call93⟩ rfl (hW _)) ?_;refine gt9 10 ?_;refine gt9 11 ?_;refine bM (i:=12) rfl ?_;refine aP rfl siz_3 rfl rfl rfl rfl cI fU rfl ?_;refine bC (by kernel_rfl) vl9 vl9 cC ?_
  all_goals repeat' (first|fail)
  all_goals
    (first|refine oE Tryz.results107  (List.Sublist.refl _) ?_|refine oF Tryz.results107 (List.Sublist.refl _) ?_)
    exact⟨{ x with h:={ x.h with user:=u,group:=g,mode:=uT b.c.d x.h.mode } },rfl,rfl,.mk _ es ha hca hd hk.1 hck hks (fun e he=>(hk.2 e he).1) (fun e he=>(hk.2 e he).2)⟩
theorem put1_c (V:aE) (p:Nat) (b:BX) (hd0:0≤b.c.d∧b.c.d≤15) (γ δ:Nat) (dt:ByteArray) (hdt:dt.size≤maxLen) (h4:V ⟨γ,4,none⟩=some (.string dt)) (hp:V ⟨δ,0,none⟩=some (.pointer (some ⟨p,0,none⟩))):AlterC 92 [.pointer (some ⟨γ,0,none⟩),.pointer (some ⟨δ,0,none⟩)] p b (fun h=>{ h with data:=dt,mode:=uT b.c.d h.mode }) V:=by
  intro V0 hV I hI q x hmd hx
  have h4':=eZ hV h4
  have hp':=eZ hV hp
  obtain⟨ha,hca,hd,hck,es,hk,hks⟩:=hx.inv
  have hW:=fun V2=>Wipe_c V2 b.c.u b.c.g b.c.d I.A I.n I.k x.h.mode hmd.1 hmd.2 hd0.1 hd0.2
  (refine aL Tryz.func92 rfl Tryz.ntmps92 rfl ?_;intro w0)
  repeat' (first|(refine aG ?_;first|refine st9 ?_|refine pu9 ?_)|refine bS ?_|fail)
  all_goals refine bT (id:=1) _ mixed (List.Sublist.cons _ (List.Sublist.refl _)) ?_;refine gt9 0 ?_;refine gt9 1 ?_;refine gt9 2 ?_;refine gt9 3 ?_;refine gt9 4 ?_;refine gt9 5 ?_;refine gt9 6 ?_;refine gt9 7 ?_;refine bM (i:=8) rfl ?_;(first|refine aI (aX one_3 rfl bN (by exact rfl)) ?_|refine aI (aX one_3 rfl bN (by assumption)) ?_|refine aI (cK one_3 rfl (by assumption)) ?_);refine bM (i:=9) rfl ?_;refine aO rfl (aK ⟨Tryz.call93⟩ rfl (hW _)) ?_;refine gt9 10 ?_;refine gt9 11 ?_;refine bM (i:=12) rfl ?_;refine aP rfl siz_3 rfl rfl rfl rfl cI fU rfl ?_;refine bC (by kernel_rfl) vl9 vl9 cC ?_
  all_goals repeat' (first|fail)
  all_goals
    (first|refine oE Tryz.results92  (List.Sublist.refl _) ?_|refine oF Tryz.results92 (List.Sublist.refl _) ?_)
    exact⟨{ x with h:={ x.h with data:=dt,mode:=uT b.c.d x.h.mode } },rfl,rfl,.mk _ es ha hca hdt hk.1 hck hks (fun e he=>(hk.2 e he).1) (fun e he=>(hk.2 e he).2)⟩
end
section
theorem mJ (l:List UInt8):(aQ l).length≤6:=by
  unfold aQ
  split
  · rename_i h
    obtain⟨h1,h2⟩:=h
    unfold eI at h1
    rw [if_neg h2] at h1
    unfold baL
    rw [List.length_map]
    split at h1
    · simp at h1
    · split at h1
      · simp at h1
      · split at h1
        · simp at h1
        · omega
  · exact Nat.zero_le _
theorem qR.owned {V:aE} {p:Nat} {b:BX} {I:BI} {L1:List Box} (hok:bI b) (hW:qR V b I L1):∀ x∈iG (⟨p,90,bxC I b⟩ :: L1),∃ cs,bF (⟨p,90,bxC I b⟩ :: L1) x cs:=by
  obtain⟨q,x0,xt,rest,hK,hx,rfl,_⟩:=hW.open_ hok
  intro x hx
  simp [iG] at hx
  rcases hx with rfl|rfl
  · exact⟨_,own_here⟩
  · exact⟨_,cG own_here⟩
def rI (b:BX) (l:List UInt8) (m:Int):BX×Int:=if m<0∨4095<m then (b,1) else if ¬dH b l=0 then (b,dH b l) else if uU b.c (bE b l).th=false then (b,10) else jL b (aQ l) (fun h=>{ h with mode:=uL b.c.g b.c.d b.c.xs m (bE b l).th.group })
theorem aD.at0 {V:aE} {γ:Nat} {v:Value} (h:aD V γ 0 [v]):V ⟨γ,0,none⟩=some v:=h 0 v rfl
theorem tV {V:aE} {p:Nat} {b:BX} {Bs:List Box} (hok:bI b) (h:fE V p b Bs) (s:ByteArray) (hl:s.size≤1000000):FnB Tryz.prog 85 [.pointer (some ⟨p,0,none⟩),.string s] V Bs fun v V' Bs'=>Bs'=Bs∧oQ b (aH s) v V' :=
  fE.read hok h (fun v V gs hc hR=>oQ.off hc hR) fun V' I hV hB=>there_s V' p b I hok hB s hl
attribute [local irreducible] AtQ GoC GoL GoW QO QP Fn RV bF aD VLe bU bA
theorem mode_c (V:aE) (p:Nat) (b:BX) (Bs:List Box) (hok:bI b) (h:fE V p b Bs) (c:CL) (hc:c.path.size≤1000000):FnB Tryz.prog 45 [.pointer (some ⟨p,0,none⟩),clV c] V Bs (ChB p (rI b (aH c.path) c.a)):=by
  obtain⟨I,L1,rfl,hW⟩:=h
  have hT:=fun V2 (hV2:VLe V V2)=>tV (V:=V2) (p:=p) hok ⟨I,L1,rfl,hW.le hV2⟩ c.path hc
  have hO:=fun V2=>Owns_c V2 b.c I.A I.n I.k hok.d
  have hth:=iU hok (aH c.path)
  unfold rI
  by_cases hm:c.a<0∨4095<c.a
  · rw [if_pos hm]
    (refine aL Tryz.func45 rfl Tryz.ntmps45 rfl ?_;intro w0)
    repeat' (first|(refine aG ?_;first|(refine al9 ?_;intro γ)|refine pu9 ?_)|refine nO ?_|(refine aJ rfl rfl rfl ?_ ?_<;>intro hq<;>try exact no9)|refine iR [0,1,2] rfl ?_|(refine aA rfl ?_ ?_<;>intro hq<;>try exact no9))
    all_goals try exact no9
    all_goals
      (refine aV Tryz.results45 (aB rfl) (List.Sublist.cons _ (List.Sublist.refl _)) ?_)
      exact⟨cP 1 rfl,I,_,rfl,hW⟩
  · rw [if_neg hm]
    by_cases ht:dH b (aH c.path)=0
    · rw [if_neg (not_not_intro ht)]
      by_cases how:uU b.c (bE b (aH c.path)).th=false
      · rw [if_pos how]
        have hO9:=fun V2=>hO V2 (bE b (aH c.path)).th
        rw [how] at hO9
        (refine aL Tryz.func45 rfl Tryz.ntmps45 rfl ?_;intro w0)
        repeat' (first|(refine aG ?_;first|(refine aC ?_;(first|(refine aM rfl ⟨Tryz.call85⟩ rfl bD rfl (hT _ vl9) ?_;rintro v V2 B2 hV2 ⟨rfl,hR⟩;rcases hR with ⟨ht0,A,n,k,x,rfl,hs,hnk,hxN,hxn⟩|⟨ht0,A,n,k,x,lay,par,th,rfl⟩)|refine aO rfl (aK ⟨Tryz.call102⟩ rfl (hO9 _)) ?_))|(refine cY ?_;refine aP rfl siz_152 rfl rfl rfl rfl cI lP rfl ?_)|(refine al9 ?_;intro γ)|refine pu9 ?_)|refine nO ?_|(refine aJ rfl rfl rfl ?_ ?_<;>intro hq<;>try exact no9)|refine iR [0,1,3,4,7] rfl ?_|(refine aA rfl ?_ ?_<;>intro hq<;>try exact no9)|refine cO (id:=6) mixed (by kernel_rfl) ?_)
        all_goals first
          | exact no9
          | (exfalso;exact absurd ht ht0)
          | skip
        all_goals
          (refine aV Tryz.results45 (aB rfl) (List.Sublist.cons _ (List.Sublist.cons _ (List.Sublist.refl _))) ?_)
          exact⟨cP 10 rfl,I,_,rfl,hW.le vl9⟩
      · rw [if_neg how]
        have hO9:=fun V2=>hO V2 (bE b (aH c.path)).th
        rw [show uU b.c (bE b (aH c.path)).th=true by revert how;cases uU b.c (bE b (aH c.path)).th<;>simp] at hO9
        have hK:=fun V2 (hV2:VLe V V2)=>Keep_c V2 b.c.u b.c.g b.c.d I.A I.n I.k b.c.xs (hW.xs.le hV2) c.a (bE b (aH c.path)).th.group (by omega) (by omega) hok.d.1 hok.d.2
        generalize hkq:uL b.c.g b.c.d b.c.xs c.a (bE b (aH c.path)).th.group=kq at *
        have hown:=hW.owned (p:=p) hok
        have hAl:=fun V2 (hV2:VLe V V2) γ (hγ:V2 ⟨γ,0,none⟩=some (.int .i64 kq)) A n k (hs:cV V2 A n (aQ (aH c.path))) (hnk:n≤k)=>alter_c ⟨Tryz.call104⟩ V2 p b _ hok ⟨I,L1,rfl,hW.le hV2⟩ (mode1_c V2 p b γ kq hγ) (fun h hh=>hh) A n k _ hs hnk (by have:=mJ (aH c.path);have:=hs.1.1;omega)
        (refine aL Tryz.func45 rfl Tryz.ntmps45 rfl ?_;intro w0)
        repeat' (first|(refine aG ?_;first|(refine aC ?_;(first|(refine aM rfl ⟨Tryz.call85⟩ rfl bD rfl (hT _ vl9) ?_;rintro v V2 B2 hV2 ⟨rfl,hR⟩;rcases hR with ⟨ht0,A,n,k,x,rfl,hs,hnk,hxN,hxn⟩|⟨ht0,A,n,k,x,lay,par,th,rfl⟩)|refine aO rfl (aK ⟨Tryz.call102⟩ rfl (hO9 _)) ?_))|(refine cY ?_;refine aP rfl siz_152 rfl rfl rfl rfl cI lP rfl ?_)|(refine al9 ?_;intro γ)|refine pu9 ?_)|refine nO ?_|(refine aJ rfl rfl rfl ?_ ?_<;>intro hq<;>try exact no9)|refine iR [0,1,3,4] rfl ?_|(refine aA rfl ?_ ?_<;>intro hq<;>try exact no9)|refine cO (id:=6) mixed (by kernel_rfl) ?_)
        all_goals first
          | exact no9
          | (exfalso;exact absurd ht ht0)
          | skip
        all_goals refine bT (id:=8) _ mixed (List.Sublist.refl _) ?_;refine gt9 0 ?_;refine gt9 1 ?_;refine gt9 2 ?_;refine gt9 3 ?_;refine gt9 4 ?_;refine gt9 5 ?_;refine gt9 6 ?_;refine gt9 7 ?_;refine gt9 8 ?_;(refine iC (i:=9) (j:=10) (by kernel_rfl) rfl rfl rfl rfl vl9 vl9 cC ?_ ?_<;>first|(refine aO rfl (aK ⟨Tryz.call103⟩ rfl (hK _ vl9)) ?_;refine bM (i:=10) rfl ?_;(refine eN rfl zer_3 rfl ?_;intro γ);refine bM (i:=11) rfl ?_;refine aP rfl siz_3 rfl rfl rfl rfl cI fU rfl ?_;refine bC (by kernel_rfl) vl9 vl9 cC ?_)|((refine eN rfl zer_3 rfl ?_;intro γ);refine bM (i:=9) rfl ?_;refine aO rfl (aK ⟨Tryz.call103⟩ rfl (hK _ vl9)) ?_;refine bM (i:=11) rfl ?_;refine aP rfl siz_3 rfl rfl rfl rfl cI fU rfl ?_;refine bC (by kernel_rfl) vl9 vl9 cC ?_))
        all_goals
          refine wE (gB.here _ _ _ _) ?_ (fun x hx=>let ⟨cs,h9⟩:=hown x hx;⟨cs,cG (cG h9)⟩)
          intro V3 hV3 hc3
          repeat' (first|(refine aG ?_;refine pu9 ?_)|refine bS ?_|fail)
          have hAl2:=hAl _ vl9 _ (aD.at0 hc3) _ _ _ (hs.le hV3) hnk
          refine aM rfl ⟨Tryz.call91⟩ rfl bD rfl hAl2 ?_
          rintro v V4 B4 hV4 ⟨rfl,hB4⟩
          repeat' (first|(refine aG ?_;refine pu9 ?_)|refine gx9 ?_|fail)
        all_goals
          (refine aV Tryz.results45 (aB rfl) (List.Sublist.cons _ (List.Sublist.cons _ (List.Sublist.refl _))) ?_)
          exact⟨rfl,hB4⟩
    · rw [if_pos ht]
      (refine aL Tryz.func45 rfl Tryz.ntmps45 rfl ?_;intro w0)
      repeat' (first|(refine aG ?_;first|(refine aC ?_;(refine aM rfl ⟨Tryz.call85⟩ rfl bD rfl (hT _ vl9) ?_;rintro v V2 B2 hV2 ⟨rfl,hR⟩;rcases hR with ⟨ht0,A,n,k,x,rfl,hs,hnk,hxN,hxn⟩|⟨ht0,A,n,k,x,lay,par,th,rfl⟩))|(refine cY ?_;refine aP rfl siz_152 rfl rfl rfl rfl cI lP rfl ?_)|(refine al9 ?_;intro γ)|refine pu9 ?_)|refine nO ?_|(refine aJ rfl rfl rfl ?_ ?_<;>intro hq<;>try exact no9)|refine iR [0,1,3,4,5] rfl ?_|(refine aA rfl ?_ ?_<;>intro hq<;>try exact no9))
      all_goals first
        | exact no9
        | (exfalso;exact absurd ht0 ht)
        | skip
      all_goals
        (refine aV Tryz.results45 (aB rfl) (List.Sublist.cons _ (List.Sublist.cons _ (List.Sublist.refl _))) ?_)
        exact⟨rfl,I,_,rfl,hW.le vl9⟩
end
section
theorem dropA_len {nm:ByteArray} {xs:List PA} (hp:xs.Pairwise ltA) (hi:isA nm xs):(sJ xs nm).length+1=xs.length∧atA nm xs<xs.length:=by
  obtain⟨a,ha,_⟩:=(yB hp).1 hi
  have hlt:atA nm xs<xs.length:=by
    rcases Nat.lt_or_ge (atA nm xs) xs.length with h|h
    · exact h
    · rw [List.getElem?_eq_none h] at ha;cases ha
  unfold sJ
  exact⟨by simp;omega,hlt⟩
attribute [local irreducible] AtQ GoC GoL GoW QO QP Fn RV bF aD VLe bU bA
theorem getR_no {xs:List PA} {nm:ByteArray} (h0:¬mN xs nm=0):GetR xs nm=.tuple #[.string ⟨#[]⟩,bA (mN xs nm)]:=by unfold GetR;rw [if_neg (fun e=>h0 e.2)]
theorem getR_yes {xs:List PA} {nm:ByteArray} (h0:mN xs nm=0) (hh:tN nm xs=true):GetR xs nm=.tuple #[.string (getA nm xs),bA 0]:=by unfold GetR;rw [if_pos ⟨hh,h0⟩,h0]
theorem getF_isA {xs:List PA} {nm:ByteArray} (h:mN xs nm=0):tN nm xs=true:=jI.2 (getF_zero h).2.2
theorem Drop_c (V:aE) (A:Option Addr) (n c:Nat) (xs:List PA) (nm:ByteArray) (h:fD V A n xs) (hcap:n≤c) (hm2:nm.size≤9223372036854775807):Fn Tryz.prog 110 [.slice A n c,.string nm] V (AttrRes (mN xs nm) (sJ xs nm)):=by
  have hl:=h.1.1
  have hm:=h.1.max
  have hG:=Get_c V A n c xs nm h hm2
  by_cases h0:mN xs nm=0
  · have hh:=getF_isA h0
    obtain⟨r1,r2,r3⟩:=qZ (getF_zero h0).1
    obtain⟨d1,d2⟩:=dropA_len r2 (jI.1 hh)
    rw [getR_yes h0 hh] at hG
    have hpl:=place_c V A n c xs nm h r2 (by omega)
    have hdr:=xV (k:=((atA nm xs:Int)+1).toNat) h (by omega) hcap
    (refine aN Tryz.func110 rfl Tryz.ntmps110 rfl ?_;intro w0)
    repeat' (first|(refine aG ?_;first|(refine aC ?_;(first|refine aO rfl (aK ⟨Tryz.call113⟩ rfl (hG)) ?_|refine aO rfl (aK ⟨Tryz.call156⟩ rfl (hpl)) ?_))|refine pu9 ?_)|refine bV ?_|(refine bT (id:=5) _ mixed (List.Sublist.refl _) ?_;refine gt9 0 ?_;refine gt9 1 ?_;refine gO 2 rfl rfl (dY und_47 siz_222 rfl rfl (by omega)) ?_;refine gt9 4 ?_;refine gt9 5 ?_;refine gt9 6 ?_;refine gO 7 rfl rfl (iV und_47 siz_222 rfl rfl (by omega)) ?_;refine bM (i:=3) rfl ?_;(refine bQ rfl und_47 inf_222 rfl rfl rfl cX.nil eL (nE (yF (k:=atA nm xs) h (by omega))) cI (by omega) rfl rfl ?_;intro A1 c1 L1 hr1);refine bM (i:=8) rfl ?_;(refine bQ rfl und_47 inf_222 rfl rfl rfl hr1 bD (nE hdr) cI (by omega) rfl rfl ?_;intro A3 c3 L3 hr3;have hcap3:=hr3.cap);refine gt9 9 ?_;refine gt9 10 ?_;refine bC (by kernel_rfl) vl9 vl9 cC ?_))
    refine iJ hr3 bD ?_
    intro V2 hV2 hc3
    (refine bL Tryz.results110 (aB rfl) (aB rfl) ?_)
    have hcells:([] ++ (xs.take (atA nm xs)).flatMap paC ++ (xs.drop (((atA nm xs:Int)+1).toNat)).flatMap paC:List Value)=(sJ xs nm).flatMap paC:=by rw [tn1,sJ,List.flatMap_append];rfl
    have hN:0+atA nm xs+(n - (((atA nm xs:Int)+1).toNat))=(sJ xs nm).length:=by omega
    have hM:fD V2 A3 _ (sJ xs nm):=rN (hcells▸hc3) hN.symm (by omega) (fun a ha=>h.2 a ((dropA_sub xs nm).subset ha))
    exact .inl ⟨h0,A3,c3,by rw [←hN,bO],hN▸hM,hN▸hcap3⟩
  · rw [getR_no h0] at hG
    have hbd:=getF_bd xs nm
    (refine aN Tryz.func110 rfl Tryz.ntmps110 rfl ?_;intro w0)
    repeat' (first|(refine aG ?_;first|(refine aC ?_;refine aO rfl (aK ⟨Tryz.call113⟩ rfl (hG)) ?_)|refine pu9 ?_)|refine bS ?_|(refine aA rfl ?_ ?_<;>intro hq<;>try exact no9))
    all_goals (refine bL Tryz.results110 (aB rfl) (aB rfl) ?_)
    exact mI rfl h0
end
section
noncomputable def newA (xs:List PA) (nm vl:ByteArray) (drop:Bool):Int×List PA:=if drop=true then (mN xs nm,sJ xs nm) else (uO xs nm vl,sO xs nm vl)
noncomputable def oY (b:BX) (l:List UInt8) (nm vl:ByteArray) (drop:Bool):BX×Int :=
  if eV nm=0 then (b,4) else if drop=false∧20<vl.size then (b,1) else if ¬dH b l=0 then (b,dH b l)
  else if ¬jG b (bE b l).th nm 2=0 then (b,jG b (bE b l).th nm 2)
  else if ¬(newA (bE b l).n.h.attrs nm vl drop).1=0 then (b,(newA (bE b l).n.h.attrs nm vl drop).1)
  else jL b (aQ l) (fun h=>{ h with attrs:=(newA (bE b l).n.h.attrs nm vl drop).2 })
theorem attrF_few {xs:List PA} (h:fJ xs=0):xs.length≤4:=by
  unfold fJ at h
  split at h
  · simp at h
  · omega
theorem drop_few {xs:List PA} {nm:ByteArray} (h:mN xs nm=0):(sJ xs nm).length≤1000:=by
  have h1:fJ xs=0:=by
    unfold mN at h
    by_cases h2:fJ xs=0
    · exact h2
    · rw [if_pos h2] at h;exact absurd h h2
  have:=attrF_few h1
  unfold sJ
  rw [List.length_append,List.length_take,List.length_drop]
  omega
theorem set_few {xs:List PA} {nm vl:ByteArray} (h:uO xs nm vl=0):(sO xs nm vl).length≤1000:=by
  have h1:fJ xs=0:=by
    unfold uO at h
    by_cases h2:fJ xs=0
    · exact h2
    · rw [if_pos h2] at h;exact absurd h h2
  have:=attrF_few h1
  unfold sO
  rw [List.length_append,List.length_take,List.length_cons,List.length_drop]
  omega
theorem attrs_b {V:aE} {p:Nat} {b:BX} {Bs:List Box} (hok:bI b) (h:fE V p b Bs) (th:TH) (ht:0≤th.mode∧th.mode≤4095) (nm:ByteArray) (hm:nm.size≤9223372036854775807):FnB Tryz.prog 109 [.pointer (some ⟨p,0,none⟩),thV th,.string nm,.int .i64 2] V Bs fun v V' Bs'=>Bs'=Bs∧v=bA (jG b th nm 2) :=
  fE.read hok h (fun v V gs hc hR=>hR) fun V' I hV hB=>attrs_c V' p b I hok hB th ht nm hm 2 (.inr (.inl rfl))
attribute [local irreducible] AtQ GoC GoL GoW QO QP Fn RV bF aD VLe bU bA
theorem wO (V:aE) (p:Nat) (b:BX) (Bs:List Box) (hok:bI b) (h:fE V p b Bs) (c:CL) (hc:c.path.size≤1000000) (hn:c.name.size≤9223372036854775807) (drop:Bool) (hx:eV c.name=0∨(drop=false∧20<c.data.size)∨¬dH b (aH c.path)=0∨¬jG b (bE b (aH c.path)).th c.name 2=0):FnB Tryz.prog 47 [.pointer (some ⟨p,0,none⟩),clV c,.bool drop] V Bs (ChB p (oY b (aH c.path) c.name c.data drop)):=by
  obtain⟨I,L1,rfl,hW⟩:=h
  have hT:=fun V2 (hV2:VLe V V2)=>tV (V:=V2) (p:=p) hok ⟨I,L1,rfl,hW.le hV2⟩ c.path hc
  have hth:=iU hok (aH c.path)
  have hC:=fun V2=>kV V2 c.name hn
  have hAt:=fun V2 (hV2:VLe V V2)=>attrs_b (V:=V2) (p:=p) hok ⟨I,L1,rfl,hW.le hV2⟩ _ hth c.name hn
  unfold oY
  by_cases hm:eV c.name=0
  · rw [if_pos hm]
    (refine aL Tryz.func47 rfl Tryz.ntmps47 rfl ?_;intro w0)
    repeat' (first|(refine aG ?_;first|(refine aC ?_;refine aO rfl (aK ⟨Tryz.call108⟩ rfl (hC _)) ?_)|(refine al9 ?_;intro γ)|refine pu9 ?_)|refine gx9 ?_|refine iR [0,1,2] rfl ?_|(refine aA rfl ?_ ?_<;>intro hq<;>try exact no9))
    all_goals try exact no9
    all_goals
      (refine aV Tryz.results47 (aB rfl) (List.Sublist.cons _ (List.Sublist.refl _)) ?_)
      exact⟨cP 4 rfl,I,_,rfl,hW⟩
  · rw [if_neg hm]
    by_cases hd:drop=false∧20<c.data.size
    · rw [if_pos hd]
      obtain⟨rfl,hd2⟩:=hd
      (refine aL Tryz.func47 rfl Tryz.ntmps47 rfl ?_;intro w0)
      repeat' (first|(refine aG ?_;first|(refine aC ?_;refine aO rfl (aK ⟨Tryz.call108⟩ rfl (hC _)) ?_)|(refine al9 ?_;intro γ)|refine pu9 ?_)|refine gx9 ?_|refine iR [0,1,3,4] rfl ?_|(refine aA rfl ?_ ?_<;>intro hq<;>try exact no9))
      all_goals try exact no9
      all_goals
        (refine aV Tryz.results47 (aB rfl) (List.Sublist.cons _ (List.Sublist.refl _)) ?_)
        exact⟨cP 1 rfl,I,_,rfl,hW⟩
    · rw [if_neg hd]
      by_cases ht:dH b (aH c.path)=0
      · rw [if_neg (not_not_intro ht)]
        have ha:¬jG b (bE b (aH c.path)).th c.name 2=0:=by
          rcases hx with h|h|h|h
          · exact absurd h hm
          · exact absurd h hd
          · exact absurd ht h
          · exact h
        rw [if_pos ha]
        (refine aL Tryz.func47 rfl Tryz.ntmps47 rfl ?_;intro w0)
        repeat' (first|(refine aG ?_;first|(refine aC ?_;(first|refine aO rfl (aK ⟨Tryz.call108⟩ rfl (hC _)) ?_|(refine aM rfl ⟨Tryz.call85⟩ rfl bD rfl (hT _ vl9) ?_;rintro v V2 B2 hV2 ⟨rfl,hR⟩;rcases hR with ⟨ht0,A,n,k,x,rfl,hs,hnk,hxN,hxn⟩|⟨ht0,A,n,k,x,lay,par,th,rfl⟩)|(refine aM rfl ⟨Tryz.call109⟩ rfl bD rfl (hAt _ vl9) ?_;rintro v V3 B3 hV3 ⟨rfl,rfl⟩)))|(refine cY ?_;refine aP rfl siz_152 rfl rfl rfl rfl cI lP rfl ?_)|(refine al9 ?_;intro γ)|refine pu9 ?_)|refine nO ?_|(refine cN rfl rfl rfl ?_ ?_<;>intro hq)|refine iR [0,1,3,4,5,6,8,9,10] rfl ?_|(refine aA rfl ?_ ?_<;>intro hq<;>try exact no9))
        all_goals first
          | exact no9
          | (exfalso;exact absurd ht ht0)
          | (exfalso;exact ha (by assumption))
          | (exfalso;exact hd ⟨by simpa using ‹(!drop)=true›,by omega⟩)
          | skip
        all_goals
          (refine aV Tryz.results47 (aB rfl) (List.Sublist.cons _ (List.Sublist.cons _ (List.Sublist.refl _))) ?_)
          exact⟨rfl,I,_,rfl,hW.le vl9⟩
      · rw [if_pos ht]
        (refine aL Tryz.func47 rfl Tryz.ntmps47 rfl ?_;intro w0)
        repeat' (first|(refine aG ?_;first|(refine aC ?_;(first|refine aO rfl (aK ⟨Tryz.call108⟩ rfl (hC _)) ?_|(refine aM rfl ⟨Tryz.call85⟩ rfl bD rfl (hT _ vl9) ?_;rintro v V2 B2 hV2 ⟨rfl,hR⟩;rcases hR with ⟨ht0,A,n,k,x,rfl,hs,hnk,hxN,hxn⟩|⟨ht0,A,n,k,x,lay,par,th,rfl⟩)))|(refine cY ?_;refine aP rfl siz_152 rfl rfl rfl rfl cI lP rfl ?_)|(refine al9 ?_;intro γ)|refine pu9 ?_)|refine nO ?_|(refine cN rfl rfl rfl ?_ ?_<;>intro hq)|refine iR [0,1,3,4,5,6,7] rfl ?_|(refine aA rfl ?_ ?_<;>intro hq<;>try exact no9))
        all_goals first
          | exact no9
          | (exfalso;exact absurd ht0 ht)
          | (exfalso;exact hd ⟨by simpa using ‹(!drop)=true›,by omega⟩)
          | skip
        all_goals
          (refine aV Tryz.results47 (aB rfl) (List.Sublist.cons _ (List.Sublist.cons _ (List.Sublist.refl _))) ?_)
          exact⟨rfl,I,_,rfl,hW.le vl9⟩
theorem set_late (V:aE) (p:Nat) (b:BX) (Bs:List Box) (hok:bI b) (h:fE V p b Bs) (c:CL) (hc:c.path.size≤1000000) (hn:c.name.size≤9223372036854775807) (hdz:c.data.size≤maxLen) (drop:Bool) (hm:¬eV c.name=0) (hd:¬(drop=false∧20<c.data.size)) (ht:dH b (aH c.path)=0) (ha:jG b (bE b (aH c.path)).th c.name 2=0):FnB Tryz.prog 47 [.pointer (some ⟨p,0,none⟩),clV c,.bool drop] V Bs (ChB p (oY b (aH c.path) c.name c.data drop)):=by
  obtain⟨I,L1,rfl,hW⟩:=h
  have hT:=fun V2 (hV2:VLe V V2)=>tV (V:=V2) (p:=p) hok ⟨I,L1,rfl,hW.le hV2⟩ c.path hc
  have hth:=iU hok (aH c.path)
  have hC:=fun V2=>kV V2 c.name hn
  have hAt:=fun V2 (hV2:VLe V V2)=>attrs_b (V:=V2) (p:=p) hok ⟨I,L1,rfl,hW.le hV2⟩ _ hth c.name hn
  rw [ha] at hAt
  have hDr:=fun V2 (x:LN) (hx:aT V2 x)=>Drop_c V2 x.A x.na x.ca x.h.attrs c.name hx.inv.1 hx.inv.2.1 hn
  have hSe:=fun V2 (x:LN) (hx:aT V2 x)=>Set_c V2 x.A x.na x.ca x.h.attrs c.name c.data hx.inv.1 hx.inv.2.1 hn hdz
  unfold oY
  rw [if_neg hm,if_neg hd,if_neg (not_not_intro ht),if_neg (not_not_intro ha)]
  have hown:=hW.owned (p:=p) hok
  have hAl:=fun V2 (hV2:VLe V V2) γ A q (xs:List PA) (hγ:V2 ⟨γ,0,none⟩=some (.slice A xs.length q)) (hA:fD V2 A xs.length xs) (hq:xs.length≤q) (hlen:xs.length≤1000) A' n k (hs:cV V2 A' n (aQ (aH c.path))) (hnk:n≤k)=>alter_c ⟨Tryz.call112⟩ V2 p b _ hok ⟨I,L1,rfl,hW.le hV2⟩ (set1_c V2 p b γ A _ q xs hγ hA hq) (fun h hh=>hlen) A' n k _ hs hnk (by have:=mJ (aH c.path);have:=hs.1.1;omega)
  cases drop with
  | true =>
    (refine aL Tryz.func47 rfl Tryz.ntmps47 rfl ?_;intro w0)
    repeat' (first|(refine aG ?_;first|(refine aC ?_;(first|refine aO rfl (aK ⟨Tryz.call108⟩ rfl (hC _)) ?_|(refine aM rfl ⟨Tryz.call85⟩ rfl bD rfl (hT _ vl9) ?_;rintro v V2 B2 hV2 ⟨rfl,hR⟩;rcases hR with ⟨ht0,A,n,k,x,rfl,hs,hnk,hxN,hxn⟩|⟨ht0,A,n,k,x,lay,par,th,rfl⟩)|(refine aM rfl ⟨Tryz.call109⟩ rfl bD rfl (hAt _ vl9) ?_;rintro v V3 B3 hV3 ⟨rfl,rfl⟩)))|(refine cY ?_;refine aP rfl siz_152 rfl rfl rfl rfl cI lP rfl ?_)|(refine al9 ?_;intro γ)|refine pu9 ?_)|refine nO ?_|refine iR [0,1,3,5,6,8,9,11,12] rfl ?_|(refine aA rfl ?_ ?_<;>intro hq<;>try exact no9))
    all_goals first
      | exact no9
      | (exfalso;exact absurd ht ht0)
      | skip
    all_goals
      have hxh:(bE b (aH c.path)).n.h.attrs=x.h.attrs:=by rw [←hxn];rfl
      rw [hxh,show newA x.h.attrs c.name c.data true=(mN x.h.attrs c.name,sJ x.h.attrs c.name) from if_pos rfl]
      repeat' (first|(refine aG ?_;first|(refine aC ?_;(refine aS rfl ⟨Tryz.call110⟩ rfl rfl (hDr _ x (hxN.le vl9)) ?_;rintro v V4 hV4 (⟨hf,A4,c4,rfl,hA4,hn4⟩|⟨hf,rfl⟩)))|refine st9 ?_|refine pu9 ?_)|refine nO ?_|refine iR [13,15,16] rfl ?_|(refine aA rfl ?_ ?_<;>intro hq<;>try exact no9))
    all_goals first
      | exact no9
      | (exfalso;exact hf (by assumption))
      | skip
    all_goals first
      | (rw [if_pos hf]
         (refine aV Tryz.results47 (aB rfl) (List.Sublist.cons _ (List.Sublist.cons _ (List.Sublist.cons _ (List.Sublist.refl _)))) ?_)
         exact⟨rfl,I,_,rfl,hW.le vl9⟩)
      | skip
    all_goals
      rw [if_neg (not_not_intro hf)]
      refine nK (gB.here _ _ _ _) ?_ (fun x hx=>let ⟨cs,h9⟩:=hown x hx;⟨cs,cG (cG h9)⟩)
      intro V5 hV5 hc5
      repeat' (first|(refine aG ?_;refine pu9 ?_)|refine bS ?_|fail)
      have hAl2:=hAl _ vl9 _ _ _ _ (aD.at0 hc5) (hA4.le hV5) hn4 (drop_few hf) _ _ _ (hs.le vl9) hnk
      refine aM rfl ⟨Tryz.call91⟩ rfl bD rfl hAl2 ?_
      rintro v V6 B6 hV6 ⟨rfl,hB6⟩
      repeat' (first|(refine aG ?_;refine pu9 ?_)|refine gx9 ?_|fail)
    all_goals
      (refine aV Tryz.results47 (aB rfl) (List.Sublist.cons _ (List.Sublist.cons _ (List.Sublist.refl _))) ?_)
      exact⟨rfl,hB6⟩
  | false =>
    have hd9:¬20<c.data.size:=fun h9=>hd ⟨rfl,h9⟩
    (refine aL Tryz.func47 rfl Tryz.ntmps47 rfl ?_;intro w0)
    repeat' (first|(refine aG ?_;first|(refine aC ?_;(first|refine aO rfl (aK ⟨Tryz.call108⟩ rfl (hC _)) ?_|(refine aM rfl ⟨Tryz.call85⟩ rfl bD rfl (hT _ vl9) ?_;rintro v V2 B2 hV2 ⟨rfl,hR⟩;rcases hR with ⟨ht0,A,n,k,x,rfl,hs,hnk,hxN,hxn⟩|⟨ht0,A,n,k,x,lay,par,th,rfl⟩)|(refine aM rfl ⟨Tryz.call109⟩ rfl bD rfl (hAt _ vl9) ?_;rintro v V3 B3 hV3 ⟨rfl,rfl⟩)))|(refine cY ?_;refine aP rfl siz_152 rfl rfl rfl rfl cI lP rfl ?_)|(refine al9 ?_;intro γ)|refine pu9 ?_)|refine nO ?_|refine iR [0,1,3,5,6,8,9,11,12] rfl ?_|(refine aA rfl ?_ ?_<;>intro hq<;>try exact no9))
    all_goals first
      | exact no9
      | (exfalso;exact absurd ht ht0)
      | skip
    all_goals
      have hxh:(bE b (aH c.path)).n.h.attrs=x.h.attrs:=by rw [←hxn];rfl
      rw [hxh,show newA x.h.attrs c.name c.data false=(uO x.h.attrs c.name c.data,sO x.h.attrs c.name c.data) from if_neg (by decide)]
      repeat' (first|(refine aG ?_;first|(refine aC ?_;(refine aS rfl ⟨Tryz.call111⟩ rfl rfl (hSe _ x (hxN.le vl9)) ?_;rintro v V4 hV4 (⟨hf,A4,c4,rfl,hA4,hn4⟩|⟨hf,rfl⟩)))|refine st9 ?_|refine pu9 ?_)|refine nO ?_|refine iR [14,15,16] rfl ?_|(refine aA rfl ?_ ?_<;>intro hq<;>try exact no9))
    all_goals first
      | exact no9
      | (exfalso;exact hf (by assumption))
      | skip
    all_goals first
      | (rw [if_pos hf]
         (refine aV Tryz.results47 (aB rfl) (List.Sublist.cons _ (List.Sublist.cons _ (List.Sublist.cons _ (List.Sublist.refl _)))) ?_)
         exact⟨rfl,I,_,rfl,hW.le vl9⟩)
      | skip
    all_goals
      rw [if_neg (not_not_intro hf)]
      refine nK (gB.here _ _ _ _) ?_ (fun x hx=>let ⟨cs,h9⟩:=hown x hx;⟨cs,cG (cG h9)⟩)
      intro V5 hV5 hc5
      repeat' (first|(refine aG ?_;refine pu9 ?_)|refine bS ?_|fail)
      have hAl2:=hAl _ vl9 _ _ _ _ (aD.at0 hc5) (hA4.le hV5) hn4 (set_few hf) _ _ _ (hs.le vl9) hnk
      refine aM rfl ⟨Tryz.call91⟩ rfl bD rfl hAl2 ?_
      rintro v V6 B6 hV6 ⟨rfl,hB6⟩
      repeat' (first|(refine aG ?_;refine pu9 ?_)|refine gx9 ?_|fail)
    all_goals
      (refine aV Tryz.results47 (aB rfl) (List.Sublist.cons _ (List.Sublist.cons _ (List.Sublist.refl _))) ?_)
      exact⟨rfl,hB6⟩
theorem set_c (V:aE) (p:Nat) (b:BX) (Bs:List Box) (hok:bI b) (h:fE V p b Bs) (c:CL) (hc:c.path.size≤1000000) (hn:c.name.size≤9223372036854775807) (hdz:c.data.size≤maxLen) (drop:Bool):FnB Tryz.prog 47 [.pointer (some ⟨p,0,none⟩),clV c,.bool drop] V Bs (ChB p (oY b (aH c.path) c.name c.data drop)):=by
  by_cases h1:eV c.name=0
  · exact wO V p b Bs hok h c hc hn drop (.inl h1)
  · by_cases h2:drop=false∧20<c.data.size
    · exact wO V p b Bs hok h c hc hn drop (.inr (.inl h2))
    · by_cases h3:dH b (aH c.path)=0
      · by_cases h4:jG b (bE b (aH c.path)).th c.name 2=0
        · exact set_late V p b Bs hok h c hc hn hdz drop h1 h2 h3 h4
        · exact wO V p b Bs hok h c hc hn drop (.inr (.inr (.inr h4)))
      · exact wO V p b Bs hok h c hc hn drop (.inr (.inr (.inl h3)))
end
end Go.Proofs.YtejkmomfpidnbacGreat
