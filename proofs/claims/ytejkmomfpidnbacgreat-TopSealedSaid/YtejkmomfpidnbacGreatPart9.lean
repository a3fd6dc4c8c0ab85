/- Walks and plain laws, part 9: what functions compute, proved once each (HostF, HostL, HostO, RetG, HostU, FlatE, FlatE2, FlatE3, Within, BxJ, HostL2, HostQ, HostI, HostJ, BxR, HostX, HostY, HostD, HA, BxI, BxY). -/
import Derived.Test.YtejkmomfpidnbacGreatPart8
import Derived.Test.YtejkmomfpidnbacGreatPart2
import Derived.Test.YtejkmomfpidnbacGreatPart6
import Derived.Test.YtejkmomfpidnbacGreatPart5
import Derived.Test.YtejkmomfpidnbacGreatPart7
set_option linter.unusedSimpArgs false
set_option linter.unusedVariables false
set_option maxRecDepth 100000
set_option maxHeartbeats 40000000
namespace Go.Proofs.YtejkmomfpidnbacGreat
open Go.RowKit
section
def loAt (h:HM) (n:Int):Option LN:=if 0≤n∧n<5 then (h.lo[n.toNat]?.join).map fun g=>g.2.x else none
def kI (h:HM):List Int→List LN→Option (List LN)
  | [],acc=>some acc
  | n :: l,acc=>match loAt h n with
    | none=>none
    | some x=>kI h l (if 3<acc.length then acc else acc ++ [x])
theorem hC_lo {h:HM} {k:Nat} {o:Option (Nat×LW)} (ho:h.lo[k]?=some o):(hC h)[0+5+k * 1]?=some (ptrV (o.map Prod.fst)):=by
  have hk:k<h.lo.length:=(List.getElem?_eq_some_iff.1 ho).1
  rw [show 0+5+k * 1=k+1+1+1+1+1 by omega]
  show (loV h.lo ++ bxV h.bx)[k]?=_
  rw [List.getElem?_append_left (by unfold loV;rw [List.length_map];exact hk)]
  exact loV_at ho
theorem hC_bx {h:HM} (h5:h.lo.length=5) {k:Nat} {o:Option (Nat×TE)} (ho:h.bx[k]?=some o):(hC h)[0+10+k * 1]?=some (ptrV (o.map Prod.fst)):=by
  rw [show 0+10+k * 1=5+k+1+1+1+1+1 by omega]
  show (loV h.lo ++ bxV h.bx)[5+k]?=_
  rw [List.getElem?_append_right (by unfold loV;rw [List.length_map];omega),show 5+k - (loV h.lo).length=k by unfold loV;rw [List.length_map];omega]
  exact bxV_at ho
section
variable {P : Program} {B : Base} {N : Nat} {F : List (Nat × Value)} {V : aE} {L : List Box} {d : Option Tmp} {ty : TypeId} {pos : String} {af : Array Edge} {gd : Option (Nat × Bool)} {x y : Operand} {T : TypeId}
theorem dM {E sz b o n:Nat} {i:Int} (hu:bR P T (.array n E)) (hS:dI P E sz) (hn:Nat.ble 2 n=true) (hx:evF F x=some (.pointer (some ⟨b,o,none⟩))) (hi:evF F y=some (.int .i64 i)) (h0:0≤i) (hk:i<n):QP P B N V L ⟨d,.indexAddr T x y,ty,pos,af,gd⟩ F (.pointer (some ⟨b,o+i.toNat * sz,none⟩)) :=
  cU hu hS hn hx (by rw [hi,Int.toNat_of_nonneg h0]) (by omega)
end
attribute [local irreducible] AtQ GoC GoL GoW QO QP Fn RV bF aD VLe bU bA
attribute [local irreducible] FnB
theorem cost_c (V:aE) (q:Int) (h:-1000000≤q∧q≤1000000):Fn Tryz.prog 136 [.int .i64 q] V fun v _=>v=.int .i64 (2 * (q+1)):=by
  (refine aN Tryz.func136 rfl Tryz.ntmps136 rfl ?_;intro w0)
  repeat' (first|(refine aG ?_;refine pu9 ?_)|refine fG ?_|(refine aJ rfl rfl rfl ?_ ?_<;>intro hq<;>try exact no9)|(refine cN rfl rfl rfl ?_ ?_<;>intro hq)|(refine aA rfl ?_ ?_<;>intro hq<;>try exact no9)|(refine bY rfl ?_ ?_<;>intro hq))
  all_goals (refine aR Tryz.results136 (aB rfl) ?_)
  all_goals rfl
theorem dead_c (V:aE) (p:Nat) (h:HM) (s:DS) (D:List Box) (hD:gC h.d s D) (hm:s.bs.length≤1000000):FnB Tryz.prog 71 [.pointer (some ⟨p,0,none⟩)] V (⟨p,127,hC h⟩ :: D) fun u _ Bs'=>u=.bool (h.off || s.off)∧Bs'=⟨p,127,hC h⟩ :: D:=by
  have hP:=fun V9=>Power_c V9 h.d s D hD hm
  cases ho:h.off with
  | true =>
    have hc1:(hC h)[0+1]?=some (.bool true):=by rw [←ho];rfl
    (refine aL Tryz.func71 rfl Tryz.ntmps71 rfl ?_;intro w0)
    repeat' (first|(refine aG ?_;first|(refine dA ?_;refine aI (aX one_4 rfl own_here hc1) ?_)|refine pu9 ?_)|refine bS ?_|fail)
    all_goals
      (refine aV Tryz.results71 (aB rfl) (List.Sublist.refl _) ?_)
      exact⟨rfl,rfl⟩
  | false =>
    have hc1:(hC h)[0+1]?=some (.bool false):=by rw [←ho];rfl
    (refine aL Tryz.func71 rfl Tryz.ntmps71 rfl ?_;intro w0)
    repeat' (first|(refine aG ?_;first|(refine dA ?_;refine aI (aX one_4 rfl own_here hc1) ?_)|(refine aC ?_;refine aO rfl (dB ⟨Tryz.call74⟩ rfl bD (hP _)) ?_)|refine pu9 ?_)|refine bS ?_|fail)
    all_goals
      (refine aV Tryz.results71 (aB rfl) (List.Sublist.refl _) ?_)
      exact⟨by cases s.off<;>rfl,rfl⟩
theorem HLeft_c (V:aE) (p:Nat) (h:HM) (D Pb T:List Box) (room:Int) (M:PM) (hP:oL h.q room M Pb) {k:Nat} (hI:lI room k M):FnB Tryz.prog 25 [.pointer (some ⟨p,0,none⟩)] V (⟨p,127,hC h⟩ :: (D ++ (Pb ++ T))) fun u _ Bs'=>u=.int .i64 (room - gW M)∧Bs'=⟨p,127,hC h⟩ :: (D ++ (Pb ++ T)):=by
  have hL:=fun V9=>PLeft_c V9 h.q room M Pb hP hI
  (refine aL Tryz.func25 rfl Tryz.ntmps25 rfl ?_;intro w0)
  repeat' (first|(refine aG ?_;first|(refine aC ?_;refine aO rfl (dB ⟨Tryz.call62⟩ rfl bD (hL _)) ?_)|refine pu9 ?_)|refine bS ?_|fail)
  all_goals
    (refine aV Tryz.results25 (aB rfl) (List.Sublist.refl _) ?_)
    exact⟨rfl,rfl⟩
theorem room_c (V:aE) (d:Nat) (s:DS) (D:List Box) (hD:gC d s D) (hm:s.bs.length≤128000):FnB Tryz.prog 125 [.pointer (some ⟨d,0,none⟩)] V D fun u _ Bs'=>(s.off=true∧u=.tuple #[.pointer none,bA 16]∧Bs'=D)∨(s.off=false∧(s.bs.length:Int) / 64<200∧u=.tuple #[.pointer none,bA 1]∧Bs'=D)∨(s.off=false∧200≤(s.bs.length:Int) / 64∧∃ q Pb,u=.tuple #[.pointer (some ⟨q,0,none⟩),bA 0]∧Bs'=Pb ++ D∧oL q ((s.bs.length:Int) / 64 - 200) [] Pb):=by
  have hP:=fun V9=>Power_c V9 d s D hD (by omega)
  have hB:=fun V9=>Blocks_c V9 d s D hD (by omega)
  cases ho:s.off with
  | true =>
    rw [ho] at hP
    (refine aL Tryz.func125 rfl Tryz.ntmps125 rfl ?_;intro w0)
    repeat' (first|(refine aG ?_;first|(refine aC ?_;refine aO rfl (dB ⟨Tryz.call74⟩ rfl bD (hP _)) ?_)|refine pu9 ?_)|refine bV ?_|fail)
    all_goals
      (refine bJ Tryz.results125 (aB rfl) (aB rfl) (List.Sublist.refl _) ?_)
      exact .inl ⟨rfl,by rw [bW (by decide)],rfl⟩
  | false =>
    rw [ho] at hP
    by_cases hb:(s.bs.length:Int) / 64<200
    · (refine aL Tryz.func125 rfl Tryz.ntmps125 rfl ?_;intro w0)
      repeat' (first|(refine aG ?_;first|(refine aC ?_;(first|refine aO rfl (dB ⟨Tryz.call74⟩ rfl bD (hP _)) ?_|refine aO rfl (dB ⟨Tryz.call167⟩ rfl bD (hB _)) ?_))|refine pu9 ?_)|refine bV ?_|(refine aA rfl ?_ ?_<;>intro hq<;>try exact no9))
      all_goals
        (refine bJ Tryz.results125 (aB rfl) (aB rfl) (List.Sublist.refl _) ?_)
        exact .inr (.inl ⟨rfl,hb,by rw [bW (by decide)],rfl⟩)
    · have hN:=fun V9=>PNew_c V9 ((s.bs.length:Int) / 64 - 200)
      (refine aL Tryz.func125 rfl Tryz.ntmps125 rfl ?_;intro w0)
      repeat' (first|(refine aG ?_;first|(refine aC ?_;(first|refine aO rfl (dB ⟨Tryz.call74⟩ rfl bD (hP _)) ?_|refine aO rfl (dB ⟨Tryz.call167⟩ rfl bD (hB _)) ?_|(refine aM rfl ⟨Tryz.call168⟩ rfl eL rfl (hN _) ?_;rintro v V2 B2 hV2 (⟨hr,q,rfl,hPb⟩|⟨hx,_⟩);rotate_left;(exfalso;exact hx ⟨by omega,by omega⟩))))|refine pu9 ?_)|refine bV ?_|(refine aA rfl ?_ ?_<;>intro hq<;>try exact no9))
      all_goals
        (refine bJ Tryz.results125 (aB rfl) (aB rfl) (List.Sublist.refl _) ?_)
        exact .inr (.inr ⟨rfl,by omega,q,B2,rfl,rfl,hPb⟩)
end
section
def nX (h:HM) (n:Int):Option (Nat×TE):=if 0≤n∧n<5 then (h.bx[n.toNat]?).join else none
def oX (h:HM) (n:Int):Option (Nat×LW):=if 0≤n∧n<5 then (h.lo[n.toNat]?).join else none
theorem tenAt_out {h:HM} {n:Int} (hn:¬(0≤n∧n<5)):nX h n=none:=if_neg hn
theorem tenAt_in {h:HM} {n:Int} (hn:0≤n∧n<5) {o:Option (Nat×TE)} (ho:h.bx[n.toNat]?=some o):nX h n=o:=by unfold nX;rw [if_pos hn,ho];rfl
theorem lowAt_out {h:HM} {n:Int} (hn:¬(0≤n∧n<5)):oX h n=none:=if_neg hn
theorem lowAt_in {h:HM} {n:Int} (hn:0≤n∧n<5) {o:Option (Nat×LW)} (ho:h.lo[n.toNat]?=some o):oX h n=o:=by unfold oX;rw [if_pos hn,ho];rfl
def rP (h:HM) (s:DS) (n:Int):Int:=if (h.off || s.off)=true then 16 else if (nX h n).isNone=true then 5 else 0
def tenV (h:HM) (s:DS) (n:Int):Value:=.tuple #[ptrV (if rP h s n=0 then (nX h n).map Prod.fst else none),bA (rP h s n)]
theorem tenF_dead {h:HM} {s:DS} {n:Int} (hd:(h.off || s.off)=true):rP h s n=16:=if_pos hd
theorem tenF_none {h:HM} {s:DS} {n:Int} (hd:(h.off || s.off)=false) (ht:nX h n=none):rP h s n=5:=by unfold rP;rw [if_neg (by rw [hd];decide),ht];rfl
theorem tenF_some {h:HM} {s:DS} {n:Int} {g:Nat×TE} (hd:(h.off || s.off)=false) (ht:nX h n=some g):rP h s n=0:=by unfold rP;rw [if_neg (by rw [hd];decide),ht];rfl
section
variable {P : Program} {B : Base} {N : Nat} {F : List (Nat × Value)} {V : aE} {L : List Box} {d : Option Tmp} {ty : TypeId} {pos : String} {af : Array Edge} {gd : Option (Nat × Bool)} {x : Operand}
end
attribute [local irreducible] AtQ GoC GoL GoW QO QP Fn RV bF aD VLe bU bA
attribute [local irreducible] FnB
theorem tenant_c (V:aE) (p:Nat) (h:HM) (s:DS) (D:List Box) (hD:gC h.d s D) (hm:s.bs.length≤1000000) (h5:h.lo.length=5) (hb5:h.bx.length=5) (n:Int):FnB Tryz.prog 63 [.pointer (some ⟨p,0,none⟩),.int .i64 n] V (⟨p,127,hC h⟩ :: D) fun u _ Bs'=>u=tenV h s n∧Bs'=⟨p,127,hC h⟩ :: D:=by
  have hDe:=fun V9=>dead_c V9 p h s D hD hm
  cases hd:(h.off || s.off) with
  | true =>
    have e:=tenF_dead (n:=n) hd
    rw [hd] at hDe
    (refine aL Tryz.func63 rfl Tryz.ntmps63 rfl ?_;intro w0)
    repeat' (first|(refine aG ?_;first|(refine aC ?_;refine aO rfl (dB ⟨Tryz.call71⟩ rfl bD (hDe _)) ?_)|refine pu9 ?_)|refine bV ?_|fail)
    all_goals
      (refine bJ Tryz.results63 (aB rfl) (aB rfl) (List.Sublist.refl _) ?_)
      exact⟨by unfold tenV;rw [e,bW (by decide)];rfl,rfl⟩
  | false =>
    rw [hd] at hDe
    by_cases hin:0≤n∧n<5
    · obtain⟨o,ho⟩:∃ o,h.bx[n.toNat]?=some o:=⟨_,List.getElem?_eq_getElem (by omega)⟩
      have hc:=hC_bx h5 ho
      have ht:=tenAt_in hin ho
      cases o with
      | none =>
        have e:=tenF_none hd ht
        (refine aL Tryz.func63 rfl Tryz.ntmps63 rfl ?_;intro w0)
        repeat' (first|(refine aG ?_;first|(refine aC ?_;refine aO rfl (dB ⟨Tryz.call71⟩ rfl bD (hDe _)) ?_)|(refine bK ?_;refine aI (eH kW rfl) ?_)|(refine bH ?_;refine aI (dM kK siz_124 rfl rfl rfl (by omega) (by omega)) ?_)|(refine dA ?_;refine aI (aX one_124 rfl own_here hc) ?_)|refine pu9 ?_)|refine bV ?_|(refine aJ rfl rfl rfl ?_ ?_<;>intro hq<;>try exact no9))
        all_goals
          (refine bJ Tryz.results63 (aB rfl) (aB rfl) (List.Sublist.refl _) ?_)
          exact⟨by unfold tenV;rw [e,bW (by decide)];rfl,rfl⟩
      | some gt =>
        have e:=tenF_some hd ht
        (refine aL Tryz.func63 rfl Tryz.ntmps63 rfl ?_;intro w0)
        repeat' (first|(refine aG ?_;first|(refine aC ?_;refine aO rfl (dB ⟨Tryz.call71⟩ rfl bD (hDe _)) ?_)|(refine bK ?_;refine aI (eH kW rfl) ?_)|(refine bH ?_;refine aI (dM kK siz_124 rfl rfl rfl (by omega) (by omega)) ?_)|(refine dA ?_;refine aI (aX one_124 rfl own_here hc) ?_)|refine pu9 ?_)|refine bV ?_|(refine aJ rfl rfl rfl ?_ ?_<;>intro hq<;>try exact no9))
        all_goals
          (refine bJ Tryz.results63 (aB rfl) (aB rfl) (List.Sublist.refl _) ?_)
          exact⟨by unfold tenV;rw [e,ht,if_pos rfl,bO],rfl⟩
    · have e:=tenF_none hd (tenAt_out hin)
      (refine aL Tryz.func63 rfl Tryz.ntmps63 rfl ?_;intro w0)
      repeat' (first|(refine aG ?_;first|(refine aC ?_;refine aO rfl (dB ⟨Tryz.call71⟩ rfl bD (hDe _)) ?_)|refine pu9 ?_)|refine bV ?_|(refine aJ rfl rfl rfl ?_ ?_<;>intro hq<;>try exact no9))
      all_goals
        (refine bJ Tryz.results63 (aB rfl) (aB rfl) (List.Sublist.refl _) ?_)
        exact⟨by unfold tenV;rw [e,bW (by decide)];rfl,rfl⟩
end
section
theorem loAt_neg {h:HM} {n:Int} (hn:¬(0≤n∧n<5)):loAt h n=none:=if_neg hn
theorem loAt_none {h:HM} {n:Int} (ho:h.lo[n.toNat]?=some none):loAt h n=none:=by
  unfold loAt;rw [ho];split<;>rfl
theorem loAt_some {h:HM} {n:Int} (hn:0≤n∧n<5) {g:Nat} {l:LW} (ho:h.lo[n.toNat]?=some (some (g,l))):loAt h n=some l.x:=by
  unfold loAt;rw [ho,if_pos hn];rfl
theorem nodesL_on {h:HM} {n:Int} {xs:List Int} {acc:List LN} {x:LN} (hx:loAt h n=some x):kI h (n :: xs) acc=kI h xs (if 3<acc.length then acc else acc ++ [x]):=by
  simp only [kI,hx]
theorem nodesL_no {h:HM} {n:Int} {xs:List Int} {acc:List LN} (hx:loAt h n=none):kI h (n :: xs) acc=none:=by
  simp only [kI,hx]
def NodR (h:HM) (xs:List Int) (u:Value) (V':aE):Prop:=(kI h xs []=none∧u=.tuple #[.slice none 0 0,bA 5])∨(∃ (ls:List LN) (A':Option Addr) (n' c':Nat),kI h xs []=some ls∧u=.tuple #[.slice A' n' c',bA 0]∧fN V' A' n' ls∧n'≤4)
attribute [local irreducible] AtQ GoC GoL GoW QO QP Fn RV bF aD VLe bU bA
attribute [local irreducible] FnB
theorem nodes_c (V:aE) (p:Nat) (h:HM) (R:List Box) (hk:HOk V R h) (A:Option Addr) (n c:Nat) (xs:List Int) (hx:eD V A n xs):FnB Tryz.prog 134 [.pointer (some ⟨p,0,none⟩),.slice A n c] V [⟨p,127,hC h⟩] fun u V' Bs'=>NodR h xs u V'∧Bs'=[⟨p,127,hC h⟩]:=by
  have hl:=hx.1
  have hmx:=hx.max
  have h5:=hk.l5
  (refine aL Tryz.func134 rfl Tryz.ntmps134 rfl ?_;intro w0)
  repeat' (first|(refine aG ?_;refine pu9 ?_)|refine bS ?_|fail)
  refine cS ?_
  refine bZ (fun F V' L' m=>∃ (k q9:Nat) (acc:List LN) (A9:Option Addr) (c9:Nat) (Lg:List Box),VLe V V'∧Lg ++ [⟨p,127,hC h⟩]=L'∧cX A9 q9 c9 50 8 (acc.flatMap lnC) Lg∧acc.length=q9∧(∀ x∈acc,aT V' x)∧acc.length≤4∧k≤n∧kI h (xs.drop k) acc=kI h xs []∧m=n - k∧F=[(0,.pointer (some ⟨p,0,none⟩)),(6,.slice A9 q9 c9),(9,.slice A n c),(10,.int .i64 n),(11,.int .i64 k)]) (m:=n) ⟨0,0,[],none,0,[],vl9,rfl,cX.nil,rfl,by simp,by simp,by omega,rfl,rfl,rfl⟩ bG rfl sl9 ?_
  rintro F V' L' m ⟨k,q9,acc,A9,c9,Lg,hV',rfl,hr,hq9,hN,hal,hkn,hK,rfl,rfl⟩
  by_cases hlt:k<n
  · obtain⟨b,o,z,rfl,hz,hcz⟩:=(hx.le hV').at_ hlt
    obtain⟨hkl,hzg⟩:=List.getElem?_eq_some_iff.1 hz
    rw [List.drop_eq_getElem_cons hkl,hzg] at hK
    by_cases hin:0≤z∧z<5
    · obtain⟨ol,ho⟩:∃ ol,h.lo[z.toNat]?=some ol:=⟨_,List.getElem?_eq_getElem (by omega)⟩
      have hc:=hC_lo ho
      have hOw:bF (Lg ++ [⟨p,127,hC h⟩]) p (hC h):=eM own_here
      cases ol with
      | none =>
        rw [nodesL_no (loAt_none ho)] at hK
        repeat' (first|(refine aG ?_;first|(refine bK ?_;refine aI (eH kU rfl) ?_)|(refine bH ?_;refine aI (dM jV siz_122 rfl rfl rfl (by omega) (by omega)) ?_)|(refine dA ?_;refine aI (aX one_122 rfl hOw hc) ?_)|refine pu9 ?_)|refine dL ?_|(refine aJ rfl rfl rfl ?_ ?_<;>intro hq<;>try exact no9)|(refine aA rfl ?_ ?_<;>intro hq<;>try exact no9))
        all_goals
          (refine bJ Tryz.results134 (aB rfl) (aB rfl) (List.sublist_append_right _ _) ?_)
          exact⟨.inl ⟨hK.symm,by rw [bW (by decide)]⟩,rfl⟩
      | some gl =>
        obtain⟨g,l⟩:=gl
        have hL:=(hk.lo _ g l ho).le hV'
        have hn1:=hL.node
        have ho9:=pE l.x
        have hcap:=hr.cap
        rw [nodesL_on (loAt_some hin ho)] at hK
        by_cases hmany:3<acc.length
        · rw [if_pos hmany] at hK
          repeat' (first|(refine aG ?_;first|(refine bK ?_;refine aI (eH kU rfl) ?_)|(refine bH ?_;refine aI (dM jV siz_122 rfl rfl rfl (by omega) (by omega)) ?_)|(refine dA ?_;refine aI (aX one_122 rfl hOw hc) ?_)|refine pu9 ?_)|refine fG ?_|(refine aJ rfl rfl rfl ?_ ?_<;>intro hq<;>try exact no9)|(refine aA rfl ?_ ?_<;>intro hq<;>try exact no9))
          all_goals
            refine aY _ (n - (k+1)) ⟨k+1,q9,acc,A9,c9,Lg,vl9,rfl,hr,hq9,hN,hal,by omega,hK,rfl,rfl⟩ (by omega) bG sl9
        · rw [if_neg hmany] at hK
          repeat' (first|(refine aG ?_;first|(refine aC ?_;(refine bQ rfl und_30 inf_50 rfl rfl rfl hr bD (fY bN rfl) cI (by omega) rfl rfl ?_;intro A4 c4 L4 hr4))|(refine bK ?_;refine aI (eH kU rfl) ?_)|(refine bH ?_;refine aI (dM jV siz_122 rfl rfl rfl (by omega) (by omega)) ?_)|(refine dA ?_;(first|refine aI (iA agg_50 rfl hn1 (by exact rfl)) ?_|refine aI (aX one_122 rfl hOw hc) ?_))|(refine dC ?_;(refine aZ rfl und_30 siz_50 zec_50 rfl rfl rfl rfl rfl rfl rfl ?_;intro γ))|refine pu9 ?_)|refine dL ?_|(refine aJ rfl rfl rfl ?_ ?_<;>intro hq<;>try exact no9)|(refine aA rfl ?_ ?_<;>intro hq<;>try exact no9))
          all_goals
            refine aY _ (n - (k+1)) ⟨k+1,q9+1,acc ++ [l.x],A4,c4,L4,vl9,rfl,?_,by rw [List.length_append,hq9];rfl,?_,by rw [List.length_append];simp only [List.length_cons,List.length_nil];omega,by omega,hK,rfl,rfl⟩ (by omega) bG sl9
            · rw [List.flatMap_append];simp only [List.flatMap_cons,List.flatMap_nil,List.append_nil];exact hr4
            · intro x hx9
              rcases List.mem_append.1 hx9 with hx9|hx9
              · exact hN x hx9
              · rw [List.mem_singleton.1 hx9];exact hL.x
    · rw [nodesL_no (loAt_neg hin)] at hK
      repeat' (first|(refine aG ?_;refine pu9 ?_)|refine dL ?_|(refine aJ rfl rfl rfl ?_ ?_<;>intro hq<;>try exact no9)|(refine aA rfl ?_ ?_<;>intro hq<;>try exact no9))
      all_goals
        (refine bJ Tryz.results134 (aB rfl) (aB rfl) (List.sublist_append_right _ _) ?_)
        exact⟨.inl ⟨hK.symm,by rw [bW (by decide)]⟩,rfl⟩
  · obtain rfl:k=n:=by omega
    rw [List.drop_of_length_le (by omega)] at hK
    have hcap:=hr.cap
    refine rG hr bD ?_ (by intro x9 hx9;rw [show x9=p by simpa [iG] using hx9];exact⟨_,own_here⟩)
    intro V5 hV5 hc5
    repeat' (first|(refine aG ?_;refine pu9 ?_)|refine eT ?_|(refine aA rfl ?_ ?_<;>intro hq<;>try exact no9))
    all_goals
      (refine bJ Tryz.results134 (aB rfl) (aB rfl) (List.Sublist.refl _) ?_)
      exact⟨.inr ⟨acc,_,_,_,hK.symm,by rw [bO],fN.of hc5 hq9 (by unfold maxLen;omega) (fun x hx=>(hN x hx).le hV5),by omega⟩,rfl⟩
end
section
section
variable {P : Program} {B : Base} {N : Nat} {Q : Exit → Act → World → Prop} {k : List kC} {F : List (Nat × Value)} {V : aE} {L : List Box} {w : World} {ops : Array Oper}
theorem St.retireG (hs:St B V L w) {L':List Box} {g:Nat} {cs:List Value} (h:gB L g cs L') (hfl:∀ x∈B.fl,x∈L'.map Box.g):∃ V',VLe V V'∧aD V' g 0 cs∧St B V' L' w :=
  hs.retireN h fun hx=>by
    obtain⟨b,hb,e⟩:=List.mem_map.1 (hfl g hx)
    exact(h.mem.2.2 hs.nodup).2 b hb e
theorem St.shutG {A:Option Addr} {n c E sz:Nat} {xs:List Value} {L1:List Box} {f:List Box→List Box} (hs:St B V L w) (h:cX A n c E sz xs L1) (hL:lT L L1 f) (hfl:∀ x∈B.fl,x∈(f []).map Box.g):∃ V',VLe V V'∧fH V' sz A n xs∧St B V' (f []) w:=by
  obtain⟨X,Y,hX,hf⟩:=hL.h
  rcases h.2 with ⟨rfl,rfl,rfl,rfl⟩|⟨g,cs,rfl,rfl,h2,h3,h4,h5⟩
  · refine⟨V,VLe.refl V,⟨h.1,fun h=>absurd h (by omega)⟩,?_⟩
    rw [hf,←hX];exact hs
  · have hd:∀ X Y:List Box,gB (X ++ ([⟨g,E,cs⟩] ++ Y)) g cs (X ++ ([] ++ Y)):=by
      intro X Y
      induction X with
      | nil=>exact .here g E cs Y
      | cons b X ih=>exact .next b _ g cs _ ih
    obtain⟨V',q1,q2,q3⟩:=hs.retireG (hX▸hd X Y) (by rw [hf] at hfl;exact hfl)
    refine⟨V',q1,⟨h.1,fun _=>⟨g,0,rfl,fun j v hj=>?_⟩⟩,by rw [hf];exact q3⟩
    rw [←h5,List.getElem?_take] at hj
    split at hj
    · exact q2 j v hj
    · cases hj
theorem gc_shutG {A:Option Addr} {n c E sz:Nat} {xs:List Value} {L1:List Box} {f:List Box→List Box} (h:cX A n c E sz xs L1) (hL:lT L L1 f) {c':Code} (hfl:∀ x∈B.fl,x∈(f []).map Box.g) (hK:∀ V',VLe V V'→fH V' sz A n xs→GoC P B N c' Q k F V' (f [])):GoC P B N c' Q k F V L:=fun a w ha hs=>by
  obtain⟨V',h1,h2,h3⟩:=hs.shutG h hL hfl
  exact hK V' h1 h2 a w ha h3
theorem at_shutG {e:Exit} {A:Option Addr} {n c E sz:Nat} {xs:List Value} {L1:List Box} {f:List Box→List Box} (h:cX A n c E sz xs L1) (hL:lT L L1 f) (hfl:∀ x∈B.fl,x∈(f []).map Box.g) (hK:∀ V',VLe V V'→fH V' sz A n xs→AtQ P B N Q k e F V' (f [])):AtQ P B N Q k e F V L:=fun a w ha hs=>by
  obtain⟨V',h1,h2,h3⟩:=hs.shutG h hL hfl
  exact hK V' h1 h2 a w ha h3
theorem own_mem {L:List Box} {g:Nat} {cs:List Value} (h:bF L g cs):g∈L.map Box.g:=by
  obtain⟨t,hm⟩:=h
  exact List.mem_map_of_mem (f:=Box.g) hm
theorem gc_nodup {c:Code} (h:(L.map Box.g).Nodup→GoC P B N c Q k F V L):GoC P B N c Q k F V L:=fun a w ha hs=>h hs.nodup a w ha hs
theorem gc_retireG {L':List Box} {g:Nat} {cs:List Value} (hd:gB L g cs L') {c:Code} (hfl:∀ x∈B.fl,x∈L'.map Box.g) (h:∀ V',VLe V V'→aD V' g 0 cs→GoC P B N c Q k F V' L'):GoC P B N c Q k F V L:=fun a w ha hs=>by
  obtain⟨V',h1,h2,h3⟩:=hs.retireG hd hfl
  exact h V' h1 h2 a w ha h3
theorem at_retireG {e:Exit} {L':List Box} {g:Nat} {cs:List Value} (hd:gB L g cs L') (hfl:∀ x∈B.fl,x∈L'.map Box.g) (h:∀ V',VLe V V'→aD V' g 0 cs→AtQ P B N Q k e F V' L'):AtQ P B N Q k e F V L:=fun a w ha hs=>by
  obtain⟨V',h1,h2,h3⟩:=hs.retireG hd hfl
  exact h V' h1 h2 a w ha h3
end
end
section
def HasI (M:List (Int×Bool)) (l:List Int):Prop:=∀ a,uI Value.bool (.bool false) (dR a M)=.bool (decide (a∈l))
theorem hasI_nil:HasI [] []:=fun a=>rfl
theorem find_setI {b:Bool} {nm a:Int}:∀ {M:List (Int×Bool)},(dR a (vB nm b M)).map Prod.snd=if a=nm then some b else (dR a M).map Prod.snd
  | []=>by
    by_cases h:a=nm<;>simp [vB,dR,h]
  | p :: M=>by
    rw [vB]
    by_cases hp:nm=p.1
    · rw [if_pos hp,dR,dR]
      by_cases h:a=nm
      · rw [if_pos h,if_pos h];rfl
      · rw [if_neg h,if_neg h,if_neg (fun e=>h (e.trans hp.symm))]
    · rw [if_neg hp,dR,dR]
      by_cases ha:a=p.1
      · rw [if_pos ha,if_pos ha,if_neg (fun e=>hp (e.symm.trans ha))]
      · rw [if_neg ha,if_neg ha]
        have:=find_setI (b:=b) (nm:=nm) (a:=a) (M:=M)
        rw [Option.map_map,Option.map_map]
        exact this
theorem ans_sndI (r:Option (Nat×Bool)):uI Value.bool (.bool false) r=.bool ((r.map Prod.snd).getD false):=by
  cases r<;>rfl
theorem HasI.set {M:List (Int×Bool)} {l:List Int} (h:HasI M l) (nm:Int):HasI (vB nm true M) (l ++ [nm]):=fun a=>by
  rw [ans_sndI,find_setI]
  by_cases ha:a=nm
  · rw [if_pos ha];simp [ha]
  · rw [if_neg ha,←ans_sndI,h a];simp [ha]
theorem HasI.same {M:List (Int×Bool)} {l l':List Int} (h:HasI M l) (e:l=l'):HasI M l':=e▸h
theorem map_ib:MapIs Tryz.prog 253 mH.d (.bool false):=⟨3,4,Tryz.underlying253,Tryz.underlying3,Tryz.zeroValue4⟩
def loB:Option (Nat×LW)→List Int
  | none=>[]
  | some (_,l)=>l.bl
def bxB:Option (Nat×TE)→List Int
  | none=>[]
  | some (_,t)=>t.s0 ++ t.s1
def wA (h:HM):List Int:=h.lo.flatMap loB ++ h.bx.flatMap bxB
def tW (us:List Int) (k:Nat):List Int:=((List.range k).map fun i:Nat=>200+(i:Int)).filter fun b=>decide (¬b∈us)
def jA (us:List Int) (n blocks:Nat):List Int:=(tW us (blocks - 200)).take n
theorem segF_succ (us:List Int) (k:Nat):tW us (k+1)=if (200+k:Int)∈us then tW us k else tW us k ++ [(200+k:Int)]:=by
  unfold tW
  rw [List.range_succ,List.map_append,List.filter_append]
  split<;>rename_i h<;>simp [h]
theorem segF_pre (us:List Int) (k:Nat):∀ j,∃ t,tW us (k+j)=tW us k ++ t
  | 0=>⟨[],by simp⟩
  | j+1=>by
    obtain⟨t,ht⟩:=segF_pre us k j
    rw [show k+(j+1)=k+j+1 by omega,segF_succ]
    split
    · exact⟨t,ht⟩
    · exact⟨t ++ [(200+(k+j:Nat):Int)],by rw [ht,List.append_assoc]⟩
theorem free_full {us:List Int} {n blocks k:Nat} (hk:k≤blocks - 200) (h:(tW us k).length=n):tW us k=jA us n blocks:=by
  obtain⟨t,ht⟩:=segF_pre us k (blocks - 200 - k)
  rw [show k+(blocks - 200 - k)=blocks - 200 by omega] at ht
  unfold jA
  rw [ht,List.take_left' h]
theorem free_end {us:List Int} {n blocks:Nat} (h:(tW us (blocks - 200)).length≤n):tW us (blocks - 200)=jA us n blocks:=(List.take_of_length_le h).symm
section
variable {P : Program} {B : Base} {N : Nat} {F : List (Nat × Value)} {V : aE} {L : List Box} {d : Option Tmp} {ty : TypeId} {pos : String} {af : Array Edge} {gd : Option (Nat × Bool)} {x : Operand}
theorem fR {t ty2:TypeId} {p:Option Addr} (hp:PtrIs P t) (hx:evF F x=some (.pointer p)):QP P B N V L ⟨d,.binOp .neq t x (.const (.pointer none)) ty2,ty,pos,af,gd⟩ F (.bool (!p.isNone)) :=
  sU (y:=.const (.pointer none)) hx rfl (fun w=>by simp [eqGuard]) (fun w=>run_neq_pointer_nil w t p hp.h)
end
attribute [local irreducible] AtQ GoC GoL GoW QO QP Fn RV bF aD VLe bU bA
attribute [local irreducible] FnB
theorem mark_c (V:aE) (q g:Nat) (A:Option Addr) (n c:Nat) (xs:List Int) (h:eD V A n xs) (M:List (Int×Bool)) (es:Array MapEntry) (ck:Nat) (us:List Int) (hM:fL mH Value.bool M es) (hH:HasI M us) :
    FnB Tryz.prog 174 [.slice A n c,.pointer (some ⟨q,0,none⟩)] V [⟨q,253,[.map (some g)]⟩,⟨g,.map es ck,[]⟩] fun u _ Bs'=>u=.tuple #[]∧∃ M' es' ck',fL mH Value.bool M' es'∧HasI M' (us ++ xs)∧Bs'=[⟨q,253,[.map (some g)]⟩,⟨g,.map es' ck',[]⟩]:=by
  have hl:=h.1
  have hmx:=h.max
  (refine aL Tryz.func174 rfl Tryz.ntmps174 rfl ?_;intro w0)
  repeat' (first|(refine aG ?_;refine pu9 ?_)|refine bS ?_|fail)
  refine cS ?_
  refine bZ (fun F V' L' m=>∃ (k:Nat) (M:List (Int×Bool)) (es:Array MapEntry) (ck:Nat),V=V'∧([⟨q,253,[.map (some g)]⟩,⟨g,.map es ck,[]⟩]:List Box)=L'∧k≤n∧fL mH Value.bool M es∧HasI M (us ++ xs.take k)∧m=n - k∧F=[(1,.pointer (some ⟨q,0,none⟩)),(5,.slice A n c),(6,.int .i64 n),(7,.int .i64 k)]) (m:=n) ⟨0,M,es,ck,rfl,rfl,by omega,hM,hH.same (by simp),rfl,rfl⟩ bG rfl sl9 ?_
  rintro F V' L' m ⟨k,M,es,ck,rfl,rfl,hkn,hM,hH,rfl,rfl⟩
  by_cases hlt:k<n
  · obtain⟨b,o,z,rfl,hz,hc⟩:=h.at_ hlt
    repeat' (first|(refine aG ?_;first|(refine oP ?_;(refine sL rfl (kk:=mH) (vv:=Value.bool) (b:=true) map_ib rfl rfl rfl hM bD rfl ?_;intro es3 c3 hM3))|refine pu9 ?_)|refine cM ?_|(refine aA rfl ?_ ?_<;>intro hq<;>try exact no9))
    all_goals
      refine aY _ (n - (k+1)) ⟨k+1,_,es3,c3,rfl,rfl,by omega,hM3,(hH.set z).same (by rw [List.take_add_one,hz,List.append_assoc];rfl),rfl,rfl⟩ (by omega) bG sl9
  · obtain rfl:k=n:=by omega
    rw [List.take_of_length_le (by omega)] at hH
    repeat' (first|(refine aG ?_;refine pu9 ?_)|refine eT ?_|(refine aA rfl ?_ ?_<;>intro hq<;>try exact no9))
    all_goals
      (first|refine oE Tryz.results174  (List.Sublist.refl _) ?_|refine oF Tryz.results174 (List.Sublist.refl _) ?_)
      exact⟨rfl,M,es,ck,hM,hH,rfl⟩
theorem free_c (V:aE) (p:Nat) (h:HM) (s:DS) (D R:List Box) (hD:gC h.d s D) (hm:s.bs.length≤128000) (hk:HOk V R h) (n:Nat) (hn:n≤1000):FnB Tryz.prog 137 [.pointer (some ⟨p,0,none⟩),.int .i64 n] V (⟨p,127,hC h⟩ :: (D ++ R)) fun u V' Bs'=>(∃ (A':Option Addr) (n' c':Nat),u=.slice A' n' c'∧n'≤c'∧eD V' A' n' (jA (wA h) n (s.bs.length / 64)))∧Bs'=⟨p,127,hC h⟩ :: (D ++ R):=by
  have h5:=hk.l5
  have hb5:=hk.b5
  generalize hBs:(⟨p,127,hC h⟩ :: (D ++ R):List Box)=Bs
  have hh:bF Bs p (hC h):=by rw [←hBs];exact own_here
  have hkB:HOk V Bs h:=by rw [←hBs];exact hk.bs _ D
  (refine aL Tryz.func137 rfl Tryz.ntmps137 rfl ?_;intro w0)
  repeat' (first|(refine aG ?_;first|(refine k_makeMap ?_;(refine yA rfl rfl ?_;intro γ0))|(refine dA ?_;refine aI (gK agg_123 rfl (by repeat (first|exact hh|apply cG|apply eM)) (lo_part h5) (by unfold loV;rw [List.length_map,h5])) ?_)|refine st9 ?_|(refine al9 ?_;intro γ)|refine pu9 ?_)|refine bS ?_|fail)
  refine cS ?_
  refine bZ (fun F V' L' m=>∃ (k:Nat) (M:List (Int×Bool)) (es:Array MapEntry) (ck:Nat),VLe V V'∧(⟨γ,253,[.map (some γ0)]⟩ :: ⟨γ0,.map es ck,[]⟩ :: Bs:List Box)=L'∧k≤5∧fL mH Value.bool M es∧HasI M ((h.lo.take k).flatMap loB)∧m=5 - k∧F=[(0,.pointer (some ⟨p,0,none⟩)),(1,.int .i64 n),(5,.pointer (some ⟨γ,0,none⟩)),(6,.func (.func 174) #[] #[.pointer (some ⟨γ,0,none⟩)]),(18,.agg (loV h.lo).toArray),(19,.int .i64 k)]) (m:=5) ⟨0,[],_,_,vl9,rfl,by omega,fL.nil,hasI_nil,rfl,rfl⟩ bG rfl sl9 ?_
  rintro F V' L' m ⟨k,M,es,ck,hV',rfl,hk5,hM,hH,rfl,rfl⟩
  by_cases hlt:k<5
  · obtain⟨o,ho⟩:∃ o,h.lo[k]?=some o:=⟨_,List.getElem?_eq_getElem (by omega)⟩
    have hc:=loV_at ho
    cases o with
    | none =>
      repeat' (first|(refine aG ?_;first|(refine bK ?_;refine aI (fR kU rfl) ?_)|(refine iL ?_;refine aI (kA jV one_122 siz_122 rfl rfl hlt hc) ?_)|refine pu9 ?_)|refine dL ?_|(refine aA rfl ?_ ?_<;>intro hq<;>try exact no9))
      all_goals
        refine aY _ (5 - (k+1)) ⟨k+1,M,es,ck,vl9,rfl,by omega,hM,hH.same (by rw [fC ho];simp [loB]),rfl,rfl⟩ (by omega) bG sl9
    | some gl =>
      obtain⟨g,l⟩:=gl
      have hL:=(hkB.lo k g l ho).le hV'
      have hn2:=hL.blk
      have hmk:=fun V9 (h9:VLe V' V9)=>mark_c V9 γ γ0 l.A l.n l.c l.bl (hL.bl.le h9) M es ck _ hM hH
      repeat' (first|(refine aG ?_;first|(refine bK ?_;refine aI (fR kU rfl) ?_)|(refine iL ?_;refine aI (kA jV one_122 siz_122 rfl rfl hlt hc) ?_)|(refine aC ?_;(refine rT (fs:=[]) rfl ⟨Tryz.call174⟩ rfl rfl uQ rfl (hmk _ vl9) ?_;rintro v V2 B2 hV2 ⟨rfl,M2,es2,c2,hM2,hH2,rfl⟩))|refine pu9 ?_)|refine dL ?_|(refine aA rfl ?_ ?_<;>intro hq<;>try exact no9))
      all_goals
        refine aY _ (5 - (k+1)) ⟨k+1,M2,es2,c2,vl9,rfl,by omega,hM2,hH2.same (by rw [fC ho];rfl),rfl,rfl⟩ (by omega) bG sl9
  · obtain rfl:k=5:=by omega
    rw [List.take_of_length_le (by omega)] at hH
    repeat' (first|(refine aG ?_;first|(refine dA ?_;refine aI (gK agg_125 rfl (by repeat (first|exact hh|apply cG|apply eM)) (bx_part h5 hb5) (by unfold bxV;rw [List.length_map,hb5])) ?_)|refine pu9 ?_)|refine mV ?_|fail)
    refine cS ?_
    refine bZ (fun F V2 L' m=>∃ (k:Nat) (M:List (Int×Bool)) (es:Array MapEntry) (ck:Nat),VLe V V2∧(⟨γ,253,[.map (some γ0)]⟩ :: ⟨γ0,.map es ck,[]⟩ :: Bs:List Box)=L'∧k≤5∧fL mH Value.bool M es∧HasI M (h.lo.flatMap loB ++ (h.bx.take k).flatMap bxB)∧m=5 - k∧F=[(0,.pointer (some ⟨p,0,none⟩)),(1,.int .i64 n),(5,.pointer (some ⟨γ,0,none⟩)),(6,.func (.func 174) #[] #[.pointer (some ⟨γ,0,none⟩)]),(34,.agg (bxV h.bx).toArray),(35,.int .i64 k)]) (m:=5) ⟨0,M,es,ck,vl9,rfl,by omega,hM,hH.same (by simp),rfl,rfl⟩ bG rfl sl9 ?_
    clear hM hH
    rintro F V2 L' m ⟨k,M,es,ck,hV2,rfl,hk2,hM,hH,rfl,rfl⟩
    by_cases hlt:k<5
    · obtain⟨o,ho⟩:∃ o,h.bx[k]?=some o:=⟨_,List.getElem?_eq_getElem (by omega)⟩
      have hc:=bxV_at ho
      cases o with
      | none =>
        repeat' (first|(refine aG ?_;first|(refine bK ?_;refine aI (fR kW rfl) ?_)|(refine iL ?_;refine aI (kA kK one_124 siz_124 rfl rfl hlt hc) ?_)|refine pu9 ?_)|refine dL ?_|(refine aA rfl ?_ ?_<;>intro hq<;>try exact no9))
        all_goals
          refine aY _ (5 - (k+1)) ⟨k+1,M,es,ck,vl9,rfl,by omega,hM,hH.same (by rw [fC ho];simp [bxB]),rfl,rfl⟩ (by omega) bG sl9
      | some gt =>
        obtain⟨g,t⟩:=gt
        obtain⟨hO,hT0⟩:=hkB.bx k g t ho
        have hT:=hT0.le hV2
        have hmk:=fun V9 (h9:VLe V2 V9)=>mark_c V9 γ γ0 t.A t.n t.c t.s0 (hT.s0.le h9) M es ck _ hM hH
        have hmk2:=fun V9 (h9:VLe V2 V9) M es ck hM hH=>mark_c V9 γ γ0 t.B t.m t.e t.s1 (hT.s1.le h9) M es ck (h.lo.flatMap loB ++ (h.bx.take k).flatMap bxB ++ t.s0) hM hH
        repeat' (first|(refine aG ?_;first|(refine dA ?_;refine aI (aX one_25 rfl (by repeat (first|exact hO|apply cG|apply eM)) (by exact rfl)) ?_)|(refine bK ?_;refine aI (fR kW rfl) ?_)|(refine iL ?_;refine aI (kA kK one_124 siz_124 rfl rfl hlt hc) ?_)|(refine aC ?_;(refine rT (fs:=[]) rfl ⟨Tryz.call174⟩ rfl rfl uQ rfl (hmk _ vl9) ?_;rintro v V3 B3 hV3 ⟨rfl,M3,es3,c3,hM3,hH3,rfl⟩))|(refine bH ?_;refine aI (cU (m:=0) uE siz_25 rfl rfl rfl (by decide)) ?_)|refine pu9 ?_)|refine gxcb9 ?_|refine iR [10,11,12,13] rfl ?_|(refine aA rfl ?_ ?_<;>intro hq<;>try exact no9))
        repeat' (first|(refine aG ?_;first|(refine dA ?_;refine aI (aX one_25 rfl (by repeat (first|exact hO|apply cG|apply eM)) (by exact rfl)) ?_)|(refine bK ?_;refine aI (fR kW rfl) ?_)|(refine aC ?_;(refine rT (fs:=[]) rfl ⟨Tryz.call174⟩ rfl rfl uQ rfl (hmk2 _ vl9 _ _ _ hM3 hH3) ?_;rintro v V4 B4 hV4 ⟨rfl,M4,es4,c4,hM4,hH4,rfl⟩))|(refine bH ?_;refine aI (cU (m:=1) uE siz_25 rfl rfl rfl (by decide)) ?_)|refine pu9 ?_)|refine bS ?_|fail)
        all_goals
          refine aY _ (5 - (k+1)) ⟨k+1,M4,es4,c4,vl9,rfl,by omega,hM4,hH4.same (by rw [fC ho];simp only [bxB,List.append_assoc]),rfl,rfl⟩ (by omega) bG sl9
    · obtain rfl:k=5:=by omega
      rw [List.take_of_length_le (by omega)] at hH
      have hH:HasI M (wA h):=hH
      subst hBs
      have hBl:=fun V9=>Blocks_c V9 h.d s D hD (by omega)
      generalize wA h=us at *
      generalize hbl:s.bs.length / 64=bl at *
      have hbl2:(s.bs.length:Int) / 64=(bl:Int):=by omega
      rw [hbl2] at hBl
      repeat' (first|(refine aG ?_;refine pu9 ?_)|refine mV ?_|fail)
      refine cS ?_
      refine bZ (fun F V3 L' m=>∃ (b q9:Nat) (A9:Option Addr) (c9:Nat) (Lg:List Box),V2=V3∧Lg ++ (⟨γ,253,[.map (some γ0)]⟩ :: ⟨γ0,.map es ck,[]⟩ :: ⟨p,127,hC h⟩ :: (D ++ R))=L'∧cX A9 q9 c9 3 1 ((tW us b).map (.int .i64)) Lg∧(tW us b).length=q9∧q9≤n∧b≤bl - 200∧m=bl - 200 - b∧F=[(0,.pointer (some ⟨p,0,none⟩)),(1,.int .i64 n),(5,.pointer (some ⟨γ,0,none⟩)),(11,.slice A9 q9 c9),(12,.int .i64 (200+(b:Int)))]) (m:=bl - 200) ⟨0,0,none,0,[],rfl,rfl,cX.nil,rfl,by omega,by omega,rfl,rfl⟩ bG rfl sl9 ?_
      rintro F V3 L' m ⟨b,q9,A9,c9,Lg,rfl,rfl,hr,hq9,hqn,hb,rfl,rfl⟩
      have hcap:=hr.cap
      by_cases hgo:q9<n∧200+b<bl
      · obtain⟨hg1,hg2⟩:=hgo
        have hS:=segF_succ us b
        by_cases hin:(200+(b:Int))∈us
        · rw [if_pos hin] at hS
          have hH9:=(hH (200+(b:Int))).trans (by rw [decide_eq_true hin])
          repeat' (first|(refine aG ?_;first|(refine aC ?_;refine aO rfl (dB ⟨Tryz.call167⟩ rfl bD (hBl _)) ?_)|(refine mU ?_;refine aI (tH (kk:=mH) (vv:=Value.bool) map_ib rfl rfl hM bD) ?_;rw [hH9])|refine pu9 ?_)|refine dL ?_|(refine aJ rfl rfl rfl ?_ ?_<;>intro hq<;>try exact no9)|(refine aA rfl ?_ ?_<;>intro hq<;>try exact no9))
          all_goals
            refine aY _ (bl - 200 - (b+1)) ⟨b+1,q9,A9,c9,Lg,rfl,rfl,by rw [hS];exact hr,by rw [hS];exact hq9,hqn,by omega,rfl,rfl⟩ (by omega) bG sl9
        · rw [if_neg hin] at hS
          have hH9:=(hH (200+(b:Int))).trans (by rw [decide_eq_false hin])
          repeat' (first|(refine aG ?_;first|(refine aC ?_;(first|refine aO rfl (dB ⟨Tryz.call167⟩ rfl bD (hBl _)) ?_|(refine bQ rfl und_25 inf_3 rfl rfl rfl hr bD (fY bN rfl) cI (by omega) rfl rfl ?_;intro A4 c4 L4 hr4)))|(refine mU ?_;refine aI (tH (kk:=mH) (vv:=Value.bool) map_ib rfl rfl hM bD) ?_;rw [hH9])|(refine dC ?_;(refine aZ rfl und_25 siz_3 zec_3 rfl rfl rfl rfl rfl rfl rfl ?_;intro γ))|refine pu9 ?_)|refine dL ?_|(refine aJ rfl rfl rfl ?_ ?_<;>intro hq<;>try exact no9)|(refine aA rfl ?_ ?_<;>intro hq<;>try exact no9))
          all_goals
            refine aY _ (bl - 200 - (b+1)) ⟨b+1,q9+1,A4,c4,L4,rfl,rfl,by rw [hS,List.map_append];exact hr4,by rw [hS,List.length_append,hq9];rfl,by omega,by omega,rfl,rfl⟩ (by omega) bG sl9
      · have hres:tW us b=jA us n bl:=by
          by_cases hqe:q9=n
          · exact free_full hb (by omega)
          · obtain rfl:b=bl - 200:=by omega
            exact free_end (by omega)
        refine gc_shutG hr bD ?_ ?_
        · intro x hx;exact List.mem_cons_of_mem _ (List.mem_cons_of_mem _ hx)
        intro V5 hV5 hc5
        repeat' (first|(refine aG ?_;first|(refine aC ?_;refine aO rfl (dB ⟨Tryz.call167⟩ rfl bD (hBl _)) ?_)|refine pu9 ?_)|refine mV ?_|(refine aJ rfl rfl rfl ?_ ?_<;>intro hq<;>try exact no9)|(refine aA rfl ?_ ?_<;>intro hq<;>try exact no9))
        all_goals
          (refine aV Tryz.results137 (aB rfl) (List.Sublist.cons _ (List.Sublist.cons _ (List.Sublist.refl _))) ?_)
          exact⟨⟨_,_,_,rfl,hcap,by rw [←hres];exact⟨hq9,by unfold maxLen;omega,hc5⟩⟩,rfl⟩
end
section
structure Nok (x:LN):Prop where
  K:x.K=none
  nk:x.nk=0
  ck:x.ck=0
  ks:x.ks=[]
theorem Nok.n {x:LN} (h:Nok x):x.n=.mk x.h []:=by
  have:x.n=.mk x.h x.ks:=rfl
  rw [this,h.ks]
def nokL (h:Hd) (A:Option Addr) (n c:Nat):LN:=⟨h,A,n,c,none,0,0,[]⟩
theorem Nok.is {x:LN} (h:Nok x):x=nokL x.h x.A x.na x.ca:=by
  obtain⟨hh,A,n,c,K,nk,ck,ks⟩:=x
  obtain⟨h1,h2,h3,h4⟩:=h
  simp only at h1 h2 h3 h4
  subst h1 h2 h3 h4;rfl
theorem nok_node {V:aE} {h:Hd} {A:Option Addr} {n c:Nat} (ha:fD V A n h.attrs) (hc:n≤c) (hd:h.data.size≤maxLen):aT V (nokL h A n c):=aT.of (es:=[]) ha hc hd (Nat.le_refl _) ⟨fB.nil,by simp⟩ rfl
attribute [local irreducible] AtQ GoC GoL GoW QO QP Fn RV bF aD VLe bU bA
theorem Own0_c (V:aE) (x:LN) (hx:aT V x) (h0:Nok x) (hs:x.h.attrs.length≤100000):Fn Tryz.prog 39 [lnV x] V fun v V2=>∃ y:LN,v=lnV y∧y.h=x.h∧Nok y∧aT V2 y:=by
  obtain⟨ha,hca,hd,hck,es,hk,hks⟩:=hx.inv
  have hn0:=h0.nk
  have hal:=ha.1.1
  have hsrc:=ha.1.cells pa_len
  have h1:=ones_pa x.h.attrs
  (refine aN Tryz.func39 rfl Tryz.ntmps39 rfl ?_;intro w0)
  repeat' (first|(refine aG ?_;first|(refine aC ?_;(refine bQ rfl und_47 inf_222 rfl rfl rfl cX.nil (cT eL) (nE hsrc) cI (by omega) rfl rfl ?_;intro A1 c1 L1 hr1;rw [Nat.zero_add] at hr1 ⊢;rw [List.nil_append] at hr1))|refine st9 ?_|(refine al9 ?_;intro γ)|refine pu9 ?_)|refine cM ?_|fail)
  rename_i γ1
  have hcap1:=hr1.cap
  refine rG hr1 bD ?_
  intro V2 hV2 hc2
  have ha2:fD V2 A1 x.na x.h.attrs:=wB hc2 hal (by unfold maxLen;omega) ha.2
  refine bZ (fun F V3 L' m=>V2=V3∧[⟨γ,50,lnC ⟨hZ,none,0,0,none,0,0,[]⟩⟩,⟨γ1,50,[.int .i64 x.h.kind,.int .i64 x.h.mode,.int .i64 x.h.user,.int .i64 x.h.group,.bool x.h.opq,.slice A1 x.na c1,.string x.h.data,.slice x.K x.nk x.ck]⟩]=L'∧m=0∧F=[(1,.pointer (some ⟨γ1,0,none⟩)),(2,.pointer (some ⟨γ,0,none⟩)),(3,.slice none 0 0),(11,.slice x.K x.nk x.ck),(12,.int .i64 x.nk),(13,.int .i64 0)]) (m:=0) ⟨rfl,rfl,rfl,rfl⟩ bG rfl sl9 ?_
  rintro F V3 L' m ⟨rfl,rfl,rfl,rfl⟩
  repeat' (first|(refine aG ?_;first|refine st9 ?_|refine pu9 ?_)|refine eT ?_|(refine aA rfl ?_ ?_<;>intro hq<;>try exact no9))
  all_goals try exact no9
  all_goals
    (refine aR Tryz.results39 (aU agg_50 rfl bN (by exact rfl)) ?_)
    exact⟨⟨x.h,A1,x.na,c1,none,0,0,[]⟩,rfl,rfl,⟨rfl,rfl,rfl,rfl⟩,nok_node ha2 hcap1 hd⟩
end
section
def MadeBy (g:Hd→Int→Hd) (f:FuncId) (cs fs:List Value) (V:aE):Prop:=∀ V0,VLe V V0→∀ (x:LN) (lay:Int),aT V0 x→Nok x→x.h.attrs.length≤100000→Fn Tryz.prog f (fs ++ [lnV x,.int .i64 lay] ++ cs) V0 fun v V2=>∃ y:LN,v=lnV y∧y.h=g x.h lay∧Nok y∧aT V2 y
theorem ones_k9 (e:LK):∀ u∈lkC e,jF u=true:=fun u hu=>wZ [e] u (by simpa using hu)
attribute [local irreducible] AtQ GoC GoL GoW QO QP Fn RV bF aD VLe bU bA
theorem MFlat_c {g:Hd→Int→Hd} {f:FuncId} {cs fs:List Value} (he:lB Tryz.prog f) {V:aE} (hg:MadeBy g f cs fs V):∀ (d:Nat) (V0:aE),VLe V V0→∀ (A:Option Addr) (n c:Nat) (ls:List LF),dU V0 A n ls→0<n→n≤10→(∀ x∈ls.map fz,Deep d x.1)→(∀ x∈ls.map fz,cH eR x.1)→Fn Tryz.prog 172 [.slice A n c,.func (.func f) fs.toArray cs.toArray] V0 fun v V2=>∃ y:LN,v=lnV y∧aT V2 y∧y.n=kB g d (ls.map fz):=by
  intro d
  induction d with
  | zero =>
    intro V0 hV0 A n c ls hF hn0 hn hd hs
    have hl:=hF.1.1
    cases ls with
    | nil=>simp at hl;omega
    | cons x t=>exact(hd (fz x) (by simp)).zero.elim
  | succ d ih =>
    intro V0 hV0 A n c ls hF hn0 hn hd hs
    have hl:=hF.1.1
    obtain⟨x,t,rfl⟩:∃ x t,ls=x :: t:=by
      cases ls with
      | nil=>simp at hl;omega
      | cons x t=>exact⟨x,t,rfl⟩
    obtain⟨b,off,x',rfl,hx',hc,hN⟩:=hF.at_ hn0
    obtain rfl:x=x':=by simpa using hx'
    obtain⟨hc8,hc9⟩:=fl_parts hc
    obtain⟨ha,hca,hdt,hck,es,hK,hks⟩:=hN.inv
    have hat:x.x.h.attrs.length≤100000:=(hs (fz x) (by simp)).here.1
    have hxN:aT V0 ⟨{ x.x.h with opq:=false },x.x.A,x.x.na,x.x.ca,none,0,0,[]⟩:=aT.of (es:=[]) ha hca hdt (Nat.le_refl _) ⟨fB.nil,by simp⟩ rfl
    have hO:=Own0_c V0 _ hxN ⟨rfl,rfl,rfl,rfl⟩ hat
    (refine aN Tryz.func172 rfl Tryz.ntmps172 rfl ?_;intro w0)
    repeat' (first|(refine aG ?_;first|(refine bH ?_;refine aI (iN (k:=0) und_183 siz_186 rfl rfl hn0) ?_)|refine st9 ?_|(refine al9 ?_;intro γ)|refine pu9 ?_)|refine bS ?_|fail)
    refine bT (id:=4) _ mixed (List.nil_sublist _) ?_;refine gt9 0 ?_;refine gt9 3 ?_;refine gO 4 rfl rfl (iN (k:=0) und_183 siz_186 rfl rfl hn0) ?_;refine gt9 5 ?_;refine gt9 6 ?_;refine bM (i:=1) rfl ?_;refine aI (nJ agg_50 rfl bN (by exact rfl)) ?_;refine bM (i:=2) rfl ?_;(refine aS rfl ⟨Tryz.call39⟩ rfl rfl (hO) ?_;rintro v V3 hV3 ⟨y,rfl,hyh,hyk,hyN⟩;have hgc:=hg V3 (hV0.trans hV3) y x.lay hyN hyk (by rw [hyh];exact hat));refine bM (i:=7) rfl ?_;(refine gw_callv rfl he rfl rfl rfl hgc ?_;rintro v V4 hV4 ⟨⟨zh,zA,zn,zc,zK,znk,zck,zks⟩,rfl,hzh,⟨hz1,hz2,hz3,hz4⟩,hzN⟩;simp only at hzh hz1 hz2 hz3 hz4;subst hz1 hz2 hz3 hz4);refine bM (i:=8) rfl ?_;refine aP rfl siz_50 rfl rfl rfl rfl cI fU rfl ?_;refine bC (by kernel_rfl) vl9 vl9 cC ?_
    rename_i γ4
    have hF4:=hF.le (hV3.trans hV4)
    have hnf:=names_few (r:=(x :: t).map fz) hs
    rw [List.length_map,hl] at hnf
    have hL:=MList_c V4 _ n c (x :: t) hF4 (by omega) (by omega)
    obtain⟨hza,hzca,hzd,_,_,_,_⟩:=hzN.inv
    repeat' (first|(refine aG ?_;first|(refine aC ?_;(refine aS rfl ⟨Tryz.call146⟩ rfl rfl (hL) ?_;rintro v V5 hV5 ⟨A5,n5,c5,rfl,hS5,hc5⟩))|refine pu9 ?_)|refine cM ?_|fail)
    have hsl:=hS5.1.1
    have hll:=listP_len ((x :: t).map fz)
    refine bZ (fun F V' L' m=>∃ (k:Nat) (acc:List LK) (A':Option Addr) (c':Nat) (LA:List Box),VLe V5 V'∧LA ++ [⟨γ,50,[.int .i64 zh.kind,.int .i64 zh.mode,.int .i64 zh.user,.int .i64 zh.group,.bool zh.opq,.slice zA zn zc,.string zh.data,.slice A' k c']⟩,⟨γ4,50,lnC ⟨hZ,none,0,0,none,0,0,[]⟩⟩]=L'∧k≤n5∧cX A' k c' 104 9 (acc.flatMap lkC) LA∧acc.length=k∧acc.map kz=((lC ((x :: t).map fz)).take k).map (fun nm=>(nm,kB g d (eJ ((x :: t).map fz) nm)))∧(∀ e∈acc,e.nm.size≤maxLen∧aT V' e.x)∧m=n5 - k∧F=[(0,.slice (some ⟨b,off,none⟩) n c),(1,.func (.func f) fs.toArray cs.toArray),(4,.pointer (some ⟨γ4,0,none⟩)),(5,.pointer (some ⟨γ,0,none⟩)),(23,.slice A5 n5 c5),(24,.int .i64 n5),(25,.int .i64 (k:Int))]) (m:=n5) ⟨0,[],none,0,[],VLe.refl _,rfl,Nat.zero_le _,cX.nil,rfl,rfl,by simp,by omega,rfl⟩ bG rfl sl9 ?_
    rintro F V9 L' m ⟨k,acc,A',c',LA,hV9,rfl,hkn,hr,hal,hak,haN,rfl,rfl⟩
    have h0V:=hV3.trans (hV4.trans (hV5.trans hV9))
    by_cases hlt:k<n5
    · obtain⟨b6,o6,nm,hA5,hx6,hc6,hms⟩:=(hS5.le hV9).at_ hlt
      have hmem:=List.mem_of_getElem? hx6
      have hpos:=(wH.1 hmem).2
      have hStp:=Step_c V9 _ n c (x :: t) (hF4.le (hV5.trans hV9)) (by omega) nm
      have hstl:=stepP_len ((x :: t).map fz) nm
      rw [List.length_map,hl] at hstl
      have hih:∀ V6,VLe V9 V6→∀ (A6:Option Addr) (n6 c6:Nat) (gs:List LF),dU V6 A6 n6 gs→gs.map fz=eJ ((x :: t).map fz) nm→Fn Tryz.prog 172 [.slice A6 n6 c6,.func (.func f) fs.toArray cs.toArray] V6 fun v V2=>∃ y:LN,v=lnV y∧aT V2 y∧y.n=kB g d (eJ ((x :: t).map fz) nm):=fun V6 hV6 A6 n6 c6 gs hG hgz=>by
        have hgl:=hG.1.1
        have hgl2:=congrArg List.length hgz
        rw [List.length_map,hgl] at hgl2
        have:=ih V6 ((hV0.trans h0V).trans hV6) A6 n6 c6 gs hG (by omega) (by omega) (by rw [hgz];exact stepP_deep hd) (by rw [hgz];exact stepP_all hs)
        rw [hgz] at this
        exact this
      repeat' (first|(refine aG ?_;first|(refine bH ?_;refine aI (dG und_40 siz_9 rfl hA5 rfl hlt) ?_)|refine pu9 ?_)|refine cM ?_|(refine aA rfl ?_ ?_<;>intro hq<;>try exact no9))
      all_goals try exact no9
      refine bT (id:=8) _ mixed (List.nil_sublist _) ?_;refine gt9 0 ?_;refine gt9 2 ?_;refine gt9 3 ?_;refine gt9 4 ?_;refine gt9 6 ?_;(refine iC (i:=1) (j:=5) (by kernel_rfl) rfl rfl rfl rfl vl9 vl9 cC ?_ ?_<;>first|((first|refine aI (aX one_48 rfl bN (by exact rfl)) ?_|refine aI (aX one_48 rfl bN (by assumption)) ?_|refine aI (cK one_48 rfl (by assumption)) ?_);refine bM (i:=5) rfl ?_;(refine aS rfl ⟨Tryz.call116⟩ rfl rfl (hStp) ?_;rintro v V6 hV6 ⟨A6,n6,c6,gs,rfl,hG6,hc6',hgz⟩;have hih6:=hih V6 hV6 A6 n6 c6 gs hG6 hgz);refine bM (i:=7) rfl ?_;(refine aS rfl ⟨Tryz.call172⟩ rfl rfl (hih6) ?_;rintro v V7 hV7 ⟨y,rfl,hyN,hyn⟩;have ho1:=ones_k9 ⟨nm,y⟩);refine gt9 8 ?_;refine bM (i:=9) rfl ?_;(refine aZ rfl und_48 siz_104 zec_104 rfl rfl rfl rfl rfl rfl rfl ?_;intro γ);refine bM (i:=10) rfl ?_;(refine bQ rfl und_48 inf_104 rfl rfl rfl hr bD (fY bN rfl) cI (by omega) rfl rfl ?_;intro A8 c8 L8 hr8);refine gt9 11 ?_;refine bM (i:=12) rfl ?_;refine aP rfl siz_48 rfl rfl rfl rfl cI fU rfl ?_;refine bC (by kernel_rfl) vl9 vl9 cC ?_)|((refine aS rfl ⟨Tryz.call116⟩ rfl rfl (hStp) ?_;rintro v V6 hV6 ⟨A6,n6,c6,gs,rfl,hG6,hc6',hgz⟩;have hih6:=hih V6 hV6 A6 n6 c6 gs hG6 hgz);(refine iC (i:=1) (j:=7) (by kernel_rfl) rfl rfl rfl rfl vl9 vl9 cC ?_ ?_<;>first|((first|refine aI (aX one_48 rfl bN (by exact rfl)) ?_|refine aI (aX one_48 rfl bN (by assumption)) ?_|refine aI (cK one_48 rfl (by assumption)) ?_);refine bM (i:=7) rfl ?_;(refine aS rfl ⟨Tryz.call172⟩ rfl rfl (hih6) ?_;rintro v V7 hV7 ⟨y,rfl,hyN,hyn⟩;have ho1:=ones_k9 ⟨nm,y⟩);refine gt9 8 ?_;refine bM (i:=9) rfl ?_;(refine aZ rfl und_48 siz_104 zec_104 rfl rfl rfl rfl rfl rfl rfl ?_;intro γ);refine bM (i:=10) rfl ?_;(refine bQ rfl und_48 inf_104 rfl rfl rfl hr bD (fY bN rfl) cI (by omega) rfl rfl ?_;intro A8 c8 L8 hr8);refine gt9 11 ?_;refine bM (i:=12) rfl ?_;refine aP rfl siz_48 rfl rfl rfl rfl cI fU rfl ?_;refine bC (by kernel_rfl) vl9 vl9 cC ?_)|((refine aS rfl ⟨Tryz.call172⟩ rfl rfl (hih6) ?_;rintro v V7 hV7 ⟨y,rfl,hyN,hyn⟩;have ho1:=ones_k9 ⟨nm,y⟩);refine gt9 8 ?_;(refine iC (i:=1) (j:=9) (by kernel_rfl) rfl rfl rfl rfl vl9 vl9 cC ?_ ?_<;>first|((first|refine aI (aX one_48 rfl bN (by exact rfl)) ?_|refine aI (aX one_48 rfl bN (by assumption)) ?_|refine aI (cK one_48 rfl (by assumption)) ?_);refine bM (i:=9) rfl ?_;(refine aZ rfl und_48 siz_104 zec_104 rfl rfl rfl rfl rfl rfl rfl ?_;intro γ);refine bM (i:=10) rfl ?_;(refine bQ rfl und_48 inf_104 rfl rfl rfl hr bD (fY bN rfl) cI (by omega) rfl rfl ?_;intro A8 c8 L8 hr8);refine gt9 11 ?_;refine bM (i:=12) rfl ?_;refine aP rfl siz_48 rfl rfl rfl rfl cI fU rfl ?_;refine bC (by kernel_rfl) vl9 vl9 cC ?_)|((refine aZ rfl und_48 siz_104 zec_104 rfl rfl rfl rfl rfl rfl rfl ?_;intro γ);refine bM (i:=1) rfl ?_;(first|refine aI (aX one_48 rfl bN (by exact rfl)) ?_|refine aI (aX one_48 rfl bN (by assumption)) ?_|refine aI (cK one_48 rfl (by assumption)) ?_);refine bM (i:=10) rfl ?_;(refine bQ rfl und_48 inf_104 rfl rfl rfl hr bD (fY bN rfl) cI (by omega) rfl rfl ?_;intro A8 c8 L8 hr8);refine gt9 11 ?_;refine bM (i:=12) rfl ?_;refine aP rfl siz_48 rfl rfl rfl rfl cI fU rfl ?_;refine bC (by kernel_rfl) vl9 vl9 cC ?_))))))
      all_goals
        repeat' (first|(refine aG ?_;refine pu9 ?_)|refine bS ?_|fail)
        refine aY _ (n5 - (k+1)) ⟨k+1,acc ++ [⟨nm,y⟩],A8,c8,L8,vl9,rfl,by omega,by rw [List.flatMap_append];exact hr8,by rw [List.length_append,hal];rfl,?_,?_,rfl,rfl⟩ (by omega) bG sl9
        · rw [List.map_append,hak,List.take_add_one,hx6,List.map_append]
          simp [kz,hyn]
        · intro e he
          rcases List.mem_append.1 he with he|he
          · exact⟨(haN e he).1,(haN e he).2.le vl9⟩
          · rw [List.mem_singleton] at he;subst he
            exact⟨hms,hyN⟩
    · obtain rfl:k=n5:=by omega
      have hcap:=hr.cap
      refine rG hr bD ?_
      intro V8 hV8 hc8'
      have hKd:fA V8 A' k acc:=⟨fB.of_cells hc8' uR hal (by unfold maxLen;omega),fun e he=>⟨(haN e he).1,(haN e he).2.le hV8⟩⟩
      repeat' (first|(refine aG ?_;first|refine st9 ?_|refine pu9 ?_)|refine eT ?_|(refine aA rfl ?_ ?_<;>intro hq<;>try exact no9))
      all_goals try exact no9
      all_goals
        (refine aR Tryz.results172 (aU agg_50 rfl bN (by exact rfl)) ?_)
        refine⟨⟨zh,zA,zn,zc,A',k,c',acc.map kz⟩,rfl,aT.of (hza.le (hV5.trans (hV9.trans hV8))) hzca hzd hcap (fA.le vl9 hKd) rfl,?_⟩
        have e1:((⟨zh,zA,zn,zc,A',k,c',acc.map kz⟩:LN)).n=.mk zh (acc.map kz):=rfl
        rw [e1,hak,List.take_of_length_le (by omega),hzh,hyh]
        rfl
end
section
structure FuncTy (P:Program) (T:TypeId):Prop where
  h:∃ a b c,P.underlying T=some (.func a b c)
section
variable {P : Program} {B : Base} {N : Nat} {F : List (Nat × Value)} {V : aE} {L : List Box}
variable {d : Option Tmp} {ty : TypeId} {pos : String} {af : Array Edge} {gd : Option (Nat × Bool)} {x : Operand} {t ty2 : TypeId}
theorem run_fnil_f (w:World) (d:Nat) (f:Go.Fn) (xs ys:Array Value) (h:∃ a b c,P.underlying t=some (.func a b c)):(Op.equalIn (d+1) t (.func f xs ys) .nilFunc).run P w=.ok false w:=by
  obtain⟨a,b,c,h⟩:=h
  simp [Op.equalIn,run_underlying h]
theorem q_fnil_f {f:Go.Fn} {xs ys:Array Value} (hp:FuncTy P t) (hx:evF F x=some (.func f xs ys)):QP P B N V L ⟨d,.binOp .eql t x (.const .nilFunc) ty2,ty,pos,af,gd⟩ F (.bool false):=by
  refine sU (y:=.const .nilFunc) hx rfl (fun w=>by simp [eqGuard]) (fun w=>?_)
  simp only [binOp]
  simp [Op.equal,Op.maxDepth,run_fnil_f w 9999 f xs ys hp.h]
end
theorem made_ty:FuncTy Tryz.prog 213:=⟨_,_,_,Tryz.underlying213⟩
def FlatR (g:Hd→Int→Hd) (d:Nat) (r:List PF) (v:Value) (V':aE):Prop:=(r=[]∧v=.tuple #[lnV lnZ,.bool false])∨(r≠[]∧∃ y,v=.tuple #[lnV y,.bool true]∧aT V' y∧y.n=kB g d r)
theorem roots_len (l:List PN):(mZ l).length≤l.length:=by
  have:=xS (mX 0 l)
  rw [layP_len] at this;exact this
theorem roots_all {p:Hd→PKs→Prop} {l:List PN} (h:∀ x∈l,cH p x):∀ f∈mZ l,cH p f.1:=fun f hf=>h _ (vG (lM hf))
theorem map_n {p:PN→Prop} {xs:List LN} (h:∀ x∈xs,p x.n):∀ y∈xs.map LN.n,p y:=fun y hy=>by
  obtain⟨x,hx,rfl⟩:=List.mem_map.1 hy
  exact h x hx
attribute [local irreducible] AtQ GoC GoL GoW QO QP Fn RV bF aD VLe bU bA
theorem FlatF_c {g:Hd→Int→Hd} {f:FuncId} {cs fs:List Value} (he:lB Tryz.prog f) {V:aE} (hg:MadeBy g f cs fs V) (A:Option Addr) (n c:Nat) (xs:List LN) (h:fN V A n xs) (hn:n≤10) (hsm:∀ x∈xs,cH eR x.n) (d:Nat) (hd:∀ x∈xs,Deep d x.n):Fn Tryz.prog 128 [.slice A n c,.func (.func f) fs.toArray cs.toArray] V (FlatR g d (mZ (xs.map LN.n))):=by
  have hl:=h.1.1
  have hR:=Roots_c V A n c xs h (by omega)
  have hrl:=roots_len (xs.map LN.n)
  rw [List.length_map,hl] at hrl
  have hrd:=roots_deep (map_n hd)
  have hra:=roots_all (map_n hsm)
  generalize mZ (xs.map LN.n)=r at *
  (refine aN Tryz.func128 rfl Tryz.ntmps128 rfl ?_;intro w0)
  repeat' (first|(refine aG ?_;first|(refine aC ?_;(refine aS rfl ⟨Tryz.call158⟩ rfl rfl (hR) ?_;rintro v V1 hV1 ⟨A1,n1,c1,gs,rfl,hG,hc1,rfl⟩;have hgl:=hG.1.1;rw [List.length_map,hgl] at hrl))|(refine bK ?_;refine aI (q_fnil_f made_ty rfl) ?_)|refine st9 ?_|(refine al9 ?_;intro γ)|refine pu9 ?_)|refine bV ?_|(refine aA rfl ?_ ?_<;>intro hq<;>try exact no9))
  · (refine bL Tryz.results128 (aU agg_50 rfl bN (by exact rfl)) (aB rfl) ?_)
    obtain rfl:gs=[]:=List.eq_nil_of_length_eq_zero (by omega)
    exact .inl ⟨rfl,rfl⟩
  · have hM:=MFlat_c he hg d V1 hV1 A1 n1 c1 gs hG (by omega) (by omega) hrd hra
    repeat' (first|(refine aG ?_;first|(refine aC ?_;(refine aS rfl ⟨Tryz.call172⟩ rfl rfl (hM) ?_;rintro v V2 hV2 ⟨y,rfl,hyN,hyn⟩))|refine st9 ?_|refine pu9 ?_)|refine gx9 ?_|fail)
    all_goals
      (refine bL Tryz.results128 (aU agg_50 rfl bN (by exact rfl)) (aB rfl) ?_)
      refine .inr ⟨?_,y,rfl,hyN,hyn⟩
      intro e
      have:=congrArg List.length e
      rw [List.length_map,hgl] at this
      simp at this;omega
end
section
def InR (x:LN) (r:Option PN) (v:Value) (V':aE):Prop:=∃ y:LN,v=.tuple #[lnV y,bA (movF r)]∧Nok y∧aT V' y∧y.h=(r.getD pnZ).h
attribute [local irreducible] AtQ GoC GoL GoW QO QP Fn RV bF aD VLe bU bA
theorem InsideK_c (V:aE) (M:LM) (hM:rC V M) (x:LN) (hx:aT V x) (hk:Nok x) (hat:x.h.attrs.length≤100000):Fn Tryz.prog 130 [lmV M,lnV x] V (InR x (dK false M.us M.gs x.n)):=by
  cases h1:pB M.us x.h.user with
  | none =>
    have hm:=moved_one (out:=false) (us:=M.us) (gs:=M.gs) (n:=x.n) h1
    have c1:=fun V' (hV:VLe V V')=>(by have h:=lQ V' M.A M.n M.c M.us (hM.le hV).1 hM.2.1 x.h.user;rw [h1] at h;exact h:Fn Tryz.prog 51 [.slice M.A M.n M.c,.int .i64 x.h.user] V' fun v _=>v=.tuple #[.int .i64 0,.bool false])
    have c2:=fun V' (hV:VLe V V')=>lQ V' M.B M.m M.e M.gs (hM.le hV).2.2.1 hM.2.2.2 x.h.group
    rw [hm]
    (refine aN Tryz.func130 rfl Tryz.ntmps130 rfl ?_;intro w0)
    repeat' (first|(refine aG ?_;first|(refine aC ?_;(first|refine aO rfl (aK ⟨Tryz.call51⟩ rfl (c1 _ vl9)) ?_|refine aO rfl (aK ⟨Tryz.call51⟩ rfl (c2 _ vl9)) ?_|(refine aS rfl ⟨Tryz.call39⟩ rfl rfl (Own0_c _ x (hx.le vl9) hk hat) ?_;rintro v V2 hV2 ⟨y,rfl,hyh,hyk,hyN⟩)))|refine st9 ?_|(refine al9 ?_;intro γ)|refine pu9 ?_)|refine bV ?_|fail)
    all_goals (refine bL Tryz.results130 (aU agg_50 rfl bN (by exact rfl)) (aB rfl) ?_)
    all_goals exact⟨lnZ,by rw [←bW (e:=11) (by decide)];rfl,⟨rfl,rfl,rfl,rfl⟩,aT.zero,rfl⟩
  | some u =>
    have c1:=fun V' (hV:VLe V V')=>(by have h:=lQ V' M.A M.n M.c M.us (hM.le hV).1 hM.2.1 x.h.user;rw [h1] at h;exact h:Fn Tryz.prog 51 [.slice M.A M.n M.c,.int .i64 x.h.user] V' fun v _=>v=.tuple #[.int .i64 u,.bool true])
    cases h2:pB M.gs x.h.group with
    | none =>
      have hm:=moved_two (out:=false) (us:=M.us) (gs:=M.gs) (n:=x.n) h2
      have c2:=fun V' (hV:VLe V V')=>(by have h:=lQ V' M.B M.m M.e M.gs (hM.le hV).2.2.1 hM.2.2.2 x.h.group;rw [h2] at h;exact h:Fn Tryz.prog 51 [.slice M.B M.m M.e,.int .i64 x.h.group] V' fun v _=>v=.tuple #[.int .i64 0,.bool false])
      rw [hm]
      (refine aN Tryz.func130 rfl Tryz.ntmps130 rfl ?_;intro w0)
      repeat' (first|(refine aG ?_;first|(refine aC ?_;(first|refine aO rfl (aK ⟨Tryz.call51⟩ rfl (c1 _ vl9)) ?_|refine aO rfl (aK ⟨Tryz.call51⟩ rfl (c2 _ vl9)) ?_|(refine aS rfl ⟨Tryz.call39⟩ rfl rfl (Own0_c _ x (hx.le vl9) hk hat) ?_;rintro v V2 hV2 ⟨y,rfl,hyh,hyk,hyN⟩)))|refine st9 ?_|(refine al9 ?_;intro γ)|refine pu9 ?_)|refine bV ?_|fail)
      all_goals (refine bL Tryz.results130 (aU agg_50 rfl bN (by exact rfl)) (aB rfl) ?_)
      all_goals exact⟨lnZ,by rw [←bW (e:=11) (by decide)];rfl,⟨rfl,rfl,rfl,rfl⟩,aT.zero,rfl⟩
    | some g =>
      have hm:=yE (out:=false) (us:=M.us) (gs:=M.gs) (n:=x.n) h1 h2
      have c2:=fun V' (hV:VLe V V')=>(by have h:=lQ V' M.B M.m M.e M.gs (hM.le hV).2.2.1 hM.2.2.2 x.h.group;rw [h2] at h;exact h:Fn Tryz.prog 51 [.slice M.B M.m M.e,.int .i64 x.h.group] V' fun v _=>v=.tuple #[.int .i64 g,.bool true])
      rw [hm]
      (refine aN Tryz.func130 rfl Tryz.ntmps130 rfl ?_;intro w0)
      repeat' (first|(refine aG ?_;first|(refine aC ?_;(first|refine aO rfl (aK ⟨Tryz.call51⟩ rfl (c1 _ vl9)) ?_|refine aO rfl (aK ⟨Tryz.call51⟩ rfl (c2 _ vl9)) ?_|(refine aS rfl ⟨Tryz.call39⟩ rfl rfl (Own0_c _ x (hx.le vl9) hk hat) ?_;rintro v V2 hV2 ⟨y,rfl,hyh,hyk,hyN⟩)))|refine st9 ?_|(refine al9 ?_;intro γ)|refine pu9 ?_)|refine bV ?_|fail)
      all_goals (refine bL Tryz.results130 (aU agg_50 rfl bN (by exact rfl)) (aB rfl) ?_)
      all_goals exact⟨{ y with h:={ y.h with user:=u,group:=g } },by rw [show movF (some _)=0 from rfl,bO];rfl,⟨hyk.K,hyk.nk,hyk.ck,hyk.ks⟩,moved_node (hyN.le vl9),by rw [hyh];rfl⟩
end
section
def flatB (b:BX):PN:=kB (gP b.us b.gs) 7 (mZ b.ls)
def MapsOk (b:BX):Prop:=dX b.us=0∧dX b.gs=0
theorem MapsOk.few {b:BX} (h:MapsOk b):b.us.length≤1000∧b.gs.length≤1000:=by
  have h1:=(kS h.1).1
  have h2:=(kS h.2).1
  omega
theorem bI.deep {b:BX} (h:bI b):∀ x∈b.ls,Deep 7 x:=fun x hx=>by obtain⟨u,hu⟩:=h.tree x hx;exact tree_deep hu
theorem bI.roots {b:BX} (h:bI b):mZ b.ls≠[]:=by
  obtain⟨n0,t,hl,hk⟩:=h.root
  rw [hl,yD hk];simp
attribute [local irreducible] AtQ GoC GoL GoW QO QP Fn RV bF aD VLe bU bA
theorem flat_made {V:aE} {p:Nat} {b:BX} {I:BI} (h:pY V p b I) {g:Nat} (hg:V ⟨g,0,none⟩=some (.pointer (some ⟨p,0,none⟩))):MadeBy (gP b.us b.gs) 129 [.pointer (some ⟨g,0,none⟩)] [] V:=by
  intro V0 hV0 x lay hx hok ha
  show Fn _ _ [lnV x,.int .i64 lay,.pointer (some ⟨g,0,none⟩)] V0 _
  obtain⟨hcM,hcC,hcq,hcl⟩:=(h.le hV0).parts
  have hg0:=eZ hV0 hg
  have hI:=fun V' (hV:VLe V0 V')=>InsideK_c V' I.M ((h.2.M.le hV0).le hV) x (hx.le hV) hok ha
  rw [h.2.us,h.2.gs] at hI
  by_cases hl:0<lay
  · (refine aN Tryz.func129 rfl Tryz.ntmps129 rfl ?_;intro w0)
    repeat' (first|(refine aG ?_;first|refine st9 ?_|(refine al9 ?_;intro γ)|refine pu9 ?_)|refine bS ?_|(refine aA rfl ?_ ?_<;>intro hq<;>try exact no9))
    all_goals try exact no9
    all_goals
      (refine aR Tryz.results129 (aU agg_50 rfl bN (by exact rfl)) ?_)
      exact⟨x,rfl,by rw [gP_low hl],hok,hx.le vl9⟩
  · (refine aN Tryz.func129 rfl Tryz.ntmps129 rfl ?_;intro w0)
    repeat' (first|(refine aG ?_;first|(refine al9 ?_;intro γ)|refine pu9 ?_)|refine bS ?_|(refine aA rfl ?_ ?_<;>intro hq<;>try exact no9))
    all_goals try exact no9
    refine eK (fun F V' L'=>∃ (γ5 γ6:Nat) (zs:List Value) (y:LN),VLe V0 V'∧aT V' y∧Nok y∧y.h=gP b.us b.gs x.h lay∧[⟨γ6,50,lnC y⟩,⟨γ5,50,lnC lnZ⟩]=L'∧F=[(5,.pointer (some ⟨γ5,0,none⟩)),(6,.pointer (some ⟨γ6,0,none⟩))]) ?_ ?_
    · refine bT (id:=3) _ mixed (List.Sublist.refl _) ?_;refine gt9 0 ?_;refine gt9 1 ?_;refine gt9 2 ?_;refine gt9 3 ?_;refine gt9 4 ?_;(refine iC (i:=5) (j:=9) (by kernel_rfl) rfl rfl rfl rfl vl9 vl9 cC ?_ ?_<;>first|((refine aS rfl ⟨Tryz.call130⟩ rfl rfl (hI _ vl9) ?_;rintro v V2 hV2 ⟨y,rfl,hyk,hyN,hyh⟩);refine gt9 6 ?_;refine gt9 7 ?_;refine gt9 8 ?_;refine bM (i:=9) rfl ?_;(refine eN rfl zer_50 rfl ?_;intro γ);refine bM (i:=10) rfl ?_;refine aP rfl siz_50 rfl rfl rfl rfl cI fU rfl ?_;refine gt9 11 ?_;refine bC (by kernel_rfl) vl9 vl9 cC ?_)|((refine eN rfl zer_50 rfl ?_;intro γ);refine bM (i:=5) rfl ?_;(refine aS rfl ⟨Tryz.call130⟩ rfl rfl (hI _ vl9) ?_;rintro v V2 hV2 ⟨y,rfl,hyk,hyN,hyh⟩);refine gt9 6 ?_;refine gt9 7 ?_;refine gt9 8 ?_;refine bM (i:=10) rfl ?_;refine aP rfl siz_50 rfl rfl rfl rfl cI fU rfl ?_;refine gt9 11 ?_;refine bC (by kernel_rfl) vl9 vl9 cC ?_))
      all_goals exact fP _ ⟨_,_,[],y,hV2,hyN,hyk,by rw [hyh,hok.n];exact(if_neg hl).symm,rfl,rfl⟩ bG sp9
    rintro F V2 L' ⟨γ5,γ6,zs,y,hV2,hyN,hyk,hyh,rfl,rfl⟩
    repeat' (first|(refine aG ?_;first|refine st9 ?_|refine pu9 ?_)|refine bS ?_|fail)
    all_goals
      (refine aR Tryz.results129 (aU agg_50 rfl bN (by exact rfl)) ?_)
      exact⟨y,rfl,hyh,hyk,hyN⟩
theorem Flat_v (V:aE) (p:Nat) (b:BX) (I:BI) (hok:bI b) (h:pY V p b I):Fn Tryz.prog 64 [.pointer (some ⟨p,0,none⟩)] V (NodeR (flatB b)):=by
  (refine aN Tryz.func64 rfl Tryz.ntmps64 rfl ?_;intro w0)
  repeat' (first|(refine aG ?_;first|(refine al9 ?_;intro γ))|refine gx9 ?_|refine dW (id:=0) ?_)
  refine nK (gB.next _ _ _ _ _ (gB.here _ _ _ _)) ?_
  intro V1 hV1 hg1
  have h1:=h.le hV1
  have hm4:I.m≤4:=by rw [←h.2.len];exact hok.l4
  obtain⟨hcM,hcC,hcq,hcl⟩:=h1.parts
  have hg0:=aD.at0 hg1
  have hF:=FlatF_c (V:=V1) (g:=gP b.us b.gs) ⟨Tryz.call129⟩ (flat_made h1 hg0) I.K I.m I.e I.xs h1.2.ls (by omega) (hok.smallL h.2) 7 (fun x hx=>hok.deep _ (by rw [←h.2.eq];exact List.mem_map_of_mem (f:=LN.n) hx))
  rw [h.2.eq] at hF
  repeat' (first|(refine aG ?_;first|(refine aC ?_;(refine aS rfl ⟨Tryz.call128⟩ rfl rfl (hF) ?_;rintro v V2 hV2 (⟨hx,_⟩|⟨_,y,rfl,hyN,hyn⟩);exact absurd hx hok.roots))|refine st9 ?_|(refine al9 ?_;intro γ)|refine pu9 ?_)|refine bS ?_|fail)
  all_goals
    (refine aR Tryz.results64 (aU agg_50 rfl bN (by exact rfl)) ?_)
    exact⟨y,rfl,hyN,hyn⟩
theorem Copy_bx (V:aE) (p:Nat) (b:BX) (I:BI) (hok:bI b) (hmo:MapsOk b) (h:pY V p b I):FnB Tryz.prog 131 [.pointer (some ⟨p,0,none⟩)] V [] fun v V' Bs'=>∃ g,v=.pointer (some ⟨g,0,none⟩)∧fE V' g b Bs':=by
  have hb0:=h.1
  obtain⟨hcM,hcC,hcq,hcl⟩:=h.parts
  have hz:=eW hok.c
  have hn3:I.n≤1000:=by have:=h.2.xs.1;omega
  have hm4:I.m≤4:=by rw [←h.2.len];exact hok.l4
  have hl:=h.2.ls.1.1
  obtain⟨hmu,hmg⟩:=hmo.few
  rw [←h.2.us] at hmu
  rw [←h.2.gs] at hmg
  have hn1:I.M.n≤1000:=by have:=h.2.M.1.1.1;omega
  have hn2:I.M.m≤1000:=by have:=h.2.M.2.2.1.1.1;omega
  have hOM:=fun V2 (hV2:VLe V V2)=>ownMaps_c V2 I.M (h.2.M.le hV2) hn1 hn2
  have hOC:=fun V2 (hV2:VLe V V2)=>ownCred_c V2 b.c I.A I.n I.k (h.2.xs.le hV2) hn3
  (refine aL Tryz.func131 rfl Tryz.ntmps131 rfl ?_;intro w0)
  repeat' (first|(refine aG ?_;first|(refine dA ?_;refine aI (iA agg_90 rfl hb0 (by exact rfl)) ?_)|(refine aC ?_;(first|(refine aS rfl ⟨Tryz.call36⟩ rfl rfl (hOM _ vl9) ?_;rintro v V1 hV1 ⟨M1,rfl,hM1,hM1u,hM1g⟩;have hcC1:=hcC.le hV1;have hcl1:=eZ hV1 hcl)|(refine aS rfl ⟨Tryz.call37⟩ rfl rfl (hOC _ vl9) ?_;rintro v V2 hV2 ⟨A1,k1,rfl,hI1⟩;have hcl2:=eZ hV2 hcl1)))|refine st9 ?_|(refine al9 ?_;intro γ)|refine pu9 ?_)|refine bS ?_|fail)
  have h2:=h.2.up (hV1.trans hV2)
  repeat' (first|refine cS ?_)
  refine bZ (fun F V' L' m=>∃ (γ3 k:Nat) (ys:List LN) (A':Option Addr) (c':Nat) (LA:List Box),VLe V2 V'∧cX A' k c' 50 8 (ys.flatMap lnC) LA∧ys.map LN.n=(I.xs.take k).map LN.n∧(∀ w∈ys,aT V' w)∧⟨γ3,90,[.slice M1.A M1.n M1.c,.slice M1.B M1.m M1.e,.int .i64 b.c.u,.int .i64 b.c.g,.slice A1 I.n k1,.int .i64 b.c.d,.int .i64 b.q,.slice A' k c']⟩ :: LA=L'∧k≤I.m∧m=I.m - k∧F=[(3,.pointer (some ⟨γ3,0,none⟩)),(25,.slice I.K I.m I.e),(26,.int .i64 (I.m:Int)),(27,.int .i64 (k:Int))]) (m:=I.m) ⟨_,0,[],none,0,[],VLe.refl _,cX.nil,by rw [List.take_zero],by simp,rfl,Nat.zero_le _,by omega,rfl⟩ bG rfl sl9 ?_
  rintro F V' L' m ⟨γ3,k,ys,A',c',LA,hV',hr,hyz,hyN2,rfl,hk,rfl,rfl⟩
  by_cases hlt:k<I.m
  · obtain⟨bb,off,w,hA,hw,hc,hwN⟩:=(h2.ls.le hV').at_ hlt
    have hO:=fun V9 (hV9:VLe V' V9)=>xO V9 w (hwN.le hV9) (hok.smallL h.2 w (List.mem_of_getElem? hw))
    repeat' (first|(refine aG ?_;first|(refine bH ?_;refine aI (dG und_30 siz_50 rfl hA rfl hlt) ?_)|refine st9 ?_|(refine al9 ?_;intro γ)|refine pu9 ?_)|refine cM ?_|(refine aA rfl ?_ ?_<;>intro hq<;>try exact no9))
    refine eK (fun F V9 L'=>∃ (v:LN) (A4:Option Addr) (c4:Nat) (L4:List Box),VLe V' V9∧cX A4 (k+1) c4 50 8 (ys.flatMap lnC ++ lnC v) L4∧v.n=w.n∧aT V9 v∧⟨γ3,90,[.slice M1.A M1.n M1.c,.slice M1.B M1.m M1.e,.int .i64 b.c.u,.int .i64 b.c.g,.slice A1 I.n k1,.int .i64 b.c.d,.int .i64 b.q,.slice A4 (k+1) c4]⟩ :: L4=L'∧F=[(3,.pointer (some ⟨γ3,0,none⟩)),(25,.slice I.K I.m I.e),(26,.int .i64 (I.m:Int)),(27,.int .i64 (k:Int))]) ?_ ?_
    · refine bT (id:=8) _ mixed (List.Sublist.cons_cons _ (List.nil_sublist _)) ?_;refine gt9 0 ?_;refine gt9 2 ?_;(refine iC (i:=1) (j:=3) (by kernel_rfl) rfl rfl rfl rfl vl9 vl9 cC ?_ ?_<;>first|((first|refine aI (aX one_30 rfl bN (by exact rfl)) ?_|refine aI (aX one_30 rfl bN (by assumption)) ?_|refine aI (cK one_30 rfl (by assumption)) ?_);refine bM (i:=3) rfl ?_;(refine aS rfl ⟨Tryz.call39⟩ rfl rfl (hO _ vl9) ?_;rintro v V9 hV9 ⟨v9,rfl,hvn,hvN⟩;have ho9:=pE v9);refine bM (i:=4) rfl ?_;(refine aZ rfl und_30 siz_50 zec_50 rfl rfl rfl rfl rfl rfl rfl ?_;intro γ);refine bM (i:=5) rfl ?_;(refine bQ rfl und_30 inf_50 rfl rfl rfl hr bD (fY bN rfl) cI (by omega) rfl rfl ?_;intro A4 c4 L4 hr4);refine gt9 6 ?_;refine bM (i:=7) rfl ?_;refine aP rfl siz_30 rfl rfl rfl rfl cI fU rfl ?_;refine bC (by kernel_rfl) vl9 vl9 cC ?_)|((refine aS rfl ⟨Tryz.call39⟩ rfl rfl (hO _ vl9) ?_;rintro v V9 hV9 ⟨v9,rfl,hvn,hvN⟩;have ho9:=pE v9);(refine iC (i:=1) (j:=4) (by kernel_rfl) rfl rfl rfl rfl vl9 vl9 cC ?_ ?_<;>first|((first|refine aI (aX one_30 rfl bN (by exact rfl)) ?_|refine aI (aX one_30 rfl bN (by assumption)) ?_|refine aI (cK one_30 rfl (by assumption)) ?_);refine bM (i:=4) rfl ?_;(refine aZ rfl und_30 siz_50 zec_50 rfl rfl rfl rfl rfl rfl rfl ?_;intro γ);refine bM (i:=5) rfl ?_;(refine bQ rfl und_30 inf_50 rfl rfl rfl hr bD (fY bN rfl) cI (by omega) rfl rfl ?_;intro A4 c4 L4 hr4);refine gt9 6 ?_;refine bM (i:=7) rfl ?_;refine aP rfl siz_30 rfl rfl rfl rfl cI fU rfl ?_;refine bC (by kernel_rfl) vl9 vl9 cC ?_)|((refine aZ rfl und_30 siz_50 zec_50 rfl rfl rfl rfl rfl rfl rfl ?_;intro γ);refine bM (i:=1) rfl ?_;(first|refine aI (aX one_30 rfl bN (by exact rfl)) ?_|refine aI (aX one_30 rfl bN (by assumption)) ?_|refine aI (cK one_30 rfl (by assumption)) ?_);refine bM (i:=5) rfl ?_;(refine bQ rfl und_30 inf_50 rfl rfl rfl hr bD (fY bN rfl) cI (by omega) rfl rfl ?_;intro A4 c4 L4 hr4);refine gt9 6 ?_;refine bM (i:=7) rfl ?_;refine aP rfl siz_30 rfl rfl rfl rfl cI fU rfl ?_;refine bC (by kernel_rfl) vl9 vl9 cC ?_))))
      all_goals exact fP _ ⟨v9,A4,c4,L4,vl9,hr4,hvn,hvN.le vl9,rfl,rfl⟩ bG sp9
    rintro F V9 L' ⟨v,A4,c4,L4,hV9,hr4,hvn,hvN,rfl,rfl⟩
    repeat' (first|(refine aG ?_;refine pu9 ?_)|refine bS ?_|fail)
    all_goals
      refine aY _ (I.m - (k+1)) ⟨γ3,k+1,ys ++ [v],A4,c4,L4,vl9,?_,?_,fun u hu=>?_,rfl,by omega,rfl,rfl⟩ (by omega) bG sl9
      · rw [show (ys ++ [v]).flatMap lnC=ys.flatMap lnC ++ lnC v by rw [List.flatMap_append];simp];exact hr4
      · rw [List.take_add_one,hw,List.map_append,List.map_append,hyz];simp [hvn]
      · rcases List.mem_append.1 hu with hu|hu
        · exact(hyN2 u hu).le hV9
        · rw [List.mem_singleton.1 hu];exact hvN
  · obtain rfl:k=I.m:=by omega
    rw [List.take_of_length_le (by omega)] at hyz
    have hyl:ys.length=I.m:=by have:=congrArg List.length hyz;simpa [hl] using this
    repeat' (first|(refine aG ?_;refine pu9 ?_)|refine eT ?_|(refine aA rfl ?_ ?_<;>intro hq<;>try exact no9))
    all_goals
      (refine aV Tryz.results131 (aB rfl) (List.Sublist.refl _) ?_)
      exact⟨γ3,rfl,⟨M1,A1,I.n,k1,A',I.m,c',ys⟩,LA,rfl,hM1.le vl9,hM1u.trans h.2.us,hM1g.trans h.2.gs,hI1.le vl9,trivial,hr,hyN2,hyl,hyz.trans h.2.eq⟩
end
section
def HNodeR (f:Int) (n:PN) (u:Value) (V':aE):Prop:=(¬f=0∧u=.tuple #[lnV lnZ,bA f])∨(f=0∧∃ y:LN,u=.tuple #[lnV y,bA 0]∧aT V' y∧y.n=n)
def lowF (h:HM) (s:DS) (n:Int):Int:=if (h.off || s.off)=true then 16 else if (oX h n).isNone=true then 5 else 0
theorem lowF_dead {h:HM} {s:DS} {n:Int} (hd:(h.off || s.off)=true):lowF h s n=16:=if_pos hd
theorem xC {h:HM} {s:DS} {n:Int} (hd:(h.off || s.off)=false) (ht:oX h n=none):lowF h s n=5:=by unfold lowF;rw [if_neg (by rw [hd];decide),ht];rfl
theorem lowF_some {h:HM} {s:DS} {n:Int} {g:Nat×LW} (hd:(h.off || s.off)=false) (ht:oX h n=some g):lowF h s n=0:=by unfold lowF;rw [if_neg (by rw [hd];decide),ht];rfl
def lowN (h:HM) (n:Int):PN:=match oX h n with|none=>pnZ|some g=>g.2.x.n
theorem tenV_bad {h:HM} {s:DS} {n f:Int} (hf:rP h s n=f) (h0:¬f=0):tenV h s n=.tuple #[.pointer none,bA f]:=by unfold tenV;rw [hf,if_neg h0];rfl
theorem tenV_ok {h:HM} {s:DS} {n:Int} {g:Nat} {t:TE} (hf:rP h s n=0) (ht:nX h n=some (g,t)):tenV h s n=.tuple #[.pointer (some ⟨g,0,none⟩),bA 0]:=by unfold tenV;rw [hf,if_pos rfl,ht];rfl
theorem wJ {h:HM} {s:DS} {n:Int} (hf:rP h s n=0):∃ (i g:Nat) (t:TE),n=i∧i<5∧h.bx[i]?=some (some (g,t))∧nX h n=some (g,t)∧h.off=false∧s.off=false:=by
  unfold rP at hf
  split at hf
  · cases hf
  · rename_i hd
    split at hf
    · cases hf
    · rename_i hn
      have hd:h.off=false∧s.off=false:=by simpa using hd
      cases ht:nX h n with
      | none=>rw [ht] at hn;exact absurd rfl hn
      | some gt =>
        have ht':=ht
        unfold nX at ht
        split at ht
        · rename_i hin
          cases ho:h.bx[n.toNat]? with
          | none=>rw [ho] at ht;cases ht
          | some o =>
            rw [ho] at ht
            have ht:o=some gt:=ht
            subst ht
            exact⟨n.toNat,gt.1,gt.2,by omega,by omega,ho,rfl,hd.1,hd.2⟩
        · cases ht
attribute [local irreducible] AtQ GoC GoL GoW QO QP Fn RV bF aD VLe bU bA
attribute [local irreducible] FnB
theorem Lower_c (V:aE) (p:Nat) (h:HM) (s:DS) (D R:List Box) (hD:gC h.d s D) (hm:s.bs.length≤1000000) (hk:HOk V R h) (n:Int):FnB Tryz.prog 28 [.pointer (some ⟨p,0,none⟩),.int .i64 n] V (⟨p,127,hC h⟩ :: D) fun u V' Bs'=>HNodeR (lowF h s n) (lowN h n) u V'∧Bs'=⟨p,127,hC h⟩ :: D:=by
  have h5:=hk.l5
  have hDe:=fun V9=>dead_c V9 p h s D hD hm
  cases hd:(h.off || s.off) with
  | true =>
    have e:=lowF_dead (n:=n) hd
    rw [hd] at hDe
    (refine aL Tryz.func28 rfl Tryz.ntmps28 rfl ?_;intro w0)
    repeat' (first|(refine aG ?_;first|(refine aC ?_;refine aO rfl (dB ⟨Tryz.call71⟩ rfl bD (hDe _)) ?_)|refine st9 ?_|(refine al9 ?_;intro γ)|refine pu9 ?_)|refine bV ?_|fail)
    all_goals
      (refine bJ Tryz.results28 (aU agg_50 rfl bN (by exact rfl)) (aB rfl) (List.Sublist.cons _ (List.Sublist.refl _)) ?_)
      exact⟨.inl ⟨by rw [e];decide,by rw [e,bW (by decide)];rfl⟩,rfl⟩
  | false =>
    rw [hd] at hDe
    by_cases hin:0≤n∧n<5
    · obtain⟨o,ho⟩:∃ o,h.lo[n.toNat]?=some o:=⟨_,List.getElem?_eq_getElem (by omega)⟩
      have hc:=hC_lo ho
      have ht:=lowAt_in hin ho
      cases o with
      | none =>
        have e:=xC hd ht
        (refine aL Tryz.func28 rfl Tryz.ntmps28 rfl ?_;intro w0)
        repeat' (first|(refine aG ?_;first|(refine aC ?_;refine aO rfl (dB ⟨Tryz.call71⟩ rfl bD (hDe _)) ?_)|(refine bK ?_;refine aI (eH kU rfl) ?_)|(refine bH ?_;refine aI (dM jV siz_122 rfl rfl rfl (by omega) (by omega)) ?_)|(refine dA ?_;refine aI (aX one_122 rfl (cG own_here) hc) ?_)|refine st9 ?_|(refine al9 ?_;intro γ)|refine pu9 ?_)|refine bV ?_|(refine aJ rfl rfl rfl ?_ ?_<;>intro hq<;>try exact no9))
        all_goals
          (refine bJ Tryz.results28 (aU agg_50 rfl bN (by exact rfl)) (aB rfl) (List.Sublist.cons _ (List.Sublist.refl _)) ?_)
          exact⟨.inl ⟨by rw [e];decide,by rw [e,bW (by decide)];rfl⟩,rfl⟩
      | some gl =>
        obtain⟨g,l⟩:=gl
        have e:=lowF_some hd ht
        have hL:=hk.lo _ g l ho
        have hn1:=hL.node
        have hO:=fun V9 (h9:VLe V V9)=>xO V9 l.x (hL.x.le h9) (tree_small hL.ok)
        (refine aL Tryz.func28 rfl Tryz.ntmps28 rfl ?_;intro w0)
        repeat' (first|(refine aG ?_;first|(refine aC ?_;(first|refine aO rfl (dB ⟨Tryz.call71⟩ rfl bD (hDe _)) ?_|(refine aS rfl ⟨Tryz.call39⟩ rfl rfl (hO _ vl9) ?_;rintro v V2 hV2 ⟨y,rfl,hyn,hyN⟩;have ho9:=pE y)))|(refine bK ?_;refine aI (eH kU rfl) ?_)|(refine bH ?_;refine aI (dM jV siz_122 rfl rfl rfl (by omega) (by omega)) ?_)|(refine dA ?_;(first|refine aI (iA agg_50 rfl hn1 (by exact rfl)) ?_|refine aI (aX one_122 rfl (cG own_here) hc) ?_))|refine st9 ?_|(refine al9 ?_;intro γ)|refine pu9 ?_)|refine bV ?_|(refine aJ rfl rfl rfl ?_ ?_<;>intro hq<;>try exact no9))
        all_goals
          (refine bJ Tryz.results28 (aU agg_50 rfl bN (by exact rfl)) (aB rfl) (List.Sublist.cons _ (List.Sublist.refl _)) ?_)
          exact⟨.inr ⟨e,y,by rw [bO];rfl,hyN,by rw [hyn];unfold lowN;rw [ht]⟩,rfl⟩
    · have e:=xC hd (lowAt_out hin)
      (refine aL Tryz.func28 rfl Tryz.ntmps28 rfl ?_;intro w0)
      repeat' (first|(refine aG ?_;first|(refine aC ?_;refine aO rfl (dB ⟨Tryz.call71⟩ rfl bD (hDe _)) ?_)|refine st9 ?_|(refine al9 ?_;intro γ)|refine pu9 ?_)|refine bV ?_|(refine aJ rfl rfl rfl ?_ ?_<;>intro hq<;>try exact no9))
      all_goals
        (refine bJ Tryz.results28 (aU agg_50 rfl bN (by exact rfl)) (aB rfl) (List.Sublist.cons _ (List.Sublist.refl _)) ?_)
        exact⟨.inl ⟨by rw [e];decide,by rw [e,bW (by decide)];rfl⟩,rfl⟩
def flatN (h:HM) (n:Int):PN:=match nX h n with|none=>pnZ|some g=>flatB g.2.b
theorem HFlat_c (V:aE) (p:Nat) (h:HM) (s:DS) (D R:List Box) (hD:gC h.d s D) (hm:s.bs.length≤1000000) (hk:HOk V R h) (n:Int):FnB Tryz.prog 26 [.pointer (some ⟨p,0,none⟩),.int .i64 n] V (⟨p,127,hC h⟩ :: (D ++ R)) fun u V' Bs'=>HNodeR (rP h s n) (flatN h n) u V'∧Bs'=⟨p,127,hC h⟩ :: (D ++ R):=by
  have h5:=hk.l5
  have hT:=fun V9=>tenant_c V9 p h s D hD hm h5 hk.b5 n
  by_cases hf:rP h s n=0
  · obtain⟨i,g,t,rfl,hi,hbi,ht,ho1,ho2⟩:=wJ hf
    rw [tenV_ok hf ht] at hT
    obtain⟨hO9,hTV⟩:=hk.bx i g t hbi
    have hF:=fun V9 (h9:VLe V V9)=>Flat_v V9 t.p t.b t.I hTV.ok (hTV.b.le h9)
    (refine aL Tryz.func26 rfl Tryz.ntmps26 rfl ?_;intro w0)
    repeat' (first|(refine aG ?_;first|(refine aC ?_;(first|(refine aO rfl (dB ⟨Tryz.call63⟩ rfl (cT dZ) (hT _)) ?_)|(refine aS rfl ⟨Tryz.call64⟩ rfl rfl (hF _ vl9) ?_;rintro v V2 hV2 ⟨y,rfl,hyN,hyn⟩;have ho9:=pE y)))|(refine dA ?_;refine aI (aX one_35 rfl (by repeat (first|exact hO9|apply cG|apply eM)) (by exact rfl)) ?_)|refine st9 ?_|(refine al9 ?_;intro γ)|refine pu9 ?_)|refine bV ?_|fail)
    all_goals
      (refine bJ Tryz.results26 (aU agg_50 rfl bN (by exact rfl)) (aB rfl) (List.Sublist.cons _ (List.Sublist.refl _)) ?_)
      exact⟨.inr ⟨hf,y,by rw [bO];rfl,hyN,by rw [hyn];unfold flatN;rw [ht]⟩,rfl⟩
  · rw [tenV_bad rfl hf] at hT
    (refine aL Tryz.func26 rfl Tryz.ntmps26 rfl ?_;intro w0)
    repeat' (first|(refine aG ?_;first|(refine aC ?_;(refine aO rfl (dB ⟨Tryz.call63⟩ rfl (cT dZ) (hT _)) ?_))|refine st9 ?_|(refine al9 ?_;intro γ)|refine pu9 ?_)|refine bS ?_|(refine aA rfl ?_ ?_<;>intro hq<;>try exact no9))
    all_goals
      (refine bJ Tryz.results26 (aU agg_50 rfl bN (by exact rfl)) (aB rfl) (List.Sublist.cons _ (List.Sublist.refl _)) ?_)
      exact⟨.inl ⟨hf,rfl⟩,rfl⟩
def upN (h:HM) (n:Int):PN:=match nX h n with|none=>pnZ|some g=>g.2.b.ls.headD pnZ
theorem HUpper_c (V:aE) (p:Nat) (h:HM) (s:DS) (D R:List Box) (hD:gC h.d s D) (hm:s.bs.length≤1000000) (hk:HOk V R h) (n:Int):FnB Tryz.prog 78 [.pointer (some ⟨p,0,none⟩),.int .i64 n] V (⟨p,127,hC h⟩ :: (D ++ R)) fun u V' Bs'=>HNodeR (rP h s n) (upN h n) u V'∧Bs'=⟨p,127,hC h⟩ :: (D ++ R):=by
  have h5:=hk.l5
  have hT:=fun V9=>tenant_c V9 p h s D hD hm h5 hk.b5 n
  by_cases hf:rP h s n=0
  · obtain⟨i,g,t,rfl,hi,hbi,ht,ho1,ho2⟩:=wJ hf
    rw [tenV_ok hf ht] at hT
    obtain⟨hO9,hTV⟩:=hk.bx i g t hbi
    have hF:=fun V9 (h9:VLe V V9)=>Upper_v V9 t.p t.b t.I hTV.ok (hTV.b.le h9)
    (refine aL Tryz.func78 rfl Tryz.ntmps78 rfl ?_;intro w0)
    repeat' (first|(refine aG ?_;first|(refine aC ?_;(first|(refine aO rfl (dB ⟨Tryz.call63⟩ rfl (cT dZ) (hT _)) ?_)|(refine aS rfl ⟨Tryz.call14⟩ rfl rfl (hF _ vl9) ?_;rintro v V2 hV2 ⟨y,rfl,hyN,hyn⟩;have ho9:=pE y)))|(refine dA ?_;refine aI (aX one_35 rfl (by repeat (first|exact hO9|apply cG|apply eM)) (by exact rfl)) ?_)|refine st9 ?_|(refine al9 ?_;intro γ)|refine pu9 ?_)|refine bV ?_|fail)
    all_goals
      (refine bJ Tryz.results78 (aU agg_50 rfl bN (by exact rfl)) (aB rfl) (List.Sublist.cons _ (List.Sublist.refl _)) ?_)
      exact⟨.inr ⟨hf,y,by rw [bO];rfl,hyN,by rw [hyn];unfold upN;rw [ht]⟩,rfl⟩
  · rw [tenV_bad rfl hf] at hT
    (refine aL Tryz.func78 rfl Tryz.ntmps78 rfl ?_;intro w0)
    repeat' (first|(refine aG ?_;first|(refine aC ?_;(refine aO rfl (dB ⟨Tryz.call63⟩ rfl (cT dZ) (hT _)) ?_))|refine st9 ?_|(refine al9 ?_;intro γ)|refine pu9 ?_)|refine bS ?_|(refine aA rfl ?_ ?_<;>intro hq<;>try exact no9))
    all_goals
      (refine bJ Tryz.results78 (aU agg_50 rfl bN (by exact rfl)) (aB rfl) (List.Sublist.cons _ (List.Sublist.refl _)) ?_)
      exact⟨.inl ⟨hf,rfl⟩,rfl⟩
end
section
structure xQ (s:DS) (m:Nat):Prop where
  off:s.off=false
  cut:s.cut = -1
  len:s.bs.length=m
theorem xQ.fault {s:DS} {m:Nat} (h:xQ s m) {a n:Int} (ha:0≤a) (hn:0≤n) (hm:a+n≤m):lO s a n=0 :=
  dFault_ok h.off (by rw [h.len];omega)
theorem xQ.write {s:DS} {m:Nat} (h:xQ s m) {a:Int} {l:List UInt8} (ha:0≤a) (hl:a+l.length≤m):cZ s a l=0∧xQ (cD s a l) m:=by
  have h0:=h.fault ha (n:=l.length) (by omega) hl
  have hc:=h.cut
  have hs:mO s l.length=false:=by unfold mO;rw [hc];simp
  have hN:dN s l.length=l.length:=by unfold dN;rw [if_neg (by omega)]
  refine⟨?_,?_⟩
  · unfold cZ
    rw [if_neg (not_not_intro h0),if_neg (by rw [hs];simp)]
  · unfold cD
    rw [if_neg (not_not_intro h0)]
    refine⟨hs,?_,?_⟩
    · show (if 0≤s.cut then s.cut - (dN s l.length:Int) else s.cut) = -1
      rw [if_neg (by omega)];exact hc
    · have:=h.len
      rw [vS _ _ _ (by omega)];exact this
theorem toW_in {size i:Nat} {all:List UInt8} {a:Int} {m:Nat} (hs:1≤size) (ha:0≤a) (h:a+size≤m):0≤(toW size all a i).1∧(toW size all a i).1+(toW size all a i).2.length≤m:=by
  have hp:=pL (size:=size) (i:=i) (all:=all)
  unfold toW
  split
  · simp only [List.length_drop];omega
  · simp only [];omega
theorem spreadK_pw {size m:Nat} {all:List UInt8} (hs:1≤size):∀ (ps:List Int) (i:Nat) (s:DS),xQ s m→(∀ a∈ps,0≤a∧a+size≤m)→(fX size all ps i s).2=0∧xQ (fX size all ps i s).1 m
  | [],_,s,h,_=>⟨rfl,h⟩
  | a :: ps,i,s,h,hp=>by
    obtain⟨h1,h2⟩:=hp a (by simp)
    obtain⟨t1,t2⟩:=toW_in (i:=i) (all:=all) hs h1 h2
    obtain⟨w1,w2⟩:=h.write t1 t2
    by_cases he:all.length≤i * size
    · rw [nZ he];exact⟨rfl,h⟩
    · rw [nL he w1]
      exact spreadK_pw hs ps (i+1) _ w2 fun b hb=>hp b (by simp [hb])
theorem spread_pw {size m:Nat} {ps:List Int} {seq:Int} {t:List UInt8} {s:DS} (hs:1≤size) (h:xQ s m) (hn:ps≠[]) (hp:∀ a∈ps,0≤a∧a+size≤m):(dF ps size seq t s).2=0∧xQ (dF ps size seq t s).1 m:=by
  obtain⟨p0,pt,rfl⟩:∃ a l,ps=a :: l:=by
    cases ps with
    | nil=>exact absurd rfl hn
    | cons a l=>exact⟨a,l,rfl⟩
  obtain⟨h1,h2⟩:=hp p0 (by simp)
  obtain⟨w1,w2⟩:=h.write (a:=p0) (l:=[0]) h1 (by simp only [List.length_cons,List.length_nil];omega)
  obtain⟨k1,k2⟩:=spreadK_pw (all:=allP seq t) hs (p0 :: pt) 0 _ w2 hp
  obtain⟨v1,v2⟩:=k2.write (a:=p0) (l:=[1]) h1 (by simp only [List.length_cons,List.length_nil];omega)
  unfold dF
  rw [if_neg (show ¬¬cZ s ((p0 :: pt).headD 0) [0]=0 from not_not_intro w1),if_neg (show ¬¬(fX size (allP seq t) (p0 :: pt) 0 (cD s ((p0 :: pt).headD 0) [0])).2=0 from not_not_intro k1)]
  exact⟨v1,v2⟩
theorem spreadK_bd {size m:Nat} {all:List UInt8}:∀ (ps:List Int) (i:Nat) (s:DS) (W:Nat),hBd m W s→hBd m (W+ps.length * size) (fX size all ps i s).1
  | [],_,s,W,h=>h.mono (by omega)
  | a :: ps,i,s,W,h=>by
    have h1:=h.write (a:=(toW size all a i).1) (toW_len (size:=size) (i:=i) (all:=all) (a:=a))
    rw [List.length_cons,Nat.succ_mul]
    by_cases he:all.length≤i * size
    · rw [nZ he];exact h.mono (by omega)
    · by_cases hf:cZ s (toW size all a i).1 (toW size all a i).2=0
      · rw [nL he hf]
        exact(spreadK_bd ps (i+1) _ _ h1).mono (by omega)
      · rw [oJ he hf]
        exact h1.mono (by omega)
theorem sG {size m W:Nat} {ps:List Int} {seq:Int} {t:List UInt8} {s:DS} (h:hBd m W s):hBd m (W+1+ps.length * size+1) (dF ps size seq t s).1:=by
  have h1:=h.write (a:=ps.headD 0) (l:=[0]) (k:=1) (by decide)
  have h2:=spreadK_bd (size:=size) (all:=allP seq t) ps 0 _ _ h1
  unfold dF
  split
  · exact h1.mono (by omega)
  · split
    · exact h2.mono (by omega)
    · exact h2.write (by decide)
end
section
section
variable {B : Base} {N : Nat} {F : List (Nat × Value)} {V : aE} {L : List Box}
variable {d : Option Tmp} {ty : TypeId} {pos : String} {af : Array Edge} {gd : Option (Nat × Bool)}
abbrev sK:Value:=.pointer none
theorem bx_127_0_4 {x0 x4:Operand} {a0 a4:Nat} (h0:evF F x0=some (.pointer (some ⟨a0,0,none⟩))) (h4:evF F x4=some (.pointer (some ⟨a4,0,none⟩))) :
    QP Tryz.prog B N V L ⟨d,.build 127 #[(0,x0),(4,x4)],ty,pos,af,gd⟩ F (.agg #[.pointer (some ⟨a0,0,none⟩),.bool false,.int .i64 0,.int .i64 0,.pointer (some ⟨a4,0,none⟩),sK,sK,sK,sK,sK,sK,sK,sK,sK,sK]) :=
  wD (ps:=[(0,x0),(4,x4)]) (vs:=[(0,.pointer (some ⟨a0,0,none⟩)),(4,.pointer (some ⟨a4,0,none⟩))]) (us:=[.pointer (some ⟨a0,0,none⟩),.bool false,.int .i64 0,.int .i64 0,.pointer (some ⟨a4,0,none⟩),sK,sK,sK,sK,sK,sK,sK,sK,sK,sK]) bld_127 (by simp [evP,h0,h4]) (by kernel_rfl)
end
def h0 (d q:Nat) (turn seq:Int):HM:=⟨d,q,false,turn,seq,[none,none,none,none,none],[none,none,none,none,none]⟩
theorem h0_ok (V:aE) (R:List Box) (d q:Nat) (turn seq:Int):HOk V R (h0 d q turn seq):=⟨rfl,rfl,fun i g l e=>by
  rcases i with _|_|_|_|_|i<;>simp [h0] at e,fun i g t e=>by
  rcases i with _|_|_|_|_|i<;>simp [h0] at e,fun i j g t t' e _=>by
  rcases i with _|_|_|_|_|i<;>simp [h0] at e⟩
def fmtS (s:DS):DS:=(jU (h0 0 0 0 0) (cD (cD s 0 [0]) 6400 [0])).1
theorem commit_h0 (d q:Nat) (s:DS):jU (h0 d q 0 0) s=jU (h0 0 0 0 0) s:=rfl
attribute [local irreducible] AtQ GoC GoL GoW QO QP Fn RV bF aD VLe bU bA
attribute [local irreducible] FnB
theorem Format_c (V:aE) (d:Nat) (s:DS) (D:List Box) (hD:gC d s D) {m W:Nat} (hp:xQ s m) (hd:hBd m W s) (hm:m≤128000) (hW:W≤400000000) :
    FnB Tryz.prog 61 [.pointer (some ⟨d,0,none⟩)] V D fun u _ Bs'=>((m:Int) / 64<200∧u=.tuple #[.pointer none,bA 1]∧Bs'=D)∨(200≤(m:Int) / 64∧∃ p q D' Pb,u=.tuple #[.pointer (some ⟨p,0,none⟩),bA 0]∧Bs'=⟨p,127,hC (h0 d q 1 1)⟩ :: (D' ++ Pb)∧gC d (fmtS s) D'∧oL q ((m:Int) / 64 - 200) [] Pb):=by
  have hlen:=hp.len
  have hR:=fun V9=>room_c V9 d s D hD (by omega)
  rw [hlen] at hR
  by_cases hb:(m:Int) / 64<200
  · (refine aL Tryz.func61 rfl Tryz.ntmps61 rfl ?_;intro w0)
    repeat' (first|(refine aG ?_;first|(refine aC ?_;(refine aM rfl ⟨Tryz.call125⟩ rfl lG rfl (hR _) ?_;rintro v V2 B2 hV2 (⟨ho,_⟩|⟨_,_,rfl,rfl⟩|⟨_,hx,_⟩);(exfalso;rw [hp.off] at ho;cases ho);rotate_left;(exfalso;omega)))|refine pu9 ?_)|refine bV ?_|fail)
    all_goals
      (refine bJ Tryz.results61 (aB rfl) (aB rfl) (List.Sublist.refl _) ?_)
      exact .inl ⟨hb,rfl,rfl⟩
  · obtain⟨w1,w2⟩:=hp.write (a:=0) (l:=[0]) (by decide) (by simp only [List.length_cons,List.length_nil];omega)
    obtain⟨w3,w4⟩:=w2.write (a:=6400) (l:=[0]) (by decide) (by simp only [List.length_cons,List.length_nil];omega)
    have hd1:=hd.write (a:=0) (l:=[0]) (k:=1) (by decide)
    have hd2:=hd1.write (a:=6400) (l:=[0]) (k:=1) (by decide)
    have hW1:=fun V9=>pG V9 d s D hD hd (by omega) (by omega) 0 [0] (by decide) (by decide)
    have hW2:=fun V9 D9 h9=>pG V9 d (cD s 0 [0]) D9 h9 hd1 (by omega) (by omega) 6400 [0] (by decide) (by decide)
    have hC2:=fun V9 p q D9 R h9=>vQ V9 p (h0 d q 0 0) (cD (cD s 0 [0]) 6400 [0]) D9 R h9 hd2 (by omega) (by omega) (h0_ok V9 R d q 0 0) ⟨Int.le_refl 0,show (0:Int)≤1 by decide⟩ ⟨Int.le_refl 0,show (0:Int)≤1000000000 by decide⟩
    obtain⟨c1,c2⟩:=spread_pw (size:=6400) (m:=m) (ps:=[6400]) (seq:=1) (t:=pW (h0 0 0 0 0)) (by decide) w4 (by simp) (by intro a ha;rw [List.mem_singleton] at ha;omega)
    have hcm:∀ q,jS (h0 d q 0 0) (cD (cD s 0 [0]) 6400 [0])=h0 d q 1 1:=fun q=>if_pos c1
    have hcf:(jU (h0 0 0 0 0) (cD (cD s 0 [0]) 6400 [0])).2=0:=c1
    simp only [commit_h0,hcm,hcf] at hC2
    rw [w1] at hW1
    rw [w3] at hW2
    generalize hs2:cD (cD s 0 [0]) 6400 [0]=s2 at *
    generalize hs1:cD s 0 [0]=s1 at *
    (refine aL Tryz.func61 rfl Tryz.ntmps61 rfl ?_;intro w0)
    repeat' (first|(refine aG ?_;first|(refine aC ?_;(refine aM rfl ⟨Tryz.call125⟩ rfl lG rfl (hR _) ?_;rintro v V2 B2 hV2 (⟨ho,_⟩|⟨_,hx,_⟩|⟨_,_,q,Pb,rfl,rfl,hPb⟩);(exfalso;rw [hp.off] at ho;cases ho);(exfalso;omega)))|(refine k_build ?_;refine aI (bx_127_0_4 rfl rfl) ?_)|(refine al9 ?_;intro γ)|refine pu9 ?_)|refine bV ?_|fail)
    refine cS ?_
    refine gc_order (L':=⟨γ,127,hC (h0 d q 0 0)⟩ :: (D ++ Pb)) sp9 ?_
    refine bZ (fun F V' L' m'=>∃ (k:Nat) (st:DS) (Dk:List Box),VLe V2 V'∧(⟨γ,127,hC (h0 d q 0 0)⟩ :: (Dk ++ Pb):List Box)=L'∧gC d st Dk∧((k=0∧st=s∧Dk=D)∨(k=1∧st=s1)∨(k=2∧st=s2))∧m'=2 - k∧F=[(0,.pointer (some ⟨d,0,none⟩)),(6,.pointer (some ⟨γ,0,none⟩)),(20,.int .i64 k)]) (m:=2) ⟨0,s,D,vl9,rfl,hD,.inl ⟨rfl,rfl,rfl⟩,rfl,rfl⟩ bG rfl sl9 ?_
    rintro F V' L' m' ⟨k,st,Dk,hV',rfl,hDk,(⟨rfl,rfl,rfl⟩|⟨rfl,rfl⟩|⟨rfl,rfl⟩),rfl,rfl⟩
    · repeat' (first|(refine aG ?_;first|(refine aC ?_;(refine aM rfl ⟨Tryz.call126⟩ rfl bD rfl (hW1 _) ?_;rintro v V3 B3 hV3 ⟨rfl,hD3⟩))|refine pu9 ?_)|refine dL ?_|fail)
      all_goals
        refine aY _ 1 ⟨1,_,B3,vl9,rfl,hD3,.inr (.inl ⟨rfl,rfl⟩),rfl,rfl⟩ (by omega) bG sl9
    · repeat' (first|(refine aG ?_;first|(refine aC ?_;(refine aM rfl ⟨Tryz.call126⟩ rfl bD rfl (hW2 _ _ hDk) ?_;rintro v V3 B3 hV3 ⟨rfl,hD3⟩))|refine pu9 ?_)|refine dL ?_|fail)
      all_goals
        refine aY _ 0 ⟨2,_,B3,vl9,rfl,hD3,.inr (.inr ⟨rfl,rfl⟩),rfl,rfl⟩ (by omega) bG sl9
    · repeat' (first|(refine aG ?_;first|(refine aC ?_;(refine aM rfl ⟨Tryz.call127⟩ rfl bD rfl (hC2 _ _ q _ Pb hDk) ?_;rintro v V3 B3 hV3 ⟨rfl,D3,rfl,hD3⟩))|refine pu9 ?_)|refine mV ?_|fail)
      all_goals
        (refine bJ Tryz.results61 (aB rfl) (aB rfl) (List.Sublist.refl _) ?_)
        exact .inr ⟨by omega,γ,q,D3,Pb,by rw [bO],rfl,by unfold fmtS;rw [hs1,hs2];exact hD3,hPb⟩
end
section
theorem bld_two:BuildA Tryz.prog 130 1 [.slice none 0 0,.slice none 0 0]:=⟨⟨2,25,fun w=>by kernel_rfl,fun w=>by kernel_rfl⟩,⟨_,Tryz.zeroValue130,rfl⟩⟩
attribute [local irreducible] AtQ GoC GoL GoW QO QP Fn RV bF aD VLe bU bA
attribute [local irreducible] FnB
end
section
theorem look_bd9 {xs:List PR} (h:∀ r∈xs,bdR r) {x y:Int} (hl:qY xs x=some y):0≤y∧y≤65535:=by
  obtain⟨r,hr,hi,rfl⟩:=look_some hl
  have:=h r hr
  unfold bdR at this;unfold inR at hi;omega
theorem host_bd9 {m:List PR} {x y:Int} (h:gY m x=some y):0≤y∧y≤65535:=by
  unfold gY at h
  by_cases hf:dX m=0
  · rw [if_pos hf] at h
    exact look_bd9 (fun r hr=>(kS hf).2.1 r hr) h
  · rw [if_neg hf] at h;cases h
theorem root_tree9 {u g:Int} (hu:0≤u∧u≤65535) (hg:0≤g∧g≤65535):dD true (.mk ⟨2,493,u,g,false,[],⟨#[]⟩⟩ [])=0:=by
  have h0:lA ⟨2,493,u,g,false,[],⟨#[]⟩⟩ (decide (0<([]:PKs).length)) true (decide (0=0))=0:=by
    unfold lA
    rw [if_neg (by show ¬¬((2:Int)=1∨(2:Int)=2∨(2:Int)=3);decide),if_neg (by show ¬¬((0≤(493:Int)∧(493:Int)≤4095)∧(0≤u∧u≤65535)∧(0≤g∧g≤65535));omega)]
    rfl
  unfold dD
  rw [if_neg (by show ¬¬(2:Int)=2;decide),cE,if_neg (by omega),if_neg (not_not_intro h0),dQ]
theorem root_tree {us gs:List PR} {c:CR} {z:PN} (h:dK true us gs (.mk (rootH c) [])=some z):dD true z=0:=by
  obtain⟨u,g,rfl,h1,h2⟩:=moved_inv h
  exact root_tree9 (host_bd9 (m:=us) h1) (host_bd9 (m:=gs) h2)
theorem newOk {x:CF} {ls:List PN} (h:jH x ls=0):bI (newB x.M.us x.M.gs x.c x.q ls):=by
  obtain⟨k1,k2,k3,k4,k5,k6,k7⟩:=qL h
  obtain⟨z,hz⟩:=xU k7
  refine⟨k4,k5,by show 0<ls.length+1;omega,by show ls.length+1≤4;omega,fun y hy=>?_,fun j y hj hy=>?_⟩
  · have hy:(((dK true x.M.us x.M.gs (.mk (rootH x.c) [])).getD pnZ) :: ls)[0]?=some y:=hy
    rw [hz] at hy
    cases hy
    exact root_tree hz
  · have hy:(((dK true x.M.us x.M.gs (.mk (rootH x.c) [])).getD pnZ) :: ls)[j]?=some y:=hy
    obtain⟨i,rfl⟩:∃ i,j=i+1:=⟨j - 1,by omega⟩
    rw [List.getElem?_cons_succ] at hy
    exact k6 y (List.mem_of_getElem? hy)
end
section
section
variable {P : Program} {B : Base} {N : Nat} {Q : Exit → Act → World → Prop} {k : List kC} {F : List (Nat × Value)} {V : aE} {L : List Box} {d : Option Tmp} {ty : TypeId} {pos : String} {af : Array Edge} {gd : Option (Nat × Bool)} {x : Operand} {T : TypeId}
theorem q_slice_n3 {E sz n c h m:Nat} {A:Option Addr} {hi mx:Operand} (hu:bR P T (.slice E)) (hS:dI P E sz) (hx:evF F x=some (.slice A n c)) (hh:evF F hi=some (.int .i64 (h:Int))) (hm:evF F mx=some (.int .i64 (m:Int))) (h2:h≤m) (h3:m≤c):QP P B N V L ⟨d,.slice T x none (some hi) (some mx),ty,pos,af,gd⟩ F (.slice A h m):=iD fun ac w ha hs=>by
  have e:∀ A:Option Addr,A.map (·.add 0)=A:=fun A=>by cases A<;>simp [Addr.add]
  simp [execOp,ha.ev hx,ha.ev hh,ha.ev hm,Instr.sliceAt,Instr.slice,Instr.sliceBounds,hu.h,hS.h,gG w h2,gG w h3,e]
theorem gc_boxvG {c:Code} {p:Nat} {b:BX} {Bs Y:List Box} (hok:bI b) (h:fE V p b Bs) (hfl:∀ x∈B.fl,x∈Y.map Box.g) (hK:∀ V' I,VLe V V'→pY V' p b I→GoC P B N c Q k F V' Y):GoC P B N c Q k F V (Bs ++ Y):=by
  obtain⟨I,L1,rfl,hW⟩:=h
  refine gc_retireG (gB.here _ _ _ _) (fun x hx=>?_) ?_
  · show x∈(L1 ++ Y).map Box.g
    rw [List.map_append];exact List.mem_append_right _ (hfl x hx)
  intro V1 hV1 hc1
  refine gc_shutG hW.row repl_here hfl ?_
  intro V2 hV2 hc2
  exact hK V2 I (hV1.trans hV2) (hW.boxv hok (hV1.trans hV2) (hc1.le hV2) hc2)
end
def sH (p g:Nat) (room:Int) (M:PM) (Bs:List Box):Prop:=∃ es c,Bs=[⟨p,211,[.int .i64 room,.int .i64 (gW M),.map (some g)]⟩,⟨g,.map es c,[]⟩]∧fL mH xM M es
theorem oL.g {p:Nat} {room:Int} {M:PM} {Bs:List Box} (h:oL p room M Bs):∃ g,sH p g room M Bs:=by
  obtain⟨g,es,c,h1,h2⟩:=h;exact⟨g,es,c,h1,h2⟩
theorem sH.b {p g:Nat} {room:Int} {M:PM} {Bs:List Box} (h:sH p g room M Bs):oL p room M Bs:=by
  obtain⟨es,c,h1,h2⟩:=h;exact⟨g,es,c,h1,h2⟩
theorem sH.ids {p g:Nat} {room room':Int} {M M':PM} {Bs Bs':List Box} (h:sH p g room M Bs) (h':sH p g room' M' Bs'):Bs.map Box.g=Bs'.map Box.g:=by
  obtain⟨es,c,rfl,_⟩:=h;obtain⟨es',c',rfl,_⟩:=h';rfl
theorem sH.of {p g c:Nat} {room:Int} {M:PM} {es:Array MapEntry} {x:Int} (hM:fL mH xM M es) (h:x=gW M):sH p g room M [⟨p,211,[.int .i64 room,.int .i64 x,.map (some g)]⟩,⟨g,.map es c,[]⟩]:=by
  subst h;exact⟨es,c,rfl,hM⟩
theorem tR {p g:Nat} {room:Int} {M:PM} {who n:Int} {Bs:List Box} {e:Int} (h':sH p g room M Bs) (h:gA room M who n=e) (h0:¬e=0):Value.iface 99 (.int .i64 e)=bA (gA room M who n)∧sH p g room (fO room M who n) Bs:=by
  rw [takeM_bad (by rw [h];exact h0),h,bW h0];exact⟨rfl,h'⟩
theorem setL {k:Nat} {v:Value}:∀ (l:List Value),spl l k [v]=l.set k v:=fun l=>rfl
theorem hC_set {h:HM} (h5:h.lo.length=5) {k g:Nat} {t:TE}:spl (hC h) (0+10+k * 1) [.pointer (some ⟨g,0,none⟩)]=hC { h with bx:=h.bx.set k (some (g,t)) }:=by
  rw [setL,show 0+10+k * 1=5+k+1+1+1+1+1 by omega]
  unfold hC
  simp only [List.set_cons_succ]
  rw [List.set_append_right _ _ (by unfold loV;rw [List.length_map];omega),show 5+k - (loV h.lo).length=k by unfold loV;rw [List.length_map];omega]
  unfold bxV
  rw [List.map_set]
  rfl
theorem segF_mem {us:List Int} {k:Nat} {z:Int} (h:z∈tW us k):200≤z∧z<200+k∧¬z∈us:=by
  unfold tW at h
  rw [List.mem_filter] at h
  obtain⟨h1,h2⟩:=h
  obtain⟨i,hi,rfl⟩:=List.mem_map.1 h1
  rw [List.mem_range] at hi
  exact⟨by omega,by omega,by simpa using h2⟩
theorem nP {us:List Int} {n bl:Nat} {z:Int} (h:z∈jA us n bl):200≤z∧z<bl∧¬z∈us:=by
  obtain⟨h1,h2,h3⟩:=segF_mem (List.mem_of_mem_take h)
  exact⟨h1,by omega,h3⟩
section
variable {B : Base} {N : Nat} {F : List (Nat × Value)} {V : aE} {L : List Box} {d : Option Tmp} {ty : TypeId} {pos : String} {af : Array Edge} {gd : Option (Nat × Bool)}
theorem bx_132_1_2_4 {x1 x2 x4:Operand} {g1:Nat} {b1 b2:Value} {n:Int} (h1:evF F x1=some (.pointer (some ⟨g1,0,none⟩))) (h2:evF F x2=some (.agg #[b1,b2])) (h4:evF F x4=some (.int .i64 n)) :
    QP Tryz.prog B N V L ⟨d,.build 132 #[(1,x1),(2,x2),(4,x4)],ty,pos,af,gd⟩ F (.agg #[.slice none 0 0,.slice none 0 0,.int .i64 0,.int .i64 0,.slice none 0 0,.int .i64 0,.int .i64 0,.slice none 0 0,.pointer (some ⟨g1,0,none⟩),b1,b2,.int .i64 0,.int .i64 n]) :=
  wD (ps:=[(1,x1),(2,x2),(4,x4)]) (vs:=[(1,.pointer (some ⟨g1,0,none⟩)),(2,.agg #[b1,b2]),(4,.int .i64 n)]) (us:=[.slice none 0 0,.slice none 0 0,.int .i64 0,.int .i64 0,.slice none 0 0,.int .i64 0,.int .i64 0,.slice none 0 0,.pointer (some ⟨g1,0,none⟩),b1,b2,.int .i64 0,.int .i64 n]) bld_132 (by simp [evP,h1,h2,h4]) (by kernel_rfl)
end
attribute [local irreducible] AtQ GoC GoL GoW QO QP Fn RV bF aD VLe bU bA
attribute [local irreducible] FnB
theorem PTake_g (V:aE) (p g:Nat) (room:Int) (M:PM) (Bs:List Box) (h:sH p g room M Bs) {k:Nat} (hI:lI room k M) (who n:Int) :
    FnB Tryz.prog 135 [.pointer (some ⟨p,0,none⟩),.int .i64 who,.int .i64 n] V Bs fun u _ Bs'=>u=bA (gA room M who n)∧sH p g room (fO room M who n) Bs':=by
  have h1:=hI.r;have h2:=hI.s;have h3:=uD hI.nn
  have h':=h
  obtain⟨es,c,rfl,hM⟩:=h
  cases hf:(dR who M).isSome with
  | true =>
    (refine aL Tryz.func135 rfl Tryz.ntmps135 rfl ?_;intro w0)
    repeat' (first|(refine aG ?_;first|(refine mU ?_;refine aI (wS (kk:=mH) (vv:=xM) sP rfl rfl hM bD) ?_;rw [hf])|refine pu9 ?_)|refine bV ?_|(refine aA rfl ?_ ?_<;>intro hq<;>try exact no9))
    all_goals
      (refine aV Tryz.results135 (aB rfl) (List.Sublist.refl _) ?_)
      first
        | exact tR h' (takeF_neg hq) (by decide)
        | exact tR h' (takeF_is hq hf) (by decide)
  | false =>
    (refine aL Tryz.func135 rfl Tryz.ntmps135 rfl ?_;intro w0)
    repeat' (first|(refine aG ?_;first|(refine mU ?_;refine aI (wS (kk:=mH) (vv:=xM) sP rfl rfl hM bD) ?_;rw [hf])|(refine oP ?_;(refine sL rfl (kk:=mH) (vv:=xM) sP rfl rfl rfl hM bD rfl ?_;intro es2 c2 hM2))|refine st9 ?_|refine pu9 ?_)|refine bV ?_|(refine aA rfl ?_ ?_<;>intro hq<;>try exact no9)|refine cO (id:=6) mixed (by kernel_rfl) ?_)
    all_goals
      (refine aV Tryz.results135 (aB rfl) (List.Sublist.refl _) ?_)
      first
        | exact tR h' (takeF_neg hq) (by decide)
        | (rename_i hq0;exact tR h' (takeF_room hq0 hf hq) (by decide))
        | (rename_i hq0;have e:=takeF_ok (room:=room) hq0 hf hq
           rw [takeM_ok e,e,bO]
           rw [mSet_new (isSome_no hf)] at hM2
           exact⟨rfl,sH.of hM2 (by rw [lD];simp [gW])⟩)
end
section
theorem loAt_in {h:HM} {n:Int} {x:LN} (e:loAt h n=some x):0≤n∧n<5:=by
  unfold loAt at e
  split at e
  · assumption
  · cases e
theorem yH {h:HM}:∀ {xs:List Int} {acc ls:List LN},acc.length≤4→kI h xs acc=some ls→ls.length=min 4 (acc.length+xs.length)∧∀ z∈xs,0≤z∧z<5
  | [],acc,ls,ha,e=>by
    simp only [kI] at e
    injection e with e;subst e
    exact⟨by simp;omega,fun z hz=>by cases hz⟩
  | n :: xs,acc,ls,ha,e=>by
    cases hx:loAt h n with
    | none=>rw [nodesL_no hx] at e;cases e
    | some x =>
      rw [nodesL_on hx] at e
      by_cases h3:3<acc.length
      · rw [if_pos h3] at e
        obtain⟨e1,e2⟩:=yH ha e
        refine⟨by rw [e1,List.length_cons];omega,fun z hz=>?_⟩
        rcases List.mem_cons.1 hz with rfl|hz
        · exact loAt_in hx
        · exact e2 z hz
      · rw [if_neg h3] at e
        obtain⟨e1,e2⟩:=yH (by rw [List.length_append];simp only [List.length_cons,List.length_nil];omega) e
        refine⟨by rw [e1,List.length_append,List.length_cons];simp only [List.length_cons,List.length_nil];omega,fun z hz=>?_⟩
        rcases List.mem_cons.1 hz with rfl|hz
        · exact loAt_in hx
        · exact e2 z hz
theorem gF_nn:∀ {p:Option Int} {xs:List Int},gF p xs=0→∀ z∈xs,0≤z
  | p,[],_,z,hz=>by cases hz
  | p,x :: l,h,z,hz=>by
    rw [gF] at h
    split at h
    · cases h
    · rename_i h1
      split at h
      · cases h
      · rcases List.mem_cons.1 hz with rfl|hz
        · omega
        · exact gF_nn h z hz
theorem cfg_cfOk {V:aE} {h:HM} {x:CF} {ls:List LN} (hx:CfV V x) (hn:kI h x.lo []=some ls) (hc:jH x (ls.map LN.n)=0):CfOk x:=by
  obtain⟨c1,c2,c3,c4,c5,c6,c7⟩:=qL hc
  obtain⟨m1,m2,_⟩:=kS c2
  obtain⟨n1,n2,_⟩:=kS c3
  obtain⟨d1,d2,d3,d4,d5⟩:=eW c4
  obtain⟨e1,e2⟩:=yH (by simp) hn
  have l1:=hx.M.1.1.1
  have l2:=hx.M.2.2.1.1.1
  have l3:=hx.xs.1
  have l4:=hx.lo.1
  rw [List.length_map] at c1
  simp only [List.length_nil] at e1
  exact⟨fun r hr=>by have:=m2 r hr;unfold bdR at this;omega,fun r hr=>by have:=n2 r hr;unfold bdR at this;omega,d1.1,d2.1,d3.1,gF_nn d5,by omega,fun z hz=>(e2 z hz).1,by omega⟩
def aW {α:Type}:List (Option α)→Nat
  | []=>0
  | none :: _=>0
  | some _ :: l=>aW l+1
theorem firstN_some {α:Type} {l:List (Option α)} {k:Nat} {x:α} (h:l[k]?=some (some x)):aW (l.drop k)=aW (l.drop (k+1))+1:=by
  obtain⟨hk,he⟩:=List.getElem?_eq_some_iff.1 h
  rw [List.drop_eq_getElem_cons hk,he];rfl
theorem firstN_none {α:Type} {l:List (Option α)} {k:Nat} (h:l[k]?=some none):aW (l.drop k)=0:=by
  obtain⟨hk,he⟩:=List.getElem?_eq_some_iff.1 h
  rw [List.drop_eq_getElem_cons hk,he];rfl
def cW (q:Int):Int:=2 * (q+1)
def addM (h:HM) (k g:Nat) (t:TE):HM:={ h with bx:=h.bx.set k (some (g,t)) }
theorem spl8 {a0 a1 a2 a3 a4 a5 a6 a7 a8 a9 a10 a11 a12 b0 b1 b2 b3 b4 b5 b6 b7:Value}:spl [a0,a1,a2,a3,a4,a5,a6,a7,a8,a9,a10,a11,a12] 0 [b0,b1,b2,b3,b4,b5,b6,b7]=[b0,b1,b2,b3,b4,b5,b6,b7,a8,a9,a10,a11,a12]:=rfl
section
variable {P : Program} {B : Base} {N : Nat} {F : List (Nat × Value)} {V : aE} {L : List Box} {d : Option Tmp} {ty : TypeId} {pos : String} {af : Array Edge} {gd : Option (Nat × Bool)} {x : Operand} {T : TypeId}
theorem q_slice_lE {E sz n c l n' c':Nat} {A A':Option Addr} {lo:Operand} (hu:bR P T (.slice E)) (hS:dI P E sz) (hx:evF F x=some (.slice A n c)) (hl:evF F lo=some (.int .i64 (l:Int))) (h2:l≤n) (eA:pX A c l sz=A') (en:n - l=n') (ec:c - l=c'):QP P B N V L ⟨d,.slice T x (some lo) none none,ty,pos,af,gd⟩ F (.slice A' n' c'):=by
  subst eA;subst en;subst ec;exact sB hu hS hx hl h2
end
theorem cF.hereE {g i:Nat} {t:TypeId} {cs vs cs':List Value} {L:List Box} (he:spl cs i vs=cs') (h:i+vs.length≤cs.length):cF (⟨g,t,cs⟩ :: L) g i vs (⟨g,t,cs'⟩ :: L):=by
  subst he;exact cF.here _ _ _ _ _ _ h
theorem ints_takeH {V:aE} {A:Option Addr} {n k:Nat} {xs:List Int} (h:eD V A n xs) (hk:k≤n):eD V A k (xs.take k):=by
  obtain⟨h1,h2,h3,h4⟩:=h
  refine⟨by rw [List.length_take];omega,by omega,by rw [List.length_map,List.length_take];omega,fun h0=>?_⟩
  obtain⟨b,o,ha,hc⟩:=h4 (by omega)
  refine⟨b,o,ha,fun j v hj=>hc j v ?_⟩
  rw [List.map_take,List.getElem?_take] at hj
  split at hj
  · exact hj
  · cases hj
theorem ints_dropH {V:aE} {A:Option Addr} {n k c:Nat} {xs:List Int} (h:eD V A n xs) (hk:k<n) (hc:n≤c):eD V (pX A c k 1) (n - k) (xs.drop k):=by
  obtain⟨h1,h2,h3,h4⟩:=h
  refine⟨by rw [List.length_drop];omega,by omega,by rw [List.length_map,List.length_drop];omega,fun h0=>?_⟩
  obtain⟨b,o,rfl,hc9⟩:=h4 (by omega)
  refine⟨b,o+k * 1,by unfold pX;rw [if_neg (by omega)];simp [iT],fun j v hj=>?_⟩
  rw [List.map_drop,List.getElem?_drop] at hj
  have:=hc9 (k+j) v hj
  rw [show o+k * 1+j=o+(k+j) by omega];exact this
end
section
def dropB (h:HM) (k:Nat):HM:={ h with bx:=h.bx.set k none }
def dropL (h:HM) (k:Nat):HM:={ h with lo:=h.lo.set k none }
theorem hC_dropB {h:HM} (h5:h.lo.length=5) {k:Nat}:spl (hC h) (0+10+k * 1) [.pointer none]=hC (dropB h k):=by
  rw [setL,show 0+10+k * 1=5+k+1+1+1+1+1 by omega]
  unfold hC dropB
  simp only [List.set_cons_succ]
  rw [List.set_append_right _ _ (by unfold loV;rw [List.length_map];omega),show 5+k - (loV h.lo).length=k by unfold loV;rw [List.length_map];omega]
  unfold bxV
  rw [List.map_set]
  rfl
theorem hC_dropL {h:HM} (h5:h.lo.length=5) {k:Nat} (hk:k<5):spl (hC h) (0+5+k * 1) [.pointer none]=hC (dropL h k):=by
  rw [setL,show 0+5+k * 1=k+1+1+1+1+1 by omega]
  unfold hC dropL
  simp only [List.set_cons_succ]
  rw [List.set_append_left _ _ (by unfold loV;rw [List.length_map];omega)]
  unfold loV
  rw [List.map_set]
  rfl
theorem HOk.dropB {V:aE} {R:List Box} {h:HM} (k:HOk V R h) (j:Nat):HOk V R (dropB h j):=by
  have key:∀ (i g:Nat) (t:TE),(h.bx.set j none)[i]?=some (some (g,t))→h.bx[i]?=some (some (g,t)):=by
    intro i g t e
    rw [List.getElem?_set] at e
    split at e
    · split at e<;>cases e
    · exact e
  exact⟨k.l5,by show (h.bx.set j none).length=5;rw [List.length_set];exact k.b5,k.lo,fun i g t e=>k.bx i g t (key i g t e),fun i i' g t t' e e'=>k.inj i i' g t t' (key i g t e) (key i' g t' e')⟩
theorem HOk.dropL {V:aE} {R:List Box} {h:HM} (k:HOk V R h) (j:Nat):HOk V R (dropL h j):=by
  have key:∀ (i g:Nat) (l:LW),(h.lo.set j none)[i]?=some (some (g,l))→h.lo[i]?=some (some (g,l)):=by
    intro i g l e
    rw [List.getElem?_set] at e
    split at e
    · split at e<;>cases e
    · exact e
  exact⟨by show (h.lo.set j none).length=5;rw [List.length_set];exact k.l5,k.b5,fun i g l e=>k.lo i g l (key i g l e),k.bx,k.inj⟩
attribute [local irreducible] AtQ GoC GoL GoW QO QP Fn RV bF aD VLe bU bA
attribute [local irreducible] FnB
end
section
structure CA where
  us:List PR
  gs:List PR
  c:CR
  q:Int
  lo:List Int
def CA.cf (x:CA):CF:=⟨⟨none,0,0,x.us,none,0,0,x.gs⟩,x.c,none,0,0,x.q,none,0,0,x.lo⟩
def cfA (x:CF):CA:=⟨x.M.us,x.M.gs,x.c,x.q,x.lo⟩
structure LA where
  n:PN
  bl:List Int
structure TA where
  x:CA
  b:BX
  s0:List Int
  s1:List Int
  turn:Int
  seq:Int
structure HA where
  off:Bool
  turn:Int
  seq:Int
  lo:List (Option LA)
  bx:List (Option TA)
  M:PM
def lwA (l:LW):LA:=⟨l.x.n,l.bl⟩
def teA (t:TE):TA:=⟨cfA t.x,t.b,t.s0,t.s1,t.turn,t.seq⟩
def loA (l:List (Option (Nat×LW))):List (Option LA):=l.map (Option.map fun g=>lwA g.2)
def bxA (l:List (Option (Nat×TE))):List (Option TA):=l.map (Option.map fun g=>teA g.2)
def fZ (h:HM) (M:PM):HA:=⟨h.off,h.turn,h.seq,loA h.lo,bxA h.bx,M⟩
def lowAL:Option LA→List UInt8
  | none=>[0]
  | some l=>[1] ++ be 2 ((eE l.n).length:Int) ++ sF 2 l.bl
def tenAL:Option TA→List UInt8
  | none=>[0]
  | some t=>cfL t.x.cf ++ sF 2 t.s0 ++ sF 2 t.s1
def tabA (a:HA):List UInt8:=a.lo.flatMap lowAL ++ a.bx.flatMap tenAL
def spA (a:HA) (s:DS):DS×Int:=dF [(1 - a.turn) * 6400] 6400 (a.seq+1) (tabA a) s
def comA (a:HA) (s:DS):HA:=if (spA a s).2=0 then { a with turn:=1 - a.turn,seq:=a.seq+1 } else { a with off:=true }
theorem tab_abs (h:HM) (M:PM):pW h=tabA (fZ h M):=by
  have e1:lowL=fun o=>lowAL (o.map fun g=>lwA g.2):=by funext o;cases o<;>rfl
  have e2:tenL=fun o=>tenAL (o.map fun g=>teA g.2):=by funext o;cases o<;>rfl
  unfold pW tabA fZ loA bxA
  rw [e1,e2,List.flatMap_map,List.flatMap_map]
theorem mE (h:HM) (M:PM) (s:DS):jU h s=spA (fZ h M) s:=by unfold jU spA;rw [tab_abs h M];rfl
theorem commitM_abs (h:HM) (M:PM) (s:DS):fZ (jS h s) M=comA (fZ h M) s:=by
  unfold jS comA
  rw [mE h M s]
  split<;>rfl
def iO (a:HA) (n:Int):Option LA:=if 0≤n∧n<5 then (a.lo[n.toNat]?).join else none
def iS (a:HA) (n:Int):Option TA:=if 0≤n∧n<5 then (a.bx[n.toNat]?).join else none
def iX (a:HA):List Int→List PN→Option (List PN)
  | [],acc=>some acc
  | n :: l,acc=>match iO a n with
    | none=>none
    | some x=>iX a l (if 3<acc.length then acc else acc ++ [x.n])
def loBA:Option LA→List Int
  | none=>[]
  | some l=>l.bl
def bxBA:Option TA→List Int
  | none=>[]
  | some t=>t.s0 ++ t.s1
def eO (a:HA):List Int:=a.lo.flatMap loBA ++ a.bx.flatMap bxBA
theorem used_abs (h:HM) (M:PM):wA h=eO (fZ h M):=by
  have e1:loB=fun o=>loBA (o.map fun g=>lwA g.2):=by funext o;cases o<;>rfl
  have e2:bxB=fun o=>bxBA (o.map fun g=>teA g.2):=by funext o;cases o<;>rfl
  unfold wA eO fZ loA bxA
  rw [e1,e2,List.flatMap_map,List.flatMap_map]
theorem loAt_abs (h:HM) (M:PM) (n:Int):iO (fZ h M) n=(oX h n).map fun g=>lwA g.2:=by
  unfold iO oX
  split
  · show ((loA h.lo)[n.toNat]?).join=_
    unfold loA
    rw [List.getElem?_map]
    cases h.lo[n.toNat]? with
    | none=>rfl
    | some o=>cases o<;>rfl
  · rfl
theorem bxAt_abs (h:HM) (M:PM) (n:Int):iS (fZ h M) n=(nX h n).map fun g=>teA g.2:=by
  unfold iS nX
  split
  · show ((bxA h.bx)[n.toNat]?).join=_
    unfold bxA
    rw [List.getElem?_map]
    cases h.bx[n.toNat]? with
    | none=>rfl
    | some o=>cases o<;>rfl
  · rfl
theorem loAt_low (h:HM) (n:Int):loAt h n=(oX h n).map fun g=>g.2.x:=by
  unfold loAt oX;split<;>rfl
theorem wR (h:HM) (M:PM):∀ (l:List Int) (acc:List LN),iX (fZ h M) l (acc.map LN.n)=(kI h l acc).map fun ls=>ls.map LN.n
  | [],acc=>rfl
  | n :: l,acc=>by
    rw [iX,kI,loAt_abs,loAt_low]
    cases oX h n with
    | none=>rfl
    | some g =>
      show iX _ l (if 3<(acc.map LN.n).length then acc.map LN.n else acc.map LN.n ++ [(lwA g.2).n])=_
      rw [List.length_map]
      show _=(kI h l (if 3<acc.length then acc else acc ++ [g.2.x])).map fun ls=>ls.map LN.n
      split
      · exact wR h M l acc
      · have:=wR h M l (acc ++ [g.2.x])
        rw [List.map_append] at this;exact this
theorem first_loA (h:HM):aW (loA h.lo)=aW h.lo:=by
  unfold loA
  generalize h.lo=l
  induction l with
  | nil=>rfl
  | cons o l ih=>cases o with
    | none=>rfl
    | some x=>show aW (l.map _)+1=aW l+1;rw [ih]
theorem first_bxA (h:HM):aW (bxA h.bx)=aW h.bx:=by
  unfold bxA
  generalize h.bx=l
  induction l with
  | nil=>rfl
  | cons o l ih=>cases o with
    | none=>rfl
    | some x=>show aW (l.map _)+1=aW l+1;rw [ih]
structure HO where
  a:HA
  s:DS
  f:Int
  n:Int
def gU (s:DS):Int:=(s.bs.length:Int) / 64 - 200
def eS (a:HA) (s:DS):Bool:=a.off || s.off
def rK (a:HA) (s:DS) (k:Int):HO:=⟨comA a s,(spA a s).1,(spA a s).2,if (spA a s).2=0 then k else 0⟩
def rV (a:HA) (s:DS) (x:CA) (ls:List PN):TA:=⟨x,newB x.us x.gs x.c x.q ls,(jA (eO a) (cW x.q).toNat (s.bs.length / 64)).take (x.q+1).toNat,(jA (eO a) (cW x.q).toNat (s.bs.length / 64)).drop (x.q+1).toNat,0,1⟩
def xJ (a:HA) (s:DS) (k:Nat) (t:TA):HO :=
  if ¬cZ s (t.s1.headD 0 * 64) [0]=0 then ⟨{ a with off:=true },cD s (t.s1.headD 0 * 64) [0],cZ s (t.s1.headD 0 * 64) [0],0⟩
  else if ¬(dF (t.s0.map (· * 64)) 64 1 (eG t.b) (cD s (t.s1.headD 0 * 64) [0])).2=0 then ⟨{ a with off:=true },(dF (t.s0.map (· * 64)) 64 1 (eG t.b) (cD s (t.s1.headD 0 * 64) [0])).1,(dF (t.s0.map (· * 64)) 64 1 (eG t.b) (cD s (t.s1.headD 0 * 64) [0])).2,0⟩
  else rK { a with bx:=a.bx.set k (some t) } (dF (t.s0.map (· * 64)) 64 1 (eG t.b) (cD s (t.s1.headD 0 * 64) [0])).1 k
def eQ (a:HA) (s:DS) (x:CA):HO :=
  if eS a s=true then ⟨a,s,16,0⟩ else
  match iX a x.lo [] with
  | none=>⟨a,s,5,0⟩
  | some ls =>
    if ¬jH x.cf ls=0 then ⟨a,s,jH x.cf ls,0⟩
    else if aW a.bx=5 then ⟨a,s,2,0⟩
    else if ¬gA (gU s) a.M (5+(aW a.bx:Int)) (cW x.q)=0 then ⟨a,s,gA (gU s) a.M (5+(aW a.bx:Int)) (cW x.q),0⟩
    else xJ { a with M:=fO (gU s) a.M (5+(aW a.bx:Int)) (cW x.q) } s (aW a.bx) (rV a s x ls)
def oG (all:List UInt8):List Int→Nat→DS→DS×Int
  | [],_,s=>(s,0)
  | p :: ps,i,s=>if ¬cZ s p (iF 64 all i)=0 then (cD s p (iF 64 all i),cZ s p (iF 64 all i)) else oG all ps (i+1) (cD s p (iF 64 all i))
def uZ (a:HA) (s:DS) (n:PN):LA:=⟨n,jA (eO a) (bB n).toNat (s.bs.length / 64)⟩
def putLA (a:HA) (s:DS) (k:Nat) (l:LA):HO :=
  if ¬(oG (eE l.n) (l.bl.map (· * 64)) 0 s).2=0 then ⟨{ a with off:=true },(oG (eE l.n) (l.bl.map (· * 64)) 0 s).1,(oG (eE l.n) (l.bl.map (· * 64)) 0 s).2,0⟩
  else rK { a with lo:=a.lo.set k (some l) } (oG (eE l.n) (l.bl.map (· * 64)) 0 s).1 k
def dS (a:HA) (s:DS) (n:PN):HO :=
  if eS a s=true then ⟨a,s,16,0⟩
  else if ¬dD false n=0 then ⟨a,s,dD false n,0⟩
  else if aW a.lo=5 then ⟨a,s,2,0⟩
  else if ¬gA (gU s) a.M (aW a.lo:Int) (bB n)=0 then ⟨a,s,gA (gU s) a.M (aW a.lo:Int) (bB n),0⟩
  else putLA { a with M:=fO (gU s) a.M (aW a.lo:Int) (bB n) } s (aW a.lo) (uZ a s n)
def iZ (a:HA) (s:DS) (n:Int):Int:=if eS a s=true then 16 else if (iS a n).isNone=true then 5 else 0
def kY (a:HA) (s:DS) (n:Int):Int:=if eS a s=true then 16 else if (iO a n).isNone=true then 5 else 0
def mA (a:HA) (s:DS) (n:Int):HO :=
  if eS a s=true then ⟨a,s,16,0⟩ else
  match iS a n with
  | none=>⟨a,s,5,0⟩
  | some t=>dS a s (flatB t.b)
def fM (a:HA) (s:DS) (n:Int):HO :=
  if ¬iZ a s n=0 then ⟨a,s,iZ a s n,0⟩ else rK { a with bx:=a.bx.set n.toNat none,M:=oI (5+n) a.M } s 0
def oO (a:HA) (n:Int):Bool:=a.bx.any fun o=>match o with
  | none=>false
  | some t=>t.x.lo.any fun z=>decide (z=n)
def dP (a:HA) (s:DS) (n:Int):HO :=
  if ¬kY a s n=0 then ⟨a,s,kY a s n,0⟩
  else if oO a n=true then ⟨a,s,15,0⟩
  else rK { a with lo:=a.lo.set n.toNat none,M:=oI n a.M } s 0
def jX (t:TA):List Int:=if t.turn=0 then t.s1 else t.s0
noncomputable def doneA (a:HA) (k:Nat) (t:TA) (b:BX):HA:={ a with bx:=a.bx.set k (some { t with b:=b,turn:=1 - t.turn,seq:=t.seq+1 }) }
noncomputable def doA (a:HA) (s:DS) (n:Int) (c:CL):HO×TD :=
  if eS a s=true then (⟨a,s,16,0⟩,tdZ) else
  match iS a n with
  | none=>(⟨a,s,5,0⟩,tdZ)
  | some t =>
    if ¬(doP t.b c).2.2=0 then (⟨a,s,(doP t.b c).2.2,0⟩,tdZ)
    else if eG (doP t.b c).1=eG t.b then (⟨a,s,0,0⟩,(doP t.b c).2.1)
    else if ¬(dF ((jX t).map (· * 64)) 64 (t.seq+1) (eG (doP t.b c).1) s).2=0 then (⟨{ a with off:=true },(dF ((jX t).map (· * 64)) 64 (t.seq+1) (eG (doP t.b c).1) s).1,(dF ((jX t).map (· * 64)) 64 (t.seq+1) (eG (doP t.b c).1) s).2,0⟩,tdZ)
    else (⟨doneA a n.toNat t (doP t.b c).1,(dF ((jX t).map (· * 64)) 64 (t.seq+1) (eG (doP t.b c).1) s).1,0,0⟩,(doP t.b c).2.1)
end
section
structure fK (b:BX) (r:BX×Int):Prop where
  ok:bI r.1
  us:r.1.us=b.us
  gs:r.1.gs=b.gs
  q:r.1.q=b.q
  lo:0≤r.2
  hi:r.2≤17
  no:¬r.2=13∧¬r.2=16
theorem fK.err {b:BX} (hok:bI b) {e:Int} (h0:0≤e) (h1:e≤17) (h2:¬e=13∧¬e=16:=by first|decide|omega):fK b (b,e):=⟨hok,rfl,rfl,rfl,h0,h1,h2⟩
theorem treeF_bdz (upper:Bool) (n:PN):0≤dD upper n∧dD upper n≤7:=by
  have:=nT upper 0 0 n (by omega)
  unfold dD;split<;>omega
theorem wC {b:BX} (hok:bI b) (u:PN):fK b (kJ b u):=by
  have h9:=growOk hok u
  have hb:=treeF_bdz true u
  unfold kJ at h9 ⊢
  split
  · exact fK.err hok hb.1 (by omega)
  · split
    · exact fK.err hok (by decide) (by decide)
    · rename_i h1 h2
      rw [if_neg h1,if_neg h2] at h9
      exact⟨h9,rfl,rfl,rfl,by simp,by simp,by simp⟩
theorem good_putG {b:BX} (hok:bI b) (x u:PN) (ss:List ByteArray):fK b (putG b x u ss):=by
  have:=pF_bd false x ss u
  unfold putG
  split
  · exact fK.err hok (by omega) (by omega)
  · exact wC hok _
theorem tY {b:BX} (hok:bI b) (ss:List ByteArray) (f:Hd→Hd):fK b (jL b ss f):=by
  have:=upP_bd b.ls b.us b.gs ss
  unfold jL
  split
  · exact fK.err hok (by omega) (by omega)
  · split
    · exact wC hok _
    · split
      · have:=pF_bd false (.mk (f ((eP (upP b.ls b.us b.gs ss).1 ss).getD pnZ).h) ((eP (upP b.ls b.us b.gs ss).1 ss).getD pnZ).ks) ss (upP b.ls b.us b.gs ss).1
        exact fK.err hok (by omega) (by omega)
      · exact wC hok _
theorem pI (b:BX) (l:List UInt8):0≤dH b l∧dH b l≤9:=by
  have h1:=pathF_bd l
  have h2:=vI b (aQ l) (aQ l).length
  unfold dH dJ
  (repeat' split)<;>omega
theorem spotF_bd (b:BX) (l:List UInt8):0≤uN b l∧uN b l≤9:=by
  have h1:=pathF_bd l
  have h2:=vI b (aQ l) (aQ l).length
  unfold uN dJ
  split<;>omega
theorem takeF9_bd (b:BX) (s:SP):0≤gH b s∧gH b s≤10:=by
  unfold gH;(repeat' split)<;>omega
theorem attrsF_bd (b:BX) (t:TH) (nm:ByteArray) (w:Int):0≤jG b t nm w∧jG b t nm w≤10:=by
  unfold jG;(repeat' split)<;>omega
theorem good_make {b:BX} (hok:bI b) (ss:List ByteArray) (par:TH) (kind mode:Int) (dt:ByteArray):fK b (mY b ss par kind mode dt):=by
  unfold mY
  split
  · exact fK.err hok (by decide) (by decide)
  · split
    · exact fK.err hok (by decide) (by decide)
    · split
      · exact fK.err hok (by decide) (by decide)
      · unfold make2
        have:=upP_bd b.ls b.us b.gs (ss.take (ss.length - 1))
        split
        · exact fK.err hok (by omega) (by omega)
        · exact good_putG hok _ _ _
theorem good_put {b:BX} (hok:bI b) (c:CL):fK b (pD b c):=by
  have h1:=spotF_bd b (aH c.path)
  unfold pD
  (repeat' split)<;>first|exact fK.err hok (by decide) (by decide)|exact fK.err hok (by omega) (by omega)|exact good_make hok _ _ _ _ _|exact tY hok _ _
theorem good_mkdir {b:BX} (hok:bI b) (c:CL):fK b (nB b c):=by
  have h1:=spotF_bd b (aH c.path)
  unfold nB
  (repeat' split)<;>first|exact fK.err hok (by decide) (by decide)|exact fK.err hok (by omega) (by omega)|exact good_make hok _ _ _ _ _
theorem goneF_bd (b:BX) (u:PN) (ss:List ByteArray):0≤lF b u ss∧lF b u ss≤7:=by
  have h1:=pF_bd false whiteN ss u
  have h2:=pF_bd true pnZ ss u
  unfold lF;split<;>omega
theorem good_remove {b:BX} (hok:bI b) (s:ByteArray):fK b (iH b s):=by
  have h1:=pI b (aH s)
  have h2:=takeF9_bd b (bE b (aH s))
  have h3:=upP_bd b.ls b.us b.gs ((aQ (aH s)).take ((aQ (aH s)).length - 1))
  have h4:=goneF_bd b (upP b.ls b.us b.gs ((aQ (aH s)).take ((aQ (aH s)).length - 1))).1 (aQ (aH s))
  unfold iH gone2
  (repeat' split)<;>first|exact fK.err hok (by decide) (by decide)|exact fK.err hok (by omega) (by omega)|exact wC hok _
theorem good_move {b:BX} (hok:bI b) (s t:ByteArray):fK b (xK b s t):=by
  have h1:=pI b (aH s)
  have h2:=takeF9_bd b (bE b (aH s))
  have h3:=takeF9_bd b (bE b (aH t))
  have h4:=pathF_bd (aH s)
  have h5:=pathF_bd (aH t)
  have h6:=vI b (aQ (aH t)) (aQ (aH t)).length
  have h7:=upP_bd b.ls b.us b.gs (aQ (aH s))
  have h8:=upP_bd ((upP b.ls b.us b.gs (aQ (aH s))).1 :: b.ls.tail) b.us b.gs ((aQ (aH t)).take ((aQ (aH t)).length - 1))
  have h9:=goneF_bd b (upP ((upP b.ls b.us b.gs (aQ (aH s))).1 :: b.ls.tail) b.us b.gs ((aQ (aH t)).take ((aQ (aH t)).length - 1))).1 (aQ (aH s))
  unfold xK dJ
  split
  · exact fK.err hok (by first|decide|omega) (by first|decide|omega)
  split
  · exact fK.err hok (by first|decide|omega) (by first|decide|omega)
  split
  · exact fK.err hok (by first|decide|omega) (by first|decide|omega)
  split
  · exact fK.err hok (by first|decide|omega) (by first|decide|omega)
  split
  · exact fK.err hok (by first|decide|omega) (by first|decide|omega)
  split
  · exact fK.err hok (by first|decide|omega) (by first|decide|omega)
  split
  · exact fK.err hok (by first|decide|omega) (by first|decide|omega)
  split
  · exact fK.err hok (by first|decide|omega) (by first|decide|omega)
  split
  · exact fK.err hok (by first|decide|omega) (by first|decide|omega)
  unfold move2
  split
  · exact fK.err hok (by first|decide|omega) (by first|decide|omega)
  split
  · exact fK.err hok (by first|decide|omega) (by first|decide|omega)
  split
  · exact fK.err hok (by first|decide|omega) (by first|decide|omega)
  split
  · exact fK.err hok (by first|decide|omega) (by first|decide|omega)
  unfold move3
  split
  · exact fK.err hok (by first|decide|omega) (by first|decide|omega)
  split
  · exact fK.err hok (by first|decide|omega) (by first|decide|omega)
  unfold move4
  split
  · exact fK.err hok (by first|decide|omega) (by first|decide|omega)
  exact good_putG hok _ _ _
theorem good_mode {b:BX} (hok:bI b) (l:List UInt8) (m:Int):fK b (rI b l m):=by
  have h1:=pI b l
  unfold rI
  (repeat' split)<;>first|exact fK.err hok (by decide) (by decide)|exact fK.err hok (by omega) (by omega)|exact tY hok _ _
theorem good_own {b:BX} (hok:bI b) (l:List UInt8) (u g:Int):fK b (xF b l u g):=by
  have h1:=pI b l
  unfold xF own2
  (repeat' split)<;>first|exact fK.err hok (by decide) (by decide)|exact fK.err hok (by omega) (by omega)|exact tY hok _ _
theorem good_be {b:BX} (hok:bI b) (u g:Int):fK b (beP b u g):=by
  have h1:=becF_bd b.c.u b.c.g b.c.d b.c.xs u g
  unfold beP
  split
  · exact fK.err hok (by omega) (by omega)
  · rename_i h
    split
    · exact fK.err hok (by decide) (by decide)
    · exact⟨beOk hok (Decidable.not_not.1 h),rfl,rfl,rfl,by simp,by simp,by simp⟩
theorem good_attr {b:BX} (hok:bI b) (l:List UInt8) (nm vl:ByteArray) (drop:Bool):fK b (oY b l nm vl drop):=by
  have h1:=pI b l
  have h2:=attrsF_bd b (bE b l).th nm 2
  have h3:=getF_bd (bE b l).n.h.attrs nm
  have h4:=setF_bd (bE b l).n.h.attrs nm vl
  have h5:0≤(newA (bE b l).n.h.attrs nm vl drop).1∧(newA (bE b l).n.h.attrs nm vl drop).1≤5:=by unfold newA;split<;>omega
  unfold oY
  (repeat' split)<;>first|exact fK.err hok (by decide) (by decide)|exact fK.err hok (by omega) (by omega)|exact tY hok _ _
theorem good_do {b:BX} (hok:bI b) (c:CL):fK b ((doP b c).1,(doP b c).2.2):=by
  have h1:=pI b (aH c.path)
  have h2:=attrsF_bd b (bE b (aH c.path)).th c.name 4
  have h3:=getF_bd (bE b (aH c.path)).n.h.attrs c.name
  have hl:0≤(mS b c).2∧(mS b c).2≤12:=by unfold mS;(repeat' split)<;>first|exact⟨h1.1,show _≤(12:Int) by omega⟩|exact⟨h2.1,show _≤(12:Int) by omega⟩|exact⟨h3.1,show _≤(12:Int) by omega⟩|exact(show (0:Int)≤0∧(0:Int)≤12 from ⟨by decide,by decide⟩)|exact(show (0:Int)≤7∧(7:Int)≤12 from ⟨by decide,by decide⟩)|exact(show (0:Int)≤9∧(9:Int)≤12 from ⟨by decide,by decide⟩)|exact(show (0:Int)≤4∧(4:Int)≤12 from ⟨by decide,by decide⟩)
  have hg:0≤(tI b c).2∧(tI b c).2≤12:=by unfold tI;(repeat' split)<;>first|exact⟨h1.1,show _≤(12:Int) by omega⟩|exact⟨h2.1,show _≤(12:Int) by omega⟩|exact⟨h3.1,show _≤(12:Int) by omega⟩|exact(show (0:Int)≤0∧(0:Int)≤12 from ⟨by decide,by decide⟩)|exact(show (0:Int)≤7∧(7:Int)≤12 from ⟨by decide,by decide⟩)|exact(show (0:Int)≤9∧(9:Int)≤12 from ⟨by decide,by decide⟩)|exact(show (0:Int)≤4∧(4:Int)≤12 from ⟨by decide,by decide⟩)
  have ch:∀ r:BX×Int,fK b r→fK b ((chT r).1,(chT r).2.2):=fun r h=>h
  unfold doP
  by_cases o0:1≤c.op∧c.op≤3
  · rw [if_pos o0];exact fK.err hok hl.1 (show (mS b c).2≤17 by omega) (show ¬(mS b c).2=13∧¬(mS b c).2=16 by omega)
  rw [if_neg o0]
  by_cases o1:c.op=4
  · rw [if_pos o1];exact ch _ (good_put hok c)
  rw [if_neg o1]
  by_cases o2:c.op=5
  · rw [if_pos o2];exact ch _ (good_mkdir hok c)
  rw [if_neg o2]
  by_cases o3:c.op=6
  · rw [if_pos o3];exact ch _ (good_remove hok _)
  rw [if_neg o3]
  by_cases o4:c.op=7
  · rw [if_pos o4];exact ch _ (good_move hok _ _)
  rw [if_neg o4]
  by_cases o5:c.op=8
  · rw [if_pos o5];exact ch _ (good_mode hok _ _)
  rw [if_neg o5]
  by_cases o6:c.op=9
  · rw [if_pos o6];exact ch _ (good_own hok _ _ _)
  rw [if_neg o6]
  by_cases o7:c.op=10
  · rw [if_pos o7];exact ch _ (good_attr hok _ _ _ _)
  rw [if_neg o7]
  by_cases o8:c.op=11
  · rw [if_pos o8];exact ch _ (good_attr hok _ _ _ _)
  rw [if_neg o8]
  by_cases o9:c.op=12
  · rw [if_pos o9];exact fK.err hok hg.1 (show (tI b c).2≤17 by omega) (show ¬(tI b c).2=13∧¬(tI b c).2=16 by omega)
  rw [if_neg o9]
  by_cases o10:c.op=13
  · rw [if_pos o10];exact ch _ (good_be hok _ _)
  rw [if_neg o10]
  by_cases o11:c.op=14
  · rw [if_pos o11];exact fK.err hok (show (0:Int)≤0 by decide) (show (0:Int)≤17 by decide) (show ¬(0:Int)=13∧¬(0:Int)=16 by decide)
  rw [if_neg o11]
  exact fK.err hok (show (0:Int)≤3 by decide) (show (3:Int)≤17 by decide) (show ¬(3:Int)=13∧¬(3:Int)=16 by decide)
end
section
def blP (D:List PF) (u:PN) (p:List ByteArray):List PF:=cutP (p.foldl eJ ((u,0) :: D))
def d0P (u:PN) (t:List PN):List PF:=if u.h.opq=true then [] else eB (mX 1 t)
def okH (us gs:List PR) (h:Hd):Prop:=(pB us h.user).isSome=true∧(pB gs h.group).isSome=true
structure Own2 (us gs:List PR) (u:PN) (t:List PN):Prop where
  own:∀ p m,eP u p=some m→¬m.h.kind=3→okH us gs m.h
  wht:∀ p s m,eP u (p ++ [s])=some m→m.h.kind=3→eJ (blP (d0P u t) u p) s≠[]
section
variable {us gs : List PR} {t : List PN}
end
end
end Go.Proofs.YtejkmomfpidnbacGreat
