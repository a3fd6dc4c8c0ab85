/- Walks and plain laws, part 11: what functions compute, proved once each (RwK, AsBox, BxY, BxA, BxB, BxIn, Opens, RwF, RwG, RwA, RwO, RwM, RwU, RwR, RwP, RwL, RwQ). -/
import Derived.Test.YtejkmomfpidnbabGreatPart10
import Derived.Test.YtejkmomfpidnbabGreatPart2
import Derived.Test.YtejkmomfpidnbabGreatPart9
import Derived.Test.YtejkmomfpidnbabGreatPart7
import Derived.Test.YtejkmomfpidnbabGreatPart4
import Derived.Test.YtejkmomfpidnbabGreatPart6
import Derived.Test.YtejkmomfpidnbabGreatPart8
set_option linter.unusedSimpArgs false
set_option linter.unusedVariables false
set_option maxRecDepth 100000
set_option maxHeartbeats 40000000
namespace Go.Proofs.YtejkmomfpidnbabGreat
open Go.RowKit
section
theorem byte_row {g:Nat} {l:List UInt8} {vs:List Value} (hv:vs=u8C l) (hm:l.length≤maxLen) (h0:0<l.length):kZ (some ⟨g,0,none⟩) l.length l.length l [⟨g,5,vs⟩] :=
  ⟨⟨by rw [uZ];omega,.inr ⟨g,vs,rfl,rfl,Nat.le_refl _,hm,by rw [hv,uZ];omega,by rw [hv,List.take_of_length_le (by rw [uZ];omega)]⟩⟩,rfl,.inr h0⟩
attribute [local irreducible] AtQ GoC GoL GoW QO QP Fn RV bX aL VLe cG bT
attribute [local irreducible] FnB
theorem RFlatB_v (V:aI) (p:Nat) (b:BX) (I:BI) (hok:bK b) (h:mZ V p b I):Fn Tryz.prog 89 [.pointer (some ⟨p,0,none⟩)] V (NodeR (flatB b)):=by
  obtain⟨hcM,hcC,hcq,hcl⟩:=h.parts
  have hm4:I.m≤4:=by rw [←h.2.len];exact hok.l4
  have hF:=fun V2 (hV2:VLe V V2)=>RFlat_c V I.K I.m I.e I.xs h.2.ls (by omega) (hok.smallL h.2) I.M h.2.M true 7 V2 hV2 none 0 0 [] bZ.nil (Nat.le_refl _) (by omega) (by rw [h.2.eq];exact walkP_deep hok.deep [])
  rw [h.2.eq,h.2.us,h.2.gs] at hF
  have e:eQ (gW true b.us b.gs) 7 (bY b.ls [])=flatB b:=flat_gW 7 _ (walk_lay b.ls [])
  (refine aH Tryz.func89 rfl Tryz.ntmps89 rfl ?_;intro w0)
  repeat' (first|(refine aE ?_;first|(refine al9 ?_;intro γ))|refine bV ?_|fail)
  obtain⟨g2,rfl⟩:∃ g2,g2=γ:=⟨γ,rfl⟩
  refine dD (fun F V' L'=>∃ (γ3:Nat) (y:LN),VLe V V'∧aX V' y∧y.n=flatB b∧[⟨γ3,70,lnC y⟩,⟨g2,70,lnC lnZ⟩]=L'∧F=[(2,.pointer (some ⟨g2,0,none⟩)),(3,.pointer (some ⟨γ3,0,none⟩))]) ?_ ?_
  · refine bM (id:=1) _ mixed (List.Sublist.refl _) ?_;refine gt9 0 ?_;refine gt9 1 ?_;refine gt9 2 ?_;refine gt9 3 ?_;refine gt9 4 ?_;refine gt9 5 ?_;refine gt9 6 ?_;refine gt9 7 ?_;(refine dF (i:=8) (j:=12) (by kernel_rfl) rfl rfl rfl rfl vl9 vl9 bD ?_ ?_<;>first|((refine aM rfl ⟨Tryz.call197⟩ rfl rfl (hF _ vl9) ?_;rintro v V2 hV2 (⟨hx,_⟩|⟨_,y,rfl,hyN,hyn⟩);exact absurd hx hok.roots);refine gt9 9 ?_;refine gt9 10 ?_;refine gt9 11 ?_;refine aY (i:=12) rfl ?_;(refine bS rfl zer_70 rfl ?_;intro γ);refine aY (i:=13) rfl ?_;refine aO rfl siz_70 rfl rfl rfl rfl bG dC rfl ?_;refine gt9 14 ?_;refine aU (by kernel_rfl) vl9 vl9 bD ?_)|((refine bS rfl zer_70 rfl ?_;intro γ);refine aY (i:=8) rfl ?_;(refine aM rfl ⟨Tryz.call197⟩ rfl rfl (hF _ vl9) ?_;rintro v V2 hV2 (⟨hx,_⟩|⟨_,y,rfl,hyN,hyn⟩);exact absurd hx hok.roots);refine gt9 9 ?_;refine gt9 10 ?_;refine gt9 11 ?_;refine aY (i:=13) rfl ?_;refine aO rfl siz_70 rfl rfl rfl rfl bG dC rfl ?_;refine gt9 14 ?_;refine aU (by kernel_rfl) vl9 vl9 bD ?_))
    all_goals exact bR _ ⟨_,y,vl9,hyN.le vl9,hyn.trans e,rfl,rfl⟩ bH sp9
  rintro F V2 L' ⟨g3,y,hV2,hyN,hyn,rfl,rfl⟩
  repeat' (first|(refine aE ?_;first|refine st9 ?_|refine pu9 ?_)|refine bV ?_|fail)
  all_goals
    (refine aQ Tryz.results89 (aS agg_70 rfl bB (by exact rfl)) ?_)
    exact⟨y,rfl,hyN.le vl9,hyn⟩
theorem RFlatB_b {V:aI} {p:Nat} {b:BX} {Bs:List Box} (hok:bK b) (h:eC V p b Bs):FnB Tryz.prog 89 [.pointer (some ⟨p,0,none⟩)] V Bs fun v V' Bs'=>Bs'=Bs∧NodeR (flatB b) v V' :=
  eC.read h (fun v V gs hc ⟨y,h1,h2,h3⟩=>⟨y,h1,h2.off hc,h3⟩) fun V' I hV hB=>RFlatB_v V' p b I hok hB
theorem RBytesB_v (V:aI) (p:Nat) (b:BX) (I:BI) (hok:bK b) (h:mZ V p b I):Fn Tryz.prog 90 [.pointer (some ⟨p,0,none⟩)] V fun v _=>v=.string ⟨(boxL b).toArray⟩:=by
  obtain⟨hcM,hcC,hcq,hcl⟩:=h.parts
  obtain⟨q,o,x0,hK,hm0,hc0,hN0,hhd,t,ht⟩:=h.2.head hok
  have hz:=fI hok.c
  have hxl:=h.2.xs.1
  (refine aH Tryz.func90 rfl Tryz.ntmps90 rfl ?_;intro w0)
  repeat' (first|(refine aE ?_;first|(refine gL ?_;refine aR (fS und_3 und_5 rfl) ?_)|(refine cJ ?_;(refine aP rfl und_145 siz_5 zec_5 rfl rfl rfl rfl rfl rfl rfl ?_;intro γ))|refine st9 ?_|(refine al9 ?_;intro γ)|refine pu9 ?_)|refine bW ?_|fail)
  rename_i g3
  obtain⟨g4,rfl⟩:∃ g4,g4=γ:=⟨γ,rfl⟩
  refine bQ (fun F V' L' m=>∃ (k n4 c4:Nat) (A4:Option Addr) (L4:List Box),V=V'∧L4 ++ [⟨g3,27,crC b.c I.A I.n I.k⟩]=L'∧kZ A4 n4 c4 (credB b.c ++ (b.c.xs.take k).flatMap b16) L4∧k≤I.n∧m=I.n - k∧F=[(0,.pointer (some ⟨p,0,none⟩)),(3,.pointer (some ⟨g3,0,none⟩)),(4,.slice A4 n4 c4),(5,.int .i64 (k:Int))]) (m:=I.n) ⟨0,6,6,some ⟨g4,0,none⟩,[⟨g4,5,u8C (credB b.c)⟩],rfl,rfl,?_,Nat.zero_le _,by omega,rfl⟩ bH rfl ?_ ?_
  · rw [List.take_zero,List.flatMap_nil,List.append_nil]
    exact byte_row rfl (by show (6:Nat)≤maxLen;unfold maxLen;omega) (by show (0:Nat)<6;omega)
  · have e:u8C (credB b.c)=[.int .u8 ((b8 (b.c.u / 256)).toNat:Int),.int .u8 ((b8 (b.c.u % 256)).toNat:Int),.int .u8 ((b8 (b.c.g / 256)).toNat:Int),.int .u8 ((b8 (b.c.g % 256)).toNat:Int),.int .u8 ((b8 b.c.d).toNat:Int),.int .u8 ((b8 (I.n:Int)).toNat:Int)]:=by
      rw [b8_mod,b8_mod,←hxl];rfl
    rw [e]
    exact List.Sublist.refl _
  rintro F V' L' m ⟨k,n4,c4,A4,L4,rfl,rfl,⟨hr4,hn4,hA4⟩,hkn,rfl,rfl⟩
  have hfl:((b.c.xs.take k).flatMap b16).length≤8:=by rw [flat16_len,List.length_take];omega
  have hcl9:(credB b.c).length=6:=rfl
  have hnn:=hn4
  rw [List.length_append,hcl9] at hnn
  have hcap:=hr4.cap
  by_cases hlt:k<I.n
  · obtain⟨b1,o2,w,hA1,hw,hcw⟩:=h.2.xs.at_ hlt
    have hw0:=gF_ids _ _ hz.2.2.2.2 w (List.mem_of_getElem? hw)
    have htk:(b.c.xs.take (k+1)).flatMap b16=(b.c.xs.take k).flatMap b16 ++ b16 w:=by rw [List.take_add_one,hw,List.flatMap_append];simp
    repeat' (first|(refine aE ?_;refine pu9 ?_)|refine bW ?_|(refine aA rfl ?_ ?_<;>intro hq<;>try exact no9))
    refine bM (id:=6) _ mixed (List.sublist_append_right _ _) ?_;refine gt9 0 ?_;refine gt9 1 ?_;refine gt9 2 ?_;refine gt9 3 ?_;refine fP 4 rfl rfl (bL und_25 siz_3 rfl hA1 rfl hlt) ?_;refine gt9 5 ?_;refine gt9 6 ?_;refine fP 7 rfl rfl (fS und_3 und_5 rfl) ?_;refine gt9 8 ?_;refine gt9 9 ?_;refine gt9 10 ?_;refine fP 11 rfl rfl (bL und_25 siz_3 rfl hA1 rfl hlt) ?_;refine gt9 12 ?_;refine gt9 13 ?_;refine fP 14 rfl rfl (fS und_3 und_5 rfl) ?_;refine aY (i:=15) rfl ?_;(refine aP rfl und_145 siz_5 zec_5 rfl rfl rfl rfl rfl rfl rfl ?_;intro γ);refine aY (i:=16) rfl ?_;(refine aT rfl und_145 inf_5 rfl rfl rfl hr4 bF (cZ bB rfl) bG (by omega) rfl rfl ?_;intro A5 c5 L5 hr5);refine gt9 17 ?_;refine aU (by kernel_rfl) vl9 vl9 bD ?_
    all_goals repeat' (first|(refine aE ?_;refine pu9 ?_)|refine bV ?_|fail)
    all_goals
      refine aZ _ (I.n - (k+1)) ⟨k+1,n4+2,c5,A5,L5,rfl,rfl,?_,by omega,rfl,rfl⟩ (by omega) bH sl9
      refine(kZ.app (b16 w) hr5 (by rw [b8_mod];rfl) (by rw [hn4];rfl) (by simp [b16])).eq ?_
      rw [htk];simp
  · obtain rfl:k=I.n:=by omega
    rw [List.take_of_length_le (by omega)] at hr4 hnn hfl
    have hB:=RBytes_c V x0 hN0
    have hbl:(iS x0.n).length≤100000:=bytes_few _
    repeat' (first|(refine aE ?_;first|(refine cX ?_;refine aR (jU rfl rfl (by rw [List.length_append];omega)) ?_)|(refine gL ?_;refine aR (jH und_145 und_5 und_9 rfl (src_row hr4 bF)) ?_)|(refine aD ?_;refine aN rfl (aG ⟨Tryz.call196⟩ rfl (hB)) ?_)|(refine cK ?_;refine aR (bL (k:=0) und_30 siz_70 rfl hK rfl hm0) ?_)|refine pu9 ?_)|refine dR ?_|(refine aA rfl ?_ ?_<;>intro hq<;>try exact no9))
    all_goals
      (refine aQ Tryz.results90 (aB rfl) ?_)
      rw [boxL,hhd]
end
section
theorem FnB.mono7 {P:Program} {f:FuncId} {args:List Value} {V:aI} {Bs:List Box} {R R':Value→aI→List Box→Prop} (h:FnB P f args V Bs R) (hr:∀ v V' Bs',R v V' Bs'→R' v V' Bs'):FnB P f args V Bs R':=fun w hs =>
  (h w hs).mono fun _ _ ⟨v,V',Bs',he,hst,hR⟩=>⟨v,V',Bs',he,hst,hr v V' Bs' hR⟩
theorem sameB_eq {a b:PN} (h:a=b):sameB a b=true:=nZ.2 h
theorem RBytesB_b {V:aI} {p:Nat} {b:BX} {Bs:List Box} (hok:bK b) (h:eC V p b Bs):FnB Tryz.prog 90 [.pointer (some ⟨p,0,none⟩)] V Bs fun v V' Bs'=>v=.string ⟨(boxL b).toArray⟩∧Bs'=Bs :=
  (eC.read h (fun v V gs hc hR=>hR) fun V' I hV hB=>RBytesB_v V' p b I hok hB).mono7 fun _ _ _ h=>⟨h.2,h.1⟩
theorem Bytes_q7 {V:aI} {p:Nat} {b:BX} {Bs:List Box} (hok:bK b) (h:eO V p b Bs):FnB Tryz.prog 24 [.pointer (some ⟨p,0,none⟩)] V Bs fun v V' Bs'=>v=.string ⟨(boxL b).toArray⟩∧Bs'=Bs :=
  (Bytes_b hok h).mono7 fun _ _ _ h=>⟨h.2,h.1⟩
attribute [local irreducible] AtQ GoC GoL GoW QO QP Fn RV bX aL VLe cG bT
attribute [local irreducible] FnB eO
theorem asBox_b (V:aI) (p q:Nat) (b:BX) (Bs Cs:List Box) (hok:bK b) (h:eO V p b Bs) (g:eC V q b Cs):FnB Tryz.prog 21 [.pointer (some ⟨p,0,none⟩),.pointer (some ⟨q,0,none⟩)] V (Bs ++ Cs) fun v V' Bs'=>v=.bool true∧Bs'=Bs ++ Cs:=by
  have gC:=g
  obtain⟨I,rfl,hI⟩:=g
  obtain⟨q1,o1,x0,hK,hm0,hc0,hN0,hhd,t,ht⟩:=hI.head hok
  have hU:=fun V2 (hV2:VLe V V2)=>Upper_b hok (h.le hV2)
  have hC:=fun V2 (hV2:VLe V V2)=>Cred_b V2 p b Bs hok (h.le hV2)
  have hF:=fun V2 (hV2:VLe V V2)=>Flat_b hok (h.le hV2)
  have hB:=fun V2 (hV2:VLe V V2)=>Bytes_q7 hok (h.le hV2)
  have hRF:=fun V2 (hV2:VLe V V2)=>RFlatB_b hok (gC.le hV2)
  have hRB:=fun V2 (hV2:VLe V V2)=>RBytesB_b hok (gC.le hV2)
  have hSN:=fun V2 (x y:LN) (hx:aX V2 x) (hy:aX V2 y) (e:x.n=y.n)=>(by have h9:=SameNode_c V2 x hx y hy;rw [sameB_eq e] at h9;exact h9:Fn Tryz.prog 27 [lnV x,lnV y] V2 fun v _=>v=.bool true)
  have hSC:=fun V2 (A B:Option Addr) (n m c1 c2:Nat) (h1:eV V2 A n b.c.xs) (h2:eV V2 B m b.c.xs)=>(by have h9:=SameCred_c V2 b.c.u b.c.g b.c.d b.c.u b.c.g b.c.d A B n m c1 c2 b.c.xs b.c.xs h1 h2;rw [decide_eq_true ⟨rfl,rfl,rfl,rfl⟩] at h9;exact h9)
  (refine bI Tryz.func21 rfl Tryz.ntmps21 rfl ?_;intro w0)
  repeat' (first|(refine aE ?_;refine pu9 ?_)|refine bV ?_|fail)
  refine bM (id:=1) _ mixed (List.Sublist.refl _) ?_;refine gt9 0 ?_;refine gt9 2 ?_;refine gt9 3 ?_;refine gt9 4 ?_;refine gt9 5 ?_;refine fP 6 rfl rfl (bL (k:=0) und_30 siz_70 rfl hK rfl hm0) ?_;refine gt9 7 ?_;refine aY (i:=1) rfl ?_;(refine aW rfl ⟨Tryz.call28⟩ rfl bF rfl (hU _ vl9) ?_;rintro v V2 B2 hV2 ⟨rfl,y,rfl,hyN,hyn⟩);refine aY (i:=8) rfl ?_;refine aN rfl (aG ⟨Tryz.call27⟩ rfl ((hSN _ y x0 (hyN.le vl9) (hN0.le vl9) (hyn.trans hhd)))) ?_;refine gt9 9 ?_;refine lA 10 rfl eZ (by kernel_rfl) (by kernel_rfl) (by kernel_rfl) (fT rfl rfl rfl rfl) rfl rfl vl9 bD (kV rfl) ?_;refine lA 12 rfl eZ (by kernel_rfl) (by kernel_rfl) (by kernel_rfl) (fT rfl rfl rfl rfl) rfl rfl vl9 bD (kV rfl) ?_;refine lA 13 rfl eZ (by kernel_rfl) (by kernel_rfl) (by kernel_rfl) (fT rfl rfl rfl rfl) rfl rfl vl9 bD (iC rfl) ?_;refine lA 14 rfl eZ (by kernel_rfl) (by kernel_rfl) (by kernel_rfl) (fT rfl rfl rfl rfl) rfl rfl vl9 bD (eE fld_130_1 rfl) ?_;refine lA 15 rfl eZ (by kernel_rfl) (by kernel_rfl) (by kernel_rfl) (fT rfl rfl rfl rfl) rfl rfl vl9 bD (mA agg_27 rfl bB (by exact rfl) (by exact rfl)) ?_;refine tH (i:=11) (by kernel_rfl) rfl (fT rfl rfl rfl rfl) vl9 vl9 bD ?_;(refine aW rfl ⟨Tryz.call30⟩ rfl bF rfl (hC _ vl9) ?_;rintro v V3 B3 hV3 ⟨rfl,A5,n5,c5,rfl,hI5⟩);refine tH (i:=16) (by kernel_rfl) rfl (fT rfl rfl rfl rfl) vl9 vl9 bD ?_;refine aN rfl (aG ⟨Tryz.call29⟩ rfl ((hSC _ A5 I.A n5 I.n c5 I.k (hI5.le vl9) (hI.xs.le vl9)))) ?_;refine gt9 17 ?_;refine gt9 18 ?_;refine lA 19 rfl eZ (by kernel_rfl) (by kernel_rfl) (by kernel_rfl) (fT rfl rfl rfl rfl) rfl rfl vl9 bD (kV rfl) ?_;refine lA 21 rfl eZ (by kernel_rfl) (by kernel_rfl) (by kernel_rfl) (fT rfl rfl rfl rfl) rfl rfl vl9 bD (kV rfl) ?_;refine tH (i:=20) (by kernel_rfl) rfl (fT rfl rfl rfl rfl) vl9 vl9 bD ?_;(refine aW rfl ⟨Tryz.call31⟩ rfl bF rfl (hF _ vl9) ?_;rintro v V6 B6 hV6 ⟨rfl,y6,rfl,hy6N,hy6n⟩);refine tH (i:=22) (by kernel_rfl) rfl (fT rfl rfl rfl rfl) vl9 vl9 bD ?_;(refine aW rfl ⟨Tryz.call89⟩ rfl bF rfl (hRF _ vl9) ?_;rintro v V7 B7 hV7 ⟨rfl,y7,rfl,hy7N,hy7n⟩);refine tH (i:=23) (by kernel_rfl) rfl (fT rfl rfl rfl rfl) vl9 vl9 bD ?_;refine aN rfl (aG ⟨Tryz.call27⟩ rfl ((hSN _ y6 y7 (hy6N.le vl9) (hy7N.le vl9) (hy6n.trans hy7n.symm)))) ?_;refine gt9 24 ?_;refine gt9 25 ?_;refine lA 26 rfl eZ (by kernel_rfl) (by kernel_rfl) (by kernel_rfl) (fT rfl rfl rfl rfl) rfl rfl vl9 bD (kV rfl) ?_;refine lA 28 rfl eZ (by kernel_rfl) (by kernel_rfl) (by kernel_rfl) (fT rfl rfl rfl rfl) rfl rfl vl9 bD (kV rfl) ?_;refine tH (i:=27) (by kernel_rfl) rfl (fT rfl rfl rfl rfl) vl9 vl9 bD ?_;refine aN rfl (qQ ⟨Tryz.call24⟩ rfl bF (hB _ vl9)) ?_;refine tH (i:=29) (by kernel_rfl) rfl (fT rfl rfl rfl rfl) vl9 vl9 bD ?_;refine aN rfl (qQ ⟨Tryz.call90⟩ rfl bF (hRB _ vl9)) ?_;refine lA 30 rfl eZ (by kernel_rfl) (by kernel_rfl) (by kernel_rfl) (fT rfl rfl rfl rfl) rfl rfl vl9 bD (q_seql rfl rfl) ?_;refine gt9 31 ?_;refine gt9 32 ?_;refine aU (by kernel_rfl) vl9 vl9 bD ?_
  all_goals repeat' (first|refine gx9 ?_|fail)
  all_goals first
    | (exfalso;exact absurd rfl (by assumption))
    | ((refine bC Tryz.results21 (aB rfl) (List.Sublist.refl _) ?_);exact⟨congrArg Value.bool (decide_eq_true rfl),rfl⟩)
end
section
def blP (D:List PF) (u:PN) (p:List ByteArray):List PF:=cutP (p.foldl cO ((u,0) :: D))
def lowK (D:List PF) (s:ByteArray) (m:PN):List PF:=if m.h.opq=true then [] else dI (D.filterMap (gU s))
def d0P (u:PN) (t:List PN):List PF:=if u.h.opq=true then [] else dI (iA 1 t)
theorem step_dir {u m:PN} {D:List PF} {s:ByteArray} (hk:u.h.kind=2) (hl:dV u.ks s=some m) (hm:m.h.kind=2):cO ((u,0) :: D) s=(m,0) :: lowK D s m:=by
  rw [kC hk hl,fY (by show ¬m.h.kind=1;omega),dI,if_pos (by exact hm)]
  unfold lowK
  split
  · rfl
  · rfl
theorem fold_step_file {f:PF} (h:f.1.h.kind=1):∀ (p:List ByteArray),p≠[]→p.foldl cO [f]=[]
  | [],hp=>absurd rfl hp
  | s :: p,_=>by rw [List.foldl_cons,rA h,xZ]
theorem find_nil (n:PN):dN n []=some n:=by rw [dN]
def okH (us gs:List PR) (h:Hd):Prop:=(jM us h.user).isSome=true∧(jM gs h.group).isSome=true
structure Own2 (us gs:List PR) (u:PN) (t:List PN):Prop where
  own:∀ p m,dN u p=some m→¬m.h.kind=3→okH us gs m.h
  wht:∀ p s m,dN u (p ++ [s])=some m→m.h.kind=3→cO (blP (d0P u t) u p) s≠[]
section
variable {us gs : List PR} {t : List PN}
end
end
section
def ndP (h:Hd) (ks:PKs):Prop:=ks.Pairwise fun a b=>¬a.1=b.1
theorem nd_ok {u:Bool}:∀ (n:PN) (d so:Nat),so≤60→(cH u d so n).2=0→cA ndP n:=by
  refine PN.ind (p:=fun n=>∀ (d so:Nat),so≤60→(cH u d so n).2=0→cA ndP n) ?_
  intro h ks ih d so hs hc
  obtain⟨⟨h1,_⟩,_,h3⟩:=rB.1 hc
  obtain⟨h5,h4⟩:=tE (by omega) h3
  exact .mk (h5.imp fun {a b} hab e=>absurd (e▸hab) (List.lt_irrefl _)) fun k hk=>by
    obtain⟨so',hs',hc'⟩:=(h4 k hk).2.2
    exact ih k hk (d+1) so' hs' hc'
theorem tree_nd {u:Bool} {n:PN} (h:dK u n=0):cA ndP n:=nd_ok n 0 0 (by omega) (rU.1 h).2
theorem d0_pos (u:PN) (t:List PN):∀ g∈d0P u t,0<g.2:=fun g hg=>by
  unfold d0P at hg
  split at hg
  · cases hg
  · exact lay_pos t 1 (by omega) g ((sV _).subset hg)
theorem low_pos {D:List PF} (h:∀ g∈D,0<g.2) (s:ByteArray) (m:PN):∀ g∈lowK D s m,0<g.2:=fun g hg=>by
  unfold lowK at hg
  split at hg
  · cases hg
  · exact step_pos h g ((sV _).subset hg)
theorem walk_top:∀ (ss:List ByteArray) (u:PN) (D:List PF) (f:PF) (r:List PF),u.h.kind=2→(∀ g∈D,0<g.2)→ss.foldl cO ((u,0) :: D)=f :: r→f.2=0→dN u ss=some f.1∧∀ i,i≤ss.length→∃ g r',(ss.take i).foldl cO ((u,0) :: D)=g :: r'∧g.2=0
  | [],u,D,f,r,hk,hD,hw,hf=>by
    rw [List.foldl_nil] at hw
    injection hw with h1 h2
    subst h1
    exact⟨find_nil u,fun i hi=>⟨(u,0),D,by rw [List.take_nil,List.foldl_nil],rfl⟩⟩
  | s :: ss,u,D,f,r,hk,hD,hw,hf=>by
    rw [List.foldl_cons] at hw
    have bad:∀ (E:List PF),(∀ g∈E,0<g.2)→ss.foldl cO E=f :: r→False:=fun E hE hh=>by
      have:=fold_pos ss hE f (by rw [hh];simp)
      omega
    cases hl:dV u.ks s with
    | none =>
      rw [qY hk hl] at hw
      exact(bad _ (fun g hg=>step_pos hD g (gO hg)) hw).elim
    | some m =>
      by_cases hm:m.h.kind=2
      · rw [step_dir hk hl hm] at hw
        obtain⟨h1,h2⟩:=walk_top ss m _ f r hm (low_pos hD s m) hw hf
        refine⟨by rw [xJ,if_pos hk,hl];exact h1,fun i hi=>?_⟩
        cases i with
        | zero=>exact⟨(u,0),D,by rw [List.take_zero,List.foldl_nil],rfl⟩
        | succ i =>
          obtain⟨g,r',h3,h4⟩:=h2 i (by simp at hi;omega)
          exact⟨g,r',by rw [List.take_succ_cons,List.foldl_cons,step_dir hk hl hm];exact h3,h4⟩
      · rw [kC hk hl] at hw
        by_cases h1:m.h.kind=1
        · rw [kN (by exact h1)] at hw
          cases ss with
          | nil =>
            rw [List.foldl_nil] at hw
            injection hw with h2 h3
            subst h2
            refine⟨by rw [xJ,if_pos hk,hl];exact find_nil m,fun i hi=>?_⟩
            cases i with
            | zero=>exact⟨(u,0),D,by rw [List.take_zero,List.foldl_nil],rfl⟩
            | succ i =>
              refine⟨(m,0),[],?_,rfl⟩
              rw [List.take_succ_cons,List.take_nil,List.foldl_cons,List.foldl_nil,kC hk hl,kN (by exact h1)]
          | cons s2 ss=>rw [fold_step_file (by exact h1) _ (by simp)] at hw;cases hw
        · rw [fY (by exact h1),dI,if_neg (by exact hm),xZ] at hw;cases hw
theorem walk_d0 {u:PN} {t:List PN} (hk:u.h.kind=2) (ss:List ByteArray):bY (u :: t) ss=ss.foldl cO ((u,0) :: d0P u t):=by
  unfold bY;rw [iG hk];rfl
def OwnB (b:BX):Prop:=Own2 b.us b.gs (upB b) b.ls.tail
theorem OwnB.grow {b:BX} (h:OwnB b) {u:PN} (hu:Own2 b.us b.gs u b.ls.tail):OwnB (iZ b u).1:=by
  unfold iZ
  split
  · exact h
  · split
    · exact h
    · exact hu
structure BoxT (b:BX):Prop where
  e:b.ls=upB b :: b.ls.tail
  k:(upB b).h.kind=2
  nd:cA ndP (upB b)
theorem bK.t {b:BX} (hok:bK b):BoxT b:=by
  have hl:=hok.l1
  cases hb:b.ls with
  | nil=>rw [hb] at hl;simp at hl
  | cons n0 t =>
    have e:upB b=n0:=by unfold upB;rw [hb];rfl
    have ht:=hok.up n0 (by rw [hb];rfl)
    exact⟨by rw [e,hb];rfl,by rw [e];exact(rU.1 ht).1,by rw [e];exact tree_nd ht⟩
section
variable {b : BX} (hT : BoxT b) (hO : OwnB b)
include hT hO
end
end
section
theorem spotK_look {b:BX} {ss:List ByteArray}:∀ k,(eN b ss k).2=0→∃ par,(eN b ss k).1=fF b (ss.take k) par
  | 0,_=>⟨thZ,by rw [eN,List.take_zero]⟩
  | k+1,h=>by
    rw [eN] at h ⊢
    split at h
    · rename_i h1;exact absurd h h1
    · split at h
      · simp at h
      · split at h
        · simp at h
        · split at h
          · simp at h
          · rename_i h1 h2 h3 h4
            rw [if_neg h1,if_neg h2,if_neg h3,if_neg h4]
            exact⟨_,rfl⟩
theorem nX {b:BX} {l:List UInt8} (h:cS b l=0):∃ f r,bY b.ls (aK l)=f :: r∧(aV b l).n=f.1∧(aV b l).lay=f.2∧(aV b l).th.dir=decide (f.1.h.kind=2):=by
  unfold cS at h
  split at h
  · rename_i h1;exact absurd h h1
  · split at h
    · rename_i h1;exact absurd h h1
    · split at h
      · omega
      · rename_i h1 h2 h3
        obtain⟨par,hp⟩:=spotK_look (aK l).length (Decidable.not_not.1 h2)
        rw [List.take_length] at hp
        have e:aV b l=fF b (aK l) par:=hp
        have h3:¬(aV b l).is=false:=h3
        rw [e] at h3 ⊢
        unfold fF at h3 ⊢
        cases hw:bY b.ls (aK l) with
        | nil=>rw [hw] at h3;exact absurd rfl h3
        | cons f r=>exact⟨f,r,rfl,rfl,rfl,rfl⟩
end
section
theorem grow_tail {b:BX} (u:PN):(iZ b u).1.ls.tail=b.ls.tail:=by
  unfold iZ;(repeat' split)<;>rfl
theorem tail_putG {b:BX} (x u:PN) (ss:List ByteArray):(vZ b x u ss).1.ls.tail=b.ls.tail:=by
  unfold vZ;(repeat' split)<;>first|rfl|exact grow_tail _
theorem pX {b:BX} (ss:List ByteArray) (φ:Hd→Hd):(fV b ss φ).1.ls.tail=b.ls.tail:=by
  unfold fV;(repeat' split)<;>first|rfl|exact grow_tail _
theorem tail_make {b:BX} (ss:List ByteArray) (par:TH) (kind mode:Int) (dt:ByteArray):(iQ b ss par kind mode dt).1.ls.tail=b.ls.tail:=by
  unfold iQ uK;(repeat' split)<;>first|rfl|exact tail_putG _ _ _
theorem tail_do (b:BX) (c:CL):(doP b c).1.ls.tail=b.ls.tail:=by
  have ch:∀ r:BX×Int,r.1.ls.tail=b.ls.tail→(chT r).1.ls.tail=b.ls.tail:=fun r h=>h
  have m4:∀ dir n u ss other,(uN b dir n u ss other).1.ls.tail=b.ls.tail:=fun dir n u ss other=>by
    unfold uN;(repeat' split)<;>first|rfl|exact tail_putG _ _ _
  have m3:∀ dir ss other,(tV b dir ss other).1.ls.tail=b.ls.tail:=fun dir ss other=>by
    unfold tV;(repeat' split)<;>first|rfl|exact m4 _ _ _ _ _
  have m2:∀ a t ss other,(tM b a t ss other).1.ls.tail=b.ls.tail:=fun a t ss other=>by
    unfold tM;(repeat' split)<;>first|rfl|exact m3 _ _ _
  have o2:∀ l u g,(uE b l u g).1.ls.tail=b.ls.tail:=fun l u g=>by
    unfold uE;(repeat' split)<;>first|rfl|exact pX _ _
  unfold doP
  by_cases o0:1≤c.op∧c.op≤3
  · rw [if_pos o0]
  rw [if_neg o0]
  by_cases o1:c.op=4
  · rw [if_pos o1];refine ch _ ?_;unfold gJ;(repeat' split)<;>first|rfl|exact tail_make _ _ _ _ _|exact pX _ _
  rw [if_neg o1]
  by_cases o2':c.op=5
  · rw [if_pos o2'];refine ch _ ?_;unfold kJ;(repeat' split)<;>first|rfl|exact tail_make _ _ _ _ _
  rw [if_neg o2']
  by_cases o3:c.op=6
  · rw [if_pos o3];refine ch _ ?_;unfold eL gone2;(repeat' split)<;>first|rfl|exact grow_tail _
  rw [if_neg o3]
  by_cases o4:c.op=7
  · rw [if_pos o4];refine ch _ ?_;unfold rM;(repeat' split)<;>first|rfl|exact m2 _ _ _ _
  rw [if_neg o4]
  by_cases o5:c.op=8
  · rw [if_pos o5];refine ch _ ?_;unfold nQ;(repeat' split)<;>first|rfl|exact pX _ _
  rw [if_neg o5]
  by_cases o6:c.op=9
  · rw [if_pos o6];refine ch _ ?_;unfold sZ;(repeat' split)<;>first|rfl|exact o2 _ _ _
  rw [if_neg o6]
  by_cases o7:c.op=10
  · rw [if_pos o7];refine ch _ ?_;unfold mN;(repeat' split)<;>first|rfl|exact pX _ _
  rw [if_neg o7]
  by_cases o8:c.op=11
  · rw [if_pos o8];refine ch _ ?_;unfold mN;(repeat' split)<;>first|rfl|exact pX _ _
  rw [if_neg o8]
  by_cases o9:c.op=12
  · rw [if_pos o9]
  rw [if_neg o9]
  by_cases o10:c.op=13
  · rw [if_pos o10];refine ch _ ?_;unfold beP;(repeat' split)<;>rfl
  rw [if_neg o10]
  by_cases o11:c.op=14
  · rw [if_pos o11]
  rw [if_neg o11]
structure InB (x:CF) (ls:List PN) (b:BX):Prop where
  ok:bK b
  us:b.us=x.M.us
  gs:b.gs=x.M.gs
  q:b.q=x.q
  tl:b.ls.tail=ls
  room:eF (upB b)≤b.q
theorem InB.step {x:CF} {ls:List PN} {b:BX} (h:InB x ls b) (c:CL):InB x ls (doP b c).1:=by
  have g:=good_do h.ok c
  have hq:=(qt_do h.ok.q.2 h.room c).1.room h.room
  exact⟨g.ok,g.us.trans h.us,g.gs.trans h.gs,g.q.trans h.q,(tail_do b c).trans h.tl,by rw [show (doP b c).1.q=b.q from g.q];exact hq⟩
theorem blocks_root {u g:Int} (hu:0≤u∧u≤65535) (hg:0≤g∧g≤65535):eF (.mk ⟨2,493,u,g,false,[],⟨#[]⟩⟩ [])≤1:=by
  have hl:(qH (.mk ⟨2,493,u,g,false,[],⟨#[]⟩⟩ [])).length≤20:=by
    rw [layP_eq,oG]
    simp [rT,lH,nJ,b16]
  unfold eF iS
  rw [if_pos (root_tree9 hu hg)]
  omega
theorem InB.new {x:CF} {ls:List PN} (h:pD x ls=0):InB x ls (newB x.M.us x.M.gs x.c x.q ls):=by
  obtain⟨_,_,_,_,k5,_,k7⟩:=cfg_ok h
  obtain⟨z,hz⟩:=sR k7
  refine⟨newOk h,rfl,rfl,rfl,rfl,?_⟩
  have e:upB (newB x.M.us x.M.gs x.c x.q ls)=z:=by
    show (cT true x.M.us x.M.gs (.mk (uP x.c) [])).getD pnZ=z
    rw [hz];rfl
  rw [e]
  obtain⟨u,g,rfl,h1,h2⟩:=vP hz
  have:=blocks_root (yB (m:=x.M.us) h1) (yB (m:=x.M.gs) h2)
  show eF (.mk ⟨2,493,u,g,false,[],⟨#[]⟩⟩ [])≤x.q
  omega
end
section
def usO:List PR:=[⟨0,1000,100⟩]
def bO:BX:=newB usO usO ⟨0,0,15,[]⟩ 4 []
def cO1:CL:=⟨4,⟨#[47,102]⟩,⟨#[]⟩,⟨#[]⟩,⟨#[120]⟩,420,0⟩
def cO2:CL:=⟨3,⟨#[47,102]⟩,⟨#[]⟩,⟨#[]⟩,⟨#[]⟩,0,0⟩
theorem opens_cfg {x:CF} (h1:x.M.us=usO) (h2:x.M.gs=usO) (h3:x.c=⟨0,0,15,[]⟩) (h4:x.q=4):pD x []=0:=by
  unfold pD cfgL vY
  rw [h1,h2,h3,h4]
  decide +kernel
theorem opens_put:(gJ bO cO1).2=0:=by decide +kernel
theorem opens_read:(iY (gJ bO cO1).1 cO2).2=0∧(iY (gJ bO cO1).1 cO2).1.data=⟨#[120]⟩:=by decide +kernel
theorem uC:PtrIs Tryz.prog 37:=⟨by kernel_rfl⟩
theorem DoR.inv {p:Nat} {b:BX} {t:TD} {e:Int} {v:Value} {V:aI} {Bs:List Box} (h:DoR p (b,t,e) v V Bs):∃ (A:Option Addr) (n c:Nat),v=.tuple #[tdV t A n c,bT e]∧bZ V A n t.names∧n≤c∧eO V p b Bs:=by
  obtain⟨⟨A,n,c,h1,h2,h3⟩,h4⟩:=h
  exact⟨A,n,c,h1,h2,h3,h4⟩
theorem opens_facts {x:CF} (h1:x.M.us=usO) (h2:x.M.gs=usO) (h3:x.c=⟨0,0,15,[]⟩) (h4:x.q=4):∃ b0 b1 t2,newB x.M.us x.M.gs x.c x.q []=b0∧bK b0∧bK b1∧doP b0 cO1=(b1,tdZ,0)∧doP b1 cO2=(b1,t2,0)∧t2.data=⟨#[120]⟩:=by
  have h0:=newOk (opens_cfg h1 h2 h3 h4)
  rw [h1,h2,h3,h4] at h0 ⊢
  have e1:doP bO cO1=((gJ bO cO1).1,tdZ,0):=by
    have e:doP bO cO1=chT (gJ bO cO1):=by unfold doP;rw [if_neg (by decide),if_pos (by decide)]
    rw [e]
    show ((gJ bO cO1).1,tdZ,(gJ bO cO1).2)=_
    rw [opens_put]
  have g:=(good_do (b:=bO) h0 cO1).ok
  rw [e1] at g
  refine⟨bO,(gJ bO cO1).1,(iY (gJ bO cO1).1 cO2).1,rfl,h0,g,e1,?_,opens_read.2⟩
  have e:doP (gJ bO cO1).1 cO2=((gJ bO cO1).1,iY (gJ bO cO1).1 cO2):=by unfold doP;rw [if_pos (by decide)]
  rw [e]
  have h9:=opens_read.1
  generalize iY (gJ bO cO1).1 cO2=r at *
  obtain⟨r1,r2⟩:=r
  simp only [] at h9
  rw [h9]
attribute [local irreducible] AtQ GoC GoL GoW QO QP Fn RV bX aL VLe cG bT
attribute [local irreducible] FnB eO DoR
theorem Plain_c (V:aI) (q:Int):Fn Tryz.prog 46 [.int .i64 q] V fun v V'=>∃ x:CF,v=cfV x∧CfV V' x∧x.M.us=usO∧x.M.gs=usO∧x.c=⟨0,0,15,[]⟩∧x.q=q∧x.lo=[]:=by
  (refine aH Tryz.func46 rfl Tryz.ntmps46 rfl ?_;intro w0)
  repeat' (first|(refine aE ?_;first|(refine cJ ?_;(refine aP rfl und_22 siz_197 zec_197 rfl rfl rfl rfl rfl rfl rfl ?_;intro γ))|(refine al9 ?_;intro γ)|refine pu9 ?_)|refine gx9 ?_|refine dX [0,1] rfl ?_)
  refine kO (gH.here _ _ _ _) ?_
  intro V1 hV1 hc1
  have hM:tR V1 (some ⟨γ,0,none⟩) 1 usO:=⟨⟨rfl,by unfold maxLen;omega,fun _=>⟨γ,0,rfl,fun k y hy=>by
    cases k with
    | zero=>cases hy;exact hc1
    | succ k=>cases hy⟩⟩,fun r hr=>by rw [List.mem_singleton.1 hr];unfold inR64;decide⟩
  repeat' (first|(refine aE ?_;first|refine st9 ?_|refine pu9 ?_)|refine bV ?_|fail)
  all_goals
    (refine aQ Tryz.results46 (aS agg_29 rfl bB (by exact rfl)) ?_)
    exact⟨⟨⟨some ⟨γ,0,none⟩,1,1,usO,some ⟨γ,0,none⟩,1,1,usO⟩,⟨0,0,15,[]⟩,none,0,0,q,none,0,0,[]⟩,rfl,⟨⟨hM.le vl9,Nat.le_refl _,hM.le vl9,Nat.le_refl _⟩,eV.nil,eV.nil⟩,rfl,rfl,rfl,rfl,rfl⟩
theorem opens_c (V:aI):Fn Tryz.prog 8 [] V fun v _=>v=.bool true:=by
  have hs0:=fun V2=>(by have h:=same_c V2 0 0 (by omega);rw [decide_eq_true rfl] at h;exact h:Fn Tryz.prog 15 [bT 0,.int .i64 0] V2 fun v _=>v=.bool true)
  (refine aH Tryz.func8 rfl Tryz.ntmps8 rfl ?_;intro w0)
  repeat' (first|(refine aE ?_;refine pu9 ?_)|refine gx9 ?_|refine dX [0,1] rfl ?_)
  refine aM rfl ⟨Tryz.call46⟩ rfl rfl (Plain_c _ 4) ?_
  rintro v V1 hV1 ⟨x,rfl,hx,h1,h2,h3,h4,h5⟩
  have hcf:=opens_cfg h1 h2 h3 h4
  obtain⟨b0,b1,t2,hb0,hok0,hok1,hd1,hd2,hdt⟩:=opens_facts h1 h2 h3 h4
  have hNew:=fun V2 (hV2:VLe V1 V2)=>New_bx V2 x (hx.le hV2) none 0 0 [] ⟨eT.nil,by simp⟩
  rw [show newB x.M.us x.M.gs x.c x.q (([]:List LN).map LN.n)=b0 from hb0] at hNew
  have hc1:oR cO1:=⟨by decide,by decide,by decide,by decide⟩
  have hc2:oR cO2:=⟨by decide,by decide,by decide,by decide⟩
  repeat' (first|(refine aE ?_;first|(refine aD ?_;(refine aW rfl ⟨Tryz.call13⟩ rfl bF rfl (hNew _ vl9) ?_;rintro v V3 B3 hV3 (⟨hn,rfl,rfl⟩|⟨hn,p,rfl,hB⟩);exact absurd hcf hn))|(refine cX ?_;refine aR (lO uC rfl) ?_)|refine pu9 ?_)|refine fX ?_|refine cL (id:=2) ?_)
  all_goals first
    | (exfalso;exact absurd rfl (by assumption))
    | skip
  repeat' (first|(refine aE ?_;first|(refine aD ?_;(first|(refine aW rfl ⟨Tryz.call18⟩ rfl bF rfl ((Do_c _ p b0 B3 hok0 (hB.le vl9) cO1 hc1)) ?_;rintro v V4 B4 hV4 hR4;rw [hd1] at hR4;obtain⟨A4,n4,c4,rfl,hS4,hn4,hB4⟩:=DoR.inv hR4)|(refine aW rfl ⟨Tryz.call18⟩ rfl bF rfl ((Do_c _ p b1 B4 hok1 (hB4.le vl9) cO2 hc2)) ?_;rintro v V5 B5 hV5 hR5;rw [hd2] at hR5;obtain⟨A5,n5,c5,rfl,hS5,hn5,hB5⟩:=DoR.inv hR5)|refine aN rfl (aG ⟨Tryz.call15⟩ rfl (hs0 _)) ?_))|refine st9 ?_|(refine al9 ?_;intro γ)|refine pu9 ?_)|refine bV ?_|fail)
  all_goals first
    | (exfalso;exact absurd rfl (by assumption))
    | ((refine aQ Tryz.results8 (aB rfl) ?_);exact congrArg Value.bool (decide_eq_true hdt))
end
section
theorem firstF_zero {m:List Int} (h0:∀ y∈m,y=0):eJ m=0:=by
  induction m with
  | nil=>rfl
  | cons a m ih=>rw [jA,if_neg (not_not_intro (h0 a (by simp)))];exact ih fun x hx=>h0 x (by simp [hx])
theorem firstF_take {l:List Int} {k:Nat} {e:Int} (h:l[k]?=some e) (h0:∀ x∈l.take k,x=0):eJ l=if ¬e=0 then e else eJ (l.drop (k+1)):=by
  rw [←firstF_drop h]
  have:eJ (l.take k)=0:=by
    generalize l.take k=m at *
    induction m with
    | nil=>rfl
    | cons a m ih=>rw [jA,if_neg (not_not_intro (h0 a (by simp)))];exact ih fun x hx=>h0 x (by simp [hx])
  conv=>lhs;rw [←List.take_append_drop k l,xO,if_neg (not_not_intro this)]
attribute [local irreducible] AtQ GoC GoL GoW QO QP Fn RV bX aL VLe cG bT
attribute [local irreducible] FnB
theorem BoxFault_c (V:aI) (x:CF) (hx:CfV V x) (A:Option Addr) (n c:Nat) (ls:List LN) (h:dP V A n ls):Fn Tryz.prog 14 [cfV x,.slice A n c] V fun v _=>v=.int .i64 (pD x (ls.map LN.n)):=by
  have hl:=h.1.1
  have hm:=h.1.max
  have c1:=fun V2 (hV2:VLe V V2)=>nU V2 x.M.A x.M.n x.M.c x.M.us (hx.M.1.le hV2)
  have c2:=fun V2 (hV2:VLe V V2)=>nU V2 x.M.B x.M.m x.M.e x.M.gs (hx.M.2.2.1.le hV2)
  have c3:=fun V2 (hV2:VLe V V2)=>uD V2 x.c.u x.c.g x.c.d x.A x.n x.k x.c.xs (hx.xs.le hV2)
  have c4:=fun V2 (hV2:VLe V V2)=>sB V2 x.M (hx.M.le hV2) (kX 0 0 x.c.u x.c.g false ⟨#[]⟩) (iR (Nat.zero_le _))
  have e4:(cT true x.M.us x.M.gs (kX 0 0 x.c.u x.c.g false ⟨#[]⟩).n).isSome=!decide (uL x.M.us x.M.gs x.c):=moved_unm rfl rfl
  rw [e4] at c4
  have b1:=(vL x.M.us).1
  have b2:=(vL x.M.gs).1
  have b3:=(credF_bd x.c.u x.c.g x.c.d x.c.xs).1
  have e:=cfgF_eq x (ls.map LN.n)
  rw [List.length_map,hl] at e
  rw [e]
  clear e e4
  have e5:((ls.map LN.n).map (dK false))=ls.map (fun y=>dK false y.n):=by rw [List.map_map];rfl
  rw [e5]
  clear e5
  generalize cT true x.M.us x.M.gs (kX 0 0 x.c.u x.c.g false ⟨#[]⟩).n=mv at *
  generalize cN x.M.us=m1 at *
  generalize cN x.M.gs=m2 at *
  generalize fR x.c.u x.c.g x.c.d x.c.xs=m3 at *
  by_cases h1:m1=0
  rotate_left
  · rw [if_pos h1]
    (refine aH Tryz.func14 rfl Tryz.ntmps14 rfl ?_;intro w0)
    repeat' (first|(refine aE ?_;first|(refine aD ?_;refine aN rfl (aG ⟨Tryz.call58⟩ rfl (c1 _ vl9)) ?_)|(refine al9 ?_;intro γ)|refine pu9 ?_)|refine gx9 ?_|refine dX [0,1,2,3] rfl ?_|(refine aA rfl ?_ ?_<;>intro hq<;>try exact no9))
    all_goals first
      | exact no9
      | ((refine aQ Tryz.results14 (aB rfl) ?_);rfl)
  rw [if_neg (not_not_intro h1)]
  by_cases h2:m2=0
  rotate_left
  · rw [if_pos h2]
    (refine aH Tryz.func14 rfl Tryz.ntmps14 rfl ?_;intro w0)
    repeat' (first|(refine aE ?_;first|(refine aD ?_;(first|refine aN rfl (aG ⟨Tryz.call58⟩ rfl (c1 _ vl9)) ?_|refine aN rfl (aG ⟨Tryz.call58⟩ rfl (c2 _ vl9)) ?_))|(refine al9 ?_;intro γ)|refine pu9 ?_)|refine gx9 ?_|refine dX [0,1,2,4,5,6] rfl ?_|(refine aA rfl ?_ ?_<;>intro hq<;>try exact no9))
    all_goals first
      | exact no9
      | ((refine aQ Tryz.results14 (aB rfl) ?_);rfl)
  rw [if_neg (not_not_intro h2)]
  (refine aH Tryz.func14 rfl Tryz.ntmps14 rfl ?_;intro w0)
  repeat' (first|(refine aE ?_;first|(refine aD ?_;(first|refine aN rfl (aG ⟨Tryz.call58⟩ rfl (c1 _ vl9)) ?_|refine aN rfl (aG ⟨Tryz.call58⟩ rfl (c2 _ vl9)) ?_|refine aN rfl (aG ⟨Tryz.call59⟩ rfl (c3 _ vl9)) ?_))|(refine al9 ?_;intro γ)|refine pu9 ?_)|refine cV ?_|(refine aJ rfl rfl rfl ?_ ?_<;>intro hq<;>try exact no9)|(refine aA rfl ?_ ?_<;>intro hq<;>try exact no9))
  all_goals first
    | exact no9
    | (refine eY ?_;(refine aQ Tryz.results14 (aB rfl) ?_)
       first
       | (rw [if_pos (by omega)];done)
       | (rw [if_neg (by omega),if_pos (by omega)];done)
       | (rw [if_neg (by omega),if_neg (by omega),if_pos (by omega)];done))
    | skip
  rw [if_neg (show ¬¬m3=0 by omega),if_neg (show ¬(x.q<1∨64<x.q) by omega),if_neg (show ¬3<n by omega)]
  obtain⟨g2,rfl⟩:∃ g2,g2=γ:=⟨γ,rfl⟩
  refine bQ (fun F V' L' m=>∃ k:Nat,VLe V V'∧[⟨g2,29,cfC x⟩]=L'∧k≤n∧(∀ y∈(ls.map (fun y=>dK false y.n)).take k,y=0)∧m=n - k∧F=[(1,.slice A n c),(2,.pointer (some ⟨g2,0,none⟩)),(8,.int .i64 (k:Int))]) (m:=n) ⟨0,VLe.refl _,rfl,Nat.zero_le _,by simp,by omega,rfl⟩ bH rfl sl9 ?_
  rintro F V' L' m ⟨k,hV',rfl,hkn,h0,rfl,rfl⟩
  by_cases hlt:k<n
  · obtain⟨b1,off,w,hA,hw,hc1,hwN⟩:=(h.le hV').at_ hlt
    have hT:=fun V2 (hV2:VLe V' V2)=>uH V2 w (hwN.le hV2) false
    have hi:(ls.map (fun y=>dK false y.n))[k]?=some (dK false w.n):=by rw [List.getElem?_map,hw];rfl
    have hd:=firstF_take hi h0
    have hbd:=vE false w.n
    generalize dK false w.n=tw at *
    repeat' (first|(refine aE ?_;first|(refine aD ?_;refine aN rfl (aG ⟨Tryz.call60⟩ rfl (hT _ vl9)) ?_)|(refine cK ?_;refine aR (bL und_30 siz_70 rfl hA rfl hlt) ?_)|refine pu9 ?_)|refine bW ?_|(refine aA rfl ?_ ?_<;>intro hq<;>try exact no9))
    all_goals first
      | (refine oV ?_;refine aZ _ (n - (k+1)) ⟨k+1,vl9,rfl,by omega,?_,rfl,rfl⟩ (by omega) bH sl9
         intro y hy
         rw [List.take_add_one,hi] at hy
         rcases List.mem_append.1 hy with hy|hy
         · exact h0 y hy
         · have hy:y∈[tw]:=hy
           rw [List.mem_singleton.1 hy];omega)
      | (refine eY ?_;(refine aQ Tryz.results14 (aB rfl) ?_);rw [hd,if_pos (show ¬tw=0 by omega),if_pos (show ¬tw=0 by omega)])
  · have hfz:eJ (ls.map (fun y=>dK false y.n))=0:=by
      rw [List.take_of_length_le (by rw [List.length_map,hl];omega)] at h0
      exact firstF_zero h0
    rw [if_neg (not_not_intro hfz)]
    by_cases hu:uL x.M.us x.M.gs x.c
    · rw [if_pos hu]
      rw [decide_eq_true hu] at c4
      repeat' (first|(refine aE ?_;first|(refine aD ?_;(refine aM rfl ⟨Tryz.call61⟩ rfl rfl (c4 _ vl9) ?_;rintro v V2 hV2 ⟨y,rfl,hyN,hyn⟩))|refine st9 ?_|(refine al9 ?_;intro γ)|refine pu9 ?_)|refine nS ?_|(refine aA rfl ?_ ?_<;>intro hq<;>try exact no9))
      all_goals first
        | exact no9
        | ((refine aQ Tryz.results14 (aB rfl) ?_);rfl)
    · rw [if_neg hu]
      rw [decide_eq_false hu] at c4
      repeat' (first|(refine aE ?_;first|(refine aD ?_;(refine aM rfl ⟨Tryz.call61⟩ rfl rfl (c4 _ vl9) ?_;rintro v V2 hV2 ⟨y,rfl,hyN,hyn⟩))|refine st9 ?_|(refine al9 ?_;intro γ)|refine pu9 ?_)|refine nS ?_|(refine aA rfl ?_ ?_<;>intro hq<;>try exact no9))
      all_goals first
        | exact no9
        | ((refine aQ Tryz.results14 (aB rfl) ?_);rfl)
theorem RNew_bx (V:aI) (x:CF) (hx:CfV V x) (A:Option Addr) (n c:Nat) (ls:List LN) (h:dP V A n ls) (hn:n≤3) (hu:¬uL x.M.us x.M.gs x.c):FnB Tryz.prog 17 [cfV x,.slice A n c] V [] fun v V' Bs'=>∃ (p:Nat) (I:BI) (L1:List Box),v=.pointer (some ⟨p,0,none⟩)∧Bs'=⟨p,130,bxC I (newB x.M.us x.M.gs x.c x.q (ls.map LN.n))⟩ :: L1∧oS V' (newB x.M.us x.M.gs x.c x.q (ls.map LN.n)) I L1:=by
  have hl:=h.1.1
  obtain⟨z,hz⟩:=sR hu
  have c4:=fun V2 (hV2:VLe V V2)=>sB V2 x.M (hx.M.le hV2) (kX 2 493 x.c.u x.c.g false ⟨#[]⟩) (iR (Nat.zero_le _))
  rw [show (kX 2 493 x.c.u x.c.g false ⟨#[]⟩).n=.mk (uP x.c) [] from rfl,hz] at c4
  have hsrc:=h.1.cells lG
  have hol:=ones_ln ls
  (refine bI Tryz.func17 rfl Tryz.ntmps17 rfl ?_;intro w0)
  repeat' (first|(refine aE ?_;first|(refine aD ?_;(refine aM rfl ⟨Tryz.call61⟩ rfl rfl (c4 _ vl9) ?_;rintro v V2 hV2 ⟨y,rfl,hyN,hyn⟩))|refine st9 ?_|(refine al9 ?_;intro γ)|refine pu9 ?_)|refine bV ?_|fail)
  rename_i g2 g5
  obtain⟨g7,rfl⟩:∃ g7,g7=γ:=⟨γ,rfl⟩
  have ho1:=tD y
  refine dD (fun F V' L'=>∃ (A3:Option Addr) (c3:Nat) (L3:List Box),V2=V'∧cU A3 1 c3 70 8 ([y].flatMap lnC) L3∧⟨g7,130,[.slice x.M.A x.M.n x.M.c,.slice x.M.B x.M.m x.M.e,.int .i64 x.c.u,.int .i64 x.c.g,.slice x.A x.n x.k,.int .i64 x.c.d,.int .i64 x.q,.slice A3 1 c3]⟩ :: L3=L'∧F=[(1,.slice A n c),(7,.pointer (some ⟨g7,0,none⟩))]) ?_ ?_
  · refine bM (id:=3) _ mixed (List.Sublist.cons _ (List.Sublist.refl _)) ?_;refine gt9 0 ?_;refine gt9 1 ?_;refine gt9 2 ?_;refine gt9 3 ?_;refine gt9 5 ?_;(refine dF (i:=4) (j:=6) (by kernel_rfl) rfl rfl rfl rfl vl9 vl9 bD ?_ ?_<;>first|((first|refine aR (bE one_30 rfl bB (by exact rfl)) ?_|refine aR (bE one_30 rfl bB (by assumption)) ?_|refine aR (cI one_30 rfl (by assumption)) ?_);refine aY (i:=6) rfl ?_;(refine aP rfl und_30 siz_70 zec_70 rfl rfl rfl rfl rfl rfl rfl ?_;intro γ);refine aY (i:=7) rfl ?_;(refine aT rfl und_30 inf_70 rfl rfl rfl cU.nil dT (cZ bB rfl) bG (by omega) rfl rfl ?_;intro A3 c3 L3 hr3);refine gt9 8 ?_;refine gt9 9 ?_;refine aY (i:=10) rfl ?_;refine aO rfl siz_30 rfl rfl rfl rfl bG dC rfl ?_;refine aU (by kernel_rfl) vl9 vl9 bD ?_)|((refine aP rfl und_30 siz_70 zec_70 rfl rfl rfl rfl rfl rfl rfl ?_;intro γ);refine aY (i:=4) rfl ?_;(first|refine aR (bE one_30 rfl bB (by exact rfl)) ?_|refine aR (bE one_30 rfl bB (by assumption)) ?_|refine aR (cI one_30 rfl (by assumption)) ?_);refine aY (i:=7) rfl ?_;(refine aT rfl und_30 inf_70 rfl rfl rfl cU.nil dT (cZ bB rfl) bG (by omega) rfl rfl ?_;intro A3 c3 L3 hr3);refine gt9 8 ?_;refine gt9 9 ?_;refine aY (i:=10) rfl ?_;refine aO rfl siz_30 rfl rfl rfl rfl bG dC rfl ?_;refine aU (by kernel_rfl) vl9 vl9 bD ?_))
    all_goals exact bR _ ⟨A3,c3,L3,rfl,hr3,rfl,rfl⟩ bH sp9
  rintro F V' L' ⟨A3,c3,L3,rfl,hr3,rfl,rfl⟩
  have hsrc2:=hsrc.le hV2
  repeat' (first|(refine aE ?_;first|(refine aD ?_;(refine aT rfl und_30 inf_70 rfl rfl rfl hr3 bF (fW hsrc2) bG (by omega) rfl rfl ?_;intro A4 c4 L4 hr4))|refine st9 ?_|refine pu9 ?_)|refine bV ?_|fail)
  all_goals
    (refine bC Tryz.results17 (aB rfl) (show List.Sublist (⟨g7,130,bxC ⟨x.M,x.A,x.n,x.k,A4,1+n,c4,y :: ls⟩ (newB x.M.us x.M.gs x.c x.q (ls.map LN.n))⟩ :: L4) _ from bD) ?_)
    refine⟨g7,⟨x.M,x.A,x.n,x.k,A4,1+n,c4,y :: ls⟩,L4,rfl,rfl,hx.M.le vl9,rfl,rfl,hx.xs.le vl9,trivial,?_,?_,?_,?_⟩
    · rw [List.flatMap_cons];simpa using hr4
    · intro w hw
      rcases List.mem_cons.1 hw with rfl|hw
      · exact hyN.le vl9
      · exact(h.2 w hw).le vl9
    · show (y :: ls).length=1+n
      rw [List.length_cons,hl];omega
    · show y.n :: ls.map LN.n=(cT true x.M.us x.M.gs (.mk (uP x.c) [])).getD pnZ :: ls.map LN.n
      rw [hz,hyn]
end
section
def RChB (p:Nat) (r:BX×Int) (v:Value) (V':aI) (Bs':List Box):Prop:=v=.int .i64 r.2∧eC V' p r.1 Bs'
attribute [local irreducible] AtQ GoC GoL GoW QO QP Fn RV bX aL VLe cG bT
attribute [local irreducible] FnB
theorem rgrow_c (V:aI) (p:Nat) (b:BX) (Bs:List Box) (hok:bK b) (h:eC V p b Bs) (y:LN) (hy:aX V y):FnB Tryz.prog 184 [.pointer (some ⟨p,0,none⟩),lnV y] V Bs (RChB p (iZ b y.n)):=by
  obtain⟨I,rfl,hI⟩:=h
  have hT:=fun V2 (hV2:VLe V V2)=>uH V2 y (hy.le hV2) true
  have hB:=fun V2 (hV2:VLe V V2)=>RBlocks_c V2 y (hy.le hV2)
  have htb:=vE true y.n
  have hm4:I.m≤4:=by rw [←hI.len];exact hok.l4
  have hm0:0<I.m:=by rw [←hI.len];exact hok.l1
  obtain⟨n0,t,hl,_⟩:=hok.root
  by_cases ht:dK true y.n=0
  · rw [ht] at hT
    by_cases hq2:b.q<eF y.n
    · rw [grow_quota ht hq2]
      (refine bI Tryz.func184 rfl Tryz.ntmps184 rfl ?_;intro w0)
      repeat' (first|(refine aE ?_;first|(refine aD ?_;(first|refine aN rfl (aG ⟨Tryz.call60⟩ rfl (hT _ vl9)) ?_|refine aN rfl (aG ⟨Tryz.call87⟩ rfl (hB _ vl9)) ?_))|(refine al9 ?_;intro γ)|refine pu9 ?_)|refine cD ?_|(refine aA rfl ?_ ?_<;>intro hq<;>try exact no9)|refine bN (id:=4) mixed (by kernel_rfl) ?_)
      all_goals try exact no9
      all_goals
        (refine bC Tryz.results184 (aB rfl) (List.Sublist.cons _ (List.Sublist.refl _)) ?_)
        exact⟨rfl,I,rfl,hI⟩
    · rw [grow_ok ht hq2]
      (refine bI Tryz.func184 rfl Tryz.ntmps184 rfl ?_;intro w0)
      repeat' (first|(refine aE ?_;first|(refine aD ?_;(first|refine aN rfl (aG ⟨Tryz.call60⟩ rfl (hT _ vl9)) ?_|refine aN rfl (aG ⟨Tryz.call87⟩ rfl (hB _ vl9)) ?_))|(refine al9 ?_;intro γ)|refine pu9 ?_)|refine cD ?_|(refine aA rfl ?_ ?_<;>intro hq<;>try exact no9)|refine bN (id:=4) mixed (by kernel_rfl) ?_)
      all_goals try exact no9
      have hdr:=hI.ls.1.drop (k:=1) (by omega) hI.le
      have hsrc:=hdr.cells lG
      have hon:=ones_ln (I.xs.drop 1)
      refine bM (id:=6) _ mixed (List.Sublist.cons_cons _ (List.nil_sublist _)) ?_;refine gt9 0 ?_;refine gt9 1 ?_;refine gt9 3 ?_;refine gt9 4 ?_;refine gt9 5 ?_;(refine dF (i:=2) (j:=6) (by kernel_rfl) rfl rfl rfl rfl vl9 vl9 bD ?_ ?_<;>first|((refine aP rfl und_30 siz_70 zec_70 rfl rfl rfl rfl rfl rfl rfl ?_;intro γ);refine aY (i:=6) rfl ?_;(first|refine aR (bE one_30 rfl bB (by exact rfl)) ?_|refine aR (bE one_30 rfl bB (by assumption)) ?_|refine aR (cI one_30 rfl (by assumption)) ?_);refine aY (i:=7) rfl ?_;(first|refine aR (kK und_30 siz_70 rfl rfl (by omega)) ?_|refine aR (gM und_30 siz_70 rfl rfl (by omega)) ?_);refine aY (i:=8) rfl ?_;(refine aT rfl und_30 inf_70 rfl rfl rfl (cU.close (f:=lnC) (xs:=[y]) (rest:=[]) lG rfl rfl (Nat.le_refl _) (by unfold maxLen;omega)) bF (fW hsrc) bG (by omega) rfl rfl ?_;intro A3 c3 L3 hr3);refine gt9 9 ?_;refine gt9 10 ?_;refine aY (i:=11) rfl ?_;refine aO rfl siz_30 rfl rfl rfl rfl bG dC rfl ?_;refine aU (by kernel_rfl) vl9 vl9 bD ?_)|((first|refine aR (bE one_30 rfl bB (by exact rfl)) ?_|refine aR (bE one_30 rfl bB (by assumption)) ?_|refine aR (cI one_30 rfl (by assumption)) ?_);(refine dF (i:=2) (j:=7) (by kernel_rfl) rfl rfl rfl rfl vl9 vl9 bD ?_ ?_<;>first|((refine aP rfl und_30 siz_70 zec_70 rfl rfl rfl rfl rfl rfl rfl ?_;intro γ);refine aY (i:=7) rfl ?_;(first|refine aR (kK und_30 siz_70 rfl rfl (by omega)) ?_|refine aR (gM und_30 siz_70 rfl rfl (by omega)) ?_);refine aY (i:=8) rfl ?_;(refine aT rfl und_30 inf_70 rfl rfl rfl (cU.close (f:=lnC) (xs:=[y]) (rest:=[]) lG rfl rfl (Nat.le_refl _) (by unfold maxLen;omega)) bF (fW hsrc) bG (by omega) rfl rfl ?_;intro A3 c3 L3 hr3);refine gt9 9 ?_;refine gt9 10 ?_;refine aY (i:=11) rfl ?_;refine aO rfl siz_30 rfl rfl rfl rfl bG dC rfl ?_;refine aU (by kernel_rfl) vl9 vl9 bD ?_)|((first|refine aR (kK und_30 siz_70 rfl rfl (by omega)) ?_|refine aR (gM und_30 siz_70 rfl rfl (by omega)) ?_);refine aY (i:=2) rfl ?_;(refine aP rfl und_30 siz_70 zec_70 rfl rfl rfl rfl rfl rfl rfl ?_;intro γ);refine aY (i:=8) rfl ?_;(refine aT rfl und_30 inf_70 rfl rfl rfl (cU.close (f:=lnC) (xs:=[y]) (rest:=[]) lG rfl rfl (Nat.le_refl _) (by unfold maxLen;omega)) bF (fW hsrc) bG (by omega) rfl rfl ?_;intro A3 c3 L3 hr3);refine gt9 9 ?_;refine gt9 10 ?_;refine aY (i:=11) rfl ?_;refine aO rfl siz_30 rfl rfl rfl rfl bG dC rfl ?_;refine aU (by kernel_rfl) vl9 vl9 bD ?_))))
      all_goals
        repeat' (first|(refine aE ?_;refine pu9 ?_)|refine bV ?_|fail)
        have hcap:=hr3.cap
        refine eA hr3 bF ?_ (by intro x9 hx9;simp [jK] at hx9;subst hx9;exact⟨_,bB⟩)
        intro V3 hV3 hc3
        (refine bC Tryz.results184 (aB rfl) (show List.Sublist [⟨p,130,bxC { I with K:=A3,m:=1+(I.m - Int.toNat 1),e:=c3,xs:=y :: I.xs.drop 1 } b⟩] _ from bD) ?_)
        refine⟨rfl,{ I with K:=A3,m:=1+(I.m - Int.toNat 1),e:=c3,xs:=y :: I.xs.drop 1 },rfl,hI.M.le hV3,hI.us,hI.gs,hI.xs.le hV3,trivial,dP.of (by rw [List.flatMap_cons];simpa using hc3) ?_ ?_ ?_,hcap,?_⟩
        · have:=hI.ls.1.1
          show (y :: I.xs.drop 1).length=1+(I.m - 1)
          rw [List.length_cons,List.length_drop];omega
        · show 1+(I.m - 1)≤maxLen
          unfold maxLen;omega
        · intro w hw
          rcases List.mem_cons.1 hw with rfl|hw
          · exact hy.le hV3
          · exact(hI.ls.2 w (List.mem_of_mem_drop hw)).le hV3
        · show (y :: I.xs.drop 1).map LN.n=y.n :: b.ls.tail
          rw [List.map_cons,←hI.eq,List.map_drop,List.drop_one]
  · rw [grow_bad ht]
    (refine bI Tryz.func184 rfl Tryz.ntmps184 rfl ?_;intro w0)
    repeat' (first|(refine aE ?_;first|(refine aD ?_;refine aN rfl (aG ⟨Tryz.call60⟩ rfl (hT _ vl9)) ?_)|(refine al9 ?_;intro γ)|refine pu9 ?_)|refine bV ?_|(refine aA rfl ?_ ?_<;>intro hq<;>try exact no9))
    all_goals try exact no9
    all_goals
      (refine bC Tryz.results184 (aB rfl) (List.Sublist.cons _ (List.Sublist.refl _)) ?_)
      exact⟨rfl,I,rfl,hI⟩
end
section
def tN (b:BX) (t:Hd) (w:Int) (h:Hd):Hd :=
  if w=1 then { h with data:=t.data,mode:=mK b.c.d h.mode } else if w=2 then { h with mode:=t.mode }
  else if w=3 then { h with user:=t.user,group:=t.group,mode:=mK b.c.d h.mode } else { h with attrs:=t.attrs }
theorem altF1 {b:BX} {t:Hd}:tN b t 1=fun h=>{ h with data:=t.data,mode:=mK b.c.d h.mode }:=by funext h;unfold tN;rw [if_pos rfl]
theorem altF2 {b:BX} {t:Hd}:tN b t 2=fun h=>{ h with mode:=t.mode }:=by funext h;unfold tN;rw [if_neg (by decide),if_pos rfl]
theorem altF3 {b:BX} {t:Hd}:tN b t 3=fun h=>{ h with user:=t.user,group:=t.group,mode:=mK b.c.d h.mode }:=by funext h;unfold tN;rw [if_neg (by decide),if_neg (by decide),if_pos rfl]
theorem altF4 {b:BX} {t:Hd}:tN b t 4=fun h=>{ h with attrs:=t.attrs }:=by funext h;unfold tN;rw [if_neg (by decide),if_neg (by decide),if_neg (by decide)]
def altL (b:BX) (z t:LN) (w:Int):LN:=if w=4 then ⟨{ z.h with attrs:=t.h.attrs },t.A,t.na,t.ca,z.K,z.nk,z.ck,z.ks⟩ else ⟨tN b t.h w z.h,z.A,z.na,z.ca,z.K,z.nk,z.ck,z.ks⟩
theorem altL_n {b:BX} {z t:LN} {w:Int}:(altL b z t w).n=.mk (tN b t.h w z.h) z.ks:=by
  unfold altL
  split
  · rename_i h;subst h;rfl
  · rfl
theorem altL_node {b:BX} {V:aI} {z t:LN} {w:Int} (hw:w=1∨w=2∨w=3∨w=4) (hz:aX V z) (ht:aX V t):aX V (altL b z t w):=by
  obtain⟨h1,h2,h3,h4,es,h5,h6⟩:=hz.inv
  obtain⟨g1,g2,g3,_⟩:=ht.inv
  unfold altL
  split
  · exact aX.of (es:=es) g1 g2 h3 h4 h5 h6
  · refine aX.of (es:=es) ?_ h2 ?_ h4 h5 h6
    · show eH V z.A z.na (tN b t.h w z.h).attrs
      rename_i hw
      unfold tN
      split
      · exact h1
      · split
        · exact h1
        · split
          · exact h1
          · exfalso;omega
    · show (tN b t.h w z.h).data.size≤maxLen
      unfold tN
      (repeat' split)<;>assumption
theorem find_nil0 (n:PN):dN n []=some n:=by rw [dN]
attribute [local irreducible] AtQ GoC GoL GoW QO QP Fn RV bX aL VLe cG bT
attribute [local irreducible] FnB
theorem tI (V:aI) (p:Nat) (b:BX) (Bs:List Box) (hok:bK b) (h:eC V p b Bs) (Bo:Option Addr) (m e:Nat) (ss:List ByteArray) (hs:bZ V Bo m ss) (hme:m≤e) (hm:m≤100) (is:Bool) (x:LN) (lay:Int) (th par:TH) (t:LN) (ht:aX V t) (w:Int) (hw:w=1∨w=2∨w=3∨w=4) :
    FnB Tryz.prog 180 [.pointer (some ⟨p,0,none⟩),spV Bo m e is x lay th par,lnV t,.int .i64 w] V Bs (RChB p (fV b ss (tN b t.h w))):=by
  have sl:=hs.1.1
  have hd:=hok.d
  obtain⟨I,rfl,hI⟩:=h
  have hm4:I.m≤4:=by rw [←hI.len];exact hok.l4
  have hli:∀ y∈I.xs,cA eW y.n:=fun y hy=>hok.light _ (by rw [←hI.eq];exact List.mem_map_of_mem (f:=LN.n) hy)
  have hU:=fun V2 (hV2:VLe V V2)=>RUp_c V2 I.K I.m I.e I.xs (hI.ls.le hV2) (by omega) hli I.M (hI.M.le hV2) Bo m e ss (hs.le hV2) hme hm
  rw [hI.eq,hI.us,hI.gs] at hU
  obtain⟨n0,t0,hls,hkd0⟩:=hok.root
  have hbd:=up_bd9 (us:=b.us) (gs:=b.gs) (ss:=ss) hok.light (by rw [hls];exact hok.light n0 (by rw [hls];simp)) (by omega)
  have hmds:∀ x∈b.ls,cA oY x:=fun x hx=>(hok.fit x hx).imp fun _ _ k=>k.2.1
  have hmd:=up_md (us:=b.us) (gs:=b.gs) (ss:=ss) hmds (by rw [hls];exact hmds n0 (by rw [hls];simp))
  have hub2:=oQ b.ls b.us b.gs ss
  generalize hup:upP b.ls b.us b.gs ss=up at *
  (refine bI Tryz.func180 rfl Tryz.ntmps180 rfl ?_;intro w0)
  repeat' (first|(refine aE ?_;first|(refine al9 ?_;intro γ)|refine pu9 ?_)|refine bV ?_|fail)
  rename_i g5
  obtain⟨g6,rfl⟩:∃ g6,g6=γ:=⟨γ,rfl⟩
  refine dD (fun F V' L'=>∃ (γ9:Nat) (y:LN),VLe V V'∧aX V' y∧y.n=up.1∧[⟨γ9,70,lnC y⟩,⟨g6,70,lnC t⟩,⟨g5,244,spC Bo m e is x lay th par⟩,⟨p,130,bxC I b⟩]=L'∧F=[(0,.pointer (some ⟨p,0,none⟩)),(3,.int .i64 w),(5,.pointer (some ⟨g5,0,none⟩)),(6,.pointer (some ⟨g6,0,none⟩)),(9,.pointer (some ⟨γ9,0,none⟩)),(10,.int .i64 up.2)]) ?_ ?_
  · refine bM (id:=1) _ mixed (List.Sublist.refl _) ?_;refine gt9 0 ?_;refine gt9 1 ?_;refine gt9 2 ?_;refine gt9 3 ?_;refine gt9 4 ?_;refine gt9 5 ?_;refine gt9 6 ?_;refine gt9 7 ?_;refine gt9 8 ?_;refine gt9 9 ?_;(refine dF (i:=10) (j:=14) (by kernel_rfl) rfl rfl rfl rfl vl9 vl9 bD ?_ ?_<;>first|((refine aM rfl ⟨Tryz.call182⟩ rfl rfl (hU _ vl9) ?_;rintro v V2 hV2 ⟨y,rfl,hyN,hyn⟩);refine gt9 11 ?_;refine gt9 12 ?_;refine gt9 13 ?_;refine aY (i:=14) rfl ?_;(refine bS rfl zer_70 rfl ?_;intro γ);refine aY (i:=15) rfl ?_;refine aO rfl siz_70 rfl rfl rfl rfl bG dC rfl ?_;refine gt9 16 ?_;refine aU (by kernel_rfl) vl9 vl9 bD ?_)|((refine bS rfl zer_70 rfl ?_;intro γ);refine aY (i:=10) rfl ?_;(refine aM rfl ⟨Tryz.call182⟩ rfl rfl (hU _ vl9) ?_;rintro v V2 hV2 ⟨y,rfl,hyN,hyn⟩);refine gt9 11 ?_;refine gt9 12 ?_;refine gt9 13 ?_;refine aY (i:=15) rfl ?_;refine aO rfl siz_70 rfl rfl rfl rfl bG dC rfl ?_;refine gt9 16 ?_;refine aU (by kernel_rfl) vl9 vl9 bD ?_))
    all_goals exact bR _ ⟨_,y,vl9,hyN.le vl9,hyn,rfl,rfl⟩ bH sp9
  rintro F V2 L' ⟨γ9,y,hV2,hyN,hyn,rfl,rfl⟩
  by_cases hu:up.2=0
  · have hub:=hbd hu
    have hum:=hmd hu
    have hFd:=fun V3 (hV3:VLe V2 V3)=>RFind_c V3 y (hyN.le hV3) Bo m e ss (hs.le (hV2.trans hV3))
    rw [hyn] at hFd
    rw [hu]
    repeat' (first|(refine aE ?_;first|(refine aD ?_;(refine aM rfl ⟨Tryz.call188⟩ rfl rfl (hFd _ vl9) ?_;rintro v V3 hV3 ⟨z,rfl,hzN,hzn⟩))|refine st9 ?_|(refine al9 ?_;intro γ)|refine pu9 ?_)|refine cD ?_|fail)
    rw [uS]
    obtain⟨g11,rfl⟩:∃ g11,g11=γ:=⟨γ,rfl⟩
    have hbM:0≤z.h.mode∧z.h.mode≤4095:=by
      have:z.n.h.mode=z.h.mode:=rfl
      rw [←this,hzn]
      cases hf:dN up.1 ss with
      | none=>exact⟨Int.le_refl _,by decide⟩
      | some x=>exact(pQ hum hf).here
    have hWp:=fun V9=>RWipe_c V9 b.c.u b.c.g b.c.d I.A I.n I.k z.h.mode hbM.1 hbM.2 hd.1 hd.2
    refine dD (fun F V' L'=>V3=V'∧[⟨g11,70,lnC (altL b z t w)⟩,⟨γ9,70,lnC y⟩,⟨g5,244,spC Bo m e is x lay th par⟩,⟨p,130,bxC I b⟩]=L'∧F=[(0,.pointer (some ⟨p,0,none⟩)),(5,.pointer (some ⟨g5,0,none⟩)),(9,.pointer (some ⟨γ9,0,none⟩)),(11,.pointer (some ⟨g11,0,none⟩))]) ?_ ?_
    · rcases hw with rfl|rfl|rfl|rfl
      · repeat' (first|(refine aE ?_;first|refine st9 ?_|refine pu9 ?_)|refine cV ?_|fail)
        refine bM (id:=8) _ mixed (List.Sublist.cons _ (List.Sublist.refl _)) ?_;refine gt9 0 ?_;refine gt9 1 ?_;refine gt9 2 ?_;refine gt9 3 ?_;refine gt9 4 ?_;refine aY (i:=5) rfl ?_;(first|refine aR (bE one_3 rfl bB (by exact rfl)) ?_|refine aR (bE one_3 rfl bB (by assumption)) ?_|refine aR (cI one_3 rfl (by assumption)) ?_);refine aY (i:=6) rfl ?_;refine aN rfl (aG ⟨Tryz.call243⟩ rfl (hWp _)) ?_;refine gt9 7 ?_;refine aY (i:=8) rfl ?_;refine aO rfl siz_3 rfl rfl rfl rfl bG dC rfl ?_;refine aU (by kernel_rfl) vl9 vl9 bD ?_
        all_goals repeat' (first|(refine sG ?_;(first|refine gA ?_|refine sF rfl ?_)))
        all_goals exact bR _ ⟨rfl,rfl,rfl⟩ bH sp9
      · repeat' (first|(refine aE ?_;first|refine st9 ?_|refine pu9 ?_)|refine cV ?_|fail)
        all_goals exact bR _ ⟨rfl,rfl,rfl⟩ bH sp9
      · repeat' (first|(refine aE ?_;first|refine st9 ?_|refine pu9 ?_)|refine cV ?_|fail)
        refine bM (id:=14) _ mixed (List.Sublist.cons _ (List.Sublist.refl _)) ?_;refine gt9 0 ?_;refine gt9 1 ?_;refine gt9 2 ?_;refine gt9 3 ?_;refine gt9 4 ?_;refine aY (i:=5) rfl ?_;(first|refine aR (bE one_3 rfl bB (by exact rfl)) ?_|refine aR (bE one_3 rfl bB (by assumption)) ?_|refine aR (cI one_3 rfl (by assumption)) ?_);refine aY (i:=6) rfl ?_;refine aN rfl (aG ⟨Tryz.call243⟩ rfl (hWp _)) ?_;refine gt9 7 ?_;refine aY (i:=8) rfl ?_;refine aO rfl siz_3 rfl rfl rfl rfl bG dC rfl ?_;refine aU (by kernel_rfl) vl9 vl9 bD ?_
        all_goals repeat' (first|(refine sG ?_;(first|refine gA ?_|refine sF rfl ?_)))
        all_goals exact bR _ ⟨rfl,rfl,rfl⟩ bH sp9
      · repeat' (first|(refine aE ?_;first|refine st9 ?_|refine pu9 ?_)|refine cV ?_|fail)
        all_goals exact bR _ ⟨rfl,rfl,rfl⟩ bH sp9
    rintro F V' L' ⟨rfl,rfl,rfl⟩
    have hzN2:=altL_node (b:=b) hw hzN (ht.le (hV2.trans hV3))
    have hzn2:(altL b z t w).n=.mk (tN b t.h w ((dN up.1 ss).getD pnZ).h) ((dN up.1 ss).getD pnZ).ks:=by rw [altL_n,←hzn];rfl
    generalize altL b z t w=z2 at *
    have hV03:=hV2.trans hV3
    have hG:=fun (V4:aI) (hV4:VLe V3 V4) (u:LN) (hu:aX V4 u)=>rgrow_c V4 p b _ hok ⟨I,rfl,hI.up (hV03.trans hV4)⟩ u hu
    by_cases hs0:ss=[]
    · subst hs0
      have e9:fV b [] (tN b t.h w)=iZ b z2.n:=by rw [alter_root (by rw [hup];exact hu),hup,hzn2,find_nil0];rfl
      rw [e9]
      have hG1:=hG V3 (VLe.refl _) z2 hzN2
      repeat' (first|(refine aE ?_;first|(refine aD ?_;(refine aW rfl ⟨Tryz.call184⟩ rfl bF rfl (hG1) ?_;rintro v V4 B4 hV4 ⟨rfl,hB4⟩))|refine pu9 ?_)|refine bV ?_|(refine aA rfl ?_ ?_<;>intro hq<;>try exact no9))
      all_goals first
        | (exfalso;simp at sl;omega)
        | skip
      all_goals
        (refine bC Tryz.results180 (aB rfl) (show List.Sublist B4 _ from bD) ?_)
        exact⟨rfl,hB4⟩
    · have e9:=alter_put (b:=b) (ss:=ss) (φ:=tN b t.h w) (n:=z2.n) (by rw [hup];exact hu) hs0 (by rw [hup];exact hzn2.symm)
      rw [hup] at e9
      rw [e9]
      have hP:=RPut_c false z2 ss V3 y Bo m e hzN2 (hyN.le hV3) (by rw [hyn];exact hub.imp fun _ _=>gK (by omega)) (hs.le hV03) hme
      rw [hyn] at hP
      have hpb:=uR false z2.n ss up.1
      by_cases hpf:pF false z2.n up.1 ss=0
      · rw [if_neg (not_not_intro hpf)]
        repeat' (first|(refine aE ?_;first|(refine aD ?_;(refine aM rfl ⟨Tryz.call189⟩ rfl rfl (hP) ?_;rintro v V5 hV5 ⟨x5,rfl,hx5N,hx5n⟩))|refine st9 ?_|refine pu9 ?_)|refine gx9 ?_|refine dX [17,18,19] rfl ?_|(refine aA rfl ?_ ?_<;>intro hq<;>try exact no9))
        all_goals first
          | (exfalso;exact hs0 (List.eq_nil_of_length_eq_zero (by omega)))
          | skip
        rw [tS,if_pos hpf] at hx5n
        have e0:spl (lnC y) 0 (lnC x5)=lnC x5:=gY rfl
        rw [e0]
        have hG2:=hG V5 hV5 x5 hx5N
        rw [hx5n] at hG2
        repeat' (first|(refine aE ?_;first|(refine aD ?_;(refine aW rfl ⟨Tryz.call184⟩ rfl bF rfl (hG2) ?_;rintro v V6 B6 hV6 ⟨rfl,hB6⟩))|refine pu9 ?_)|refine bV ?_|(refine aA rfl ?_ ?_<;>intro hq<;>try exact no9))
        all_goals try exact no9
        all_goals
          (refine bC Tryz.results180 (aB rfl) (show List.Sublist B6 _ from bD) ?_)
          exact⟨rfl,hB6⟩
      · rw [if_pos hpf]
        repeat' (first|(refine aE ?_;first|(refine aD ?_;(refine aM rfl ⟨Tryz.call189⟩ rfl rfl (hP) ?_;rintro v V5 hV5 ⟨x5,rfl,hx5N,hx5n⟩))|refine st9 ?_|refine pu9 ?_)|refine bV ?_|(refine aA rfl ?_ ?_<;>intro hq<;>try exact no9))
        all_goals first
          | (exfalso;exact hs0 (List.eq_nil_of_length_eq_zero (by omega)))
          | exact no9
          | skip
        all_goals
          (refine bC Tryz.results180 (aB rfl) (show List.Sublist [⟨p,130,bxC I b⟩] _ from bD) ?_)
          exact⟨rfl,I,rfl,hI.up (hV03.trans hV5)⟩
  · rw [alter_up (by rw [hup];exact hu),hup]
    repeat' (first|(refine aE ?_;refine pu9 ?_)|refine bV ?_|(refine aA rfl ?_ ?_<;>intro hq<;>try exact no9))
    all_goals try exact no9
    all_goals
      (refine bC Tryz.results180 (aB rfl) (show List.Sublist [⟨p,130,bxC I b⟩] _ from bD) ?_)
      exact⟨rfl,I,rfl,hI.up vl9⟩
end
section
attribute [local irreducible] AtQ GoC GoL GoW QO QP Fn RV bX aL VLe cG bT
attribute [local irreducible] FnB
theorem rmode_c (V:aI) (p:Nat) (b:BX) (Bs:List Box) (hok:bK b) (h:eC V p b Bs) (c:CL) (hc:c.path.size≤1000000):FnB Tryz.prog 83 [.pointer (some ⟨p,0,none⟩),clV c] V Bs (RChB p (nQ b (aC c.path) c.a)):=by
  obtain⟨I,rfl,hI⟩:=h
  have hT:=fun V2 (hV2:VLe V V2)=>rat_b (V:=V2) (p:=p) hok ⟨I,rfl,hI.up hV2⟩ c.path hc
  have hd:=hok.d
  have htb:=gX b (aC c.path)
  have hmt:=fH hok (aC c.path)
  have e:nQ b (aC c.path) c.a=if c.a<0∨4095<c.a then (b,1) else if ¬cS b (aC c.path)=0 then (b,cS b (aC c.path)) else if nI b.c (aV b (aC c.path)).th=false then (b,10) else fV b (aK (aC c.path)) (fun h=>{ h with mode:=oI b.c.g b.c.d b.c.xs c.a (aV b (aC c.path)).th.group }):=rfl
  rw [e]
  clear e
  (refine bI Tryz.func83 rfl Tryz.ntmps83 rfl ?_;intro w0)
  have hfew:=fD (aC c.path)
  have hAl:=fun (V2:aI) (hV2:VLe V V2) (kq:Int) (A:Option Addr) (n k:Nat) (hs:bZ V2 A n (aK (aC c.path))) (hnk:n≤k) (x:LN)=>tI V2 p b _ hok ⟨I,rfl,hI.up hV2⟩ A n k _ hs hnk (by have:=hs.1.1;omega) true x (aV b (aC c.path)).lay (aV b (aC c.path)).th (aV b (aC c.path)).par (kX 0 kq 0 0 false ⟨#[]⟩) (iR (Nat.zero_le _)) 2 (.inr (.inl rfl))
  have hOw:=fun V2=>ROwns_c V2 b.c I.A I.n I.k hd (aV b (aC c.path)).th
  cases how:nI b.c (aV b (aC c.path)).th with
  | false =>
    rw [how] at hOw
    repeat' (first|(refine aE ?_;first|(refine aD ?_;(first|(refine aW rfl ⟨Tryz.call174⟩ rfl bF rfl (hT _ vl9) ?_;rintro v V2 B2 hV2 ⟨rfl,hR⟩;rcases hR with ⟨ht0,A,n,k,x,rfl,hs,hnk,hxN,hxn⟩|⟨ht0,rfl⟩)|refine aN rfl (aG ⟨Tryz.call190⟩ rfl (hOw _)) ?_))|(refine dG ?_;refine aO rfl siz_244 rfl rfl rfl rfl bG gG rfl ?_)|(refine al9 ?_;intro γ)|refine pu9 ?_)|refine cD ?_|(refine aJ rfl rfl rfl ?_ ?_<;>intro hq<;>try exact no9)|(refine aA rfl ?_ ?_<;>intro hq<;>try exact no9)|refine bN (id:=6) mixed (by kernel_rfl) ?_)
    all_goals first
      | exact no9
      | (refine eY ?_;(refine bC Tryz.results83 (aB rfl) (show List.Sublist [⟨p,130,bxC I b⟩] _ from bD) ?_);(repeat (first|rw [if_pos (by first|assumption|exact nb (by assumption)|exact .inl (by assumption)|exact .inr (by assumption))]|rw [if_neg (by first|assumption|exact not_not_intro (by assumption)|exact nf (by assumption)|exact nbf (by assumption)|exact nor2 (by assumption) (by assumption))]));first|exact⟨rfl,I,rfl,hI.up vl9⟩|(rw [if_pos rfl];exact⟨rfl,I,rfl,hI.up vl9⟩))
  | true =>
    rw [how] at hOw
    repeat' (first|(refine aE ?_;first|(refine aD ?_;(first|(refine aW rfl ⟨Tryz.call174⟩ rfl bF rfl (hT _ vl9) ?_;rintro v V2 B2 hV2 ⟨rfl,hR⟩;rcases hR with ⟨ht0,A,n,k,x,rfl,hs,hnk,hxN,hxn⟩|⟨ht0,rfl⟩)|refine aN rfl (aG ⟨Tryz.call190⟩ rfl (hOw _)) ?_))|(refine dG ?_;refine aO rfl siz_244 rfl rfl rfl rfl bG gG rfl ?_)|(refine al9 ?_;intro γ)|refine pu9 ?_)|refine cD ?_|(refine aJ rfl rfl rfl ?_ ?_<;>intro hq<;>try exact no9)|(refine aA rfl ?_ ?_<;>intro hq<;>try exact no9)|refine bN (id:=6) mixed (by kernel_rfl) ?_)
    all_goals first
      | exact no9
      | (refine eY ?_;(refine bC Tryz.results83 (aB rfl) (show List.Sublist [⟨p,130,bxC I b⟩] _ from bD) ?_);(repeat (first|rw [if_pos (by first|assumption|exact nb (by assumption)|exact .inl (by assumption)|exact .inr (by assumption))]|rw [if_neg (by first|assumption|exact not_not_intro (by assumption)|exact nf (by assumption)|exact nbf (by assumption)|exact nor2 (by assumption) (by assumption))]));exact⟨rfl,I,rfl,hI.up vl9⟩)
      | skip
    all_goals
      (repeat (first|rw [if_pos (by first|assumption|exact nb (by assumption)|exact .inl (by assumption)|exact .inr (by assumption))]|rw [if_neg (by first|assumption|exact not_not_intro (by assumption)|exact nf (by assumption)|exact nbf (by assumption)|exact nor2 (by assumption) (by assumption))]))
      rw [if_neg (by decide)]
      generalize hkq:oI b.c.g b.c.d b.c.xs c.a (aV b (aC c.path)).th.group=kq at *
      have hK:=fun V9 (h9:VLe V2 V9)=>RKeep_c V9 b.c.u b.c.g b.c.d I.A I.n I.k b.c.xs ((hI.xs.le hV2).le h9) c.a (aV b (aC c.path)).th.group (by omega) (by omega) hd.1 hd.2
      rw [hkq] at hK
      refine bM (id:=9) _ mixed (List.Sublist.cons_cons _ (List.Sublist.cons_cons _ (List.nil_sublist _))) ?_;refine gt9 0 ?_;refine gt9 1 ?_;refine gt9 2 ?_;refine gt9 3 ?_;refine gt9 4 ?_;refine gt9 6 ?_;refine gt9 7 ?_;refine gt9 8 ?_;refine gt9 9 ?_;refine gt9 10 ?_;refine aY (i:=5) rfl ?_;refine aR (mA agg_27 rfl bB (by exact rfl) (by exact rfl)) ?_;refine aY (i:=11) rfl ?_;(first|refine aN rfl (aG ⟨Tryz.call191⟩ rfl (hK _ vl9)) ?_|(refine aW rfl ⟨Tryz.call180⟩ rfl bF rfl (hAl _ vl9 _ A n k (hs.le vl9) hnk x) ?_;rintro v V4 B4 hV4 ⟨rfl,hB4⟩));refine gt9 12 ?_;refine aY (i:=13) rfl ?_;(first|refine aN rfl (aG ⟨Tryz.call191⟩ rfl (hK _ vl9)) ?_|(refine aW rfl ⟨Tryz.call180⟩ rfl bF rfl (hAl _ vl9 _ A n k (hs.le vl9) hnk x) ?_;rintro v V4 B4 hV4 ⟨rfl,hB4⟩));refine gt9 14 ?_;refine aU (by kernel_rfl) vl9 vl9 bD ?_
    all_goals
      rw [altF2] at hB4
      repeat' (first|refine gx9 ?_|fail)
      (refine bC Tryz.results83 (aB rfl) (show List.Sublist B4 _ from bD) ?_)
      exact⟨by rw [altF2],hB4⟩
theorem rowned_c (V:aI) (p:Nat) (b:BX) (Bs:List Box) (hok:bK b) (h:eC V p b Bs) (c:CL) (hc:c.path.size≤1000000):FnB Tryz.prog 84 [.pointer (some ⟨p,0,none⟩),clV c] V Bs (RChB p (sZ b (aC c.path) c.a c.b)):=by
  obtain⟨I,rfl,hI⟩:=h
  have hT:=fun V2 (hV2:VLe V V2)=>rat_b (V:=V2) (p:=p) hok ⟨I,rfl,hI.up hV2⟩ c.path hc
  have hd:=hok.d
  have htb:=gX b (aC c.path)
  have hmt:=fH hok (aC c.path)
  have hfew:=fD (aC c.path)
  have e:sZ b (aC c.path) c.a c.b=if wU c.a c.b then (b,1) else if ¬cS b (aC c.path)=0 then (b,cS b (aC c.path)) else if c.a = -1∧c.b = -1 then (b,0) else uE b (aC c.path) (ownU c.a (aV b (aC c.path)).th.user) (ownU c.b (aV b (aC c.path)).th.group):=rfl
  rw [e]
  clear e
  by_cases ho:wU c.a c.b
  · rw [if_pos ho]
    unfold wU at ho
    (refine bI Tryz.func84 rfl Tryz.ntmps84 rfl ?_;intro w0)
    repeat' (first|(refine aE ?_;first|(refine al9 ?_;intro γ)|refine pu9 ?_)|refine fX ?_|(refine aJ rfl rfl rfl ?_ ?_<;>intro hq<;>try exact no9)|refine dX [0,1,2] rfl ?_|(refine aA rfl ?_ ?_<;>intro hq<;>try exact no9))
    all_goals first
      | exact no9
      | ((refine bC Tryz.results84 (aB rfl) (show List.Sublist [⟨p,130,bxC I b⟩] _ from bD) ?_);exact⟨rfl,I,rfl,hI⟩)
  rw [if_neg ho]
  unfold wU at ho
  (refine bI Tryz.func84 rfl Tryz.ntmps84 rfl ?_;intro w0)
  repeat' (first|(refine aE ?_;first|(refine al9 ?_;intro γ)|refine pu9 ?_)|refine gx9 ?_|refine cL (id:=0) ?_)
  obtain⟨g3,rfl⟩:∃ g3,g3=γ:=⟨γ,rfl⟩
  repeat' (first|(refine aE ?_;first|(refine aD ?_;(refine aW rfl ⟨Tryz.call174⟩ rfl bF rfl (hT _ vl9) ?_;rintro v V2 B2 hV2 ⟨rfl,hR⟩;rcases hR with ⟨ht0,A,n,k,x,rfl,hs,hnk,hxN,hxn⟩|⟨ht0,rfl⟩))|(refine dG ?_;refine aO rfl siz_244 rfl rfl rfl rfl bG gG rfl ?_)|(refine al9 ?_;intro γ)|refine pu9 ?_)|refine fX ?_|(refine aJ rfl rfl rfl ?_ ?_<;>intro hq<;>try exact no9)|refine dX [1,3,4,5] rfl ?_|(refine aA rfl ?_ ?_<;>intro hq<;>try exact no9))
  all_goals first
    | exact no9
    | (refine eY ?_;(refine bC Tryz.results84 (aB rfl) (show List.Sublist [⟨p,130,bxC I b⟩] _ from bD) ?_);rw [if_pos ht0];exact⟨rfl,I,rfl,hI.up vl9⟩)
    | skip
  obtain⟨g5,rfl⟩:∃ g5,g5=γ:=⟨γ,rfl⟩
  rw [if_neg (not_not_intro ht0)]
  by_cases hno:c.a = -1∧c.b = -1
  · rw [if_pos hno]
    repeat' (first|(refine aE ?_;refine pu9 ?_)|refine bV ?_|(refine aJ rfl rfl rfl ?_ ?_<;>intro hq<;>try exact no9)|(refine aA rfl ?_ ?_<;>intro hq<;>try exact no9))
    all_goals first
      | exact no9
      | ((refine bC Tryz.results84 (aB rfl) (show List.Sublist [⟨p,130,bxC I b⟩] _ from bD) ?_);exact⟨rfl,I,rfl,hI.up hV2⟩)
  rw [if_neg hno]
  generalize hth:aV b (aC c.path)=sp at *
  generalize huu:ownU c.a sp.th.user=uu
  generalize hgg:ownU c.b sp.th.group=gg
  unfold ownU at huu hgg
  refine fC (fun F V' L'=>V2=V'∧[⟨g5,244,spC A n k true x sp.lay sp.th sp.par⟩,⟨g3,53,clC c⟩,⟨p,130,bxC I b⟩]=L'∧F=[(0,.pointer (some ⟨p,0,none⟩)),(3,.pointer (some ⟨g3,0,none⟩)),(5,.pointer (some ⟨g5,0,none⟩))]) ?_ ?_
  · repeat' (first|(refine aE ?_;refine pu9 ?_)|refine fX ?_|(refine aJ rfl rfl rfl ?_ ?_<;>intro hq<;>try exact no9)|refine cL (id:=6) ?_|(refine aA rfl ?_ ?_<;>intro hq<;>try exact no9))
    all_goals first
      | exact no9
      | exact bR _ ⟨rfl,rfl,rfl⟩ bH sp9
  rintro F V' L' ⟨rfl,rfl,rfl⟩
  repeat' (first|(refine aE ?_;refine pu9 ?_)|refine gx9 ?_|refine dX [8,9] rfl ?_)
  refine fC (fun F V' L'=>V2=V'∧[⟨g5,244,spC A n k true x sp.lay sp.th sp.par⟩,⟨g3,53,clC c⟩,⟨p,130,bxC I b⟩]=L'∧F=[(0,.pointer (some ⟨p,0,none⟩)),(3,.pointer (some ⟨g3,0,none⟩)),(5,.pointer (some ⟨g5,0,none⟩)),(7,.int .i64 uu),(8,.int .i64 sp.th.group)]) ?_ ?_
  · repeat' (first|(refine aE ?_;refine pu9 ?_)|refine gx9 ?_|refine dX [10,11] rfl ?_|(refine aA rfl ?_ ?_<;>intro hq<;>try exact no9))
    · rw [if_neg (by omega)] at huu;subst huu
      exact bR _ ⟨rfl,rfl,rfl⟩ bH sp9
    · rw [if_pos (by omega)] at huu;subst huu
      exact bR _ ⟨rfl,rfl,rfl⟩ bH sp9
  rintro F V' L' ⟨rfl,rfl,rfl⟩
  repeat' (first|refine gx9 ?_|fail)
  refine fC (fun F V' L'=>V2=V'∧[⟨g5,244,spC A n k true x sp.lay sp.th sp.par⟩,⟨g3,53,clC c⟩,⟨p,130,bxC I b⟩]=L'∧F=[(0,.pointer (some ⟨p,0,none⟩)),(3,.pointer (some ⟨g3,0,none⟩)),(5,.pointer (some ⟨g5,0,none⟩)),(7,.int .i64 uu),(8,.int .i64 gg)]) ?_ ?_
  · repeat' (first|(refine aE ?_;refine pu9 ?_)|refine gx9 ?_|refine dX [12,13] rfl ?_|(refine aA rfl ?_ ?_<;>intro hq<;>try exact no9))
    · rw [if_neg (by omega)] at hgg;subst hgg
      exact bR _ ⟨rfl,rfl,rfl⟩ bH sp9
    · rw [if_pos (by omega)] at hgg;subst hgg
      exact bR _ ⟨rfl,rfl,rfl⟩ bH sp9
  rintro F V' L' ⟨rfl,rfl,rfl⟩
  have hHas:=fun V9 (h9:VLe V2 V9)=>RHas_c V9 b.c.u b.c.g b.c.d gg I.A I.n I.k b.c.xs ((hI.xs.le hV2).le h9)
  repeat' (first|(refine aE ?_;first|(refine aD ?_;refine aN rfl (aG ⟨Tryz.call192⟩ rfl (hHas _ vl9)) ?_)|refine pu9 ?_)|refine bV ?_|fail)
  refine dD (fun F V' L'=>∃ bb:Bool,V2=V'∧decide (uu=sp.th.user∧sp.th.user=b.c.u∧(gg=sp.th.group∨b.c.g=gg∨gg∈b.c.xs))=bb∧[⟨g5,244,spC A n k true x sp.lay sp.th sp.par⟩,⟨g3,53,clC c⟩,⟨p,130,bxC I b⟩]=L'∧F=[(0,.pointer (some ⟨p,0,none⟩)),(3,.pointer (some ⟨g3,0,none⟩)),(5,.pointer (some ⟨g5,0,none⟩)),(7,.int .i64 uu),(8,.int .i64 gg),(10,.bool bb)]) ?_ ?_
  · repeat' (first|(refine aE ?_;refine pu9 ?_)|refine gx9 ?_|(refine aJ rfl rfl rfl ?_ ?_<;>intro hq<;>try exact no9)|refine bN (id:=15) mixed (by kernel_rfl) ?_)
    all_goals
      refine bR _ ⟨_,rfl,?_,rfl,rfl⟩ bH sp9
      simp_all
  rintro F V' L' ⟨bb,rfl,hbb,rfl,rfl⟩
  have hOM:tP b sp.th uu gg↔sp.th.mapped=true∧(b.c.d % 2=1∨bb=true):=by unfold tP;rw [←hbb,decide_eq_true_eq]
  have e2:uE b (aC c.path) uu gg=if ¬tP b sp.th uu gg then (b,10) else match cT true b.us b.gs (idN uu gg) with
    | none=>(b,11)
    | some x=>fV b (aK (aC c.path)) fun h=>{ h with user:=x.h.user,group:=x.h.group,mode:=mK b.c.d h.mode }:=by unfold uE;rw [hth];rfl
  rw [e2]
  clear e2
  have hbit:=fun V9=>uB V9 b.c.d 1 (by omega) (by decide)
  rw [Int.ediv_one] at hbit
  refine gA ?_;refine iK ?_;refine dD (fun F V' L'=>V2=V'∧tP b sp.th uu gg∧[⟨g5,244,spC A n k true x sp.lay sp.th sp.par⟩,⟨g3,53,clC c⟩,⟨p,130,bxC I b⟩]=L'∧F=[(0,.pointer (some ⟨p,0,none⟩)),(3,.pointer (some ⟨g3,0,none⟩)),(5,.pointer (some ⟨g5,0,none⟩)),(7,.int .i64 uu),(8,.int .i64 gg)]) ?_ ?_
  · repeat' (first|(refine aE ?_;first|(refine aD ?_;refine aN rfl (aG ⟨Tryz.call193⟩ rfl (hbit _)) ?_)|refine pu9 ?_)|refine fX ?_|(refine aJ rfl rfl rfl ?_ ?_<;>intro hq<;>try exact no9)|(refine bU rfl rfl rfl ?_ ?_<;>intro hq)|refine dX [16,17] rfl ?_|(refine bP rfl ?_ ?_<;>intro hq))
    all_goals first
      | (refine oV ?_;refine bR _ ⟨rfl,?_,rfl,rfl⟩ bH sp9;rw [hOM];simp_all;done)
      | (refine eY ?_;(refine bC Tryz.results84 (aB rfl) (show List.Sublist [⟨p,130,bxC I b⟩] _ from bD) ?_)
         rw [if_pos (by rw [hOM];simp_all)]
         exact⟨rfl,I,rfl,hI.up vl9⟩)
  rintro F V' L' ⟨rfl,hom,rfl,rfl⟩
  rw [if_neg (not_not_intro hom)]
  have hN:aX V2 (kX 0 0 uu gg false ⟨#[]⟩):=iR (Nat.zero_le _)
  have hMv:=sB V2 I.M (hI.M.le hV2) _ hN
  rw [hI.us,hI.gs,show (kX 0 0 uu gg false ⟨#[]⟩).n=idN uu gg from rfl] at hMv
  cases hmv:cT true b.us b.gs (idN uu gg) with
  | none =>
    rw [hmv] at hMv
    repeat' (first|(refine aE ?_;first|(refine aD ?_;(refine aM rfl ⟨Tryz.call61⟩ rfl rfl (hMv) ?_;rintro v V3 hV3 ⟨y,rfl,hyN,hyn⟩))|refine st9 ?_|(refine al9 ?_;intro γ)|refine pu9 ?_)|refine cD ?_|fail)
    all_goals first
      | (refine eY ?_;(refine bC Tryz.results84 (aB rfl) (show List.Sublist [⟨p,130,bxC I b⟩] _ from bD) ?_);exact⟨rfl,I,rfl,hI.up vl9⟩)
  | some z =>
    rw [hmv] at hMv
    repeat' (first|(refine aE ?_;first|(refine aD ?_;(refine aM rfl ⟨Tryz.call61⟩ rfl rfl (hMv) ?_;rintro v V3 hV3 ⟨y,rfl,hyN,hyn⟩))|refine st9 ?_|(refine al9 ?_;intro γ)|refine pu9 ?_)|refine fX ?_|refine dX [18,19] rfl ?_)
    obtain rfl:y.n=z:=hyn
    have hAl:=tI V3 p b _ hok ⟨I,rfl,hI.up (hV2.trans hV3)⟩ A n k _ (hs.le hV3) hnk (by have:=hs.1.1;omega) true x sp.lay sp.th sp.par y hyN 3 (.inr (.inr (.inl rfl)))
    rw [altF3] at hAl
    repeat' (first|(refine aE ?_;first|(refine aD ?_;(refine aW rfl ⟨Tryz.call180⟩ rfl bF rfl (hAl) ?_;rintro v V4 B4 hV4 ⟨rfl,hB4⟩))|refine pu9 ?_)|refine bV ?_|fail)
    all_goals first
      | (refine eY ?_;(refine bC Tryz.results84 (aB rfl) (show List.Sublist B4 _ from bD) ?_);exact⟨rfl,hB4⟩)
end
section
attribute [local irreducible] AtQ GoC GoL GoW QO QP Fn RV bX aL VLe cG bT
attribute [local irreducible] FnB
theorem rmade_c (V:aI) (p:Nat) (b:BX) (Bs:List Box) (hok:bK b) (h:eC V p b Bs) (Bo:Option Addr) (m e:Nat) (ss:List ByteArray) (hs:bZ V Bo m ss) (hme:m≤e) (hm:0<m∧m≤20) (is:Bool) (x:LN) (lay:Int) (th par:TH) (hp:0≤par.mode∧par.mode≤4095) (kind mode:Int) (hkd:kind=1∨kind=2) (hmd:0≤mode∧mode≤4095) (dt:ByteArray) (hdt:dt.size≤maxLen) :
    FnB Tryz.prog 179 [.pointer (some ⟨p,0,none⟩),spV Bo m e is x lay th par,.int .i64 kind,.int .i64 mode,.string dt] V Bs (RChB p (iQ b ss par kind mode dt)):=by
  have sl:=hs.1.1
  have hd:=hok.d
  obtain⟨I,rfl,hI⟩:=h
  have hm4:I.m≤4:=by rw [←hI.len];exact hok.l4
  have hMay:=fun V2 (hV2:VLe V V2)=>xH V2 b.c I.A I.n I.k (hI.xs.le hV2) hd par hp 2 (.inr (.inl rfl))
  have hbit:=fun V9=>uB V9 par.mode 1024 (by omega) (by decide)
  cases hmy:iL b.c par 2 with
  | false =>
    rw [hmy] at hMay
    rw [show iQ b ss par kind mode dt=(b,9) from if_pos hmy]
    (refine bI Tryz.func179 rfl Tryz.ntmps179 rfl ?_;intro w0)
    repeat' (first|(refine aE ?_;first|(refine aD ?_;refine aN rfl (aG ⟨Tryz.call176⟩ rfl (hMay _ vl9)) ?_)|(refine al9 ?_;intro γ)|refine pu9 ?_)|refine cD ?_|refine bN (id:=1) mixed (by kernel_rfl) ?_)
    all_goals
      (refine bC Tryz.results179 (aB rfl) (show List.Sublist [⟨p,130,bxC I b⟩] _ from bD) ?_)
      exact⟨rfl,I,rfl,hI⟩
  | true =>
    rw [hmy] at hMay
    (refine bI Tryz.func179 rfl Tryz.ntmps179 rfl ?_;intro w0)
    repeat' (first|(refine aE ?_;first|(refine aD ?_;refine aN rfl (aG ⟨Tryz.call176⟩ rfl (hMay _ vl9)) ?_)|(refine al9 ?_;intro γ)|refine pu9 ?_)|refine cD ?_|refine bN (id:=1) mixed (by kernel_rfl) ?_)
    obtain⟨g6,rfl⟩:∃ g6,g6=γ:=⟨γ,rfl⟩
    refine dD (fun F V' L'=>∃ (γ12:Nat),V=V'∧[⟨γ12,70,lnC (kX kind 0 b.c.u b.c.g false dt)⟩,⟨g6,244,spC Bo m e is x lay th par⟩,⟨p,130,bxC I b⟩]=L'∧F=[(0,.pointer (some ⟨p,0,none⟩)),(2,.int .i64 kind),(3,.int .i64 mode),(6,.pointer (some ⟨g6,0,none⟩)),(12,.pointer (some ⟨γ12,0,none⟩))]) ?_ ?_
    · refine bM (id:=4) _ mixed (List.Sublist.refl _) ?_;refine gt9 0 ?_;refine gt9 1 ?_;refine gt9 2 ?_;refine gt9 3 ?_;refine gt9 4 ?_;refine gt9 5 ?_;refine gt9 6 ?_;refine gt9 7 ?_;refine gt9 8 ?_;refine gt9 9 ?_;refine gt9 10 ?_;refine gt9 11 ?_;refine gt9 12 ?_;refine aY (i:=13) rfl ?_;(refine bS rfl zer_70 rfl ?_;intro γ);refine aY (i:=14) rfl ?_;refine aO rfl siz_70 rfl rfl rfl rfl bG dC rfl ?_;refine aU (by kernel_rfl) vl9 vl9 bD ?_
      all_goals exact bR _ ⟨_,rfl,rfl,rfl⟩ bH sp9
    rintro F V' L' ⟨γ12,rfl,rfl,rfl⟩
    repeat' (first|(refine aE ?_;first|(refine aD ?_;refine aN rfl (aG ⟨Tryz.call193⟩ rfl (hbit _)) ?_)|refine pu9 ?_)|refine gx9 ?_|refine cL (id:=5) ?_)
    generalize hG:(if par.mode / 1024 % 2=1 then par.group else b.c.g)=G
    refine fC (fun F V' L'=>V=V'∧¬(par.mode / 1024 % 2=1∧par.mapped=false)∧[⟨γ12,70,lnC (kX kind 0 b.c.u G false dt)⟩,⟨g6,244,spC Bo m e is x lay th par⟩,⟨p,130,bxC I b⟩]=L'∧F=[(0,.pointer (some ⟨p,0,none⟩)),(2,.int .i64 kind),(3,.int .i64 mode),(6,.pointer (some ⟨g6,0,none⟩)),(12,.pointer (some ⟨γ12,0,none⟩)),(13,.bool (decide (par.mode / 1024 % 2=1)))]) ?_ ?_
    · repeat' (first|(refine aE ?_;first|refine st9 ?_|refine pu9 ?_)|refine bV ?_|(refine aA rfl ?_ ?_<;>intro hq<;>try exact no9)|(refine bP rfl ?_ ?_<;>intro hq))
      all_goals first
        | (refine oV ?_;rw [if_pos (by assumption)] at hG;subst hG;exact bR _ ⟨rfl,by simp_all,rfl,rfl⟩ bH sp9)
        | (refine oV ?_;rw [if_neg (by assumption)] at hG;subst hG;exact bR _ ⟨rfl,by simp_all,rfl,rfl⟩ bH sp9)
        | (refine eY ?_;(refine bC Tryz.results179 (aB rfl) (show List.Sublist [⟨p,130,bxC I b⟩] _ from bD) ?_)
           rw [show iQ b ss par kind mode dt=(b,11) by unfold iQ;rw [if_neg (by rw [hmy];decide),if_pos (by simp_all)]]
           exact⟨rfl,I,rfl,hI⟩)
        | skip
    rintro F V' L' ⟨rfl,hnm,rfl,rfl⟩
    have hK:=fun V9 (h9:VLe V V9)=>RKeep_c V9 b.c.u b.c.g b.c.d I.A I.n I.k b.c.xs (hI.xs.le h9) mode G hmd.1 hmd.2 hd.1 hd.2
    generalize hkq:oI b.c.g b.c.d b.c.xs mode G=kq at *
    refine gA ?_;refine iK ?_;refine dD (fun F V' L'=>V=V'∧[⟨γ12,70,lnC (kX kind kq b.c.u G false dt)⟩,⟨g6,244,spC Bo m e is x lay th par⟩,⟨p,130,bxC I b⟩]=L'∧F=[(0,.pointer (some ⟨p,0,none⟩)),(2,.int .i64 kind),(3,.int .i64 mode),(6,.pointer (some ⟨g6,0,none⟩)),(12,.pointer (some ⟨γ12,0,none⟩)),(13,.bool (decide (par.mode / 1024 % 2=1)))]) ?_ ?_
    · refine bM (id:=10) _ mixed (List.Sublist.cons _ (List.Sublist.refl _)) ?_;refine gt9 0 ?_;refine gt9 1 ?_;refine gt9 2 ?_;refine gt9 3 ?_;refine gt9 4 ?_;refine gt9 5 ?_;refine aY (i:=6) rfl ?_;(first|refine aR (bE one_3 rfl bB (by exact rfl)) ?_|refine aR (bE one_3 rfl bB (by assumption)) ?_|refine aR (cI one_3 rfl (by assumption)) ?_);refine aY (i:=7) rfl ?_;refine aN rfl (aG ⟨Tryz.call191⟩ rfl (hK _ vl9)) ?_;refine gt9 8 ?_;refine aY (i:=9) rfl ?_;refine aO rfl siz_3 rfl rfl rfl rfl bG dC rfl ?_;refine aU (by kernel_rfl) vl9 vl9 bD ?_
      all_goals exact bR _ ⟨rfl,rfl,rfl⟩ bH sp9
    rintro F V' L' ⟨rfl,rfl,rfl⟩
    have hkb:0≤kq∧kq≤4095:=by
      rw [←hkq];exact keep_bd hmd
    have hb2:=fun V9=>uB V9 kq 1024 (by omega) (by decide)
    have hM1:=mode_or hkb.1 hkb.2
    have hwr:IntKind.i64.wrap ((kX kind kq b.c.u G false dt).h.mode+1024)=kq+1024:=wrap_i64 (show -9223372036854775808≤kq+1024∧kq+1024≤9223372036854775807 by omega)
    generalize hK2:(if kind=2∧par.mode / 1024 % 2=1 then bits .or .i64 kq 1024 else kq)=kf
    have hmk:oP b par kind mode dt={ kind:=kind,user:=b.c.u,group:=G,opq:=false,attrs:=[],data:=dt,mode:=kf }:=by
      unfold oP;rw [hG,hkq,hK2]
    repeat' (first|refine gx9 ?_|fail)
    refine fC (fun F V' L'=>V=V'∧[⟨γ12,70,lnC (kX kind kf b.c.u G false dt)⟩,⟨g6,244,spC Bo m e is x lay th par⟩,⟨p,130,bxC I b⟩]=L'∧F=[(0,.pointer (some ⟨p,0,none⟩)),(2,.int .i64 kind),(3,.int .i64 mode),(6,.pointer (some ⟨g6,0,none⟩)),(12,.pointer (some ⟨γ12,0,none⟩))]) ?_ ?_
    · repeat' (first|(refine aE ?_;first|(refine aD ?_;refine aN rfl (aG ⟨Tryz.call193⟩ rfl (hb2 _)) ?_)|refine st9 ?_|refine pu9 ?_)|refine cD ?_|(refine aJ rfl rfl rfl ?_ ?_<;>intro hq<;>try exact no9)|(refine aA rfl ?_ ?_<;>intro hq<;>try exact no9))
      all_goals first
        | (rw [if_pos ⟨by assumption,by assumption⟩,hM1,if_neg (by assumption)] at hK2;subst hK2;rw [hwr];exact bR _ ⟨rfl,rfl,rfl⟩ bH sp9)
        | (rw [if_pos ⟨by assumption,by assumption⟩,hM1,if_pos (by first|assumption|exact Decidable.not_not.1 (by assumption))] at hK2;subst hK2;exact bR _ ⟨rfl,rfl,rfl⟩ bH sp9)
        | (rw [if_neg (by simp_all)] at hK2;subst hK2;exact bR _ ⟨rfl,rfl,rfl⟩ bH sp9)
        | skip
    rintro F V' L' ⟨rfl,rfl,rfl⟩
    have hN:aX V (kX kind kf b.c.u G false dt):=iR hdt
    have hMv:=fun V9 (h9:VLe V V9)=>sB V9 I.M (hI.M.le h9) _ (hN.le h9)
    rw [hI.us,hI.gs,show (kX kind kf b.c.u G false dt).n=.mk (oP b par kind mode dt) [] by rw [hmk];rfl] at hMv
    have emk:iQ b ss par kind mode dt=match cT true b.us b.gs (.mk (oP b par kind mode dt) []) with
      | none=>(b,11)
      | some x=>uK b ss kind x:=by unfold iQ;rw [if_neg (by rw [hmy];decide),if_neg hnm];rfl
    rw [emk]
    clear emk
    repeat' (first|refine gx9 ?_|fail)
    cases hmv:cT true b.us b.gs (.mk (oP b par kind mode dt) []) with
    | none =>
      rw [hmv] at hMv
      refine bM (id:=13) _ mixed (List.Sublist.refl _) ?_;refine gt9 0 ?_;refine gt9 1 ?_;refine gt9 2 ?_;refine gt9 3 ?_;refine gt9 4 ?_;(refine dF (i:=5) (j:=9) (by kernel_rfl) rfl rfl rfl rfl vl9 vl9 bD ?_ ?_<;>first|((refine aM rfl ⟨Tryz.call61⟩ rfl rfl (hMv _ vl9) ?_;rintro v V3 hV3 ⟨y,rfl,hyN,hyn⟩);refine gt9 6 ?_;refine gt9 7 ?_;refine gt9 8 ?_;refine aY (i:=9) rfl ?_;(refine bS rfl zer_70 rfl ?_;intro γ);refine aY (i:=10) rfl ?_;refine aO rfl siz_70 rfl rfl rfl rfl bG dC rfl ?_;refine gt9 11 ?_;refine aU (by kernel_rfl) vl9 vl9 bD ?_)|((refine bS rfl zer_70 rfl ?_;intro γ);refine aY (i:=5) rfl ?_;(refine aM rfl ⟨Tryz.call61⟩ rfl rfl (hMv _ vl9) ?_;rintro v V3 hV3 ⟨y,rfl,hyN,hyn⟩);refine gt9 6 ?_;refine gt9 7 ?_;refine gt9 8 ?_;refine aY (i:=10) rfl ?_;refine aO rfl siz_70 rfl rfl rfl rfl bG dC rfl ?_;refine gt9 11 ?_;refine aU (by kernel_rfl) vl9 vl9 bD ?_))
      all_goals
        repeat' (first|(refine aE ?_;refine pu9 ?_)|refine cD ?_|fail)
        (refine bC Tryz.results179 (aB rfl) (show List.Sublist [⟨p,130,bxC I b⟩] _ from bD) ?_)
        exact⟨rfl,I,rfl,hI.up vl9⟩
    | some z =>
      rw [hmv] at hMv
      show _
      refine dD (fun F V' L'=>∃ (γ14:Nat) (y:LN),VLe V V'∧aX V' y∧y.n=z∧[⟨γ14,70,lnC y⟩,⟨g6,244,spC Bo m e is x lay th par⟩,⟨p,130,bxC I b⟩]=L'∧F=[(0,.pointer (some ⟨p,0,none⟩)),(2,.int .i64 kind),(6,.pointer (some ⟨g6,0,none⟩)),(14,.pointer (some ⟨γ14,0,none⟩)),(15,.bool true)]) ?_ ?_
      · refine bM (id:=13) _ mixed (List.Sublist.refl _) ?_;refine gt9 0 ?_;refine gt9 1 ?_;refine gt9 2 ?_;refine gt9 3 ?_;refine gt9 4 ?_;(refine dF (i:=5) (j:=9) (by kernel_rfl) rfl rfl rfl rfl vl9 vl9 bD ?_ ?_<;>first|((refine aM rfl ⟨Tryz.call61⟩ rfl rfl (hMv _ vl9) ?_;rintro v V3 hV3 ⟨y,rfl,hyN,hyn⟩);refine gt9 6 ?_;refine gt9 7 ?_;refine gt9 8 ?_;refine aY (i:=9) rfl ?_;(refine bS rfl zer_70 rfl ?_;intro γ);refine aY (i:=10) rfl ?_;refine aO rfl siz_70 rfl rfl rfl rfl bG dC rfl ?_;refine gt9 11 ?_;refine aU (by kernel_rfl) vl9 vl9 bD ?_)|((refine bS rfl zer_70 rfl ?_;intro γ);refine aY (i:=5) rfl ?_;(refine aM rfl ⟨Tryz.call61⟩ rfl rfl (hMv _ vl9) ?_;rintro v V3 hV3 ⟨y,rfl,hyN,hyn⟩);refine gt9 6 ?_;refine gt9 7 ?_;refine gt9 8 ?_;refine aY (i:=10) rfl ?_;refine aO rfl siz_70 rfl rfl rfl rfl bG dC rfl ?_;refine gt9 11 ?_;refine aU (by kernel_rfl) vl9 vl9 bD ?_))
        all_goals exact bR _ ⟨_,y,vl9,hyN.le vl9,hyn,rfl,rfl⟩ bH sp9
      rintro F V3 L' ⟨γ14,y,hV3,hyN,hyn,rfl,rfl⟩
      have hli:∀ y∈I.xs,cA eW y.n:=fun y hy=>hok.light _ (by rw [←hI.eq];exact List.mem_map_of_mem (f:=LN.n) hy)
      have e9:(((m:Nat):Int) - 1).toNat=ss.length - 1:=by omega
      have hstr:bZ V Bo (((m:Nat):Int) - 1).toNat (ss.take (ss.length - 1)):=by rw [e9];exact jZ hs (by omega)
      have hU:=fun V2 (hV2:VLe V V2)=>RUp_c V2 I.K I.m I.e I.xs (hI.ls.le hV2) (by omega) hli I.M (hI.M.le hV2) Bo _ e _ (hstr.le hV2) (by omega) (by omega)
      rw [hI.eq,hI.us,hI.gs] at hU
      have hup9:=fun h9=>up_mid (b:=b) (ss:=ss.take (ss.length - 1)) hok (by rw [List.length_take];omega) h9
      have hub2:=oQ b.ls b.us b.gs (ss.take (ss.length - 1))
      show AtQ _ _ _ (bodyPost _ _ (tT V w0 _ (RChB p (uK b ss kind z)))) _ _ _ _ _
      unfold uK
      generalize upP b.ls b.us b.gs (ss.take (ss.length - 1))=up at *
      repeat' (first|(refine aE ?_;refine pu9 ?_)|refine cD ?_|fail)
      refine dD (fun F V' L'=>∃ (γ16:Nat) (u:LN),VLe V3 V'∧aX V' u∧u.n=up.1∧[⟨γ16,70,lnC u⟩,⟨γ14,70,lnC y⟩,⟨g6,244,spC Bo m e is x lay th par⟩,⟨p,130,bxC I b⟩]=L'∧F=[(0,.pointer (some ⟨p,0,none⟩)),(2,.int .i64 kind),(6,.pointer (some ⟨g6,0,none⟩)),(14,.pointer (some ⟨γ14,0,none⟩)),(16,.pointer (some ⟨γ16,0,none⟩)),(17,.int .i64 up.2)]) ?_ ?_
      · refine bM (id:=16) _ mixed (List.Sublist.refl _) ?_;refine gt9 0 ?_;refine gt9 1 ?_;refine gt9 2 ?_;refine gt9 3 ?_;refine gt9 4 ?_;refine gt9 5 ?_;refine gt9 6 ?_;refine gt9 7 ?_;refine gt9 8 ?_;refine gt9 9 ?_;refine gt9 10 ?_;refine gt9 11 ?_;refine gt9 12 ?_;refine gt9 13 ?_;refine fP 14 rfl rfl (dS und_47 siz_9 rfl rfl (by omega)) ?_;(refine dF (i:=15) (j:=19) (by kernel_rfl) rfl rfl rfl rfl vl9 vl9 bD ?_ ?_<;>first|((refine aM rfl ⟨Tryz.call182⟩ rfl rfl (hU _ vl9) ?_;rintro v V4 hV4 ⟨u,rfl,huN,hun⟩);refine gt9 16 ?_;refine gt9 17 ?_;refine gt9 18 ?_;refine aY (i:=19) rfl ?_;(refine bS rfl zer_70 rfl ?_;intro γ);refine aY (i:=20) rfl ?_;refine aO rfl siz_70 rfl rfl rfl rfl bG dC rfl ?_;refine gt9 21 ?_;refine aU (by kernel_rfl) vl9 vl9 bD ?_)|((refine bS rfl zer_70 rfl ?_;intro γ);refine aY (i:=15) rfl ?_;(refine aM rfl ⟨Tryz.call182⟩ rfl rfl (hU _ vl9) ?_;rintro v V4 hV4 ⟨u,rfl,huN,hun⟩);refine gt9 16 ?_;refine gt9 17 ?_;refine gt9 18 ?_;refine aY (i:=20) rfl ?_;refine aO rfl siz_70 rfl rfl rfl rfl bG dC rfl ?_;refine gt9 21 ?_;refine aU (by kernel_rfl) vl9 vl9 bD ?_))
        all_goals exact bR _ ⟨_,u,vl9,huN.le vl9,hun,rfl,rfl⟩ bH sp9
      rintro F V4 L' ⟨γ16,u,hV4,huN,hun,rfl,rfl⟩
      by_cases hu:up.2=0
      · have hub:=hup9 hu
        have hFd:=fun V9 (h9:VLe V4 V9)=>RFind_c V9 u (huN.le h9) Bo m e ss (hs.le ((hV3.trans hV4).trans h9))
        rw [hun] at hFd
        rw [if_neg (not_not_intro hu),hu]
        repeat' (first|(refine aE ?_;first|(refine aD ?_;(refine aM rfl ⟨Tryz.call188⟩ rfl rfl (hFd _ vl9) ?_;rintro v V5 hV5 ⟨w,rfl,hwN,hwn⟩))|refine st9 ?_|(refine al9 ?_;intro γ)|refine pu9 ?_)|refine fX ?_|refine dX [17,19] rfl ?_)
        rw [uS]
        have hwh:wI up.1 ss=((dN up.1 ss).isSome && decide (w.h.kind=3)):=by
          unfold wI
          cases hf:dN up.1 ss with
          | none=>rfl
          | some z9 =>
            rw [hf] at hwn
            have h9:w.n=z9:=hwn
            subst h9
            rfl
        generalize (dN up.1 ss).isSome=isb at *
        unfold vZ
        generalize hob:(decide (kind=2) && wI up.1 ss)=ob
        rw [hwh] at hob
        refine dD (fun F V' L'=>V5=V'∧[⟨γ14,70,lnC ⟨{ y.h with opq:=ob },y.A,y.na,y.ca,y.K,y.nk,y.ck,y.ks⟩⟩,⟨γ16,70,lnC u⟩,⟨g6,244,spC Bo m e is x lay th par⟩,⟨p,130,bxC I b⟩]=L'∧F=[(0,.pointer (some ⟨p,0,none⟩)),(2,.int .i64 kind),(6,.pointer (some ⟨g6,0,none⟩)),(14,.pointer (some ⟨γ14,0,none⟩)),(16,.pointer (some ⟨γ16,0,none⟩))]) ?_ ?_
        · rcases hkd with rfl|rfl
          · obtain rfl:ob=false:=by rw [←hob];rfl
            repeat' (first|(refine aE ?_;first|refine st9 ?_|refine pu9 ?_)|refine gx9 ?_|refine cL (id:=20) ?_)
            all_goals exact bR _ ⟨rfl,rfl,rfl⟩ bH sp9
          · cases isb with
            | false =>
              obtain rfl:ob=false:=by rw [←hob];rfl
              repeat' (first|(refine aE ?_;first|refine st9 ?_|refine pu9 ?_)|refine gx9 ?_|refine cL (id:=20) ?_)
              all_goals exact bR _ ⟨rfl,rfl,rfl⟩ bH sp9
            | true =>
              obtain rfl:ob=decide (w.h.kind=3):=by rw [←hob];rfl
              repeat' (first|(refine aE ?_;first|refine st9 ?_|refine pu9 ?_)|refine gx9 ?_|refine cL (id:=20) ?_)
              all_goals exact bR _ ⟨rfl,rfl,rfl⟩ bH sp9
        rintro F V' L' ⟨rfl,rfl,rfl⟩
        obtain rfl:y.n=z:=hyn
        obtain⟨k1,k2,k3,k4,es,k5,k6⟩:=hyN.inv
        have hzN:aX V5 ⟨{ y.h with opq:=ob },y.A,y.na,y.ca,y.K,y.nk,y.ck,y.ks⟩:=(aX.of (es:=es) k1 k2 k3 k4 k5 k6:aX V3 ⟨{ y.h with opq:=ob },y.A,y.na,y.ca,y.K,y.nk,y.ck,y.ks⟩).le (hV4.trans hV5)
        rw [show PN.mk { y.n.h with opq:=ob } y.n.ks=(⟨{ y.h with opq:=ob },y.A,y.na,y.ca,y.K,y.nk,y.ck,y.ks⟩:LN).n from rfl]
        generalize (⟨{ y.h with opq:=ob },y.A,y.na,y.ca,y.K,y.nk,y.ck,y.ks⟩:LN)=z2 at *
        have hV35:=(hV3.trans hV4).trans hV5
        have hP:=RPut_c false z2 ss V5 u Bo m e hzN (huN.le hV5) (by rw [hun];exact hub.imp fun _ _=>gK (by omega)) (hs.le hV35) hme
        rw [hun] at hP
        have hpb:=uR false z2.n ss up.1
        have hG:=fun (V6:aI) (hV6:VLe V5 V6) (q:LN) (hq:aX V6 q)=>rgrow_c V6 p b _ hok ⟨I,rfl,hI.up (hV35.trans hV6)⟩ q hq
        by_cases hpf:pF false z2.n up.1 ss=0
        · rw [if_neg (not_not_intro hpf)]
          repeat' (first|(refine aE ?_;first|(refine aD ?_;(refine aM rfl ⟨Tryz.call189⟩ rfl rfl (hP) ?_;rintro v V6 hV6 ⟨x5,rfl,hx5N,hx5n⟩))|refine st9 ?_|refine pu9 ?_)|refine gx9 ?_|refine cL (id:=21) ?_)
          rw [tS,if_pos hpf] at hx5n
          have e0:spl (lnC u) 0 (lnC x5)=lnC x5:=gY rfl
          rw [e0]
          have hG2:=hG V6 hV6 x5 hx5N
          rw [hx5n] at hG2
          repeat' (first|(refine aE ?_;first|(refine aD ?_;(refine aW rfl ⟨Tryz.call184⟩ rfl bF rfl (hG2) ?_;rintro v V7 B7 hV7 ⟨rfl,hB7⟩))|refine pu9 ?_)|refine bV ?_|(refine aA rfl ?_ ?_<;>intro hq<;>try exact no9))
          all_goals first
            | exact no9
            | ((refine bC Tryz.results179 (aB rfl) (show List.Sublist B7 _ from bD) ?_);exact⟨rfl,hB7⟩)
        · rw [if_pos hpf]
          repeat' (first|(refine aE ?_;first|(refine aD ?_;(refine aM rfl ⟨Tryz.call189⟩ rfl rfl (hP) ?_;rintro v V6 hV6 ⟨x5,rfl,hx5N,hx5n⟩))|refine st9 ?_|refine pu9 ?_)|refine bV ?_|(refine aA rfl ?_ ?_<;>intro hq<;>try exact no9))
          all_goals first
            | exact no9
            | ((refine bC Tryz.results179 (aB rfl) (show List.Sublist [⟨p,130,bxC I b⟩] _ from bD) ?_);exact⟨rfl,I,rfl,hI.up (hV35.trans hV6)⟩)
      · rw [if_pos hu]
        repeat' (first|(refine aE ?_;refine pu9 ?_)|refine gx9 ?_|refine dX [17,18] rfl ?_|(refine aA rfl ?_ ?_<;>intro hq<;>try exact no9))
        all_goals try exact no9
        all_goals
          (refine bC Tryz.results179 (aB rfl) (show List.Sublist [⟨p,130,bxC I b⟩] _ from bD) ?_)
          exact⟨rfl,I,rfl,hI.up (hV3.trans hV4)⟩
end
section
theorem spot_dir {b:BX} {ss:List ByteArray} (h:(cC b ss).2=0) (hi:(cC b ss).1.is=true):(cC b ss).1.th.dir=decide ((cC b ss).1.n.h.kind=2):=by
  obtain⟨par,hp⟩:=spotK_look ss.length h
  have e:(cC b ss).1=fF b (ss.take ss.length) par:=hp
  rw [e] at hi ⊢
  unfold fF at hi ⊢
  cases hw:bY b.ls (ss.take ss.length) with
  | nil=>rw [hw] at hi;cases hi
  | cons f r=>rfl
attribute [local irreducible] AtQ GoC GoL GoW QO QP Fn RV bX aL VLe cG bT
attribute [local irreducible] FnB
theorem rdirectory_c (V:aI) (p:Nat) (b:BX) (Bs:List Box) (hok:bK b) (h:eC V p b Bs) (c:CL) (hc:c.path.size≤1000000):FnB Tryz.prog 80 [.pointer (some ⟨p,0,none⟩),clV c] V Bs (RChB p (kJ b c)):=by
  obtain⟨I,rfl,hI⟩:=h
  have hll:(aC c.path).length≤1000000:=by show c.path.data.toList.length≤1000000;rw [Array.length_toList];exact hc
  have hS:=fun V2=>uI V2 (aC c.path) hll
  rw [show (⟨(aC c.path).toArray⟩:ByteArray)=c.path from fJ c.path] at hS
  have hpb:=mO (aC c.path)
  have hsb:=mR b (aK (aC c.path)) (aK (aC c.path)).length
  have hfew:=fD (aC c.path)
  have hW:=fun (V1:aI) (hV1:VLe V V1) (A1:Option Addr) (n1 c1:Nat) (hS1:bZ V1 A1 n1 (aK (aC c.path))) (hc1:n1≤c1)=>rwalk_b (V:=V1) (p:=p) hok ⟨I,rfl,hI.up hV1⟩ A1 n1 c1 _ hS1 hc1
  have e:kJ b c=if c.a<0∨4095<c.a then (b,1) else if ¬pA b (aC c.path)=0 then (b,pA b (aC c.path)) else if (aV b (aC c.path)).is=true then (b,6) else iQ b (aK (aC c.path)) (aV b (aC c.path)).par 2 c.a ⟨#[]⟩:=rfl
  rw [e]
  clear e
  by_cases hp:dY (aC c.path)=0
  · rw [spotF_ok hp]
    (refine bI Tryz.func80 rfl Tryz.ntmps80 rfl ?_;intro w0)
    repeat' (first|(refine aE ?_;first|(refine aD ?_;(first|(refine aM rfl ⟨Tryz.call177⟩ rfl rfl (hS _) ?_;rintro v V2 hV2 ⟨A,n,k,rfl,hs,hnk⟩)|(refine aW rfl ⟨Tryz.call178⟩ rfl bF rfl (hW _ vl9 A n k hs hnk) ?_;rintro v V3 B3 hV3 ⟨rfl,hR3⟩;rcases hR3 with ⟨hw0,x3,rfl,hx3N,hx3n⟩|⟨hw0,rfl⟩)))|(refine dG ?_;refine aO rfl siz_244 rfl rfl rfl rfl bG gG rfl ?_)|(refine al9 ?_;intro γ)|refine pu9 ?_)|refine fX ?_|(refine aJ rfl rfl rfl ?_ ?_<;>intro hq<;>try exact no9)|refine dX [0,1,2,3,4,6,7,8,9,10] rfl ?_|(refine aA rfl ?_ ?_<;>intro hq<;>try exact no9)|(refine bP rfl ?_ ?_<;>intro hq))
    all_goals first
      | exact no9
      | (exfalso;unfold cC at *;omega)
      | (refine eY ?_;(refine bC Tryz.results80 (aB rfl) (show List.Sublist [⟨p,130,bxC I b⟩] _ from bD) ?_);(repeat (first|rw [if_pos (by first|assumption|exact nb (by assumption)|exact .inl (by assumption)|exact .inr (by assumption))]|rw [if_neg (by first|assumption|exact not_not_intro (by assumption)|exact nf (by assumption)|exact nbf (by assumption)|exact nor2 (by assumption) (by assumption))]));exact⟨rfl,I,rfl,hI.up vl9⟩)
      | skip
    have hs9:(cC b (aK (aC c.path))).1.is=false:=by simpa using hq
    have hne:0<(aK (aC c.path)).length:=by
      rcases Nat.eq_zero_or_pos (aK (aC c.path)).length with h0|h0
      · exfalso
        rw [List.eq_nil_of_length_eq_zero h0,root_is hok] at hs9
        cases hs9
      · exact h0
    have hpm:=kH hok (aK (aC c.path)) (aK (aC c.path)).length
    have hM:=rmade_c V3 p b _ hok ⟨I,rfl,hI.up (hV2.trans hV3)⟩ A n k _ (hs.le hV3) hnk (by have:=hs.1.1;omega) (cC b (aK (aC c.path))).1.is x3 (cC b (aK (aC c.path))).1.lay (cC b (aK (aC c.path))).1.th (cC b (aK (aC c.path))).1.par hpm 2 c.a (.inr rfl) (by omega) ⟨#[]⟩ (Nat.zero_le _)
    rw [if_neg (by omega),if_neg (not_not_intro hw0),if_neg (by show ¬(cC b (aK (aC c.path))).1.is=true;rw [hs9];decide)]
    repeat' (first|(refine aE ?_;first|(refine aD ?_;(refine aW rfl ⟨Tryz.call179⟩ rfl bF rfl (hM) ?_;rintro v V4 B4 hV4 ⟨rfl,hB4⟩))|refine pu9 ?_)|refine bV ?_|fail)
    all_goals
      (refine bC Tryz.results80 (aB rfl) (show List.Sublist B4 _ from bD) ?_)
      exact⟨rfl,hB4⟩
  · rw [vV hp]
    (refine bI Tryz.func80 rfl Tryz.ntmps80 rfl ?_;intro w0)
    repeat' (first|(refine aE ?_;first|(refine aD ?_;(refine aM rfl ⟨Tryz.call177⟩ rfl rfl (hS _) ?_;rintro v V2 hV2 ⟨A,n,k,rfl,hs,hnk⟩))|(refine al9 ?_;intro γ)|refine pu9 ?_)|refine fX ?_|(refine aJ rfl rfl rfl ?_ ?_<;>intro hq<;>try exact no9)|refine dX [0,1,2,3,4,5] rfl ?_|(refine aA rfl ?_ ?_<;>intro hq<;>try exact no9))
    all_goals first
      | exact no9
      | (refine eY ?_;(refine bC Tryz.results80 (aB rfl) (show List.Sublist [⟨p,130,bxC I b⟩] _ from bD) ?_);(repeat (first|rw [if_pos (by first|assumption|exact nb (by assumption)|exact .inl (by assumption)|exact .inr (by assumption))]|rw [if_neg (by first|assumption|exact not_not_intro (by assumption)|exact nf (by assumption)|exact nbf (by assumption)|exact nor2 (by assumption) (by assumption))]));exact⟨rfl,I,rfl,hI.up vl9⟩)
      | skip
theorem rput_c (V:aI) (p:Nat) (b:BX) (Bs:List Box) (hok:bK b) (h:eC V p b Bs) (c:CL) (hc:c.path.size≤1000000):FnB Tryz.prog 79 [.pointer (some ⟨p,0,none⟩),clV c] V Bs (RChB p (gJ b c)):=by
  obtain⟨I,rfl,hI⟩:=h
  have hd:=hok.d
  have hll:(aC c.path).length≤1000000:=by show c.path.data.toList.length≤1000000;rw [Array.length_toList];exact hc
  have hS:=fun V2=>uI V2 (aC c.path) hll
  rw [show (⟨(aC c.path).toArray⟩:ByteArray)=c.path from fJ c.path] at hS
  have hpb:=mO (aC c.path)
  have hsb:=mR b (aK (aC c.path)) (aK (aC c.path)).length
  have hfew:=fD (aC c.path)
  have hW:=fun (V1:aI) (hV1:VLe V V1) (A1:Option Addr) (n1 c1:Nat) (hS1:bZ V1 A1 n1 (aK (aC c.path))) (hc1:n1≤c1)=>rwalk_b (V:=V1) (p:=p) hok ⟨I,rfl,hI.up hV1⟩ A1 n1 c1 _ hS1 hc1
  have e:gJ b c=if c.a<0∨4095<c.a∨200<c.data.size then (b,1) else if c.path=⟨#[47]⟩ then (b,7) else if ¬pA b (aC c.path)=0 then (b,pA b (aC c.path))
    else if (aV b (aC c.path)).is=false then iQ b (aK (aC c.path)) (aV b (aC c.path)).par 1 c.a c.data
    else if (aV b (aC c.path)).th.dir=true then (b,7) else if iL b.c (aV b (aC c.path)).th 2=false then (b,9)
    else fV b (aK (aC c.path)) fun h=>{ h with data:=c.data,mode:=mK b.c.d h.mode }:=rfl
  rw [e]
  clear e
  by_cases ha:c.a<0∨4095<c.a∨200<c.data.size
  · rw [if_pos ha]
    (refine bI Tryz.func79 rfl Tryz.ntmps79 rfl ?_;intro w0)
    repeat' (first|(refine aE ?_;first|(refine al9 ?_;intro γ)|refine pu9 ?_)|refine fX ?_|(refine aJ rfl rfl rfl ?_ ?_<;>intro hq<;>try exact no9)|refine dX [0,1,2] rfl ?_|(refine aA rfl ?_ ?_<;>intro hq<;>try exact no9))
    all_goals first
      | exact no9
      | ((refine bC Tryz.results79 (aB rfl) (show List.Sublist [⟨p,130,bxC I b⟩] _ from bD) ?_);exact⟨rfl,I,rfl,hI⟩)
  rw [if_neg ha]
  by_cases hr:c.path=⟨#[47]⟩
  · rw [if_pos hr]
    (refine bI Tryz.func79 rfl Tryz.ntmps79 rfl ?_;intro w0)
    repeat' (first|(refine aE ?_;first|(refine al9 ?_;intro γ)|refine pu9 ?_)|refine gx9 ?_|(refine aJ rfl rfl rfl ?_ ?_<;>intro hq<;>try exact no9)|refine dX [0,1,3,4] rfl ?_|(refine aA rfl ?_ ?_<;>intro hq<;>try exact no9))
    all_goals first
      | exact no9
      | (exfalso;exact absurd hr (by assumption))
      | ((refine bC Tryz.results79 (aB rfl) (show List.Sublist [⟨p,130,bxC I b⟩] _ from bD) ?_);exact⟨rfl,I,rfl,hI⟩)
  rw [if_neg hr]
  by_cases hp:dY (aC c.path)=0
  · rw [spotF_ok hp]
    (refine bI Tryz.func79 rfl Tryz.ntmps79 rfl ?_;intro w0)
    repeat' (first|(refine aE ?_;first|(refine aD ?_;(first|(refine aM rfl ⟨Tryz.call177⟩ rfl rfl (hS _) ?_;rintro v V2 hV2 ⟨A,n,k,rfl,hs,hnk⟩)|(refine aW rfl ⟨Tryz.call178⟩ rfl bF rfl (hW _ vl9 A n k hs hnk) ?_;rintro v V3 B3 hV3 ⟨rfl,hR3⟩;rcases hR3 with ⟨hw0,x3,rfl,hx3N,hx3n⟩|⟨hw0,rfl⟩)))|(refine dG ?_;refine aO rfl siz_244 rfl rfl rfl rfl bG gG rfl ?_)|(refine al9 ?_;intro γ)|refine pu9 ?_)|refine fX ?_|(refine aJ rfl rfl rfl ?_ ?_<;>intro hq<;>try exact no9)|refine dX [0,1,3,4,5,6,8,9,10] rfl ?_|(refine aA rfl ?_ ?_<;>intro hq<;>try exact no9))
    all_goals first
      | exact no9
      | (exfalso;exact absurd (by assumption) hr)
      | (exfalso;unfold cC at *;omega)
      | (refine eY ?_;(refine bC Tryz.results79 (aB rfl) (show List.Sublist [⟨p,130,bxC I b⟩] _ from bD) ?_);(repeat (first|rw [if_pos (by first|assumption|exact nb (by assumption)|exact .inl (by assumption)|exact .inr (by assumption))]|rw [if_neg (by first|assumption|exact not_not_intro (by assumption)|exact nf (by assumption)|exact nbf (by assumption)|exact nor2 (by assumption) (by assumption))]));exact⟨rfl,I,rfl,hI.up vl9⟩)
      | skip
    rw [if_neg (not_not_intro hw0)]
    have hpm:=kH hok (aK (aC c.path)) (aK (aC c.path)).length
    have hsm:=pL hok (aK (aC c.path)) (aK (aC c.path)).length
    show GoC _ _ _ _ _ _ _ _ _
    cases his:(cC b (aK (aC c.path))).1.is with
    | false =>
      have hne:0<(aK (aC c.path)).length:=by
        rcases Nat.eq_zero_or_pos (aK (aC c.path)).length with h0|h0
        · exfalso
          rw [List.eq_nil_of_length_eq_zero h0,root_is hok] at his
          cases his
        · exact h0
      have hM:=rmade_c V3 p b _ hok ⟨I,rfl,hI.up (hV2.trans hV3)⟩ A n k _ (hs.le hV3) hnk (by have:=hs.1.1;omega) false x3 (cC b (aK (aC c.path))).1.lay (cC b (aK (aC c.path))).1.th (cC b (aK (aC c.path))).1.par hpm 1 c.a (.inl rfl) (by omega) c.data (by unfold maxLen;omega)
      rw [if_pos (show (aV b (aC c.path)).is=false from his)]
      repeat' (first|(refine aE ?_;first|(refine aD ?_;(refine aW rfl ⟨Tryz.call179⟩ rfl bF rfl (hM) ?_;rintro v V4 B4 hV4 ⟨rfl,hB4⟩))|refine pu9 ?_)|refine cD ?_|fail)
      all_goals
        (refine bC Tryz.results79 (aB rfl) (show List.Sublist B4 _ from bD) ?_)
        exact⟨rfl,hB4⟩
    | true =>
      rw [if_neg (show ¬(aV b (aC c.path)).is=false from (by show ¬(cC b (aK (aC c.path))).1.is=false;rw [his];decide))]
      have hdir:(aV b (aC c.path)).th.dir=decide (x3.n.h.kind=2):=by have h9:=spot_dir hw0 his;rw [←hx3n] at h9;exact h9
      by_cases hk2:x3.h.kind=2
      · rw [if_pos (show (aV b (aC c.path)).th.dir=true by rw [hdir];exact decide_eq_true hk2)]
        repeat' (first|(refine aE ?_;refine pu9 ?_)|refine cD ?_|(refine aA rfl ?_ ?_<;>intro hq<;>try exact no9))
        all_goals first
          | (exfalso;exact absurd hk2 (by assumption))
          | ((refine bC Tryz.results79 (aB rfl) (show List.Sublist [⟨p,130,bxC I b⟩] _ from bD) ?_);exact⟨rfl,I,rfl,hI.up (hV2.trans hV3)⟩)
      · rw [if_neg (show ¬(aV b (aC c.path)).th.dir=true by rw [hdir,decide_eq_false (show ¬x3.n.h.kind=2 from hk2)];decide)]
        have hMay:=fun V9 (h9:VLe V3 V9)=>xH V9 b.c I.A I.n I.k ((hI.xs.le (hV2.trans hV3)).le h9) hd (cC b (aK (aC c.path))).1.th hsm 2 (.inr (.inl rfl))
        have hAl:=tI V3 p b _ hok ⟨I,rfl,hI.up (hV2.trans hV3)⟩ A n k _ (hs.le hV3) hnk (by have:=hs.1.1;omega) true x3 (cC b (aK (aC c.path))).1.lay (cC b (aK (aC c.path))).1.th (cC b (aK (aC c.path))).1.par (kX 0 0 0 0 false c.data) (iR (by unfold maxLen;omega)) 1 (.inl rfl)
        rw [altF1] at hAl
        cases hmy:iL b.c (cC b (aK (aC c.path))).1.th 2 with
        | false =>
          rw [hmy] at hMay
          rw [if_pos (show iL b.c (aV b (aC c.path)).th 2=false from hmy)]
          repeat' (first|(refine aE ?_;first|(refine aD ?_;refine aN rfl (aG ⟨Tryz.call176⟩ rfl (hMay _ vl9)) ?_)|refine pu9 ?_)|refine cD ?_|(refine aA rfl ?_ ?_<;>intro hq<;>try exact no9)|refine bN (id:=15) mixed (by kernel_rfl) ?_)
          all_goals first
            | (exfalso;exact absurd (by assumption) hk2)
            | ((refine bC Tryz.results79 (aB rfl) (show List.Sublist [⟨p,130,bxC I b⟩] _ from bD) ?_);exact⟨rfl,I,rfl,hI.up (hV2.trans hV3)⟩)
        | true =>
          rw [hmy] at hMay
          rw [if_neg (show ¬iL b.c (aV b (aC c.path)).th 2=false from (by show ¬iL b.c (cC b (aK (aC c.path))).1.th 2=false;rw [hmy];decide))]
          repeat' (first|(refine aE ?_;first|(refine aD ?_;(first|refine aN rfl (aG ⟨Tryz.call176⟩ rfl (hMay _ vl9)) ?_|(refine aW rfl ⟨Tryz.call180⟩ rfl bF rfl (hAl) ?_;rintro v V4 B4 hV4 ⟨rfl,hB4⟩)))|refine pu9 ?_)|refine cD ?_|(refine aA rfl ?_ ?_<;>intro hq<;>try exact no9)|refine bN (id:=15) mixed (by kernel_rfl) ?_)
          all_goals first
            | (exfalso;exact absurd (by assumption) hk2)
            | ((refine bC Tryz.results79 (aB rfl) (show List.Sublist B4 _ from bD) ?_);exact⟨rfl,hB4⟩)
  · rw [vV hp]
    (refine bI Tryz.func79 rfl Tryz.ntmps79 rfl ?_;intro w0)
    repeat' (first|(refine aE ?_;first|(refine aD ?_;(refine aM rfl ⟨Tryz.call177⟩ rfl rfl (hS _) ?_;rintro v V2 hV2 ⟨A,n,k,rfl,hs,hnk⟩))|(refine al9 ?_;intro γ)|refine pu9 ?_)|refine gx9 ?_|(refine aJ rfl rfl rfl ?_ ?_<;>intro hq<;>try exact no9)|refine dX [0,1,3,4,5,6,7] rfl ?_|(refine aA rfl ?_ ?_<;>intro hq<;>try exact no9))
    all_goals first
      | exact no9
      | (exfalso;exact absurd (by assumption) hr)
      | (refine eY ?_;(refine bC Tryz.results79 (aB rfl) (show List.Sublist [⟨p,130,bxC I b⟩] _ from bD) ?_);(repeat (first|rw [if_pos (by first|assumption|exact nb (by assumption)|exact .inl (by assumption)|exact .inr (by assumption))]|rw [if_neg (by first|assumption|exact not_not_intro (by assumption)|exact nf (by assumption)|exact nbf (by assumption)|exact nor2 (by assumption) (by assumption))]));exact⟨rfl,I,rfl,hI.up vl9⟩)
      | skip
end
section
attribute [local irreducible] AtQ GoC GoL GoW QO QP Fn RV bX aL VLe cG bT
attribute [local irreducible] FnB
theorem rremoved_c (V:aI) (p:Nat) (b:BX) (Bs:List Box) (hok:bK b) (h:eC V p b Bs) (s:ByteArray) (hc:s.size≤1000000):FnB Tryz.prog 81 [.pointer (some ⟨p,0,none⟩),.string s] V Bs (RChB p (eL b s)):=by
  obtain⟨I,rfl,hI⟩:=h
  have hT:=fun V2 (hV2:VLe V V2)=>rat_b (V:=V2) (p:=p) hok ⟨I,rfl,hI.up hV2⟩ s hc
  have hm4:I.m≤4:=by rw [←hI.len];exact hok.l4
  have htb:=gX b (aC s)
  have hkb:=sC b (aV b (aC s))
  have hfew:=fD (aC s)
  have hpm:=kH hok (aK (aC s)) (aK (aC s)).length
  have hTk:=fun V2 (hV2:VLe V V2) A n c x=>rtaken_b (V:=V2) (p:=p) hok ⟨I,rfl,hI.up hV2⟩ A n c true x (aV b (aC s)) hpm
  have hll:=pJ (bY b.ls (aK (aC s)))
  have hLi:=fun V2 (hV2:VLe V V2) A m e (hs:bZ V2 A m (aK (aC s)))=>RList_c V2 I.K I.m I.e I.xs (hI.ls.le hV2) (by omega) A m e (aK (aC s)) hs (by have:=hs.1.1;omega) (by rw [hI.eq];exact rS hok _)
  rw [hI.eq] at hLi
  (refine bI Tryz.func81 rfl Tryz.ntmps81 rfl ?_;intro w0)
  repeat' (first|(refine aE ?_;first|(refine aD ?_;(first|(refine aW rfl ⟨Tryz.call174⟩ rfl bF rfl (hT _ vl9) ?_;rintro v V2 B2 hV2 ⟨rfl,hR⟩;rcases hR with ⟨ht0,A,n,k,x,rfl,hs,hnk,hxN,hxn⟩|⟨ht0,rfl⟩)|refine aN rfl (qQ ⟨Tryz.call181⟩ rfl bF (hTk _ vl9 A n k x)) ?_))|(refine dG ?_;refine aO rfl siz_244 rfl rfl rfl rfl bG gG rfl ?_)|(refine al9 ?_;intro γ)|refine pu9 ?_)|refine cD ?_|(refine aA rfl ?_ ?_<;>intro hq<;>try exact no9))
  all_goals first
    | exact no9
    | (refine eY ?_;(refine bC Tryz.results81 (aB rfl) (show List.Sublist [⟨p,130,bxC I b⟩] _ from bD) ?_)
       first
       | (rw [show eL b s=(b,15) from if_pos (by assumption)];exact⟨rfl,I,rfl,hI.up vl9⟩)
       | (rw [show eL b s=(b,cS b (aC s)) by unfold eL;rw [if_neg (by assumption),if_pos ht0]];exact⟨rfl,I,rfl,hI.up vl9⟩)
       | (rw [show eL b s=(b,eM b (aV b (aC s))) by unfold eL;rw [if_neg (by assumption),if_neg (not_not_intro ht0),if_pos (by omega)]];exact⟨rfl,I,rfl,hI.up vl9⟩))
    | skip
  obtain⟨g5,rfl⟩:∃ g5,g5=γ:=⟨γ,rfl⟩
  refine fC (fun F V' L'=>VLe V2 V'∧gQ (bY b.ls (aK (aC s)))=[]∧[⟨g5,244,spC A n k true x (aV b (aC s)).lay (aV b (aC s)).th (aV b (aC s)).par⟩,⟨p,130,bxC I b⟩]=L'∧F=[(0,.pointer (some ⟨p,0,none⟩)),(5,.pointer (some ⟨g5,0,none⟩))]) ?_ ?_
  · refine bM (id:=9) _ mixed (List.Sublist.refl _) ?_;refine gt9 0 ?_;refine gt9 1 ?_;refine gt9 2 ?_;refine gt9 3 ?_;refine gt9 4 ?_;refine gt9 5 ?_;refine aY (i:=6) rfl ?_;(refine aM rfl ⟨Tryz.call175⟩ rfl rfl (hLi _ vl9 _ _ _ (hs.le vl9)) ?_;rintro v V4 hV4 ⟨A4,n4,c4,rfl,hS4,hc4⟩);refine gt9 7 ?_;refine gt9 8 ?_;refine aU (by kernel_rfl) vl9 vl9 bD ?_
    all_goals
      have hn4:=hS4.1.1
      repeat' (first|(refine aE ?_;refine pu9 ?_)|refine bV ?_|(refine aA rfl ?_ ?_<;>intro hq<;>try exact no9))
    all_goals first
      | (refine oV ?_;exact bR _ ⟨vl9,List.eq_nil_of_length_eq_zero (by omega),rfl,rfl⟩ bH sp9)
      | (refine eY ?_;(refine bC Tryz.results81 (aB rfl) (show List.Sublist [⟨p,130,bxC I b⟩] _ from bD) ?_)
         rw [show eL b s=(b,8) by unfold eL;rw [if_neg (by assumption),if_neg (not_not_intro ht0),if_neg (by omega),if_pos (fun h9=>by rw [h9] at hn4;simp at hn4;omega)]]
         exact⟨rfl,I,rfl,hI.up vl9⟩)
  rintro F V4 L' ⟨hV4,hln,rfl,rfl⟩
  have hpos:=rF (qP ht0) (rN (by assumption))
  have hn:=hs.1.1
  have hVV4:=hV2.trans hV4
  have hmid:=up_mid hok (ss:=(aK (aC s)).take ((aK (aC s)).length - 1)) (by rw [List.length_take];omega)
  rw [show eL b s=if ¬(upP b.ls b.us b.gs ((aK (aC s)).take ((aK (aC s)).length - 1))).2=0 then (b,(upP b.ls b.us b.gs ((aK (aC s)).take ((aK (aC s)).length - 1))).2) else gone2 b (upP b.ls b.us b.gs ((aK (aC s)).take ((aK (aC s)).length - 1))).1 (aK (aC s)) by
    unfold eL;rw [if_neg (by assumption),if_neg (not_not_intro ht0),if_neg (by omega),if_neg (not_not_intro hln)]]
  have hli:∀ y∈I.xs,cA eW y.n:=fun y hy=>hok.light _ (by rw [←hI.eq];exact List.mem_map_of_mem (f:=LN.n) hy)
  have e9:(((n:Nat):Int) - 1).toNat=(aK (aC s)).length - 1:=by omega
  have hstr:bZ V2 A (((n:Nat):Int) - 1).toNat ((aK (aC s)).take ((aK (aC s)).length - 1)):=by rw [e9];exact jZ hs (by omega)
  have hU:=fun V9 (h9:VLe V4 V9)=>RUp_c V9 I.K I.m I.e I.xs (hI.ls.le (hVV4.trans h9)) (by omega) hli I.M (hI.M.le (hVV4.trans h9)) A _ k _ (hstr.le (hV4.trans h9)) (by omega) (by omega)
  rw [hI.eq,hI.us,hI.gs] at hU
  have hub2:=oQ b.ls b.us b.gs ((aK (aC s)).take ((aK (aC s)).length - 1))
  generalize (upP b.ls b.us b.gs ((aK (aC s)).take ((aK (aC s)).length - 1)))=up at *
  repeat' (first|refine gx9 ?_|fail)
  refine dD (fun F V' L'=>∃ (γ8:Nat) (u:LN),VLe V4 V'∧aX V' u∧u.n=up.1∧[⟨γ8,70,lnC u⟩,⟨g5,244,spC A n k true x (aV b (aC s)).lay (aV b (aC s)).th (aV b (aC s)).par⟩,⟨p,130,bxC I b⟩]=L'∧F=[(0,.pointer (some ⟨p,0,none⟩)),(5,.pointer (some ⟨g5,0,none⟩)),(6,.int .i64 up.2),(8,.pointer (some ⟨γ8,0,none⟩))]) ?_ ?_
  · refine bM (id:=11) _ mixed (List.Sublist.refl _) ?_;refine gt9 0 ?_;refine gt9 1 ?_;refine gt9 2 ?_;refine gt9 3 ?_;refine gt9 4 ?_;refine gt9 5 ?_;refine gt9 6 ?_;refine gt9 7 ?_;refine gt9 8 ?_;refine gt9 9 ?_;refine gt9 10 ?_;refine gt9 11 ?_;refine gt9 12 ?_;refine gt9 13 ?_;refine fP 14 rfl rfl (dS und_47 siz_9 rfl rfl (by omega)) ?_;(refine dF (i:=15) (j:=19) (by kernel_rfl) rfl rfl rfl rfl vl9 vl9 bD ?_ ?_<;>first|((refine aM rfl ⟨Tryz.call182⟩ rfl rfl (hU _ vl9) ?_;rintro v V5 hV5 ⟨u,rfl,huN,hun⟩);refine gt9 16 ?_;refine gt9 17 ?_;refine gt9 18 ?_;refine aY (i:=19) rfl ?_;(refine bS rfl zer_70 rfl ?_;intro γ);refine aY (i:=20) rfl ?_;refine aO rfl siz_70 rfl rfl rfl rfl bG dC rfl ?_;refine gt9 21 ?_;refine aU (by kernel_rfl) vl9 vl9 bD ?_)|((refine bS rfl zer_70 rfl ?_;intro γ);refine aY (i:=15) rfl ?_;(refine aM rfl ⟨Tryz.call182⟩ rfl rfl (hU _ vl9) ?_;rintro v V5 hV5 ⟨u,rfl,huN,hun⟩);refine gt9 16 ?_;refine gt9 17 ?_;refine gt9 18 ?_;refine aY (i:=20) rfl ?_;refine aO rfl siz_70 rfl rfl rfl rfl bG dC rfl ?_;refine gt9 21 ?_;refine aU (by kernel_rfl) vl9 vl9 bD ?_))
    all_goals exact bR _ ⟨_,u,vl9,huN.le vl9,hun,rfl,rfl⟩ bH sp9
  rintro F V5 L' ⟨γ8,u,hV5,huN,hun,rfl,rfl⟩
  have hVV5:=hVV4.trans hV5
  by_cases hu:up.2=0
  · have hub:=hmid hu
    rw [if_neg (not_not_intro hu),hu]
    have hgb:=goneF_bd b up.1 (aK (aC s))
    have hGo:=rgone_b (V:=V5) (p:=p) hok ⟨I,rfl,hI.up hVV5⟩ u huN (by rw [hun];exact hub.imp fun _ _=>gK (by omega)) A n k _ ((hs.le hV4).le hV5) hnk
    rw [hun] at hGo
    unfold gone2
    repeat' (first|(refine aE ?_;first|(refine aD ?_;(refine aW rfl ⟨Tryz.call183⟩ rfl bF rfl (hGo) ?_;rintro v V6 B6 hV6 ⟨rfl,z,rfl,hzN,hzn⟩))|refine st9 ?_|refine pu9 ?_)|refine fX ?_|refine dX [12,14] rfl ?_)
    have e0:spl (lnC u) 0 (lnC z)=lnC z:=gY rfl
    rw [e0]
    by_cases hg:iB b up.1 (aK (aC s))=0
    · rw [if_neg (not_not_intro hg)]
      have hG2:=rgrow_c V6 p b _ hok ⟨I,rfl,hI.up (hVV5.trans hV6)⟩ z hzN
      rw [hzn hg] at hG2
      repeat' (first|(refine aE ?_;first|(refine aD ?_;(refine aW rfl ⟨Tryz.call184⟩ rfl bF rfl (hG2) ?_;rintro v V7 B7 hV7 ⟨rfl,hB7⟩))|refine pu9 ?_)|refine bV ?_|(refine aA rfl ?_ ?_<;>intro hq<;>try exact no9))
      all_goals first
        | exact no9
        | ((refine bC Tryz.results81 (aB rfl) (show List.Sublist B7 _ from bD) ?_);exact⟨rfl,hB7⟩)
    · rw [if_pos hg]
      repeat' (first|(refine aE ?_;refine pu9 ?_)|refine bV ?_|(refine aA rfl ?_ ?_<;>intro hq<;>try exact no9))
      all_goals first
        | exact no9
        | ((refine bC Tryz.results81 (aB rfl) (show List.Sublist [⟨p,130,bxC I b⟩] _ from bD) ?_);exact⟨rfl,I,rfl,hI.up (hVV5.trans hV6)⟩)
  · rw [if_pos hu]
    repeat' (first|(refine aE ?_;refine pu9 ?_)|refine bV ?_|(refine aA rfl ?_ ?_<;>intro hq<;>try exact no9))
    all_goals first
      | exact no9
      | ((refine bC Tryz.results81 (aB rfl) (show List.Sublist [⟨p,130,bxC I b⟩] _ from bD) ?_);exact⟨rfl,I,rfl,hI.up hVV5⟩)
end
section
def lfdP (h:Hd) (ks:PKs):Prop:=(h.kind=2∨ks=[])∧(h.kind=1∨h.data.size=0)
theorem one_lfd {h:Hd} {many up root:Bool} (h0:jJ h many up root=0):(h.kind=2∨many=false)∧(h.kind=1∨h.data.size=0):=by
  unfold jJ at h0
  split at h0
  · omega
  · split at h0
    · omega
    · split at h0
      · rename_i h9;exact absurd h0 h9
      · split at h0
        · omega
        · split at h0
          · omega
          · rename_i h9
            constructor
            · by_cases hk:h.kind=2
              · exact .inl hk
              · refine .inr ?_
                cases many
                · rfl
                · exact absurd (.inr (.inr (.inl ⟨hk,.inl rfl⟩))) h9
            · by_cases hk:h.kind=1
              · exact .inl hk
              · refine .inr ?_
                by_cases hd:0<h.data.size
                · exact absurd (.inr (.inl ⟨hk,hd⟩)) h9
                · omega
theorem lfd_ok {u:Bool}:∀ (n:PN) (d so:Nat),so≤60→(cH u d so n).2=0→cA lfdP n:=by
  refine PN.ind (p:=fun n=>∀ (d so:Nat),so≤60→(cH u d so n).2=0→cA lfdP n) ?_
  intro h ks ih d so hs hc
  obtain⟨⟨h1,_⟩,h2,h3⟩:=rB.1 hc
  obtain⟨_,h4⟩:=tE (by omega) h3
  obtain⟨k1,k2⟩:=one_lfd h2
  refine .mk ⟨k1.imp id fun h9=>?_,k2⟩ fun k hk=>by
    obtain⟨so',hs',hc'⟩:=(h4 k hk).2.2
    exact ih k hk (d+1) so' hs' hc'
  have h9:¬0<ks.length:=of_decide_eq_false h9
  exact List.eq_nil_of_length_eq_zero (by omega)
theorem tree_lfd {u:Bool} {n:PN} (h:dK u n=0):cA lfdP n:=lfd_ok n 0 0 (by omega) (rU.1 h).2
theorem bK.lfd {b:BX} (h:bK b):∀ x∈b.ls,cA lfdP x:=fun x hx=>by
  obtain⟨u,hu⟩:=h.tree x hx
  exact tree_lfd hu
theorem file_list {b:BX} (hok:bK b) {l:List UInt8} (h:cS b l=0) (hk:(aV b l).n.h.kind=1):gQ (bY b.ls (aK l))=[]:=by
  obtain⟨f,r,hw,e1,_,_⟩:=nX h
  rw [e1] at hk
  obtain⟨X,hX⟩:=wS b.ls (aK l)
  rw [hw] at hX
  have hr:r=[]:=by
    rcases (iJ hX.symm).1 with ⟨_,h9⟩|h9
    · exact h9
    · omega
  have hf:=(fZ hok.lfd (aK l) f (by rw [hw];simp)).here
  have hks:f.1.ks=[]:=by
    rcases hf.1 with h9|h9
    · omega
    · exact h9
  rw [hw,hr]
  have hn:dW [f]=[]:=by show f.1.ks.map Prod.fst ++ []=[];rw [hks];rfl
  refine List.eq_nil_iff_forall_not_mem.2 fun s hs=>?_
  have h9:=(pP.1 hs).1
  rw [hn] at h9
  cases h9
theorem dir_data {b:BX} (hok:bK b) {l:List UInt8} (h:cS b l=0) (hk:(aV b l).n.h.kind=2):(aV b l).n.h.data=⟨#[]⟩:=by
  obtain⟨f,r,hw,e1,_,_⟩:=nX h
  rw [e1] at hk ⊢
  have hf:=(fZ hok.lfd (aK l) f (by rw [hw];simp)).here
  rcases hf.2 with h9|h9
  · omega
  · exact size_zero.2 h9
end
section
def mT (r:TD×Int) (v:Value) (V':aI):Prop:=∃ (A:Option Addr) (n c:Nat),v=.tuple #[tdV r.1 A n c,.int .i64 r.2]∧bZ V' A n r.1.names∧n≤c
theorem mT.no {e:Int} {V':aI}:mT (tdZ,e) (.tuple #[tdV tdZ none 0 0,.int .i64 e]) V':=⟨none,0,0,rfl,bZ.nil,Nat.le_refl _⟩
attribute [local irreducible] AtQ GoC GoL GoW QO QP Fn RV bX aL VLe cG bT
attribute [local irreducible] FnB
theorem rlooks_c (V:aI) (p:Nat) (b:BX) (I:BI) (hok:bK b) (h:mZ V p b I) (c:CL) (hc:c.path.size≤1000000) (ho:1≤c.op∧c.op≤3):Fn Tryz.prog 78 [.pointer (some ⟨p,0,none⟩),clV c] V (mT (iY b c)):=by
  have hT:=fun V2 (hV2:VLe V V2)=>rat_c V2 p b I hok (h.le hV2) (aC c.path) (by show c.path.data.toList.length≤1000000;rw [Array.length_toList];exact hc)
  rw [show (⟨(aC c.path).toArray⟩:ByteArray)=c.path from fJ c.path] at hT
  have hI:=h.2
  have hd:=hok.d
  have hm4:I.m≤4:=by rw [←hI.len];exact hok.l4
  have htb:=gX b (aC c.path)
  have hfew:=fD (aC c.path)
  have hsm:=fH hok (aC c.path)
  have hLi:=fun V2 (hV2:VLe V V2) A m e (hs:bZ V2 A m (aK (aC c.path)))=>RList_c V2 I.K I.m I.e I.xs (hI.ls.le hV2) (by omega) A m e (aK (aC c.path)) hs (by have:=hs.1.1;omega) (by rw [hI.eq];exact rS hok _)
  rw [hI.eq] at hLi
  (refine aH Tryz.func78 rfl Tryz.ntmps78 rfl ?_;intro w0)
  repeat' (first|(refine aE ?_;first|(refine al9 ?_;intro γ)|refine pu9 ?_)|refine gx9 ?_|refine cL (id:=0) ?_)
  rename_i g3
  obtain⟨g4,rfl⟩:∃ g4,g4=γ:=⟨γ,rfl⟩
  repeat' (first|(refine aE ?_;first|(refine aD ?_;(refine aM rfl ⟨Tryz.call174⟩ rfl rfl (hT _ vl9) ?_;rintro v V2 hV2 hR;rcases hR with ⟨ht0,A,n,k,x,rfl,hs,hnk,hxN,hxn⟩|⟨ht0,rfl⟩))|(refine dG ?_;refine aO rfl siz_244 rfl rfl rfl rfl bG gG rfl ?_)|refine st9 ?_|(refine al9 ?_;intro γ)|refine pu9 ?_)|refine cD ?_|(refine aA rfl ?_ ?_<;>intro hq<;>try exact no9))
  all_goals first
    | exact no9
    | (refine eY ?_;(refine bA Tryz.results78 (aS agg_49 rfl bB (by exact rfl)) (aB rfl) ?_);rw [show iY b c=(tdZ,cS b (aC c.path)) from if_pos ht0];exact mT.no)
    | skip
  obtain⟨g6,rfl⟩:∃ g6,g6=γ:=⟨γ,rfl⟩
  obtain⟨hcM,hcC,hcq,hcl⟩:=(h.le hV2).parts
  have hdir:(aV b (aC c.path)).th.dir=decide (x.h.kind=2):=by
    obtain⟨f,r,hw,e1,e2,e3⟩:=nX ht0
    rw [e3,←e1,←hxn];rfl
  have hlt:iY b c=if c.op=1 then (⟨(aV b (aC c.path)).n.h.kind,(aV b (aC c.path)).n.h.mode,(aV b (aC c.path)).th.user,(aV b (aC c.path)).th.group,((aV b (aC c.path)).n.h.data.size:Int)+((gQ (bY b.ls (aK (aC c.path)))).length:Int),[],⟨#[]⟩⟩,0)
      else if ¬(aV b (aC c.path)).th.dir=decide (c.op=2) then (tdZ,7)
      else if iL b.c (aV b (aC c.path)).th 4=false then (tdZ,9)
      else (⟨0,0,0,0,0,gQ (bY b.ls (aK (aC c.path))),(aV b (aC c.path)).n.h.data⟩,0):=if_neg (not_not_intro ht0)
  rw [hlt]
  clear hlt
  refine dD (fun F V' L'=>∃ (A8:Option Addr) (n8 c8:Nat),VLe V2 V'∧bZ V' A8 n8 (gQ (bY b.ls (aK (aC c.path))))∧n8≤c8∧[⟨g6,244,spC A n k true x (aV b (aC c.path)).lay (aV b (aC c.path)).th (aV b (aC c.path)).par⟩,⟨g4,49,[.int .i64 0,.int .i64 0,.int .i64 0,.int .i64 0,.int .i64 0,.slice none 0 0,.string ⟨#[]⟩]⟩,⟨g3,53,clC c⟩]=L'∧F=[(0,.pointer (some ⟨p,0,none⟩)),(3,.pointer (some ⟨g3,0,none⟩)),(4,.pointer (some ⟨g4,0,none⟩)),(6,.pointer (some ⟨g6,0,none⟩)),(8,.slice A8 n8 c8)]) ?_ ?_
  · refine bM (id:=4) _ mixed (List.Sublist.refl _) ?_;refine gt9 0 ?_;refine gt9 1 ?_;refine gt9 2 ?_;refine gt9 3 ?_;refine gt9 4 ?_;refine gt9 5 ?_;refine aY (i:=6) rfl ?_;(refine aM rfl ⟨Tryz.call175⟩ rfl rfl (hLi _ vl9 _ _ _ (hs.le vl9)) ?_;rintro v V3 hV3 ⟨A8,n8,c8,rfl,hS8,hc8⟩);refine gt9 7 ?_;refine aU (by kernel_rfl) vl9 vl9 bD ?_
    all_goals exact bR _ ⟨A8,n8,c8,vl9,hS8.le vl9,hc8,rfl,rfl⟩ bH sp9
  rintro F V3 L' ⟨A8,n8,c8,hV3,hS8,hc8,rfl,rfl⟩
  have hn8:=hS8.1.1
  have hcC3:=hcC.le hV3
  have hMay:=fun V9 (h9:VLe V3 V9)=>xH V9 b.c I.A I.n I.k ((hI.xs.le (hV2.trans hV3)).le h9) hd (aV b (aC c.path)).th hsm 4 (.inr (.inr rfl))
  have hdt:x.h.data.size≤200:=by have h9:=there_data hok (aC c.path);rw [←hxn] at h9;exact h9
  have hll:=pJ (bY b.ls (aK (aC c.path)))
  have hbn:=rS hok (aK (aC c.path))
  have hn8b:n8≤1000000:=by omega
  rw [hdir,←hxn]
  by_cases o1:c.op=1
  · rw [if_pos o1,hn8]
    repeat' (first|(refine aE ?_;first|refine st9 ?_|refine pu9 ?_)|refine gx9 ?_|refine dX [5,6] rfl ?_|(refine aA rfl ?_ ?_<;>intro hq<;>try exact no9))
    all_goals first
      | exact no9
      | ((refine bA Tryz.results78 (aS agg_49 rfl bB (by exact rfl)) (aB rfl) ?_);exact⟨none,0,0,rfl,bZ.nil,Nat.le_refl _⟩)
  · rw [if_neg o1]
    have hk12:x.h.kind=1∨x.h.kind=2:=by
      obtain⟨f,r,hw,e1,e2,e3⟩:=nX ht0
      obtain⟨X,hX⟩:=wS b.ls (aK (aC c.path))
      rw [hw] at hX
      have h9:x.n.h.kind=f.1.h.kind:=by rw [hxn,e1]
      have h8:x.n.h.kind=x.h.kind:=rfl
      rcases (iJ hX.symm).1 with ⟨g1,_⟩|g1<;>omega
    by_cases hx2:decide (x.h.kind=2)=decide (c.op=2)
    · rw [if_neg (not_not_intro hx2)]
      have hx3:x.h.kind=2↔c.op=2:=decide_eq_decide.1 hx2
      cases hm9:iL b.c (aV b (aC c.path)).th 4 with
      | false =>
        rw [hm9] at hMay
        rw [if_pos rfl]
        repeat' (first|(refine aE ?_;refine pu9 ?_)|refine cD ?_|(refine aJ rfl rfl rfl ?_ ?_<;>intro hq<;>try exact no9)|(refine aA rfl ?_ ?_<;>intro hq<;>try exact no9))
        all_goals try exact no9
        all_goals (refine bM (id:=9) _ mixed (List.Sublist.refl _) ?_;refine gt9 0 ?_;refine gt9 1 ?_;refine gt9 2 ?_;refine gt9 3 ?_;refine gt9 4 ?_;refine gt9 5 ?_;refine aY (i:=6) rfl ?_;refine aN rfl (aG ⟨Tryz.call176⟩ rfl (hMay _ vl9)) ?_;refine gt9 7 ?_;refine aU (by kernel_rfl) vl9 vl9 bD ?_)
        all_goals repeat' (first|(refine aE ?_;first|refine st9 ?_|refine pu9 ?_)|refine cD ?_|fail)
        all_goals first
          | exact no9
          | ((refine bA Tryz.results78 (aS agg_49 rfl bB (by exact rfl)) (aB rfl) ?_);exact mT.no)
      | true =>
        rw [hm9] at hMay
        rw [if_neg (by decide)]
        by_cases o2:c.op=2
        · have hk2:(aV b (aC c.path)).n.h.kind=2:=by rw [←hxn];exact hx3.2 o2
          have hdz:x.n.h.data=⟨#[]⟩:=by rw [hxn];exact dir_data hok ht0 hk2
          rw [hdz]
          repeat' (first|(refine aE ?_;refine pu9 ?_)|refine cD ?_|(refine aJ rfl rfl rfl ?_ ?_<;>intro hq<;>try exact no9)|(refine aA rfl ?_ ?_<;>intro hq<;>try exact no9))
          all_goals try exact no9
          all_goals (refine bM (id:=9) _ mixed (List.Sublist.refl _) ?_;refine gt9 0 ?_;refine gt9 1 ?_;refine gt9 2 ?_;refine gt9 3 ?_;refine gt9 4 ?_;refine gt9 5 ?_;refine aY (i:=6) rfl ?_;refine aN rfl (aG ⟨Tryz.call176⟩ rfl (hMay _ vl9)) ?_;refine gt9 7 ?_;refine aU (by kernel_rfl) vl9 vl9 bD ?_)
          all_goals repeat' (first|(refine aE ?_;first|refine st9 ?_|refine pu9 ?_)|refine cD ?_|(refine aA rfl ?_ ?_<;>intro hq<;>try exact no9))
          all_goals first
            | exact no9
            | ((refine bA Tryz.results78 (aS agg_49 rfl bB (by exact rfl)) (aB rfl) ?_);exact⟨A8,n8,c8,rfl,hS8.le vl9,hc8⟩)
        · have hk1:(aV b (aC c.path)).n.h.kind=1:=by
            rw [←hxn];show x.h.kind=1
            rcases hk12 with h9|h9
            · exact h9
            · exact absurd (hx3.1 h9) o2
          rw [file_list hok ht0 hk1]
          repeat' (first|(refine aE ?_;refine pu9 ?_)|refine bV ?_|(refine aJ rfl rfl rfl ?_ ?_<;>intro hq<;>try exact no9)|(refine aA rfl ?_ ?_<;>intro hq<;>try exact no9))
          all_goals try exact no9
          all_goals (refine bM (id:=9) _ mixed (List.Sublist.refl _) ?_;refine gt9 0 ?_;refine gt9 1 ?_;refine gt9 2 ?_;refine gt9 3 ?_;refine gt9 4 ?_;refine gt9 5 ?_;refine aY (i:=6) rfl ?_;refine aN rfl (aG ⟨Tryz.call176⟩ rfl (hMay _ vl9)) ?_;refine gt9 7 ?_;refine aU (by kernel_rfl) vl9 vl9 bD ?_)
          all_goals repeat' (first|(refine aE ?_;first|refine st9 ?_|refine pu9 ?_)|refine cD ?_|(refine aA rfl ?_ ?_<;>intro hq<;>try exact no9))
          all_goals first
            | exact no9
            | ((refine bA Tryz.results78 (aS agg_49 rfl bB (by exact rfl)) (aB rfl) ?_);exact⟨none,0,0,rfl,bZ.nil,Nat.le_refl _⟩)
    · rw [if_pos hx2]
      have hx3:¬(x.h.kind=2↔c.op=2):=fun h9=>hx2 (decide_eq_decide.2 h9)
      repeat' (first|(refine aE ?_;first|refine st9 ?_|refine pu9 ?_)|refine cD ?_|(refine aJ rfl rfl rfl ?_ ?_<;>intro hq<;>try exact no9)|(refine aA rfl ?_ ?_<;>intro hq<;>try exact no9))
      all_goals first
        | exact no9
        | ((refine bA Tryz.results78 (aS agg_49 rfl bB (by exact rfl)) (aB rfl) ?_);exact mT.no)
end
section
theorem up_kind {us gs:List PR} {n0:PN} {t:List PN} {ss:List ByteArray} (hk:n0.h.kind=2) (hw:bY (n0 :: t) ss≠[]):∀ i,i≤ss.length→(upK (n0 :: t) us gs ss n0 i).2=0→∀ f r f2 r2,bY ((upK (n0 :: t) us gs ss n0 i).1 :: t) (ss.take i)=f :: r→bY (n0 :: t) (ss.take i)=f2 :: r2→f.1.h.kind=f2.1.h.kind
  | 0,_,_,f,r,f2,r2,h1,h2=>by
    have h3:f :: r=f2 :: r2:=h1.symm.trans h2
    injection h3 with h4 h5
    rw [h4]
  | i+1,hi,h,f9,r9,f2,r2,g1,g2=>by
    have hprev:(upK (n0 :: t) us gs ss n0 i).2=0:=by
      by_cases hp:(upK (n0 :: t) us gs ss n0 i).2=0
      · exact hp
      · rw [upK,if_neg hp] at h;exact absurd h hp
    have ih:=upI hk hw i (by omega) hprev
    rw [sM hprev] at h g1
    generalize (upK (n0 :: t) us gs ss n0 i).1=u at *
    obtain⟨s,hs⟩:∃ s,ss[i]?=some s:=⟨_,List.getElem?_eq_getElem (by omega)⟩
    have e1:=nP (l:=u :: t) hs
    have e2:=nP (l:=n0 :: t) hs
    have e3:bY (u :: t) (ss.take (i+1))=bY (n0 :: t) (ss.take (i+1)):=by rw [e1,e2,ih.s s]
    have hq:=g2
    have hf0:=walk_lay (n0 :: t) (ss.take (i+1)) f2 (by rw [hq];simp)
    by_cases hf:f2.2=0
    · rw [lS hq hf] at g1
      rw [e3,hq] at g1
      injection g1 with h4 h5
      rw [h4]
    · cases hm:cT true us gs (jT f2.1) with
      | none=>rw [oK hq hf hm] at h;simp at h
      | some x =>
        by_cases hp:pF false x u (ss.take (i+1))=0
        · rw [lZ hq hf hm hp] at g1
          have hr:=iG (l:=t) ih.k
          have hfold:(ss.take (i+1)).foldl cO ((u,0) :: (if u.h.opq=true then [] else dI (iA 1 t)))=f2 :: r2:=by
            rw [←hr];exact e3.trans hq
          obtain⟨r1,_,_⟩:=put_up _ u _ f2 r2 hfold (by omega) hm hp
          have hk2:(pN false x u (ss.take (i+1))).h.kind=2:=by rw [pN_h];exact ih.k
          have hr2:jE (pN false x u (ss.take (i+1)) :: t)=(pN false x u (ss.take (i+1)),0) :: (if u.h.opq=true then [] else dI (iA 1 t)):=by
            rw [iG hk2,pN_h]
          have hw2:bY (pN false x u (ss.take (i+1)) :: t) (ss.take (i+1))=(x,0) :: (if f2.1.h.kind=1 then [] else f2 :: r2):=by
            unfold bY;rw [hr2];exact r1
          obtain⟨hx1,hx2,hx3,hx4⟩:=moved_in hm
          rw [hw2] at g1
          injection g1 with h4 h5
          rw [←h4];exact hx2
        · rw [lQ hq hf hm hp] at h;exact absurd h hp
theorem move_kind {b:BX} (hok:bK b) {ss:List ByteArray} (h:(upP b.ls b.us b.gs ss).2=0) {f:PF} {r:List PF} (hw:bY b.ls ss=f :: r):((dN (upP b.ls b.us b.gs ss).1 ss).getD pnZ).h.kind=f.1.h.kind:=by
  have hT:=hok.t
  have hk:=hT.k
  rw [hT.e] at h hw ⊢
  generalize upB b=n0 at *
  generalize b.ls.tail=t at *
  have hne:bY (n0 :: t) ss≠[]:=by rw [hw];simp
  unfold upP at h ⊢
  rw [if_neg hne] at h ⊢
  have h9:=upI hk hne ss.length (Nat.le_refl _) h
  have h8:=up_kind (us:=b.us) (gs:=b.gs) hk hne ss.length (Nat.le_refl _) h
  show ((dN (upK (n0 :: t) b.us b.gs ss n0 ss.length).1 ss).getD pnZ).h.kind=f.1.h.kind
  have h9:UpI b.us b.gs n0 t ss ss.length (upK (n0 :: t) b.us b.gs ss n0 ss.length).1:=h9
  generalize (upK (n0 :: t) b.us b.gs ss n0 ss.length).1=u at *
  obtain⟨f0,r0,k1,k2⟩:=h9.w
  rw [List.take_length] at k1 h8
  have k3:=h8 f0 r0 f r k1 hw
  rw [walk_d0 h9.k] at k1
  obtain⟨k4,_⟩:=walk_top ss _ _ f0 r0 h9.k (d0_pos _ _) k1 k2
  rw [k4];exact k3
end
end Go.Proofs.YtejkmomfpidnbabGreat
