/- Walks and plain laws, part 5: what functions compute, proved once each (MergeF, MergeF2, Sort, MergeQ, Map, MergeG, MergeG2, FlatP, FlatT, FlatS, IdmapE, IdmapE2, IdmapE3, CopyP, CopyE, CopyE2, IdmapT, ComesP, ComesQ, LayE). -/
import Derived.Test.YtejkmomfpidnbacGreatPart4
import Derived.Test.YtejkmomfpidnbacGreatPart2
import Derived.Test.YtejkmomfpidnbacGreatPart1
import Derived.Test.YtejkmomfpidnbacGreatProg
import Derived.Sort.OwnSorted
import Derived.Shelf.Sort.Plain
import Derived.Shelf.Slices.In.SortNone2
import Derived.Sort.KeysCollected
import Derived.MapKept
import Derived.Test.YtejkmomfpidnbacGreatPart3
set_option linter.unusedSimpArgs false
set_option linter.unusedVariables false
set_option maxRecDepth 100000
set_option maxHeartbeats 40000000
namespace Go.Proofs.YtejkmomfpidnbacGreat
open Go.RowKit
section
def Rise (l:List PF):Prop:=(l.map Prod.snd).Pairwise (·<·)∧∀ f∈l,0≤f.2
theorem Rise.sub {l l':List PF} (h:Rise l) (hs:(l'.map Prod.snd).Sublist (l.map Prod.snd)):Rise l':=⟨h.1.sublist hs,fun f hf=>by
  obtain⟨g,hg,he⟩:=List.mem_map.1 (hs.subset (List.mem_map_of_mem (f:=Prod.snd) hf))
  rw [←he];exact h.2 g hg⟩
theorem layP_ge:∀ (l:List PN) (i:Int),∀ f∈mX i l,i≤f.2
  | [],_,_,h=>by cases h
  | n :: l,i,f,h=>by
    rw [mX] at h
    rcases List.mem_cons.1 h with rfl|h
    · exact Int.le_refl _
    · have:=layP_ge l (i+1) f h;omega
theorem layP_rise:∀ (l:List PN) (i:Int),0≤i→Rise (mX i l)
  | [],_,_=>⟨List.Pairwise.nil,by simp [mX]⟩
  | n :: l,i,h=>by
    obtain⟨h1,h2⟩:=layP_rise l (i+1) (by omega)
    refine⟨?_,fun f hf=>?_⟩
    · rw [mX,List.map_cons,List.pairwise_cons]
      refine⟨fun x hx=>?_,h1⟩
      obtain⟨g,hg,rfl⟩:=List.mem_map.1 hx
      have:=layP_ge l (i+1) g hg
      show i<g.2;omega
    · have:=layP_ge (n :: l) i f hf;omega
theorem dirsP_subl:∀ l:List PF,(eB l).Sublist l
  | []=>List.Sublist.refl _
  | f :: l=>by
    rw [eB];split
    · split
      · exact List.Sublist.cons_cons _ (List.nil_sublist _)
      · exact(dirsP_subl l).cons_cons _
    · exact List.nil_sublist _
theorem shownP_subl (l:List PF):(dV l).Sublist l:=by
  cases l with
  | nil=>exact List.Sublist.refl _
  | cons f l =>
    rw [dV];split
    · exact List.Sublist.cons_cons _ (List.nil_sublist _)
    · exact dirsP_subl _
theorem kidP_lay {s:ByteArray} {f g:PF} (h:oU s f=some g):g.2=f.2:=by
  unfold oU at h
  split at h
  · cases h2:gT f.1.ks s with
    | none=>rw [h2] at h;cases h
    | some x=>rw [h2] at h;cases h;rfl
  · cases h
theorem fm_lay (s:ByteArray):∀ l:List PF,((l.filterMap (oU s)).map Prod.snd).Sublist (l.map Prod.snd)
  | []=>List.Sublist.refl _
  | f :: l=>by
    rw [List.filterMap_cons]
    cases h:oU s f with
    | none=>exact(fm_lay s l).cons _
    | some g =>
      simp only [List.map_cons,kidP_lay h]
      exact(fm_lay s l).cons_cons _
theorem stepP_rise {l:List PF} (s:ByteArray) (h:Rise l):Rise (eJ l s):=h.sub (((shownP_subl _).map Prod.snd).trans (fm_lay s l))
theorem walkP_rise (l:List PN) (ss:List ByteArray):Rise (dT l ss):=by
  have key:∀ (ss:List ByteArray) (a:List PF),Rise a→Rise (ss.foldl eJ a):=fun ss=>by
    induction ss with
    | nil=>intro a ha;exact ha
    | cons s ss ih=>intro a ha;exact ih _ (stepP_rise s ha)
  exact key ss _ ((layP_rise l 0 (Int.le_refl _)).sub ((shownP_subl _).map Prod.snd))
theorem fm_congr9 {α β:Type} {p q:α→Option β}:∀ {l:List α},(∀ x∈l,p x=q x)→l.filterMap p=l.filterMap q
  | [],_=>rfl
  | x :: l,h=>by rw [List.filterMap_cons,List.filterMap_cons,h x (by simp),fm_congr9 (fun y hy=>h y (by simp [hy]))]
def cutP:List PF→List PF
  | []=>[]
  | f :: t=>if f.2=0 then t else f :: t
theorem cut_kids {r:List PF} (s:ByteArray) (h:Rise r):r.filterMap (kidB true s)=(cutP r).filterMap (oU s):=by
  cases r with
  | nil=>rfl
  | cons f t =>
    obtain⟨h1,h2⟩:=h
    rw [List.map_cons,List.pairwise_cons] at h1
    have h0:=h2 f (by simp)
    have ht:t.filterMap (kidB true s)=t.filterMap (oU s):=fm_congr9 fun g hg=>by
      have:=h1.1 g.2 (List.mem_map_of_mem (f:=Prod.snd) hg)
      exact if_neg fun ⟨_,hz⟩=>by omega
    rw [cutP,List.filterMap_cons]
    by_cases hf:f.2=0
    · rw [if_pos hf,kidB_cut rfl hf];exact ht
    · rw [if_neg hf,List.filterMap_cons,show kidB true s f=oU s f from if_neg fun ⟨_,hz⟩=>hf hz,ht]
theorem shown_opq {l t:List PF} {f:PF} (h:dV l=f :: t) (ho:f.1.h.opq=true):t=[]:=by
  cases l with
  | nil=>cases h
  | cons g l =>
    rw [dV] at h;split at h
    · cases h;rfl
    · rw [eB] at h;split at h
      · split at h
        · cases h;rfl
        · rename_i hg;cases h;exact absurd ho hg
      · cases h
theorem walkP_shown (l:List PN) (ss:List ByteArray):∃ r,dT l ss=dV r:=by
  rcases List.eq_nil_or_concat ss with rfl|⟨ss,s,rfl⟩
  · exact⟨_,rfl⟩
  · exact⟨_,by unfold dT;rw [List.concat_eq_append,List.foldl_append];rfl⟩
theorem stackK_bare {l:List PN} {ss:List ByteArray}:∀ k,k<ss.length→vD l ss true k=dT l (ss.take k)
  | 0,_=>rfl
  | k+1,h=>by
    obtain⟨s,hs⟩:∃ s,ss[k]?=some s:=⟨_,List.getElem?_eq_getElem (by omega)⟩
    rw [stackK_succ hs,walk_snoc hs,stackK_bare k (by omega),Bool.true_and,decide_eq_false (by omega),kidB_false];rfl
theorem bare_last {l:List PN} {ss:List ByteArray} {k:Nat} {s:ByteArray} (hs:ss[k]?=some s) (hk:ss.length=k+1):vD l ss true (k+1)=eJ (cutP (dT l (ss.take k))) s:=by
  rw [stackK_succ hs,stackK_bare k (by omega),Bool.true_and,decide_eq_true (by omega),cut_kids s (walkP_rise _ _)];rfl
def kR (l:List PN) (ss:List ByteArray):Bool:=decide (0<ss.length) && decide (0<(vD l ss true ss.length).length)
theorem dU.drop {V:aE} {A:Option Addr} {n k c:Nat} {fs:List LF} (h:dU V A n fs) (hk:k≤n) (hc:n≤c):dU V (pX A c k 9) (n - k) (fs.drop k):=⟨h.1.drop hk hc,fun f hf=>h.2 f (List.mem_of_mem_drop hf)⟩
theorem below_yes {l:List PN} {ss:List ByteArray} {k:Nat} {s:ByteArray} {r:List PF} (hs:ss[k]?=some s) (hk:ss.length=k+1) (hr:dT l (ss.take k)=r):kR l ss=decide (0<(eJ (cutP r) s).length):=by
  unfold kR;rw [hk,bare_last hs hk,hr,decide_eq_true (by omega),Bool.true_and]
attribute [local irreducible] AtQ GoC GoL GoW QO QP Fn RV bF aD VLe bU bA
end
section
attribute [local irreducible] AtQ GoC GoL GoW QO QP Fn RV bF aD VLe bU bA
theorem Below_c (V:aE) (A:Option Addr) (n c:Nat) (xs:List LN) (h:fN V A n xs) (hn:n≤1000) (B:Option Addr) (m e:Nat) (ss:List ByteArray) (hs:cV V B m ss) (hme:m≤e):Fn Tryz.prog 50 [.slice A n c,.slice B m e] V fun v _=>v=.bool (kR (xs.map LN.n) ss):=by
  have sl:=hs.1.1
  have sm:=hs.1.max
  (refine aN Tryz.func50 rfl Tryz.ntmps50 rfl ?_;intro w0)
  by_cases h0:m=0
  · subst h0
    have hb:kR (xs.map LN.n) ss=false:=by unfold kR;rw [sl];rfl
    repeat' (first|(refine aG ?_;refine pu9 ?_)|refine bV ?_|fail)
    all_goals try exact no9
    all_goals
      (refine aR Tryz.results50 (aB rfl) ?_)
      rw [hb]
  obtain⟨k,rfl⟩:∃ k,m=k+1:=⟨m - 1,by omega⟩
  obtain⟨b2,o2,s,rfl,hx,hc2,hss⟩:=hs.at_ (k:=k) (by omega)
  have hW:=Walk_c V A n c xs h hn _ k e (ss.take k) (hs.take (by omega))
  obtain⟨r,hr⟩:∃ r,dT (xs.map LN.n) (ss.take k)=r:=⟨_,rfl⟩
  have hbl:=below_yes hx sl hr
  have hrl:=sN (xs.map LN.n) (ss.take k)
  have hra:=h.1.1
  obtain⟨r0,hr0⟩:=walkP_shown (xs.map LN.n) (ss.take k)
  rw [hr] at hW hrl hr0
  rw [List.length_map] at hrl
  have hk1:(((k+1:Nat):Int) - 1).toNat=k:=by omega
  have hW':Fn Tryz.prog 115 [.slice A n c,.slice (some ⟨b2,o2,none⟩) (((k+1:Nat):Int) - 1).toNat e] V (FloorsR r):=by rw [hk1];exact hW
  repeat' (first|(refine aG ?_;first|(refine aC ?_;(refine aS rfl ⟨Tryz.call115⟩ rfl rfl (hW') ?_;rintro v V1 hV1 ⟨A1,n1,c1,fs,rfl,hF1,hc1,rfl⟩))|(refine fW ?_;refine aI (gQ und_40 siz_9 rfl rfl ⟨by omega,by omega⟩) ?_)|refine pu9 ?_)|refine nO ?_|refine iR [0,1,3] rfl ?_)
  all_goals try exact no9
  have hfl:=hF1.1.1
  rw [List.length_map] at hrl
  have hcell:V1 ⟨b2,o2+(((k+1:Nat):Int) - 1).toNat * 1,none⟩=some (.string s):=by rw [hk1];exact eZ hV1 hc2
  have hnf:∀ {r:List PF} {m:Nat},r.length=m→Value.bool (decide ((m:Int)>0))=.bool (decide (0<r.length)):=fun h=>by rw [h];first|rfl|(refine congrArg Value.bool ?_;first|exact(decide_eq_true (by omega)).symm|exact(decide_eq_false (by omega)).symm|exact decide_eq_decide.2 (by omega))
  cases fs with
  | nil =>
    obtain rfl:n1=0:=by simpa using hfl.symm
    have hS:=Step_c V1 A1 0 c1 [] hF1 (by omega) s
    rw [hbl]
    repeat' (first|(refine aG ?_;first|(refine aC ?_;(refine aS rfl ⟨Tryz.call116⟩ rfl rfl (hS) ?_;rintro v V2 hV2 ⟨A2,n2,c2,gs,rfl,hG2,hc2',hgz⟩))|refine pu9 ?_)|refine bV ?_|fail)
    all_goals try exact no9
    all_goals
      (refine aR Tryz.results50 (aB rfl) ?_)
      have hgl:=hG2.1.1
      show _=Value.bool (decide (0<(eJ (([]:List LF).map fz) s).length))
      rw [←hgz,List.length_map,hgl];first|rfl|(refine congrArg Value.bool ?_;first|exact(decide_eq_true (by omega)).symm|exact(decide_eq_false (by omega)).symm|exact decide_eq_decide.2 (by omega))
  | cons f t =>
    obtain⟨b,off,f',rfl,hf',hcf,hNf⟩:=hF1.at_ (k:=0) (by rw [←hfl,List.length_cons];omega)
    obtain rfl:f=f':=by simpa using hf'
    obtain⟨hc8,hc9⟩:=fl_parts hcf
    obtain⟨_,hc4⟩:=fl_bits hcf
    rw [List.length_cons] at hfl hrl
    have hn1:0<n1:=by omega
    have hfz:(fz f).2=f.lay:=rfl
    rw [List.map_cons] at hbl hr0
    rw [cutP,hfz] at hbl
    by_cases hl0:f.lay=0
    · rw [if_pos hl0] at hbl
      have hD:=hF1.drop (k:=1) hn1 hc1
      have hS:=Step_c V1 _ (n1 - 1) (c1 - 1) _ hD (by omega) s
      have hdr:(f :: t).drop 1=t:=rfl
      rw [hdr] at hS
      rw [hbl]
      repeat' (first|(refine aG ?_;first|(refine aC ?_;(refine aS rfl ⟨Tryz.call116⟩ rfl rfl (hS) ?_;rintro v V2 hV2 ⟨A2,n2,c2,gs,rfl,hG2,hc2',hgz⟩))|(refine fW ?_;refine aI (sB (l:=1) und_183 siz_186 rfl rfl hn1) ?_)|(refine bH ?_;refine aI (iN (k:=0) und_183 siz_186 rfl rfl hn1) ?_)|refine pu9 ?_)|refine bS ?_|(refine aJ rfl rfl rfl ?_ ?_<;>intro hq<;>try exact no9)|(refine aA rfl ?_ ?_<;>intro hq<;>try exact no9)|(refine bY rfl ?_ ?_<;>intro hq))
      all_goals try exact no9
      all_goals
        (refine aR Tryz.results50 (aB rfl) ?_)
        first
          | (have hgl:=hG2.1.1;rw [←hgz,List.length_map,hgl];first|rfl|(refine congrArg Value.bool ?_;first|exact(decide_eq_true (by omega)).symm|exact(decide_eq_false (by omega)).symm|exact decide_eq_decide.2 (by omega)))
          | (have ht0:t.map fz=[]:=shown_opq hr0.symm (by first|exact hq|assumption);rw [ht0];rfl)
    · rw [if_neg hl0] at hbl
      have hS:=Step_c V1 _ n1 c1 _ hF1 (by omega) s
      rw [hbl]
      repeat' (first|(refine aG ?_;first|(refine aC ?_;(refine aS rfl ⟨Tryz.call116⟩ rfl rfl (hS) ?_;rintro v V2 hV2 ⟨A2,n2,c2,gs,rfl,hG2,hc2',hgz⟩))|(refine bH ?_;refine aI (iN (k:=0) und_183 siz_186 rfl rfl hn1) ?_)|refine pu9 ?_)|refine bS ?_|(refine aJ rfl rfl rfl ?_ ?_<;>intro hq<;>try exact no9)|(refine aA rfl ?_ ?_<;>intro hq<;>try exact no9))
      all_goals try exact no9
      all_goals
        (refine aR Tryz.results50 (aB rfl) ?_)
        first
          | (have hgl:=hG2.1.1;rw [←List.map_cons,←hgz,List.length_map,hgl];first|rfl|(refine congrArg Value.bool ?_;first|exact(decide_eq_true (by omega)).symm|exact(decide_eq_false (by omega)).symm|exact decide_eq_decide.2 (by omega)))
          | (have ht0:t.map fz=[]:=shown_opq hr0.symm (by first|exact hq|assumption);rw [ht0];rfl)
end
section
open Go.RowKit Go.Sort
def sortRen:Go.Shelf.Ren:=⟨fun|192=>180|190=>191|125=>195|258=>194|128=>209|129=>210|302=>200|303=>201|304=>202|305=>203|306=>204|307=>205|308=>206|309=>207|310=>208|333=>213|329=>214|330=>215|334=>216|335=>217|336=>218|344=>219|n=>n,fun|31=>40|0=>0|9=>9|3=>3|46=>111|51=>285|53=>287|4=>4|183=>278|182=>277|131=>101|5=>5|218=>290|222=>294|228=>296|229=>246|n=>n,fun n=>n⟩
theorem sortLays:Go.Proofs.Lays.n192 Tryz.prog sortRen where
  mixed:=by kernel_rfl
  f125:=Tryz.func195.trans (congrArg some (by kernel_rfl))
  f128:=Tryz.func209.trans (congrArg some (by kernel_rfl))
  f129:=Tryz.func210.trans (congrArg some (by kernel_rfl))
  f190:=Tryz.func191.trans (congrArg some (by kernel_rfl))
  f192:=Tryz.func180.trans (congrArg some (by kernel_rfl))
  f258:=Tryz.func194.trans (congrArg some (by kernel_rfl))
  f302:=Tryz.func200.trans (congrArg some (by kernel_rfl))
  f303:=Tryz.func201.trans (congrArg some (by kernel_rfl))
  f304:=Tryz.func202.trans (congrArg some (by kernel_rfl))
  f305:=Tryz.func203.trans (congrArg some (by kernel_rfl))
  f306:=Tryz.func204.trans (congrArg some (by kernel_rfl))
  f307:=Tryz.func205.trans (congrArg some (by kernel_rfl))
  f308:=Tryz.func206.trans (congrArg some (by kernel_rfl))
  f309:=Tryz.func207.trans (congrArg some (by kernel_rfl))
  f310:=Tryz.func208.trans (congrArg some (by kernel_rfl))
  f329:=Tryz.func214.trans (congrArg some (by kernel_rfl))
  f330:=Tryz.func215.trans (congrArg some (by kernel_rfl))
  f333:=Tryz.func213.trans (congrArg some (by kernel_rfl))
  f334:=Tryz.func216.trans (congrArg some (by kernel_rfl))
  f335:=Tryz.func217.trans (congrArg some (by kernel_rfl))
  f336:=Tryz.func218.trans (congrArg some (by kernel_rfl))
  f344:=Tryz.func219.trans (congrArg some (by kernel_rfl))
  t0:=Tryz.underlying0
  a0:=Tryz.isAgg0
  z0:=Tryz.sizeOf0
  v0:=Tryz.zeroValue0
  t3:=Tryz.underlying3
  a3:=Tryz.isAgg3
  z3:=Tryz.sizeOf3
  v3:=Tryz.zeroValue3
  t4:=Tryz.underlying4
  a4:=Tryz.isAgg4
  z4:=Tryz.sizeOf4
  v4:=Tryz.zeroValue4
  t5:=Tryz.underlying5
  a5:=Tryz.isAgg5
  z5:=Tryz.sizeOf5
  v5:=Tryz.zeroValue5
  t9:=Tryz.underlying9
  a9:=Tryz.isAgg9
  z9:=Tryz.sizeOf9
  v9:=Tryz.zeroValue9
  t31:=Tryz.underlying40
  a31:=Tryz.isAgg40
  z31:=Tryz.sizeOf40
  v31:=Tryz.zeroValue40
  t46:=Tryz.underlying111
  a46:=Tryz.isAgg111
  z46:=Tryz.sizeOf111
  v46:=Tryz.zeroValue111
  t51:=Tryz.underlying285
  a51:=Tryz.isAgg285
  z51:=Tryz.sizeOf285
  v51:=Tryz.zeroValue285
  t53:=Tryz.underlying287
  a53:=Tryz.isAgg287
  z53:=Tryz.sizeOf287
  v53:=Tryz.zeroValue287
  t131:=Tryz.underlying101
  a131:=Tryz.isAgg101
  z131:=Tryz.sizeOf101
  v131:=Tryz.zeroValue101
  t182:=Tryz.underlying277
  a182:=Tryz.isAgg277
  z182:=Tryz.sizeOf277
  v182:=Tryz.zeroValue277
  t183:=Tryz.underlying278
  a183:=Tryz.isAgg278
  z183:=Tryz.sizeOf278
  v183:=Tryz.zeroValue278
  t218:=Tryz.underlying290
  a218:=Tryz.isAgg290
  z218:=Tryz.sizeOf290
  v218:=Tryz.zeroValue290
  t222:=Tryz.underlying294
  a222:=Tryz.isAgg294
  z222:=Tryz.sizeOf294
  v222:=Tryz.zeroValue294
  t228:=Tryz.underlying296
  a228:=Tryz.isAgg296
  z228:=Tryz.sizeOf296
  v228:=Tryz.zeroValue296
  t229:=Tryz.underlying246
  a229:=Tryz.isAgg246
  z229:=Tryz.sizeOf246
  v229:=Tryz.zeroValue246
def aH (s:ByteArray):List UInt8:=s.data.toList
def unB (l:List UInt8):ByteArray:=⟨l.toArray⟩
theorem kH (s:ByteArray):unB (aH s)=s:=by cases s;simp [unB,aH]
def vY (ss:List ByteArray):List ByteArray:=((ss.map aH).mergeSort (fun x y=>decide (x≤y))).map unB
theorem sortS_enc (ss:List ByteArray):(vY ss).map Value.string=((ss.map aH).mergeSort (fun x y=>decide (x≤y))).map encStr:=by
  rw [vY,List.map_map];rfl
theorem enc_listB (ss:List ByteArray):ss.map Value.string=(ss.map aH).map encStr:=by
  rw [List.map_map]
  refine List.map_congr_left fun s _=>?_
  show Value.string s=Value.string (unB (aH s))
  rw [kH]
theorem Sort_c (V:aE) {A:Option Addr} {n c E:Nat} {ss:List ByteArray} {L:List Box} (h:cX A n c E 1 (ss.map Value.string) L) (hn:n≤1000000000000):FnB Tryz.prog 180 [.slice A n c] V L fun _ V' B=>V'=V∧cX A n c E 1 ((vY ss).map Value.string) B:=fun w hs=>by
  have hlen:ss.length=n:=by have:=h.1;simpa using this
  have hr:=h
  obtain⟨h1,h|h⟩:=h
  · obtain⟨rfl,rfl,rfl,rfl⟩:=h
    have hc:=Any.sort_Strings_none sortLays none 0 w
    refine Calls.mono (f:=180) hc ?_
    rintro e w' ⟨rfl,rfl⟩
    obtain rfl:ss=[]:=List.eq_nil_of_length_eq_zero hlen
    have h0:vY []=[]:=by simp [vY]
    exact⟨.tuple #[],V,[],rfl,hs,rfl,by rw [h0];exact cX.nil⟩
  · obtain⟨g,cs,rfl,rfl,h2,h3,h4,h5⟩:=h
    have hb:=(hs.own _ (List.mem_singleton.2 rfl)).1
    rw [BT.obj_cells] at hb
    have hl':(ss.map aH).length=n:=by simpa using hlen
    have hH:Holds encStr w g 0 (ss.map aH).toArray:=holds_of_block hb (by rw [hl',←enc_listB];simpa using h5)
    have hc:=Any.sort_Strings sortLays g 0 c (ss.map aH) w hH (Array.getElem?_eq_some_iff.1 hb).1 (by omega)
    rw [hl'] at hc
    refine Calls.mono (f:=180) hc ?_
    rintro e w' ⟨rfl,nn,os,rfl⟩
    have ho:=ownsRow_sorted (n:=nn) (os:=os) (ss:=ss.map aH) (ts:=(ss.map aH).mergeSort (fun x y=>decide (x≤y))) (by simp) (Nat.zero_le g) hb (by omega) h3 (by simpa using h4)
    rw [hl',←sortS_enc] at ho
    have hg:=grownBy_sorted (w:=w) (g:=g) (n:=nn) (os:=os) ((ss.map aH).mergeSort (fun x y=>decide (x≤y))).toArray
    obtain⟨A',c',L1',e1,e2,e3⟩:=St.grown (X:=[]) (Y:=[]) (B:=⟨V,w,iG [⟨g,(E:BT),cs⟩]⟩) (V:=V) (by simpa using hs) hr hg ho (.inl rfl)
    injection e1 with e1 e4 e5
    subst e1 e5
    exact⟨.tuple #[],V,L1',rfl,by simpa using e3,rfl,e2⟩
end
section
instance memDec9 (a : ByteArray) (l : List ByteArray) : Decidable (a ∈ l) := decidable_of_iff (l.any (fun x => decide (x = a)) = true) (by simp)
def eX (r:List PF):List ByteArray:=r.flatMap fun f=>f.1.ks.map Prod.fst
def outS (r:List PF) (out:List ByteArray) (nm:ByteArray):List ByteArray:=if nm∈out∨(eJ r nm).length=0 then out else out ++ [nm]
def qH (r:List PF) (l:List ByteArray):List ByteArray:=l.foldl (outS r) []
def lC (r:List PF):List ByteArray:=vY (qH r (eX r))
theorem nH (r:List PF) (l:List ByteArray) (nm:ByteArray):qH r (l ++ [nm])=outS r (qH r l) nm:=by unfold qH;rw [List.foldl_append];rfl
theorem outS_mono {r:List PF} {out:List ByteArray} {nm x:ByteArray} (h:x∈out):x∈outS r out nm:=by
  unfold outS;split
  · exact h
  · simp [h]
theorem snoc_ind {α:Type} {C:List α→Prop} (h0:C []) (h1:∀ l x,C l→C (l ++ [x])) (l:List α):C l:=by
  have key:∀ n (l:List α),l.length=n→C l:=fun n=>by
    induction n with
    | zero=>intro l hl;rw [List.eq_nil_of_length_eq_zero hl];exact h0
    | succ n ih =>
      intro l hl
      rcases List.eq_nil_or_concat l with rfl|⟨l',x,rfl⟩
      · exact h0
      · rw [List.concat_eq_append] at *
        exact h1 l' x (ih l' (by simpa using hl))
  exact key _ l rfl
theorem outP_mem {r:List PF} (l:List ByteArray):∀ x∈qH r l,x∈l∧(eJ r x).length≠0:=by
  refine snoc_ind (C:=fun l=>∀ x∈qH r l,x∈l∧(eJ r x).length≠0) ?_ ?_ l
  · intro x hx;cases hx
  · intro l nm ih x hx
    rw [nH] at hx
    unfold outS at hx;split at hx
    · exact⟨by simp [(ih x hx).1],(ih x hx).2⟩
    · rename_i hc
      rcases List.mem_append.1 hx with hx|hx
      · exact⟨by simp [(ih x hx).1],(ih x hx).2⟩
      · rw [List.mem_singleton.1 hx];exact⟨by simp,fun h=>hc (.inr h)⟩
theorem outP_has {r:List PF} (l:List ByteArray):∀ x∈l,x∈qH r l∨(eJ r x).length=0:=by
  refine snoc_ind (C:=fun l=>∀ x∈l,x∈qH r l∨(eJ r x).length=0) ?_ ?_ l
  · intro x hx;cases hx
  · intro l nm ih x hx
    rw [nH]
    rcases List.mem_append.1 hx with hx|hx
    · exact(ih x hx).imp outS_mono id
    · rw [List.mem_singleton.1 hx]
      unfold outS
      by_cases h:nm∈qH r l∨(eJ r nm).length=0
      · rw [if_pos h];exact h
      · rw [if_neg h];simp
theorem out_old {r:List PF} {l:List ByteArray} {nm:ByteArray} (h:nm∈l):qH r (l ++ [nm])=qH r l:=by
  rw [nH];exact if_pos (outP_has l nm h)
theorem out_none {r:List PF} {l:List ByteArray} {nm:ByteArray} (h:(eJ r nm).length=0):qH r (l ++ [nm])=qH r l:=by
  rw [nH];exact if_pos (.inr h)
theorem out_new {r:List PF} {l:List ByteArray} {nm:ByteArray} (h:¬nm∈l) (hs:(eJ r nm).length≠0):qH r (l ++ [nm])=qH r l ++ [nm]:=by
  rw [nH];exact if_neg fun hc=>hc.elim (fun h1=>h (outP_mem l nm h1).1) hs
def insN (out:List ByteArray) (nm:ByteArray):Nat:=out.findIdx fun x=>!decide (x.toList<nm.toList)
def insS (r:List PF) (out:List ByteArray) (nm:ByteArray):List ByteArray:=if (eJ r nm).length=0∨out[insN out nm]?=some nm then out else out.take (insN out nm) ++ nm :: out.drop (insN out nm)
def insP (r:List PF) (l:List ByteArray):List ByteArray:=l.foldl (insS r) []
theorem insP_snoc (r:List PF) (l:List ByteArray) (nm:ByteArray):insP r (l ++ [nm])=insS r (insP r l) nm:=by unfold insP;rw [List.foldl_append];rfl
def UpS (l:List ByteArray):Prop:=l.Pairwise fun a b=>a.toList<b.toList
theorem wK (s:ByteArray):s.toList=aH s:=Lib.toList_data s
theorem toList_inj {a b:ByteArray} (h:a.toList=b.toList):a=b:=by
  rw [wK,wK] at h
  rw [←kH a,h,kH]
theorem insN_lo {out:List ByteArray} {nm:ByteArray} {i:Nat} {x:ByteArray} (hx:out[i]?=some x) (hi:i<insN out nm):x.toList<nm.toList:=by
  have h:=List.not_of_lt_findIdx (xs:=out) (p:=fun x:ByteArray=>!decide (x.toList<nm.toList)) hi
  obtain⟨h1,rfl⟩:=List.getElem?_eq_some_iff.1 hx
  simpa using h
theorem insN_at {out:List ByteArray} {nm:ByteArray} {x:ByteArray} (hx:out[insN out nm]?=some x):¬x.toList<nm.toList:=by
  obtain⟨h1,rfl⟩:=List.getElem?_eq_some_iff.1 hx
  have h:=List.findIdx_getElem (xs:=out) (p:=fun x:ByteArray=>!decide (x.toList<nm.toList)) (w:=h1)
  rw [Bool.not_eq_true',decide_eq_false_iff_not] at h
  exact h
theorem up_hi {l:List ByteArray} (h:UpS l) {i j:Nat} {x y:ByteArray} (hx:l[i]?=some x) (hy:l[j]?=some y) (hij:i<j):x.toList<y.toList:=by
  obtain⟨h1,rfl⟩:=List.getElem?_eq_some_iff.1 hx
  obtain⟨h2,rfl⟩:=List.getElem?_eq_some_iff.1 hy
  exact List.pairwise_iff_getElem.1 h i j h1 h2 hij
theorem ins_hit {out:List ByteArray} {nm:ByteArray} (h:UpS out):out[insN out nm]?=some nm↔nm∈out:=by
  refine⟨fun hx=>List.mem_of_getElem? hx,fun hm=>?_⟩
  obtain⟨i,hi⟩:=List.getElem?_of_mem hm
  have hil:i<out.length:=(List.getElem?_eq_some_iff.1 hi).1
  rcases Nat.lt_trichotomy i (insN out nm) with hlt|he|hgt
  · exact absurd (insN_lo hi hlt) (List.lt_irrefl _)
  · rw [←he];exact hi
  · obtain⟨x,hx⟩:∃ x,out[insN out nm]?=some x:=⟨_,List.getElem?_eq_getElem (by omega)⟩
    exact absurd (up_hi h hx hi hgt) (insN_at hx)
theorem lt_of_nlt_ne {a b:ByteArray} (h:¬a.toList<b.toList) (hne:a≠b):b.toList<a.toList:=by
  rcases List.le_total a.toList b.toList with hl|hl
  · rcases Decidable.em (b.toList<a.toList) with h2|h2
    · exact h2
    · exact absurd (toList_inj (List.le_antisymm (List.not_lt.1 h2) (List.not_lt.1 h))) hne
  · rcases Decidable.em (b.toList<a.toList) with h2|h2
    · exact h2
    · exact absurd (toList_inj (List.le_antisymm (List.not_lt.1 h2) (List.not_lt.1 h))) hne
theorem ins_up {out:List ByteArray} {nm:ByteArray} (h:UpS out) (hn:¬nm∈out):UpS (out.take (insN out nm) ++ nm :: out.drop (insN out nm)):=by
  have hlo:∀ a∈out.take (insN out nm),a.toList<nm.toList:=fun a ha=>by
    obtain⟨i,hi⟩:=List.getElem?_of_mem ha
    have hil:i<insN out nm:=by
      have:=(List.getElem?_eq_some_iff.1 hi).1
      rw [List.length_take] at this;omega
    rw [List.getElem?_take_of_lt hil] at hi
    exact insN_lo hi hil
  have hhi:∀ b∈out.drop (insN out nm),nm.toList<b.toList:=fun b hb=>by
    obtain⟨j,hj⟩:=List.getElem?_of_mem hb
    rw [List.getElem?_drop] at hj
    have hjl:=(List.getElem?_eq_some_iff.1 hj).1
    obtain⟨x,hx⟩:∃ x,out[insN out nm]?=some x:=⟨_,List.getElem?_eq_getElem (by omega)⟩
    have hxn:nm.toList<x.toList:=lt_of_nlt_ne (insN_at hx) fun e=>hn (e▸List.mem_of_getElem? hx)
    rcases Nat.eq_zero_or_pos j with rfl|hj0
    · rw [Nat.add_zero,hx] at hj;injection hj with hj;rw [←hj];exact hxn
    · exact List.lt_trans hxn (up_hi h hx hj (by omega))
  refine List.pairwise_append.2 ⟨h.sublist (List.take_sublist _ _),List.pairwise_cons.2 ⟨hhi,h.sublist (List.drop_sublist _ _)⟩,fun a ha b hb=>?_⟩
  rcases List.mem_cons.1 hb with rfl|hb
  · exact hlo a ha
  · exact List.lt_trans (hlo a ha) (hhi b hb)
theorem ins_out {r:List PF} (l:List ByteArray):UpS (insP r l)∧(insP r l).Perm (qH r l):=by
  refine snoc_ind (C:=fun l=>UpS (insP r l)∧(insP r l).Perm (qH r l)) ⟨List.Pairwise.nil,List.Perm.refl _⟩ ?_ l
  intro l nm ⟨ih1,ih2⟩
  rw [insP_snoc,nH]
  unfold insS outS
  by_cases hs:(eJ r nm).length=0
  · rw [if_pos (.inl hs),if_pos (.inr hs)];exact⟨ih1,ih2⟩
  · by_cases hm:nm∈insP r l
    · rw [if_pos (.inr ((ins_hit ih1).2 hm)),if_pos (.inl (ih2.mem_iff.1 hm))];exact⟨ih1,ih2⟩
    · rw [if_neg (fun h=>h.elim hs fun h=>hm ((ins_hit ih1).1 h)),if_neg (fun h=>h.elim (fun h=>hm (ih2.mem_iff.2 h)) hs)]
      refine⟨ins_up ih1 hm,?_⟩
      refine List.perm_middle.trans ?_
      rw [List.take_append_drop]
      exact(List.Perm.cons nm ih2).trans (List.perm_append_singleton nm _).symm
theorem sortS_perm {a b:List ByteArray} (h:a.Perm b):vY a=vY b:=by
  unfold vY;rw [mergeSort_of_perm (h.map aH)]
theorem sortS_up {a:List ByteArray} (h:UpS a):vY a=a:=by
  have hp:(a.map aH).Pairwise fun x y=>decide (x≤y)=true:=by
    rw [List.pairwise_map]
    refine h.imp fun {x y} hxy=>?_
    rw [wK,wK] at hxy
    exact decide_eq_true (List.le_of_lt hxy)
  unfold vY
  rw [List.mergeSort_of_pairwise hp,List.map_map]
  conv=>rhs;rw [←List.map_id a]
  exact List.map_congr_left fun s _=>kH s
theorem insP_listP (r:List PF):insP r (eX r)=lC r:=by
  obtain⟨h1,h2⟩:=ins_out (r:=r) (eX r)
  unfold lC
  rw [←sortS_perm h2,sortS_up h1]
theorem wH {r:List PF} {x:ByteArray}:x∈lC r↔x∈eX r∧(eJ r x).length≠0:=by
  rw [←insP_listP,(ins_out (r:=r) (eX r)).2.mem_iff]
  exact⟨fun h=>outP_mem _ x h,fun ⟨h1,h2⟩=>(outP_has _ x h1).resolve_right h2⟩
theorem outP_len (r:List PF) (l:List ByteArray):(qH r l).length≤l.length:=by
  refine snoc_ind (C:=fun l=>(qH r l).length≤l.length) (Nat.le_refl _) ?_ l
  intro l nm ih
  rw [nH];unfold outS;split
  · simp;omega
  · simp;omega
theorem insP_len (r:List PF) (l:List ByteArray):(insP r l).length≤l.length:=by
  rw [(ins_out l).2.length_eq];exact outP_len r l
theorem listP_len (r:List PF):(lC r).length≤(eX r).length:=by rw [←insP_listP];exact insP_len _ _
end
section
theorem ba_beq (a b:ByteArray):(a == b)=decide (a=b):=by
  show ByteArray.beq a b=_
  obtain⟨a⟩:=a;obtain⟨b⟩:=b
  unfold ByteArray.beq
  by_cases h:a=b<;>simp [h]
structure KK (K:Type) [DecidableEq K] where
  kv:K→Value
  d:TypeDesc
  check:∀ (P:Program) (w:World) (kt:TypeId) (e:Bool) (a:K),P.underlying kt=some d→(Instr.checkKey e 10000 kt (kv a)).run P w=.ok () w
  now:∀ a b:K,Instr.sameNow d (kv a) (kv b)=some (decide (a=b))
  stays:∀ (P:Program) (w:World) (a:K),(Instr.keyThatStays (kv a) (kv a)).run P w=.ok (kv a) w
def mH:KK Int where
  kv:=fun n=>.int .i64 n
  d:=.int .i64
  check:=fun P w kt e a h=>by unfold Instr.checkKey;simp [run_underlying h,Sem.run_bind]
  now:=fun a b=>by simp only [Instr.sameNow,if_true];rfl
  stays:=fun P w a=>by simp [Instr.keyThatStays,Instr.sameBits]
def strKK:KK ByteArray where
  kv:=fun s=>.string s
  d:=.string
  check:=fun P w kt e a h=>by unfold Instr.checkKey;simp [run_underlying h,Sem.run_bind]
  now:=fun a b=>by simp only [Instr.sameNow];rw [ba_beq]
  stays:=fun P w a=>by
    have:(a == a)=true:=by rw [ba_beq];simp
    simp [Instr.keyThatStays,Instr.sameBits,this]
section
variable {K β : Type} [DecidableEq K]
def fL (kk:KK K) (vv:β→Value) (M:List (K×β)) (es:Array MapEntry):Prop:=es.toList.map (fun e=>(e.key,e.val))=M.map fun p=>(kk.kv p.1,vv p.2)
def dR (a:K):List (K×β)→Option (Nat×β)
  | []=>none
  | p :: M=>if a=p.1 then some (0,p.2) else (dR a M).map fun q=>(q.1+1,q.2)
variable {kk : KK K} {vv : β → Value}
theorem fL.nil:fL kk vv [] #[]:=rfl
theorem findNow_eq (a:K):∀ (M:List (K×β)) (l:List MapEntry) (i:Nat),l.map (fun e=>(e.key,e.val))=M.map (fun p=>(kk.kv p.1,vv p.2))→Instr.findNow kk.d (kk.kv a) l i=some ((dR a M).map fun q=>(i+q.1,vv q.2))
  | [],[],i,_=>rfl
  | [],_ :: _,i,h=>by simp at h
  | _ :: _,[],i,h=>by simp at h
  | p :: M,e :: l,i,h=>by
    simp only [List.map_cons,List.cons.injEq,Prod.mk.injEq] at h
    obtain⟨⟨h1,h2⟩,h3⟩:=h
    unfold Instr.findNow
    rw [h1,kk.now]
    by_cases e:a=p.1
    · simp [e,dR,h2]
    · simp only [e,decide_false]
      rw [findNow_eq a M l (i+1) h3]
      simp only [dR,e,if_false]
      cases dR a M with
      | none=>rfl
      | some q=>simp;omega
theorem mM {P:Program} {w:World} {kt:TypeId} {a:K} {M:List (K×β)} {es:Array MapEntry} (hk:P.underlying kt=some kk.d) (hM:fL kk vv M es):(Instr.findKey kt (kk.kv a) es.toList).run P w=.ok ((dR a M).map fun q=>(q.1,vv q.2)) w:=by
  unfold Instr.findKey
  simp only [Sem.run_bind,run_underlying hk,Result.andThen]
  rw [findNow_eq a M es.toList 0 hM]
  simp
def vB (a:K) (b:β):List (K×β)→List (K×β)
  | []=>[(a,b)]
  | p :: M=>if a=p.1 then (a,b) :: M else p :: vB a b M
def oI (a:K):List (K×β)→List (K×β)
  | []=>[]
  | p :: M=>if a=p.1 then M else p :: oI a M
theorem mSet_new {a:K} {b:β}:∀ {M:List (K×β)},dR a M=none→vB a b M=M ++ [(a,b)]
  | [],_=>rfl
  | p :: M,h=>by
    unfold dR at h
    split at h
    · cases h
    · rename_i e
      have:dR a M=none:=by simpa using h
      simp [vB,e,mSet_new this]
theorem lU {a:K}:∀ {M:List (K×β)} {i:Nat} {b:β},dR a M=some (i,b)→M[i]?=some (a,b)∧(∀ c,vB a c M=M.modify i fun _=>(a,c))∧oI a M=M.eraseIdx i
  | [],i,b,h=>by cases h
  | p :: M,i,b,h=>by
    unfold dR at h
    by_cases e:a=p.1
    · rw [if_pos e] at h
      injection h with h;injection h with h1 h2
      subst h1;subst h2
      obtain⟨p1,p2⟩:=p
      simp only [] at e;subst e
      simp [vB,oI]
    · rw [if_neg e] at h
      obtain⟨q,hq,h⟩:=Option.map_eq_some_iff.1 h
      injection h with h1 h2
      subst h1;subst h2
      obtain⟨h3,h4,h5⟩:=lU (i:=q.1) (b:=q.2) hq
      refine⟨by simpa using h3,fun c=>?_,?_⟩
      · simp [vB,e,h4 c]
      · simp [oI,e,h5]
theorem wY {a:K}:∀ {M:List (K×β)},dR a M=none→oI a M=M
  | [],_=>rfl
  | p :: M,h=>by
    unfold dR at h
    split at h
    · cases h
    · rename_i e
      have:dR a M=none:=by simpa using h
      simp [oI,e,wY this]
theorem fL.push {M:List (K×β)} {es:Array MapEntry} (h:fL kk vv M es) (a:K) (b:β) (c:Nat):fL kk vv (M ++ [(a,b)]) (es.push ⟨kk.kv a,vv b,c⟩):=by
  unfold fL at *
  simp [h]
theorem map_mod {α γ:Type} {q:α→γ} {u:γ} {f:α→α} (hf:∀ e,q (f e)=u):∀ {l:List α} {i:Nat},(l.modify i f).map q=(l.map q).set i u
  | [],i=>by simp
  | e :: l,0=>by simp [hf]
  | e :: l,i+1=>by simp [map_mod hf (l:=l) (i:=i)]
theorem map_erase {α γ:Type} {q:α→γ}:∀ {l:List α} {i:Nat},(l.eraseIdx i).map q=(l.map q).eraseIdx i
  | [],i=>by simp
  | e :: l,0=>by simp
  | e :: l,i+1=>by simp [map_erase (l:=l) (i:=i)]
theorem fL.modify {M:List (K×β)} {es:Array MapEntry} (h:fL kk vv M es) (i:Nat) (a:K) (b:β):fL kk vv (M.modify i fun _=>(a,b)) (es.modify i fun e=>{ e with key:=kk.kv a,val:=vv b }):=by
  unfold fL at *
  rw [Array.toList_modify,map_mod (q:=fun e:MapEntry=>(e.key,e.val)) (u:=(kk.kv a,vv b)) (f:=fun e=>{ e with key:=kk.kv a,val:=vv b }) (fun _=>rfl),map_mod (q:=fun p:K×β=>(kk.kv p.1,vv p.2)) (u:=(kk.kv a,vv b)) (f:=fun _=>(a,b)) (fun _=>rfl),h]
theorem fL.erase {M:List (K×β)} {es:Array MapEntry} (h:fL kk vv M es) (i:Nat):fL kk vv (M.eraseIdx i) (es.eraseIdxIfInBounds i):=by
  unfold fL at *
  rw [Array.toList_eraseIdxIfInBounds,map_erase,map_erase,h]
end
section
variable {P : Program} {B : Base} {N : Nat} {Q : Exit → Act → World → Prop} {k : List kC} {F : List (Nat × Value)} {V : aE} {L : List Box} {w : World}
variable {d : Option Tmp} {ty : TypeId} {pos : String} {af : Array Edge} {gd : Option (Nat × Bool)} {x y z : Operand} {T T2 : TypeId} {ops : Array Oper} {rest : List Oper}
theorem St.setMap {X Y:List Box} {g c c':Nat} {es es':Array MapEntry} {cs:List Value} (hs:St B V (X ++ (⟨g,.map es c,cs⟩ :: Y)) w):St B V (X ++ (⟨g,.map es' c',cs⟩ :: Y)) { w with heap:=w.heap.setIfInBounds g (.map es' c') }:=by
  have hm:(⟨g,.map es c,cs⟩:Box)∈X ++ (⟨g,.map es c,cs⟩ :: Y):=by simp
  have hg:=hs.own _ hm
  have hlt:=hs.lt hm
  have hnd:=hs.nodup
  have hmap:(X ++ (⟨g,.map es' c',cs⟩ :: Y)).map Box.g=(X ++ (⟨g,.map es c,cs⟩ :: Y)).map Box.g:=by simp
  have hblk:∀ k,¬k=g→({ w with heap:=w.heap.setIfInBounds g (.map es' c') }:World).heap[k]?=w.heap[k]?:=fun k hk=>by
    show (w.heap.setIfInBounds g _)[k]?=_
    rw [Array.getElem?_setIfInBounds_ne (by omega)]
  have hne:∀ b,b∈X∨b∈Y→b.g≠g:=by
    intro b hb e
    rw [List.map_append,List.map_cons,List.nodup_append] at hnd
    obtain⟨_,h2,h3⟩:=hnd
    rcases hb with hb|hb
    · exact h3 b.g (List.mem_map_of_mem hb) g (by simp) e
    · exact(List.nodup_cons.1 h2).1 (List.mem_map.2 ⟨b,hb,e⟩)
  have hx:Exc [g] w { w with heap:=w.heap.setIfInBounds g (.map es' c') }:=⟨rfl,rfl,rfl,by simp,fun k _ hn=>hblk k (by simpa using hn)⟩
  refine⟨hs.ext.trans hx (by intro y hy;simp at hy;subst hy;exact hg.2),fun p v hp=>?_,hs.old,hs.v0,fun b hb=>?_,by rw [hmap];exact hnd⟩
  · obtain⟨h1,h2⟩:=hs.view p v hp
    have hpg:¬p.block=g:=fun e=>h2 _ hm e.symm
    refine⟨by rw [World.cell?_of_block (hblk _ hpg)];exact h1,fun b hb=>?_⟩
    rcases List.mem_append.1 hb with hb|hb
    · exact h2 b (by simp [hb])
    · rcases List.mem_cons.1 hb with rfl|hb
      · exact fun e=>hpg e.symm
      · exact h2 b (by simp [hb])
  · have old:∀ b,b∈X∨b∈Y→b∈X ++ (⟨g,.map es c,cs⟩ :: Y):=by intro b hb;rcases hb with hb|hb<;>simp [hb]
    have keep:∀ b,b∈X∨b∈Y→({ w with heap:=w.heap.setIfInBounds g (.map es' c') }:World).heap[b.g]?=some (b.t.obj b.cs)∧(B.w.heap.size≤b.g∨b.g∈B.fl):=fun b hb=>⟨by rw [hblk _ (hne b hb)];exact(hs.own b (old b hb)).1,(hs.own b (old b hb)).2⟩
    rcases List.mem_append.1 hb with hb|hb
    · exact keep b (.inl hb)
    · rcases List.mem_cons.1 hb with rfl|hb
      · refine⟨?_,hg.2⟩
        show (w.heap.setIfInBounds g _)[g]?=_
        rw [Array.getElem?_setIfInBounds_self_of_lt hlt];rfl
      · exact keep b (.inr hb)
theorem St.allocMap (hs:St B V L w) (es:Array MapEntry) (c:Nat):St B V (⟨w.heap.size,.map es c,[]⟩ :: L) (w.alloc (.map es c)):=by
  refine⟨Exc.al _ hs.ext,fun p x hp=>?_,hs.old,hs.v0,fun b hb=>?_,?_⟩
  · obtain⟨h1,h2⟩:=hs.view p x hp
    have hlt:=World.block_lt_of_cell? w p h1
    refine⟨(World.cell?_alloc_lt w _ p hlt).trans h1,fun b hb=>?_⟩
    rcases List.mem_cons.1 hb with rfl|hb
    · simp only [];omega
    · exact h2 b hb
  · rcases List.mem_cons.1 hb with rfl|hb
    · exact⟨heap_alloc_new w _,.inl hs.ext.sz⟩
    · exact⟨(Below.heap_alloc w _ b.g (hs.lt hb)).trans (hs.own b hb).1,(hs.own b hb).2⟩
  · rw [List.map_cons,List.nodup_cons]
    refine⟨fun h=>?_,hs.nodup⟩
    obtain⟨b,hb,he⟩:=List.mem_map.1 h
    have:=hs.lt hb
    simp only [] at he;omega
structure MapIs (P:Program) (T:TypeId) (d:TypeDesc) (z:Value):Prop where
  h:∃ kt e,P.underlying T=some (.map kt e)∧P.underlying kt=some d∧∀ w,(zeroValue e).run P w=.ok z w
variable {K β : Type} [DecidableEq K] {kk : KK K} {vv : β → Value} {M : List (K × β)} {es : Array MapEntry} {c g : Nat} {f : List Box → List Box} {a : K} {b : β} {z0 : Value}
theorem lT.getMap (hs:St B V L w) {L1:List Box} (hL:lT L L1 f) {b:Box} (hb:b∈L1):w.heap[b.g]?=some (b.t.obj b.cs):=by
  obtain⟨X,Y,hX,_⟩:=hL.h
  exact(hs.own b (by rw [hX];simp [hb])).1
def uI (vv:β→Value) (z0:Value) (r:Option (Nat×β)):Value:=match r with|some q=>vv q.2|none=>z0
theorem wS (hT:MapIs P T kk.d z0) (hx:evF F x=some (.map (some g))) (hy:evF F y=some (kk.kv a)) (hM:fL kk vv M es) (hL:lT L [⟨g,.map es c,[]⟩] f):QP P B N V L ⟨d,.lookup T x y true,ty,pos,af,gd⟩ F (.tuple #[uI vv z0 (dR a M),.bool (dR a M).isSome]):=iD fun ac w ha hs=>by
  obtain⟨kt,e,h1,h2,h3⟩:=hT.h
  have ho:=hL.getMap hs (b:=⟨g,.map es c,[]⟩) (by simp)
  simp only [BT.obj_map] at ho
  have hr:(Instr.lookup T (.map (some g)) (kk.kv a) true).run P w=.ok (.tuple #[uI vv z0 (dR a M),.bool (dR a M).isSome]) w:=by
    unfold Instr.lookup
    simp only [Sem.run_bind,run_underlying h1,Result.andThen,MapKept.run_getObj_map ho,Sem.run_pure,kk.check P w kt _ a h2,mM (vv:=vv) h2 hM]
    cases dR a M with
    | none=>simp [h3,uI]
    | some q=>simp [uI]
  simp [execOp,ha.ev hx,ha.ev hy,hr]
theorem tH (hT:MapIs P T kk.d z0) (hx:evF F x=some (.map (some g))) (hy:evF F y=some (kk.kv a)) (hM:fL kk vv M es) (hL:lT L [⟨g,.map es c,[]⟩] f):QP P B N V L ⟨d,.lookup T x y false,ty,pos,af,gd⟩ F (uI vv z0 (dR a M)):=iD fun ac w ha hs=>by
  obtain⟨kt,e,h1,h2,h3⟩:=hT.h
  have ho:=hL.getMap hs (b:=⟨g,.map es c,[]⟩) (by simp)
  simp only [BT.obj_map] at ho
  have hr:(Instr.lookup T (.map (some g)) (kk.kv a) false).run P w=.ok (uI vv z0 (dR a M)) w:=by
    unfold Instr.lookup
    simp only [Sem.run_bind,run_underlying h1,Result.andThen,MapKept.run_getObj_map ho,Sem.run_pure,kk.check P w kt _ a h2,mM (vv:=vv) h2 hM]
    cases dR a M with
    | none=>simp [h3,uI]
    | some q=>simp [uI]
  simp [execOp,ha.ev hx,ha.ev hy,hr]
theorem yA {dr:iM} (hdr:dr.loud=true) (hd:okD N d=true) (h:∀ g,GoL P B N dr ops Q k rest (qQ F d (.map (some g))) V (⟨g,.map #[] 0,[]⟩ :: L)):GoW P B N dr ops Q k ⟨d,.makeMap T none,ty,pos,af,gd⟩ rest F V L:=iI hdr fun a w ha hs=>by
  refine jY (w':=w.alloc (.map #[] 0)) (v:=.map (some w.heap.size)) ?_ (fQ hdr (h w.heap.size) _ _ (ha.put hd _) (hs.allocMap #[] 0))
  simp [execOp,Instr.makeMap,run_newObj_alloc]
theorem run_mapUpdate (hT:MapIs P T kk.d z0) (hM:fL kk vv M es) (ho:w.heap[g]?=some (.map es c)):∃ es' c',(Instr.mapUpdate T (.map (some g)) (kk.kv a) (vv b)).run P w=.ok () { w with heap:=w.heap.setIfInBounds g (.map es' c') }∧fL kk vv (vB a b M) es':=by
  obtain⟨kt,e,h1,h2,h3⟩:=hT.h
  cases hf:dR a M with
  | none =>
    refine⟨es.push ⟨kk.kv a,vv b,c⟩,c+1,?_,by rw [mSet_new hf];exact hM.push a b c⟩
    unfold Instr.mapUpdate
    simp only [Sem.run_bind,run_underlying h1,Result.andThen,MapKept.run_getObj_map ho,kk.check P w kt _ a h2,mM (vv:=vv) h2 hM,hf,Option.map_none,MapKept.run_setObj_map _ ho]
  | some q =>
    obtain⟨i,v⟩:=q
    obtain⟨h4,h5,_⟩:=lU hf
    refine⟨es.modify i fun e=>{ e with key:=kk.kv a,val:=vv b },c,?_,by rw [h5];exact hM.modify i a b⟩
    have hk:(es[i]?).map (·.key)=some (kk.kv a):=by
      have:=congrArg (fun l=>l[i]?) hM
      simp only [List.getElem?_map,h4,Option.map_some] at this
      rw [Array.getElem?_toList] at this
      obtain⟨e',he,h6⟩:=Option.map_eq_some_iff.1 this
      injection h6 with h6 _
      simp [he,h6]
    unfold Instr.mapUpdate
    simp only [Sem.run_bind,run_underlying h1,Result.andThen,MapKept.run_getObj_map ho,kk.check P w kt _ a h2,mM (vv:=vv) h2 hM,hf,Option.map_some,hk,Option.getD_some,kk.stays,MapKept.run_setObj_map _ ho]
theorem sL {dr:iM} (hdr:dr.loud=true) (hT:MapIs P T kk.d z0) (hx:evF F x=some (.map (some g))) (hy:evF F y=some (kk.kv a)) (hz:evF F z=some (vv b)) (hM:fL kk vv M es) (hL:lT L [⟨g,.map es c,[]⟩] f) (hd:okD N d=true)
    (h:∀ es' c',fL kk vv (vB a b M) es'→GoL P B N dr ops Q k rest (qQ F d undef) V (f [⟨g,.map es' c',[]⟩])):GoW P B N dr ops Q k ⟨d,.mapUpdate T x y z,ty,pos,af,gd⟩ rest F V L:=iI hdr fun ac w ha hs=>by
  have ho:=hL.getMap hs (b:=⟨g,.map es c,[]⟩) (by simp)
  simp only [BT.obj_map] at ho
  obtain⟨es',c',hr,hM'⟩:=run_mapUpdate (P:=P) (a:=a) (b:=b) hT hM ho
  obtain⟨X,Y,hX,hf⟩:=hL.h
  have h:=h es' c' hM'
  rw [hf] at h
  subst hX
  refine wp_skip' (w':={ w with heap:=w.heap.setIfInBounds g (.map es' c') }) ?_ (fQ hdr h _ _ (ha.put hd _) hs.setMap)
  simp [execOp,ha.ev hx,ha.ev hy,ha.ev hz,hr]
theorem run_delete (hT:MapIs P T kk.d z0) (hM:fL kk vv M es) (ho:w.heap[g]?=some (.map es c)):∃ es' c',(Builtin.delete_ #[T,T2] ty #[.map (some g),kk.kv a]).run P w=.ok (.tuple #[]) { w with heap:=w.heap.setIfInBounds g (.map es' c') }∧fL kk vv (oI a M) es':=by
  obtain⟨kt,e,h1,h2,h3⟩:=hT.h
  cases hf:dR a M with
  | none =>
    refine⟨es,c,?_,by rw [wY hf];exact hM⟩
    unfold Builtin.delete_
    simp [Sem.run_bind,run_underlying h1,Result.andThen,MapKept.run_getObj_map ho,kk.check P w kt _ a h2,mM (vv:=vv) h2 hM,hf,MapKept.run_setObj_map _ ho]
  | some q =>
    obtain⟨i,v⟩:=q
    obtain⟨h4,_,h5⟩:=lU hf
    refine⟨es.eraseIdxIfInBounds i,c,?_,by rw [h5];exact hM.erase i⟩
    unfold Builtin.delete_
    simp [Sem.run_bind,run_underlying h1,Result.andThen,MapKept.run_getObj_map ho,kk.check P w kt _ a h2,mM (vv:=vv) h2 hM,hf,MapKept.run_setObj_map _ ho]
theorem gw_delete {dr:iM} (hdr:dr.loud=true) (hT:MapIs P T kk.d z0) (hx:evF F x=some (.map (some g))) (hy:evF F y=some (kk.kv a)) (hM:fL kk vv M es) (hL:lT L [⟨g,.map es c,[]⟩] f) (hd:okD N d=true)
    (h:∀ es' c',fL kk vv (oI a M) es'→GoL P B N dr ops Q k rest (qQ F d (.tuple #[])) V (f [⟨g,.map es' c',[]⟩])):GoW P B N dr ops Q k ⟨d,.call ⟨.builtin .delete,#[x,y],#[T,T2]⟩,ty,pos,af,gd⟩ rest F V L:=iI hdr fun ac w ha hs=>by
  have ho:=hL.getMap hs (b:=⟨g,.map es c,[]⟩) (by simp)
  simp only [BT.obj_map] at ho
  obtain⟨es',c',hr,hM'⟩:=run_delete (P:=P) (a:=a) (ty:=ty) (T2:=T2) hT hM ho
  obtain⟨X,Y,hX,hf⟩:=hL.h
  have h:=h es' c' hM'
  rw [hf] at h
  subst hX
  refine jY (w':={ w with heap:=w.heap.setIfInBounds g (.map es' c') }) (v:=.tuple #[]) ?_ (fQ hdr h _ _ (ha.put hd _) hs.setMap)
  simp [execOp,ha.ev hx,ha.ev hy,resolve,invoke,builtin,hr]
end
end
section
theorem map_sb:MapIs Tryz.prog 262 strKK.d (.bool false):=⟨9,4,Tryz.underlying262,Tryz.underlying9,Tryz.zeroValue4⟩
def HasM (M:List (ByteArray×Bool)) (l:List ByteArray):Prop:=∀ a,uI Value.bool (.bool false) (dR a M)=.bool (decide (a∈l))
theorem hasM_nil:HasM [] []:=fun a=>rfl
theorem find_set {b:Bool} {nm a:ByteArray}:∀ {M:List (ByteArray×Bool)},(dR a (vB nm b M)).map Prod.snd=if a=nm then some b else (dR a M).map Prod.snd
  | []=>by
    by_cases h:a=nm<;>simp [vB,dR,h]
  | p :: M=>by
    rw [vB]
    by_cases hp:nm=p.1
    · rw [if_pos hp,dR,dR]
      by_cases h:a=nm
      · rw [if_pos h,if_pos h];rfl
      · rw [if_neg h,if_neg h,if_neg (fun e=>h (e.trans hp.symm))]
    · rw [if_neg hp,dR,dR]
      by_cases ha:a=p.1
      · rw [if_pos ha,if_pos ha,if_neg (fun e=>hp (e.symm.trans ha))]
      · rw [if_neg ha,if_neg ha]
        have:=find_set (b:=b) (nm:=nm) (a:=a) (M:=M)
        rw [Option.map_map,Option.map_map]
        exact this
theorem ans_snd (r:Option (Nat×Bool)):uI Value.bool (.bool false) r=.bool ((r.map Prod.snd).getD false):=by
  cases r<;>rfl
theorem HasM.set {M:List (ByteArray×Bool)} {l:List ByteArray} (h:HasM M l) (nm:ByteArray):HasM (vB nm true M) (l ++ [nm]):=fun a=>by
  rw [ans_snd,find_set]
  by_cases ha:a=nm
  · rw [if_pos ha];simp [ha]
  · rw [if_neg ha,←ans_snd,h a];simp [ha]
theorem HasM.same {M:List (ByteArray×Bool)} {l l':List ByteArray} (h:HasM M l) (e:l=l'):HasM M l':=e▸h
theorem names_snoc {fs:List LF} {i:Nat} {f:LF} (h:fs[i]?=some f):eX ((fs.map fz).take (i+1))=eX ((fs.map fz).take i) ++ f.x.ks.map Prod.fst:=by
  unfold eX;rw [List.take_add_one,fz_at h,List.flatMap_append];simp [fz];rfl
theorem names_le (r:List PF) (i:Nat):(eX (r.take i)).length≤(eX r).length:=by
  have:eX r=eX (r.take i) ++ eX (r.drop i):=by
    unfold eX;rw [←List.flatMap_append,List.take_append_drop]
  rw [this,List.length_append];omega
theorem kids_names {es:List LK} {j:Nat} {e:LK} (h:es[j]?=some e):(es.take (j+1)).map LK.nm=(es.take j).map LK.nm ++ [e.nm]:=by
  rw [List.take_add_one,h,List.map_append];rfl
theorem str_cells (l:List ByteArray):l.flatMap strC=l.map Value.string:=by
  induction l with
  | nil=>rfl
  | cons s l ih=>rw [List.flatMap_cons,ih];rfl
theorem fnames_size {V:aE} {fs:List LF} (h:∀ f∈fs,aT V f.x):∀ s∈eX (fs.map fz),s.size≤maxLen:=fun s hs=>by
  obtain⟨p,hp,hsp⟩:=List.mem_flatMap.1 hs
  obtain⟨f,hf,rfl⟩:=List.mem_map.1 hp
  obtain⟨_,_,_,_,es,hK,hks⟩:=(h f hf).inv
  obtain⟨k,hk,rfl⟩:=List.mem_map.1 hsp
  have hk2:k∈f.x.ks:=hk
  rw [hks] at hk2
  obtain⟨e,he,rfl⟩:=List.mem_map.1 hk2
  exact(hK.2 e he).1
def NamesR (l:List ByteArray) (v:Value) (V':aE):Prop:=∃ (A:Option Addr) (n c:Nat),v=.slice A n c∧cV V' A n l∧n≤c
attribute [local irreducible] AtQ GoC GoL GoW QO QP Fn RV bF aD VLe bU bA
theorem MList_c (V:aE) (A:Option Addr) (n c:Nat) (fs:List LF) (h:dU V A n fs) (hn:n≤1000) (hnl:(eX (fs.map fz)).length≤1000000):Fn Tryz.prog 146 [.slice A n c] V (NamesR (lC (fs.map fz))):=by
  have hl:=h.1.1
  have hsz:=fnames_size h.2
  (refine aN Tryz.func146 rfl Tryz.ntmps146 rfl ?_;intro w0)
  repeat' (first|(refine aG ?_;first|(refine k_makeMap ?_;(refine yA rfl rfl ?_;intro γ0))|refine pu9 ?_)|refine cM ?_|fail)
  refine bZ (fun F V' L' m=>∃ (i:Nat) (M:List (ByteArray×Bool)) (es:Array MapEntry) (ck:Nat) (A':Option Addr) (n' c':Nat) (LA:List Box),VLe V V'∧LA ++ [⟨γ0,.map es ck,[]⟩]=L'∧i≤n∧fL strKK Value.bool M es∧HasM M (eX ((fs.map fz).take i))∧cX A' n' c' 9 1 ((qH (fs.map fz) (eX ((fs.map fz).take i))).map Value.string) LA∧m=n - i∧F=[(0,.slice A n c),(3,.map (some γ0)),(4,.slice A' n' c'),(10,.slice A n c),(11,.int .i64 n),(12,.int .i64 (i:Int))]) (m:=n) ⟨0,[],#[],0,none,0,0,[],VLe.refl _,rfl,Nat.zero_le _,fL.nil,hasM_nil,cX.nil,by omega,rfl⟩ bG rfl sl9 ?_
  rintro F V' L' m ⟨i,M,es,ck,A',n',c',LA,hV',rfl,hin,hM,hH,hr,rfl,rfl⟩
  by_cases hlt:i<n
  · obtain⟨b,off,f,hA,hx,hc,hN⟩:=(h.le hV').at_ hlt
    obtain⟨_,_,_,hnk,ks,hK,hks⟩:=hN.inv
    repeat' (first|(refine aG ?_;first|(refine bH ?_;refine aI (dG und_183 siz_186 rfl hA rfl hlt) ?_)|refine st9 ?_|(refine al9 ?_;intro γ)|refine pu9 ?_)|refine cM ?_|(refine aA rfl ?_ ?_<;>intro hq<;>try exact no9))
    all_goals try exact no9
    have hkl:=hK.len
    have hnm:=names_snoc hx
    have hle:=names_le (fs.map fz) (i+1)
    have hkn:f.x.ks.map Prod.fst=ks.map LK.nm:=by rw [hks,List.map_map];rfl
    rw [hkn] at hnm
    have hle2:(eX ((fs.map fz).take i)).length+f.x.nk≤1000000:=by
      rw [hnm,List.length_append,List.length_map,hkl] at hle;omega
    refine bZ (fun F V2 L' m=>∃ (j:Nat) (M:List (ByteArray×Bool)) (es:Array MapEntry) (ck:Nat) (A':Option Addr) (n' c':Nat) (LA:List Box),VLe V' V2∧LA ++ [⟨γ0,.map es ck,[]⟩]=L'∧j≤f.x.nk∧fL strKK Value.bool M es∧HasM M (eX ((fs.map fz).take i) ++ (ks.take j).map LK.nm)∧cX A' n' c' 9 1 ((qH (fs.map fz) (eX ((fs.map fz).take i) ++ (ks.take j).map LK.nm)).map Value.string) LA∧m=f.x.nk - j∧F=[(0,.slice A n c),(3,.map (some γ0)),(4,.slice A' n' c'),(10,.slice A n c),(11,.int .i64 n),(12,.int .i64 (i:Int)),(18,.slice f.x.K f.x.nk f.x.ck),(19,.int .i64 f.x.nk),(20,.int .i64 (j:Int))]) (m:=f.x.nk) ⟨0,M,es,ck,A',n',c',LA,VLe.refl _,rfl,Nat.zero_le _,hM,hH.same (by simp),by rw [List.take_zero,List.map_nil,List.append_nil];exact hr,by omega,rfl⟩ bG rfl sl9 ?_
    clear hM hH hr
    rintro F V2 L' m ⟨j,M2,es2,ck2,A2,n2,c2,LA2,hV2,rfl,hjn,hM,hH,hr,rfl,rfl⟩
    have hrl:n2≤1000000:=by
      have h1:=hr.1
      have h2:=outP_len (fs.map fz) (eX ((fs.map fz).take i) ++ (ks.take j).map LK.nm)
      rw [List.length_append,List.length_map,List.length_take,hkl] at h2
      rw [List.length_map] at h1;omega
    by_cases hlt2:j<f.x.nk
    · obtain⟨b1,o1,e,hKA,he,hem,hce,c0,c1,hms,hne⟩:=(hK.le hV2).at_ hlt2
      have hkj:=kids_names he
      have hans:=hH e.nm
      have hH':HasM (vB e.nm true M2) (eX ((fs.map fz).take i) ++ (ks.take (j+1)).map LK.nm):=(hH.set e.nm).same (by rw [hkj,List.append_assoc])
      have hoe:qH (fs.map fz) (eX ((fs.map fz).take i) ++ (ks.take (j+1)).map LK.nm)=qH (fs.map fz) ((eX ((fs.map fz).take i) ++ (ks.take j).map LK.nm) ++ [e.nm]):=by rw [hkj,List.append_assoc]
      by_cases hin:e.nm∈eX ((fs.map fz).take i) ++ (ks.take j).map LK.nm
      · rw [decide_eq_true hin] at hans
        rw [out_old hin] at hoe
        repeat' (first|(refine aG ?_;first|(refine bH ?_;refine aI (dG und_48 siz_104 rfl hKA rfl hlt2) ?_)|(refine mU ?_;refine aI (tH (kk:=strKK) (vv:=Value.bool) map_sb rfl rfl hM bD) ?_;rw [hans])|(refine oP ?_;(refine sL rfl (kk:=strKK) (vv:=Value.bool) (b:=true) map_sb rfl rfl rfl hM bD rfl ?_;intro es3 c3 hM3))|refine st9 ?_|(refine al9 ?_;intro γ)|refine pu9 ?_)|refine dL ?_|(refine aA rfl ?_ ?_<;>intro hq<;>try exact no9))
        all_goals first
          | exact no9
          | (exfalso;exact absurd hq (by decide))
          | skip
        all_goals (refine aY _ (f.x.nk - (j+1)) ⟨j+1,_,es3,c3,A2,n2,c2,LA2,vl9,rfl,by omega,hM3,hH',by rw [hoe];exact hr,rfl,rfl⟩ (by omega) bG sl9)
      · rw [decide_eq_false hin] at hans
        have hS:=Step_c V2 A n c fs (h.le (hV'.trans hV2)) hn e.nm
        by_cases hz:(eJ (fs.map fz) e.nm).length=0
        · rw [out_none hz] at hoe
          repeat' (first|(refine aG ?_;first|(refine aC ?_;(refine aS rfl ⟨Tryz.call116⟩ rfl rfl (hS) ?_;rintro v V3 hV3 ⟨A3,n3,c3,gs,rfl,hG3,hc3',hgz⟩;have hgl:=hG3.1.1;have hz2:=congrArg List.length hgz;rw [List.length_map,hgl,hz] at hz2))|(refine bH ?_;refine aI (dG und_48 siz_104 rfl hKA rfl hlt2) ?_)|(refine mU ?_;refine aI (tH (kk:=strKK) (vv:=Value.bool) map_sb rfl rfl hM bD) ?_;rw [hans])|(refine oP ?_;(refine sL rfl (kk:=strKK) (vv:=Value.bool) (b:=true) map_sb rfl rfl rfl hM bD rfl ?_;intro es3 c3 hM3))|refine st9 ?_|(refine al9 ?_;intro γ)|refine pu9 ?_)|refine cM ?_|(refine aA rfl ?_ ?_<;>intro hq<;>try exact no9))
          all_goals first
            | exact no9
            | (exfalso;exact absurd hq (by decide))
            | skip
          all_goals (refine aY _ (f.x.nk - (j+1)) ⟨j+1,_,es3,c3,A2,n2,c2,LA2,vl9,rfl,by omega,hM3,hH',by rw [hoe];exact hr,rfl,rfl⟩ (by omega) bG sl9)
        · rw [out_new hin hz] at hoe
          repeat' (first|(refine aG ?_;first|(refine aC ?_;(first|(refine aS rfl ⟨Tryz.call116⟩ rfl rfl (hS) ?_;rintro v V3 hV3 ⟨A3,n3,c3,gs,rfl,hG3,hc3',hgz⟩;have hgl:=hG3.1.1;have hz2:=congrArg List.length hgz;rw [List.length_map,hgl] at hz2)|(refine bQ rfl und_40 inf_9 rfl rfl rfl hr bD (fY bN rfl) cI (by omega) rfl rfl ?_;intro A5 c5 L5 hr5)))|(refine bH ?_;refine aI (dG und_48 siz_104 rfl hKA rfl hlt2) ?_)|(refine mU ?_;refine aI (tH (kk:=strKK) (vv:=Value.bool) map_sb rfl rfl hM bD) ?_;rw [hans])|(refine dC ?_;(refine aZ rfl und_40 siz_9 zec_9 rfl rfl rfl rfl rfl rfl rfl ?_;intro γ))|(refine oP ?_;(refine sL rfl (kk:=strKK) (vv:=Value.bool) (b:=true) map_sb rfl rfl rfl hM bD rfl ?_;intro es3 c3 hM3))|refine st9 ?_|(refine al9 ?_;intro γ)|refine pu9 ?_)|refine cM ?_|(refine aA rfl ?_ ?_<;>intro hq<;>try exact no9))
          all_goals first
            | exact no9
            | (exfalso;exact absurd hq (by decide))
            | skip
          all_goals (refine aY _ (f.x.nk - (j+1)) ⟨j+1,_,es3,c3,A5,n2+1,c5,L5,vl9,rfl,by omega,hM3,hH',by rw [hoe,List.map_append];exact hr5,rfl,rfl⟩ (by omega) bG sl9)
    · obtain rfl:j=f.x.nk:=by omega
      have htk:ks.take f.x.nk=ks:=List.take_of_length_le (by omega)
      rw [htk,←hnm] at hH hr
      repeat' (first|(refine aG ?_;refine pu9 ?_)|refine eT ?_|(refine aA rfl ?_ ?_<;>intro hq<;>try exact no9))
      all_goals try exact no9
      all_goals (refine aY _ (n - (i+1)) ⟨i+1,M2,es2,ck2,A2,n2,c2,LA2,vl9,rfl,by omega,hM,hH,hr,rfl,rfl⟩ (by omega) bG sl9)
  · obtain rfl:i=n:=by omega
    have htk:(fs.map fz).take i=fs.map fz:=List.take_of_length_le (by rw [List.length_map];omega)
    rw [htk] at hH hr
    have hrl:n'≤1000000000000:=by
      have h1:=hr.1
      have h2:=outP_len (fs.map fz) (eX (fs.map fz))
      rw [List.length_map] at h1;omega
    repeat' (first|(refine aG ?_;first|(refine aC ?_;(refine aM rfl ⟨Tryz.call180⟩ rfl bD rfl (Sort_c _ hr hrl) ?_;rintro v V3 B3 hV3 ⟨rfl,hr3⟩))|refine pu9 ?_)|refine eT ?_|(refine aA rfl ?_ ?_<;>intro hq<;>try exact no9))
    have hcap:=hr3.cap
    have hln:(lC (fs.map fz)).length=n':=by
      have:=hr3.1
      rw [List.length_map,Nat.mul_one] at this;exact this
    all_goals
      refine iJ hr3 bD ?_
      intro V4 hV4 hc4
      (refine aR Tryz.results146 (aB rfl) ?_)
      refine⟨_,_,_,rfl,⟨fB.of_cells (by rw [str_cells];exact hc4) (fun _=>rfl) hln (by unfold maxLen;omega),fun s hs=>?_⟩,hcap⟩
      exact hsz s (wH.1 hs).1
theorem List_c (V:aE) (A:Option Addr) (n c:Nat) (xs:List LN) (h:fN V A n xs) (hn:n≤1000) (B:Option Addr) (m e:Nat) (ss:List ByteArray) (hs:cV V B m ss) (hnl:(eX (dT (xs.map LN.n) ss)).length≤1000000):Fn Tryz.prog 86 [.slice A n c,.slice B m e] V (NamesR (lC (dT (xs.map LN.n) ss))):=by
  have hW:=Walk_c V A n c xs h hn B m e ss hs
  have hrl:=sN (xs.map LN.n) ss
  have hra:=h.1.1
  rw [List.length_map] at hrl
  generalize dT (xs.map LN.n) ss=r at *
  (refine aN Tryz.func86 rfl Tryz.ntmps86 rfl ?_;intro w0)
  repeat' (first|(refine aG ?_;first|(refine aC ?_;(first|(refine aS rfl ⟨Tryz.call115⟩ rfl rfl (hW) ?_;rintro v V1 hV1 ⟨A1,n1,c1,fs,rfl,hF1,hc1,rfl⟩;have hfl:=hF1.1.1;rw [List.length_map] at hrl;have hL:=MList_c V1 A1 n1 c1 fs hF1 (by omega) hnl)|(refine aS rfl ⟨Tryz.call146⟩ rfl rfl (hL) ?_;rintro v V2 hV2 ⟨A2,n2,c2,rfl,hS2,hc2⟩)))|refine pu9 ?_)|refine fG ?_|(refine aJ rfl rfl rfl ?_ ?_<;>intro hq<;>try exact no9)|(refine cN rfl rfl rfl ?_ ?_<;>intro hq)|(refine aA rfl ?_ ?_<;>intro hq<;>try exact no9)|(refine bY rfl ?_ ?_<;>intro hq))
  all_goals
    (refine aR Tryz.results86 (aB rfl) ?_)
    exact⟨_,_,_,rfl,hS2,hc2⟩
end
section
theorem cV.of {V:aE} {A:Option Addr} {n:Nat} {l:List ByteArray} (h:fH V 1 A n (l.map Value.string)) (hl:l.length=n) (hm:n≤maxLen) (hs:∀ s∈l,s.size≤maxLen):cV V A n l:=⟨fB.of_cells (by rw [str_cells];exact h) (fun _=>rfl) hl hm,hs⟩
attribute [local irreducible] AtQ GoC GoL GoW QO QP Fn RV bF aD VLe bU bA
end
section
inductive Deep:Nat→PN→Prop
  | mk {d:Nat} {h:Hd} {ks:PKs} (h2:∀ k∈ks,Deep d k.2):Deep (d+1) (.mk h ks)
theorem Deep.kid {d:Nat} {n:PN} (h:Deep (d+1) n):∀ k∈n.ks,Deep d k.2:=by
  cases h with|mk h2=>exact h2
theorem Deep.zero {n:PN} (h:Deep 0 n):False:=by cases h
theorem Deep.up {d:Nat} {n:PN} (h:Deep d n):∀ e,d≤e→Deep e n:=by
  induction h with
  | mk h2 ih =>
    intro e he
    obtain⟨e',rfl⟩:∃ e',e=e'+1:=⟨e - 1,by omega⟩
    exact .mk fun k hk=>ih k hk e' (by omega)
theorem stepP_deep {d:Nat} {r:List PF} {s:ByteArray} (h:∀ f∈r,Deep (d+1) f.1):∀ f∈eJ r s,Deep d f.1:=fun f hf=>by
  obtain⟨g,hg,hgf⟩:=List.mem_filterMap.1 (lM hf)
  unfold oU at hgf
  split at hgf
  · cases h2:gT g.1.ks s with
    | none=>rw [h2] at hgf;cases hgf
    | some x=>rw [h2] at hgf;cases hgf;exact(h g hg).kid _ (lJ h2)
  · cases hgf
def kB (g:Hd→Int→Hd):Nat→List PF→PN
  | 0,_=>.mk hZ []
  | _+1,[]=>.mk hZ []
  | d+1,f :: t=>.mk (g { f.1.h with opq:=false } f.2) ((lC (f :: t)).map fun nm=>(nm,kB g d (eJ (f :: t) nm)))
theorem names_few {r:List PF} (h:∀ f∈r,cH eR f.1):(eX r).length≤r.length * 100000:=by
  unfold eX
  induction r with
  | nil=>simp
  | cons f r ih =>
    have h1:=ih fun g hg=>h g (by simp [hg])
    have h2:f.1.ks.length≤100000:=(h f (by simp)).here.2
    rw [List.flatMap_cons,List.length_append,List.length_map,List.length_cons]
    omega
end
section
def gI:Hd→Int→Hd:=fun h _=>h
theorem names_step {r:List PF} {x:ByteArray} (h:(eJ r x).length≠0):x∈eX r:=by
  have h1:r.filterMap (oU x)≠[]:=fun e=>h (by unfold eJ;rw [e];rfl)
  obtain⟨g,hg⟩:=List.exists_mem_of_ne_nil _ h1
  obtain⟨f,hf,hk⟩:=List.mem_filterMap.1 hg
  unfold oU at hk
  split at hk
  · cases h2:gT f.1.ks x with
    | none=>rw [h2] at hk;cases hk
    | some m=>exact List.mem_flatMap.2 ⟨f,hf,List.mem_map.2 ⟨_,lJ h2,rfl⟩⟩
  · cases hk
theorem listP_is {r:List PF} {x:ByteArray}:x∈lC r↔(eJ r x).length≠0:=by
  rw [wH];exact⟨fun h=>h.2,fun h=>⟨names_step h,h⟩⟩
theorem dirs_app:∀ (K X:List PF),((∀ f∈K,f.1.h.kind=2∧f.1.h.opq=false)∧eB (K ++ X)=K ++ eB X)∨(∀ X,eB (K ++ X)=eB K)
  | [],X=>.inl ⟨by simp,rfl⟩
  | f :: K,X=>by
    by_cases hk:f.1.h.kind=2
    · cases ho:f.1.h.opq
      · rcases dirs_app K X with ⟨h1,h2⟩|h
        · refine .inl ⟨?_,?_⟩
          · intro g hg
            rcases List.mem_cons.1 hg with rfl|hg
            · exact⟨hk,ho⟩
            · exact h1 g hg
          · rw [List.cons_append,eB,if_pos hk,ho,if_neg (by decide),h2];rfl
        · refine .inr fun X=>?_
          rw [List.cons_append,eB,eB,if_pos hk,if_pos hk,ho,if_neg (by decide),if_neg (by decide),h X]
      · refine .inr fun X=>?_
        rw [List.cons_append,eB,eB,if_pos hk,if_pos hk,ho,if_pos rfl,if_pos rfl]
    · refine .inr fun X=>?_
      rw [List.cons_append,eB,eB,if_neg hk,if_neg hk]
theorem dirs_idem:∀ X:List PF,eB (eB X)=eB X
  | []=>rfl
  | f :: X=>by
    have:=dirs_idem X
    rw [eB]
    split
    · rename_i hk
      split
      · rename_i ho;rw [eB,if_pos hk,if_pos ho]
      · rename_i ho;rw [eB,if_pos hk,if_neg ho,this]
    · rfl
theorem dirs_head {X:List PF} {f:PF} {t:List PF} (h:eB X=f :: t):f.1.h.kind=2∧∃ X',X=f :: X':=by
  cases X with
  | nil=>cases h
  | cons g X =>
    rw [eB] at h
    split at h
    · rename_i hk
      split at h
      · injection h with h1 h2;subst h1;exact⟨hk,_,rfl⟩
      · injection h with h1 h2;subst h1;exact⟨hk,_,rfl⟩
    · cases h
theorem pR {f:PF} (h:f.1.h.kind=1) (X:List PF):dV (f :: X)=[f]:=by rw [dV,if_pos h]
theorem mL {f:PF} (h:¬f.1.h.kind=1) (X:List PF):dV (f :: X)=eB (f :: X):=by rw [dV,if_neg h]
theorem yG {X:List PF} {f:PF} {t:List PF} (h:dV X=f :: t):(f.1.h.kind=1∧t=[]∨f.1.h.kind=2)∧∃ X',X=f :: X':=by
  cases X with
  | nil=>cases h
  | cons g X =>
    by_cases hk:g.1.h.kind=1
    · rw [pR hk] at h;injection h with h1 h2;subst h1;exact⟨.inl ⟨hk,h2.symm⟩,_,rfl⟩
    · rw [mL hk] at h
      obtain⟨h1,h2⟩:=dirs_head h
      exact⟨.inr h1,h2⟩
theorem shown_idem (X:List PF):dV (dV X)=dV X:=by
  cases X with
  | nil=>rfl
  | cons g X =>
    by_cases hk:g.1.h.kind=1
    · rw [pR hk,pR hk]
    · rw [mL hk]
      have:=dirs_idem (g :: X)
      cases h:eB (g :: X) with
      | nil=>rfl
      | cons f t =>
        have h1:=(dirs_head h).1
        rw [mL (by omega),←h,this]
theorem shown_self {f:PF} (hk:f.1.h.kind=1∨f.1.h.kind=2) (ho:f.1.h.opq=false):dV [f]=[f]:=by
  rcases hk with hk|hk
  · exact pR hk _
  · rw [mL (by omega),eB,if_pos hk,ho,if_neg (by decide)];rfl
inductive Rel (d:Nat):List PF→List PF→Prop
  | same (r:List PF):Rel d r r
  | flat {P D:List PF} (h1:∀ f∈P,f.1.h.kind=2∧f.1.h.opq=false) (h2:dV D=D) (h3:D≠[]) (h4:P≠[]→∃ f t,D=f :: t∧f.1.h.kind=2):Rel d (P ++ D) (P ++ [(kB gI d D,0)])
theorem Rel.nil {d:Nat} {r r2:List PF} (h:Rel d r r2):r.length≠0↔r2.length≠0:=by
  cases h with
  | same=>exact Iff.rfl
  | flat h1 h2 h3 h4 =>
    have:=List.length_pos_iff.2 h3
    simp only [List.length_append,List.length_singleton];omega
theorem flat_h {d:Nat} {f:PF} {t:List PF} (h:Deep d f.1):(kB gI d (f :: t)).h={ f.1.h with opq:=false }:=by
  cases d with
  | zero=>exact h.zero.elim
  | succ d=>rfl
def GX (d:Nat) (X:List PF):List PF:=if dV X=[] then [] else [(kB gI d (dV X),0)]
theorem Rel.shown {d:Nat} (K X:List PF) (hX:∀ f∈X,Deep d f.1):Rel d (dV (K ++ X)) (dV (K ++ GX d X)):=by
  have hF:∀ f t,dV X=f :: t→(kB gI d (dV X)).h={ f.1.h with opq:=false }:=fun f t e=>by
    rw [e];refine flat_h (hX f ?_)
    exact lM (by rw [e];simp)
  cases K with
  | nil =>
    rw [List.nil_append,List.nil_append];unfold GX
    cases hs:dV X with
    | nil=>rw [if_pos rfl];exact .same _
    | cons f t =>
      rw [if_neg (by simp)]
      have hf:=hF f t hs
      have hk:=(yG hs).1
      rw [hs] at hf
      rw [shown_self (by show (kB gI d (f :: t)).h.kind=1∨(kB gI d (f :: t)).h.kind=2;rw [hf];show f.1.h.kind=1∨f.1.h.kind=2;omega) (by show (kB gI d (f :: t)).h.opq=false;rw [hf])]
      have:=Rel.flat (d:=d) (P:=[]) (D:=f :: t) (by simp) (by rw [←hs];exact shown_idem X) (by simp) (by simp)
      simpa using this
  | cons k K =>
    rw [List.cons_append,List.cons_append]
    by_cases hk:k.1.h.kind=1
    · rw [pR hk,pR hk];exact .same _
    · rw [mL hk,mL hk,←List.cons_append,←List.cons_append]
      rcases dirs_app (k :: K) X with ⟨h1,h2⟩|h
      · rcases dirs_app (k :: K) (GX d X) with ⟨_,h3⟩|h'
        · rw [h2,h3]
          cases hd:eB X with
          | nil =>
            have:eB (GX d X)=[]:=by
              unfold GX
              cases hs:dV X with
              | nil=>rfl
              | cons f t =>
                rw [if_neg (by simp),←hs]
                have hf:=hF f t hs
                obtain⟨hk2,X',rfl⟩:=yG hs
                have:¬f.1.h.kind=2:=fun e=>by
                  rw [eB,if_pos e] at hd
                  split at hd<;>cases hd
                rw [eB,if_neg (by show ¬(kB gI d (dV (f :: X'))).h.kind=2;rw [hf];exact this)]
            rw [this];exact .same _
          | cons f t =>
            obtain⟨hfk,X',rfl⟩:=dirs_head hd
            have hs:dV (f :: X')=f :: t:=by rw [mL (by omega),hd]
            have hf:=hF f t hs
            have:GX d (f :: X')=[(kB gI d (f :: t),0)]:=by unfold GX;rw [hs,if_neg (by simp)]
            rw [hs] at hf
            rw [this]
            have h5:eB [(kB gI d (f :: t),(0:Int))]=[(kB gI d (f :: t),0)]:=by
              rw [eB,if_pos (by show (kB gI d (f :: t)).h.kind=2;rw [hf];exact hfk),if_neg (by show ¬(kB gI d (f :: t)).h.opq=true;rw [hf];simp)];rfl
            rw [h5]
            exact .flat h1 (by rw [←hs];exact shown_idem _) (by simp) fun _=>⟨f,t,rfl,hfk⟩
        · have e1:=h' X;have e2:=h' (GX d X)
          rw [e1,e2];exact .same _
      · rw [h X,h (GX d X)];exact .same _
theorem lookK_map {α:Type} {p:ByteArray→PN} {s:ByteArray}:∀ l:List ByteArray,gT (l.map fun nm=>(nm,p nm)) s=if s∈l then some (p s) else none
  | []=>rfl
  | a :: l=>by
    rw [List.map_cons,gT]
    by_cases h:a=s
    · subst h;simp
    · rw [if_neg h,lookK_map (α:=α) l]
      have:s∈a :: l↔s∈l:=by simp [show ¬s=a from fun e=>h e.symm]
      by_cases hs:s∈l
      · rw [if_pos hs,if_pos (this.2 hs)]
      · rw [if_neg hs,if_neg (fun h=>hs (this.1 h))]
theorem flat_kid {d:Nat} {D:List PF} (h2:dV D=D) (h3:D≠[]) (s:ByteArray):[((kB gI (d+1) D,0):PF)].filterMap (oU s)=GX d (D.filterMap (oU s)):=by
  obtain⟨f,t,rfl⟩:∃ f t,D=f :: t:=List.exists_cons_of_ne_nil h3
  have hs:eJ (f :: t) s=dV ((f :: t).filterMap (oU s)):=rfl
  unfold GX
  rw [←hs]
  have hmem:s∈lC (f :: t)↔¬eJ (f :: t) s=[]:=by rw [listP_is];simp
  obtain⟨hk,_⟩:=yG h2
  have e1:oU s (kB gI (d+1) (f :: t),0)=if f.1.h.kind=2 then (if s∈lC (f :: t) then some (kB gI d (eJ (f :: t) s),0) else none) else none:=by
    unfold oU
    show (if f.1.h.kind=2 then (gT ((lC (f :: t)).map fun nm=>(nm,kB gI d (eJ (f :: t) nm))) s).map (fun x=>(x,(0:Int))) else none)=_
    rw [lookK_map (α:=Unit) (p:=fun nm=>kB gI d (eJ (f :: t) nm))]
    split
    · split<;>rfl
    · rfl
  rw [List.filterMap_cons,e1,List.filterMap_nil]
  rcases hk with ⟨hk,rfl⟩|hk
  · have:eJ [f] s=[]:=by
      rw [hs,List.filterMap_cons,List.filterMap_nil]
      unfold oU
      rw [if_neg (by omega)];rfl
    rw [if_neg (by omega),this,if_pos rfl]
  · rw [if_pos hk]
    by_cases hm:eJ (f :: t) s=[]
    · rw [if_neg (fun h=>hmem.1 h hm),if_pos hm]
    · rw [if_pos (hmem.2 hm),if_neg hm]
theorem kids_deep {d:Nat} {r:List PF} {s:ByteArray} (h:∀ f∈r,Deep (d+1) f.1):∀ f∈r.filterMap (oU s),Deep d f.1:=fun f hf=>by
  obtain⟨g,hg,hgf⟩:=List.mem_filterMap.1 hf
  unfold oU at hgf
  split at hgf
  · cases h2:gT g.1.ks s with
    | none=>rw [h2] at hgf;cases hgf
    | some x=>rw [h2] at hgf;cases hgf;exact(h g hg).kid _ (lJ h2)
  · cases hgf
theorem Rel.step {d:Nat} {r r2:List PF} (h:Rel (d+1) r r2) (hd:∀ f∈r,Deep (d+1) f.1) (s:ByteArray):Rel d (eJ r s) (eJ r2 s):=by
  cases h with
  | same=>exact .same _
  | @flat P D h1 h2 h3 h4 =>
    unfold eJ
    rw [List.filterMap_append,List.filterMap_append,flat_kid h2 h3]
    exact Rel.shown _ _ (kids_deep fun f hf=>hd f (by simp [hf]))
theorem Rel.head {d:Nat} {f f2:PF} {t t2:List PF} (h:Rel d (f :: t) (f2 :: t2)) (hd:Deep d f.1):({ f2.1.h with opq:=false }:Hd)={ f.1.h with opq:=false }:=by
  generalize he:f :: t=r at h
  generalize he2:f2 :: t2=r2 at h
  cases h with
  | same =>
    rw [←he2] at he;injection he with h1 h2;rw [h1]
  | @flat P D h1 h2 h3 h4 =>
    cases P with
    | nil =>
      rw [List.nil_append] at he he2
      injection he2 with h5 h6
      subst he
      rw [h5]
      show ({ (kB gI d (f :: t)).h with opq:=false }:Hd)=_
      rw [flat_h hd]
    | cons p P =>
      rw [List.cons_append] at he he2
      injection he with h5 h6
      injection he2 with h7 h8
      rw [h5,h7]
theorem roots_deep {d:Nat} {l:List PN} (h:∀ x∈l,Deep d x):∀ f∈mZ l,Deep d f.1:=fun f hf=>h _ (vG (lM hf))
end
section
open Go.RowKit
end
section
abbrev prC (r:PR):List Value:=[.int .i64 r.i,.int .i64 r.o,.int .i64 r.c]
def inR64 (r:PR):Prop:=(-9223372036854775808≤r.i∧r.i≤9223372036854775807)∧(-9223372036854775808≤r.o∧r.o≤9223372036854775807)∧(-9223372036854775808≤r.c∧r.c≤9223372036854775807)
def MapV (V:aE) (A:Option Addr) (n:Nat) (xs:List PR):Prop:=fB V 3 prC A n xs∧∀ r∈xs,inR64 r
theorem MapV.le {V V':aE} {A:Option Addr} {n:Nat} {xs:List PR} (h:MapV V A n xs) (hv:VLe V V'):MapV V' A n xs:=⟨h.1.le hv,h.2⟩
theorem vC (r:PR):(prC r).length=3:=rfl
theorem MapV.at_ {V:aE} {A:Option Addr} {n:Nat} {xs:List PR} (h:MapV V A n xs) {k:Nat} (hk:k<n):∃ b off r,A=some ⟨b,off,none⟩∧xs[k]?=some r∧aD V b (off+k * 3) [.int .i64 r.i,.int .i64 r.o,.int .i64 r.c]∧V ⟨b,off+k * 3+0,none⟩=some (.int .i64 r.i)∧V ⟨b,off+k * 3+1,none⟩=some (.int .i64 r.o)∧V ⟨b,off+k * 3+2,none⟩=some (.int .i64 r.c)∧inR64 r:=by
  obtain⟨b,off,r,ha,hx,hc⟩:=h.1.at_ hk
  exact⟨b,off,r,ha,hx,hc,hc 0 _ rfl,hc 1 _ rfl,hc 2 _ rfl,h.2 r (List.mem_of_getElem? hx)⟩
theorem mfault_head {r:PR} {l seen:List PR}:nR seen (r :: l)=if okR r=false then 1 else if seen.any (pU r) then 3 else nR (seen ++ [r]) l:=rfl
theorem bdR_of {r:PR} (h:okR r=true):bdR r:=(okR_iff r).1 h
theorem take_snoc {α:Type} {xs:List α} {k:Nat} {x:α} (h:xs[k]?=some x):xs.take (k+1)=xs.take k ++ [x]:=by rw [List.take_add_one,h];rfl
theorem okR_of {r:PR} (h1:0≤r.i∧r.i≤65535∧1≤r.c∧r.c - 1≤65535 - r.i) (h2:0≤r.o∧r.o≤65535∧1≤r.c∧r.c - 1≤65535 - r.o):okR r=true:=by
  rw [okR_iff];unfold bdR;omega
theorem okR_not {r:PR} (h:¬((0≤r.i∧r.i≤65535∧1≤r.c∧r.c - 1≤65535 - r.i)∧(0≤r.o∧r.o≤65535∧1≤r.c∧r.c - 1≤65535 - r.o))):okR r=false:=by
  cases hb:okR r
  · rfl
  · rw [okR_iff] at hb;unfold bdR at hb;omega
theorem meetR_iff (r s:PR):pU r s=true↔(r.i<s.i+s.c∧s.i<r.i+r.c)∨(r.o<s.o+s.c∧s.o<r.o+r.c):=by
  simp [pU,meetsZ]
theorem any_snoc {xs:List PR} {j:Nat} {r s:PR} (h:xs[j]?=some s) (h1:(xs.take j).any (pU r)=false) (h2:pU r s=false):(xs.take (j+1)).any (pU r)=false:=by
  rw [take_snoc h,List.any_append,h1];simp [h2]
theorem any_hit {xs:List PR} {j k:Nat} {r s:PR} (h:xs[j]?=some s) (hj:j<k) (h2:pU r s=true):(xs.take k).any (pU r)=true:=by
  rw [List.any_eq_true]
  exact⟨s,List.mem_of_getElem? (i:=j) (by rw [List.getElem?_take,if_pos hj];exact h),h2⟩
attribute [local irreducible] AtQ GoC GoL GoW QO QP Fn RV bF aD VLe bU bA
theorem fits_c (V:aE) (f n:Int) (hn:n≤9223372036854775807):Fn Tryz.prog 143 [.int .i64 f,.int .i64 n] V fun v _=>v=.bool (decide (0≤f∧f≤65535∧1≤n∧n - 1≤65535 - f)):=by
  (refine aN Tryz.func143 rfl Tryz.ntmps143 rfl ?_;intro w0)
  repeat' (first|(refine aG ?_;refine pu9 ?_)|refine fG ?_|(refine aJ rfl rfl rfl ?_ ?_<;>intro hq<;>try exact no9)|(refine cN rfl rfl rfl ?_ ?_<;>intro hq)|(refine aA rfl ?_ ?_<;>intro hq<;>try exact no9)|(refine bY rfl ?_ ?_<;>intro hq))
  all_goals (refine aR Tryz.results143 (aB rfl) ?_)
  all_goals first|rfl|(refine congrArg Value.bool ?_;first|exact(decide_eq_true (by omega)).symm|exact(decide_eq_false (by omega)).symm|exact decide_eq_decide.2 (by omega))
theorem meets_c (V:aE) (a n b m:Int) (h1:0≤b+m∧b+m≤9223372036854775807) (h2:0≤a+n∧a+n≤9223372036854775807):Fn Tryz.prog 144 [.int .i64 a,.int .i64 n,.int .i64 b,.int .i64 m] V fun v _=>v=.bool (decide (a<b+m∧b<a+n)):=by
  (refine aN Tryz.func144 rfl Tryz.ntmps144 rfl ?_;intro w0)
  repeat' (first|(refine aG ?_;refine pu9 ?_)|refine fG ?_|(refine aJ rfl rfl rfl ?_ ?_<;>intro hq<;>try exact no9)|(refine cN rfl rfl rfl ?_ ?_<;>intro hq)|(refine aA rfl ?_ ?_<;>intro hq<;>try exact no9)|(refine bY rfl ?_ ?_<;>intro hq))
  all_goals (refine aR Tryz.results144 (aB rfl) ?_)
  all_goals first|rfl|(refine congrArg Value.bool ?_;first|exact(decide_eq_true (by omega)).symm|exact(decide_eq_false (by omega)).symm|exact decide_eq_decide.2 (by omega))
theorem ToHost1_c (V:aE) (r:PR):Fn Tryz.prog 145 [.agg (prC r).toArray] V fun v _=>v=.tuple #[.int .i64 r.i,.int .i64 r.o]:=by
  (refine aN Tryz.func145 rfl Tryz.ntmps145 rfl ?_;intro w0)
  repeat' (first|(refine aG ?_;first|(refine al9 ?_;intro γ)|refine pu9 ?_)|refine bS ?_|refine cO (id:=1) mixed (by kernel_rfl) ?_)
  all_goals (refine bL Tryz.results145 (aB rfl) (aB rfl) ?_)
  all_goals rfl
theorem FromHost1_c (V:aE) (r:PR):Fn Tryz.prog 118 [.agg (prC r).toArray] V fun v _=>v=.tuple #[.int .i64 r.o,.int .i64 r.i]:=by
  (refine aN Tryz.func118 rfl Tryz.ntmps118 rfl ?_;intro w0)
  repeat' (first|(refine aG ?_;first|(refine al9 ?_;intro γ)|refine pu9 ?_)|refine bS ?_|refine cO (id:=1) mixed (by kernel_rfl) ?_)
  all_goals (refine bL Tryz.results118 (aB rfl) (aB rfl) ?_)
  all_goals rfl
end
section
attribute [local irreducible] AtQ GoC GoL GoW QO QP Fn RV bF aD VLe bU bA
theorem mapF_bd (xs:List PR):0≤dX xs∧dX xs≤3:=by
  have h:∀ (l seen:List PR),0≤nR seen l∧nR seen l≤3:=by
    intro l
    induction l with
    | nil=>intro seen;simp [nR]
    | cons r l ih =>
      intro seen
      rw [nR]
      (repeat' split)<;>first|omega|exact ih _
  unfold dX
  split
  · omega
  · exact h _ _
theorem MCheck_c (V:aE) (A:Option Addr) (n c:Nat) (xs:List PR) (h:MapV V A n xs) (hcap:n≤c):Fn Tryz.prog 82 [.slice A n c] V fun v _=>v=bA (dX xs):=by
  have hm:=h.1.max
  have hl:=h.1.1
  (refine aN Tryz.func82 rfl Tryz.ntmps82 rfl ?_;intro w0)
  repeat' (first|(refine aG ?_;refine pu9 ?_)|refine cM ?_|(refine aA rfl ?_ ?_<;>intro hq<;>try exact no9))
  all_goals try ((refine aR Tryz.results82 (aB rfl) ?_);refine cP 2 (by unfold dX;rw [if_pos (by omega)]))
  have hr:dX xs=nR [] xs:=by unfold dX;rw [if_neg (by omega)]
  rw [hr]
  refine bZ (fun F V' L' m=>∃ k:Nat,k≤n∧m=n - k∧V=V'∧L'=[]∧nR [] xs=nR (xs.take k) (xs.drop k)∧(∀ r∈xs.take k,bdR r)∧F=[(0,.slice A n c),(11,.slice A n c),(12,.int .i64 n),(13,.int .i64 k)]) (m:=n) ⟨0,Nat.zero_le _,by omega,rfl,rfl,by simp,by simp,rfl⟩ bG rfl sl9 ?_
  rintro F V' L' m ⟨k,hk,rfl,rfl,rfl,hg,hb,rfl⟩
  by_cases hlt:k<n
  · obtain⟨bb,off,r,rfl,hx,hc,c0,c1,c2,hr64⟩:=h.at_ hlt
    unfold inR64 at hr64
    rw [hg,nV hx,mfault_head]
    repeat' (first|(refine aG ?_;first|(refine aC ?_;refine aO rfl (aK ⟨Tryz.call143⟩ rfl (fits_c _ _ _ (by omega))) ?_)|(refine fW ?_;(first|refine aI (dY und_22 siz_190 rfl rfl (by omega)) ?_|refine aI (gQ und_22 siz_190 rfl rfl (by omega)) ?_))|refine st9 ?_|(refine al9 ?_;intro γ)|refine pu9 ?_)|refine dL ?_|(refine aJ rfl rfl rfl ?_ ?_<;>intro hq<;>try exact no9)|(refine aA rfl ?_ ?_<;>intro hq<;>try exact no9))
    all_goals try ((refine aR Tryz.results82 (aB rfl) ?_);exact cP 1 (by rw [if_pos (okR_not (by omega))]))
    · have hok:okR r=true:=okR_of (by omega) (by omega)
      have hbr:=bdR_of hok
      have hbr':=hbr
      unfold bdR at hbr
      rw [if_neg (by simp [hok])]
      refine bZ (fun F V' L' m=>∃ j:Nat,j≤k∧m=k - j∧V=V'∧L'=[⟨γ,_,prC r⟩]∧(xs.take j).any (pU r)=false∧F=[(0,.slice (some ⟨bb,off,none⟩) n c),(4,.pointer (some ⟨γ,0,none⟩)),(11,.slice (some ⟨bb,off,none⟩) n c),(12,.int .i64 n),(13,.int .i64 k),(35,.slice (some ⟨bb,off,none⟩) k c),(36,.int .i64 k),(37,.int .i64 j)]) (m:=k) ⟨0,Nat.zero_le _,by omega,rfl,rfl,by simp,rfl⟩ bG rfl sl9 ?_
      rintro F V' L' m ⟨j,hj,rfl,rfl,rfl,ha,rfl⟩
      by_cases hjk:j<k
      · obtain⟨bb',off',s,he,hy,hd,d0,d1,d2,hs64⟩:=h.at_ (k:=j) (by omega)
        cases he
        have hbs:bdR s:=hb s (List.mem_of_getElem? (i:=j) (by rw [List.getElem?_take,if_pos hjk];exact hy))
        unfold bdR at hbs
        have hmi:=meetR_iff r s
        repeat' (first|(refine aG ?_;first|(refine aC ?_;refine aO rfl (aK ⟨Tryz.call144⟩ rfl (meets_c _ _ _ _ _ (by omega) (by omega))) ?_)|refine st9 ?_|(refine al9 ?_;intro γ)|refine pu9 ?_)|refine dL ?_|(refine aJ rfl rfl rfl ?_ ?_<;>intro hq<;>try exact no9)|(refine aA rfl ?_ ?_<;>intro hq<;>try exact no9))
        all_goals try ((refine aR Tryz.results82 (aB rfl) ?_);exact cP 3 (by rw [if_pos (any_hit hy hjk (hmi.2 (by omega)))]))
        · refine aY _ (k - (j+1)) ⟨j+1,by omega,rfl,rfl,rfl,any_snoc hy ha ?_,rfl⟩ (by omega) bG sl9
          cases hmb:pU r s
          · rfl
          · rw [hmi] at hmb;omega
      · have hjk:j=k:=by omega
        subst hjk
        repeat' (first|(refine aG ?_;refine pu9 ?_)|refine eT ?_|(refine aA rfl ?_ ?_<;>intro hq<;>try exact no9))
        refine aY _ (n - (j+1)) ⟨j+1,by omega,rfl,rfl,rfl,?_,?_,rfl⟩ (by omega) bG sl9
        · rw [ha,if_neg (by simp),take_snoc hx]
        · rw [take_snoc hx]
          intro s hs
          rcases List.mem_append.1 hs with hs|hs
          · exact hb s hs
          · simp at hs;subst hs;exact hbr'
  · repeat' (first|(refine aG ?_;refine pu9 ?_)|refine eT ?_|(refine aA rfl ?_ ?_<;>intro hq<;>try exact no9))
    (refine aR Tryz.results82 (aB rfl) ?_)
    rw [hg,List.drop_eq_nil_of_le (by omega)]
    exact errV_nil rfl
end
section
def lookR (o:Option Int):Value:=.tuple #[.int .i64 (o.getD 0),.bool o.isSome]
def gY (xs:List PR) (x:Int):Option Int:=if dX xs=0 then qY xs x else none
def pB (xs:List PR) (x:Int):Option Int:=if dX xs=0 then qY (xs.map PR.swap) x else none
theorem look_hit {r:PR} {l:List PR} {x:Int} (h:r.i≤x∧x<r.i+r.c):qY (r :: l) x=some (r.o+(x - r.i)):=by rw [qY,if_pos h]
theorem look_miss {r:PR} {l:List PR} {x:Int} (h:¬(r.i≤x∧x<r.i+r.c)):qY (r :: l) x=qY l x:=by rw [qY,if_neg h]
theorem lookR_some {o:Option Int} {y z:Int} (h:o=some y) (e:z=y):Value.tuple #[.int .i64 z,.bool true]=lookR o:=by subst h e;rfl
theorem lookR_none {o:Option Int} (h:o=none):Value.tuple #[.int .i64 0,.bool false]=lookR o:=by subst h;rfl
attribute [local irreducible] AtQ GoC GoL GoW QO QP Fn RV bF aD VLe bU bA
theorem through_c (V:aE) (A:Option Addr) (n c:Nat) (xs:List PR) (h:MapV V A n xs) (hcap:n≤c) (x:Int) (f:FuncId) (g:PR→PR) (he:lB Tryz.prog f) (hg1:∀ r,(g r).c=r.c) (hg2:∀ r,bdR r→bdR (g r))
    (hs:∀ V r,Fn Tryz.prog f [.agg (prC r).toArray] V fun v _=>v=.tuple #[.int .i64 (g r).i,.int .i64 (g r).o]) :
    Fn Tryz.prog 117 [.slice A n c,.int .i64 x,.func (.func f) #[] #[]] V fun v _=>v=lookR (if dX xs=0 then qY (xs.map g) x else none):=by
  have hm:=h.1.max
  have hl:=h.1.1
  (refine aN Tryz.func117 rfl Tryz.ntmps117 rfl ?_;intro w0)
  by_cases h0:dX xs=0
  · rw [if_pos h0]
    have hb:=(kS h0).2.1
    repeat' (first|(refine aG ?_;first|(refine aC ?_;refine aO rfl (aK ⟨Tryz.call82⟩ rfl (MCheck_c _ _ _ _ xs h hcap)) ?_)|refine pu9 ?_)|refine cM ?_|(refine aA rfl ?_ ?_<;>intro hq<;>try exact no9))
    refine bZ (fun F V' L' m=>∃ k:Nat,k≤n∧m=n - k∧V=V'∧L'=[]∧qY (xs.map g) x=qY ((xs.drop k).map g) x∧F=[(1,.int .i64 x),(2,.func (.func f) #[] #[]),(15,.slice A n c),(16,.int .i64 n),(17,.int .i64 k)]) (m:=n) ⟨0,Nat.zero_le _,by omega,rfl,rfl,by simp,rfl⟩ bG rfl sl9 ?_
    rintro F V' L' m ⟨k,hk,rfl,rfl,rfl,hg,rfl⟩
    by_cases hlt:k<n
    · obtain⟨bb,off,r,rfl,hx,hc,c0,c1,c2,hr64⟩:=h.at_ hlt
      have hbr:=hb r (List.mem_of_getElem? hx)
      have hbg:=hg2 r hbr
      have hgc:=hg1 r
      unfold bdR at hbr hbg
      rw [hg,nV hx,List.map_cons]
      repeat' (first|(refine aG ?_;first|(refine aC ?_;refine aO rfl (q_callv he rfl rfl (hs _ r)) ?_)|refine st9 ?_|(refine al9 ?_;intro γ)|refine pu9 ?_)|refine dL ?_|(refine aJ rfl rfl rfl ?_ ?_<;>intro hq<;>try exact no9)|(refine aA rfl ?_ ?_<;>intro hq<;>try exact no9))
      all_goals try ((refine bL Tryz.results117 (aB rfl) (aB rfl) ?_);exact lookR_some (look_hit (by omega)) (by omega))
      all_goals
        refine aY _ (n - (k+1)) ⟨k+1,by omega,rfl,rfl,rfl,?_,rfl⟩ (by omega) bG sl9
        rw [look_miss (by omega)]
    · repeat' (first|(refine aG ?_;refine pu9 ?_)|refine eT ?_|(refine aA rfl ?_ ?_<;>intro hq<;>try exact no9))
      (refine bL Tryz.results117 (aB rfl) (aB rfl) ?_)
      rw [hg,List.drop_eq_nil_of_le (by omega)]
      exact lookR_none rfl
  · rw [if_neg h0]
    repeat' (first|(refine aG ?_;first|(refine aC ?_;refine aO rfl (aK ⟨Tryz.call82⟩ rfl (MCheck_c _ _ _ _ xs h hcap)) ?_)|refine pu9 ?_)|refine bS ?_|(refine aA rfl ?_ ?_<;>intro hq<;>try exact no9))
    all_goals (refine bL Tryz.results117 (aB rfl) (aB rfl) ?_)
    all_goals exact lookR_none rfl
theorem mR (V:aE) (A:Option Addr) (n c:Nat) (xs:List PR) (h:MapV V A n xs) (hcap:n≤c) (x:Int):Fn Tryz.prog 84 [.slice A n c,.int .i64 x] V fun v _=>v=lookR (gY xs x):=by
  have ht:=through_c V A n c xs h hcap x 145 (fun r=>r) ⟨Tryz.call145⟩ (fun _=>rfl) (fun _ hr=>hr) (fun V r=>ToHost1_c V r)
  rw [show (xs.map fun r=>r)=xs by simp] at ht
  (refine aN Tryz.func84 rfl Tryz.ntmps84 rfl ?_;intro w0)
  repeat' (first|(refine aG ?_;first|(refine aC ?_;refine aO rfl (aK ⟨Tryz.call117⟩ rfl (ht)) ?_)|refine pu9 ?_)|refine fG ?_|(refine aJ rfl rfl rfl ?_ ?_<;>intro hq<;>try exact no9)|(refine cN rfl rfl rfl ?_ ?_<;>intro hq)|(refine aA rfl ?_ ?_<;>intro hq<;>try exact no9)|(refine bY rfl ?_ ?_<;>intro hq))
  all_goals (refine bL Tryz.results84 (aB rfl) (aB rfl) ?_)
  all_goals rfl
theorem lQ (V:aE) (A:Option Addr) (n c:Nat) (xs:List PR) (h:MapV V A n xs) (hcap:n≤c) (x:Int):Fn Tryz.prog 51 [.slice A n c,.int .i64 x] V fun v _=>v=lookR (pB xs x):=by
  have ht:=through_c V A n c xs h hcap x 118 PR.swap ⟨Tryz.call118⟩ (fun _=>rfl) (fun _ hr=>swap_bd hr) (fun V r=>FromHost1_c V r)
  (refine aN Tryz.func51 rfl Tryz.ntmps51 rfl ?_;intro w0)
  repeat' (first|(refine aG ?_;first|(refine aC ?_;refine aO rfl (aK ⟨Tryz.call117⟩ rfl (ht)) ?_)|refine pu9 ?_)|refine fG ?_|(refine aJ rfl rfl rfl ?_ ?_<;>intro hq<;>try exact no9)|(refine cN rfl rfl rfl ?_ ?_<;>intro hq)|(refine aA rfl ?_ ?_<;>intro hq<;>try exact no9)|(refine bY rfl ?_ ?_<;>intro hq))
  all_goals (refine bL Tryz.results51 (aB rfl) (aB rfl) ?_)
  all_goals rfl
end
section
def hz (out:Bool) (m:List PR) (x:Int):Option Int:=if out=true then gY m x else pB m x
def dK (out:Bool) (us gs:List PR) (n:PN):Option PN :=
  match hz out us n.h.user,hz out gs n.h.group with
  | some u,some g=>some (.mk { n.h with user:=u,group:=g } n.ks)
  | _,_=>none
theorem yE {out:Bool} {us gs:List PR} {n:PN} {u g:Int} (h1:hz out us n.h.user=some u) (h2:hz out gs n.h.group=some g):dK out us gs n=some (.mk { n.h with user:=u,group:=g } n.ks):=by unfold dK;rw [h1,h2]
theorem moved_one {out:Bool} {us gs:List PR} {n:PN} (h1:hz out us n.h.user=none):dK out us gs n=none:=by unfold dK;rw [h1]
theorem moved_two {out:Bool} {us gs:List PR} {n:PN} (h1:hz out gs n.h.group=none):dK out us gs n=none:=by unfold dK;rw [h1];cases hz out us n.h.user<;>rfl
def movF (r:Option PN):Int:=if r.isSome=true then 0 else 11
def oM (n:PN):PN:=.mk { n.h with opq:=false } []
def nY (l:List PN) (us gs:List PR) (ss:List ByteArray) (u:PN):PN×Int :=
  match dT l ss with
  | []=>(u,0)
  | f :: _=>if f.2=0 then (u,0) else match dK true us gs (oM f.1) with
    | none=>(pnZ,11)
    | some x=>if pF false x u ss=0 then (pN false x u ss,0) else (pnZ,pF false x u ss)
def upK (l:List PN) (us gs:List PR) (ss:List ByteArray) (u0:PN):Nat→PN×Int
  | 0=>(u0,0)
  | i+1=>if (upK l us gs ss u0 i).2=0 then nY l us gs (ss.take (i+1)) (upK l us gs ss u0 i).1 else upK l us gs ss u0 i
theorem upK_stop {l:List PN} {us gs:List PR} {ss:List ByteArray} {u0:PN} {i:Nat} (h:¬(upK l us gs ss u0 i).2=0):∀ d,upK l us gs ss u0 (i+d)=upK l us gs ss u0 i
  | 0=>rfl
  | d+1=>by
    have:=upK_stop h d
    rw [←Nat.add_assoc,upK,this,if_neg h]
theorem upK_on {l:List PN} {us gs:List PR} {ss:List ByteArray} {u0:PN} {i:Nat} (h:(upK l us gs ss u0 i).2=0):upK l us gs ss u0 (i+1)=nY l us gs (ss.take (i+1)) (upK l us gs ss u0 i).1:=by rw [upK,if_pos h]
def upP (l:List PN) (us gs:List PR) (ss:List ByteArray):PN×Int :=
  if dT l ss=[] then (pnZ,5) else upK l us gs ss (l.headD pnZ) ss.length
theorem upOne_bd (l:List PN) (us gs:List PR) (ss:List ByteArray) (u:PN):0≤(nY l us gs ss u).2∧(nY l us gs ss u).2≤11:=by
  unfold nY
  split
  · simp
  · split
    · simp
    · split
      · simp
      · rename_i x _
        have:=pF_bd false x ss u
        split
        · simp
        · simp only [];omega
theorem upK_bd (l:List PN) (us gs:List PR) (ss:List ByteArray) (u0:PN):∀ i,0≤(upK l us gs ss u0 i).2∧(upK l us gs ss u0 i).2≤11
  | 0=>by simp [upK]
  | i+1=>by
    rw [upK];split
    · exact upOne_bd _ _ _ _ _
    · exact upK_bd l us gs ss u0 i
theorem upP_bd (l:List PN) (us gs:List PR) (ss:List ByteArray):0≤(upP l us gs ss).2∧(upP l us gs ss).2≤11:=by
  unfold upP;split
  · simp
  · exact upK_bd _ _ _ _ _ _
def fV (b:Nat) (h:Hd) (ks:PKs):Prop:=h.attrs.length≤1000∧ks.length≤b
theorem kN {b c:Nat} (h:b≤c) {hd:Hd} {ks:PKs} (k:fV b hd ks):fV c hd ks:=⟨k.1,Nat.le_trans k.2 h⟩
theorem mG {b:Nat} (h:b≤50000) {hd:Hd} {ks:PKs} (k:fV b hd ks):midP hd ks:=⟨by have:=k.1;omega,Nat.le_trans k.2 h⟩
theorem edit_bound {b:Nat} {x:PN} {hd:Hd} {ks:PKs} {s:ByteArray} (hn:fV b hd ks) (hk:∀ k∈ks,cH (fV (b+1)) k.2) (hx:cH (fV (b+1)) x):cH (fV (b+1)) (.mk hd (nF false x ks s)):=by
  refine .mk ⟨hn.1,?_⟩ fun k hk2=>?_
  · have:=edit_len (cut:=false) (x:=x) (ks:=ks) (s:=s)
    have:=hn.2
    omega
  · rcases pO hk2 with h|h
    · exact hk k h
    · rw [h];exact hx
theorem vH {b:Nat} {x:PN} (hx:cH (fV b) x):∀ {l:List ByteArray} {n:PN},pF false x n l=0→cH (fV b) n→cH (fV (b+1)) (pN false x n l)
  | [],n,h,_=>by simp [pF] at h
  | [s],n,_,hm=>by
    rw [pN]
    exact edit_bound hm.here (fun k hk=>(hm.kid hk).imp fun _ _=>kN (by omega)) (hx.imp fun _ _=>kN (by omega))
  | s :: t :: l,n,h,hm=>by
    obtain⟨hk,m,hm2,h3⟩:=pF_cons.1 h
    rw [pN_cons hm2]
    exact edit_bound hm.here (fun k hk=>(hm.kid hk).imp fun _ _=>kN (by omega)) (vH hx h3 (hm.kid (lJ hm2)))
end
section
structure LM where
  A:Option Addr
  n:Nat
  c:Nat
  us:List PR
  B:Option Addr
  m:Nat
  e:Nat
  gs:List PR
abbrev lmV (M:LM):Value:=.agg #[.slice M.A M.n M.c,.slice M.B M.m M.e]
def rC (V:aE) (M:LM):Prop:=MapV V M.A M.n M.us∧M.n≤M.c∧MapV V M.B M.m M.gs∧M.m≤M.e
theorem rC.le {V V':aE} (hv:VLe V V') {M:LM} (h:rC V M):rC V' M:=⟨⟨h.1.1.le hv,h.1.2⟩,h.2.1,⟨h.2.2.1.1.le hv,h.2.2.1.2⟩,h.2.2.2⟩
def MovR (r:Option PN) (ev:Value) (v:Value) (V':aE):Prop:=∃ y:LN,v=.tuple #[lnV y,ev]∧aT V' y∧y.n=r.getD pnZ
theorem MovR.none {V:aE} {r:Option PN} {ev:Value} (h:r=.none):MovR r ev (.tuple #[lnV lnZ,ev]) V:=⟨lnZ,rfl,aT.zero,by rw [h];rfl⟩
theorem moved_node {V:aE} {x:LN} {u g:Int} (h:aT V x):aT V { x with h:={ x.h with user:=u,group:=g } }:=by
  obtain⟨h1,h2,h3,h4,es,h5,h6⟩:=h.inv
  exact aT.of (es:=es) h1 h2 h3 h4 h5 h6
attribute [local irreducible] AtQ GoC GoL GoW QO QP Fn RV bF aD VLe bU bA
theorem tF (V:aE) (M:LM) (hM:rC V M) (x:LN) (hx:aT V x) (hsm:cH eR x.n):Fn Tryz.prog 38 [lmV M,lnV x] V (MovR (dK true M.us M.gs x.n) (bA (movF (dK true M.us M.gs x.n)))):=by
  cases h1:gY M.us x.h.user with
  | none =>
    have hm:=moved_one (out:=true) (us:=M.us) (gs:=M.gs) (n:=x.n) h1
    have c1:=fun V' (hV:VLe V V')=>(by have h:=mR V' M.A M.n M.c M.us (hM.le hV).1 hM.2.1 x.h.user;rw [h1] at h;exact h:Fn Tryz.prog 84 [.slice M.A M.n M.c,.int .i64 x.h.user] V' fun v _=>v=.tuple #[.int .i64 0,.bool false])
    have c2:=fun V' (hV:VLe V V')=>mR V' M.B M.m M.e M.gs (hM.le hV).2.2.1 hM.2.2.2 x.h.group
    rw [hm]
    (refine aN Tryz.func38 rfl Tryz.ntmps38 rfl ?_;intro w0)
    repeat' (first|(refine aG ?_;first|(refine aC ?_;(first|refine aO rfl (aK ⟨Tryz.call84⟩ rfl (c1 _ vl9)) ?_|refine aO rfl (aK ⟨Tryz.call84⟩ rfl (c2 _ vl9)) ?_|(refine aS rfl ⟨Tryz.call39⟩ rfl rfl (xO _ x (hx.le vl9) hsm) ?_;rintro v V2 hV2 ⟨y,rfl,hyn,hyN⟩)))|refine st9 ?_|(refine al9 ?_;intro γ)|refine pu9 ?_)|refine bV ?_|fail)
    all_goals (refine bL Tryz.results38 (aU agg_50 rfl bN (by exact rfl)) (aB rfl) ?_)
    all_goals exact(by rw [←bW (e:=11) (by decide)];exact MovR.none rfl)
  | some u =>
    have c1:=fun V' (hV:VLe V V')=>(by have h:=mR V' M.A M.n M.c M.us (hM.le hV).1 hM.2.1 x.h.user;rw [h1] at h;exact h:Fn Tryz.prog 84 [.slice M.A M.n M.c,.int .i64 x.h.user] V' fun v _=>v=.tuple #[.int .i64 u,.bool true])
    cases h2:gY M.gs x.h.group with
    | none =>
      have hm:=moved_two (out:=true) (us:=M.us) (gs:=M.gs) (n:=x.n) h2
      have c2:=fun V' (hV:VLe V V')=>(by have h:=mR V' M.B M.m M.e M.gs (hM.le hV).2.2.1 hM.2.2.2 x.h.group;rw [h2] at h;exact h:Fn Tryz.prog 84 [.slice M.B M.m M.e,.int .i64 x.h.group] V' fun v _=>v=.tuple #[.int .i64 0,.bool false])
      rw [hm]
      (refine aN Tryz.func38 rfl Tryz.ntmps38 rfl ?_;intro w0)
      repeat' (first|(refine aG ?_;first|(refine aC ?_;(first|refine aO rfl (aK ⟨Tryz.call84⟩ rfl (c1 _ vl9)) ?_|refine aO rfl (aK ⟨Tryz.call84⟩ rfl (c2 _ vl9)) ?_|(refine aS rfl ⟨Tryz.call39⟩ rfl rfl (xO _ x (hx.le vl9) hsm) ?_;rintro v V2 hV2 ⟨y,rfl,hyn,hyN⟩)))|refine st9 ?_|(refine al9 ?_;intro γ)|refine pu9 ?_)|refine bV ?_|fail)
      all_goals (refine bL Tryz.results38 (aU agg_50 rfl bN (by exact rfl)) (aB rfl) ?_)
      all_goals exact(by rw [←bW (e:=11) (by decide)];exact MovR.none rfl)
    | some g =>
      have hm:=yE (out:=true) (us:=M.us) (gs:=M.gs) (n:=x.n) h1 h2
      have c2:=fun V' (hV:VLe V V')=>(by have h:=mR V' M.B M.m M.e M.gs (hM.le hV).2.2.1 hM.2.2.2 x.h.group;rw [h2] at h;exact h:Fn Tryz.prog 84 [.slice M.B M.m M.e,.int .i64 x.h.group] V' fun v _=>v=.tuple #[.int .i64 g,.bool true])
      rw [hm]
      (refine aN Tryz.func38 rfl Tryz.ntmps38 rfl ?_;intro w0)
      repeat' (first|(refine aG ?_;first|(refine aC ?_;(first|refine aO rfl (aK ⟨Tryz.call84⟩ rfl (c1 _ vl9)) ?_|refine aO rfl (aK ⟨Tryz.call84⟩ rfl (c2 _ vl9)) ?_|(refine aS rfl ⟨Tryz.call39⟩ rfl rfl (xO _ x (hx.le vl9) hsm) ?_;rintro v V2 hV2 ⟨y,rfl,hyn,hyN⟩)))|refine st9 ?_|(refine al9 ?_;intro γ)|refine pu9 ?_)|refine bV ?_|fail)
      all_goals (refine bL Tryz.results38 (aU agg_50 rfl bN (by exact rfl)) (aB rfl) ?_)
      all_goals exact⟨{ y with h:={ y.h with user:=u,group:=g } },by rw [show movF (some _)=0 from rfl,bO];rfl,moved_node (hyN.le vl9),by show PN.mk { y.h with user:=u,group:=g } y.ks=_;rw [show y.h=x.h from congrArg PN.h hyn,show y.ks=x.ks from congrArg PN.ks hyn];rfl⟩
def seenV (upper:Bool) (us gs:List PR) (h:Hd):Value:=.agg #[.bool (decide (h.kind=2)),.int .i64 h.mode,.int .i64 (if upper=true then (pB us h.user).getD 65534 else if (gY us h.user).isSome=true then h.user else 65534),.int .i64 (if upper=true then (pB gs h.group).getD 65534 else if (gY gs h.group).isSome=true then h.group else 65534),.bool (if upper=true then (pB us h.user).isSome && (pB gs h.group).isSome else (gY us h.user).isSome && (gY gs h.group).isSome)]
theorem Seen_c (V:aE) (M:LM) (hM:rC V M) (x:LN) (hx:aT V x) (upper:Bool):Fn Tryz.prog 182 [lmV M,lnV x,.bool upper] V fun v _=>v=seenV upper M.us M.gs x.h:=by
  cases upper with
  | true =>
    have c1:=fun V' (hV:VLe V V')=>lQ V' M.A M.n M.c M.us (hM.le hV).1 hM.2.1 x.h.user
    have c2:=fun V' (hV:VLe V V')=>lQ V' M.B M.m M.e M.gs (hM.le hV).2.2.1 hM.2.2.2 x.h.group
    unfold seenV
    generalize pB M.us x.h.user=o1 at *
    generalize pB M.gs x.h.group=o2 at *
    unfold lookR at c1 c2
    rcases o1 with _|u<;>rcases o2 with _|g
    all_goals
      (refine aN Tryz.func182 rfl Tryz.ntmps182 rfl ?_;intro w0)
      repeat' (first|(refine aG ?_;first|(refine aC ?_;(first|refine aO rfl (aK ⟨Tryz.call51⟩ rfl (c1 _ vl9)) ?_|refine aO rfl (aK ⟨Tryz.call51⟩ rfl (c2 _ vl9)) ?_))|refine st9 ?_|(refine al9 ?_;intro γ)|refine pu9 ?_)|refine bV ?_|fail)
      all_goals first
        | (exact absurd hq (by decide))
        | ((refine aR Tryz.results182 (aU agg_150 rfl bN (by exact rfl)) ?_);rfl)
  | false =>
    have c1:=fun V' (hV:VLe V V')=>mR V' M.A M.n M.c M.us (hM.le hV).1 hM.2.1 x.h.user
    have c2:=fun V' (hV:VLe V V')=>mR V' M.B M.m M.e M.gs (hM.le hV).2.2.1 hM.2.2.2 x.h.group
    unfold seenV
    generalize gY M.us x.h.user=o1 at *
    generalize gY M.gs x.h.group=o2 at *
    unfold lookR at c1 c2
    rcases o1 with _|u<;>rcases o2 with _|g
    all_goals
      (refine aN Tryz.func182 rfl Tryz.ntmps182 rfl ?_;intro w0)
      repeat' (first|(refine aG ?_;first|(refine aC ?_;(first|refine aO rfl (aK ⟨Tryz.call84⟩ rfl (c1 _ vl9)) ?_|refine aO rfl (aK ⟨Tryz.call84⟩ rfl (c2 _ vl9)) ?_))|refine st9 ?_|(refine al9 ?_;intro γ)|refine pu9 ?_)|refine bV ?_|fail)
      all_goals first
        | (exact absurd hq (by decide))
        | ((refine aR Tryz.results182 (aU agg_150 rfl bN (by exact rfl)) ?_);rfl)
end
section
def PutY (p:PN) (v:Value) (V':aE):Prop:=∃ z:LN,v=.tuple #[lnV z,bA 0]∧aT V' z∧z.n=p
theorem rR.y {cut:Bool} {x n:PN} {l:List ByteArray} (h:pF cut x n l=0) {v:Value} {V':aE} (k:rR cut x n l v V'):PutY (pN cut x n l) v V':=by
  obtain⟨z,h1,h2,h3⟩:=k
  rw [h] at h1;rw [show putP cut x n l=pN cut x n l from if_pos h] at h3
  exact⟨z,h1,h2,h3⟩
def UpR (r:PN×Int) (ev:Value) (v:Value) (V':aE):Prop:=∃ y:LN,v=.tuple #[lnV y,ev]∧aT V' y∧y.n=r.1
theorem UpR.zero {V:aE} {r:PN×Int} {ev:Value} (h:r.1=pnZ):UpR r ev (.tuple #[lnV lnZ,ev]) V:=⟨lnZ,rfl,aT.zero,h.symm⟩
abbrev bareL (y:LN):LN:=⟨{ y.h with opq:=false },y.A,y.na,y.ca,none,0,0,[]⟩
theorem bare_node {V:aE} {y:LN} (h:aT V y):aT V (bareL y):=by
  obtain⟨h1,h2,h3,h4,es,h5,h6⟩:=h.inv
  exact aT.of (es:=[]) h1 h2 h3 (Nat.le_refl _) fA.nil rfl
theorem bare_n {y:LN} {n:PN} (h:y.n=n):(bareL y).n=oM n:=by rw [←h];rfl
theorem rB {h:Hd} {ks:PKs} (k:jK h ks):fV 80 h ks:=by
  obtain⟨h1,_,h3,_⟩:=k
  refine⟨?_,h3⟩
  unfold oT at h1
  simp at h1
  omega
theorem uS {p:Hd→PKs→Prop} {n:PN} (h:∀ hd ks,p hd ks→p { hd with opq:=false } []) (hn:cH p n):cH p (oM n):=.mk (h _ _ hn.here) (by simp)
theorem sT {p:Hd→PKs→Prop} {out:Bool} {us gs:List PR} {n m:PN} (h:∀ (hd:Hd) ks u g,p hd ks→p { hd with user:=u,group:=g } ks) (hm:dK out us gs n=some m) (hn:cH p n):cH p m:=by
  unfold dK at hm
  split at hm
  · cases hm
    exact .mk (h _ _ _ _ hn.here) fun k hk=>hn.kid hk
  · cases hm
theorem walk_head {l:List PN} {ss:List ByteArray} {f:PF} {t:List PF} (h:dT l ss=f :: t):0<l.length:=by
  have:=sN l ss
  rw [h] at this;simp at this;omega
theorem qJ {l:List PN} {us gs:List PR} {ss:List ByteArray} {u:PN} (h:dT l ss=[]):nY l us gs ss u=(u,0):=by unfold nY;rw [h]
theorem sA {l:List PN} {us gs:List PR} {ss:List ByteArray} {u:PN} {f:PF} {t:List PF} (h:dT l ss=f :: t) (h0:f.2=0):nY l us gs ss u=(u,0):=by unfold nY;rw [h];exact if_pos h0
theorem vZ {l:List PN} {us gs:List PR} {ss:List ByteArray} {u:PN} {f:PF} {t:List PF} (h:dT l ss=f :: t) (h0:¬f.2=0) (h1:dK true us gs (oM f.1)=none):nY l us gs ss u=(pnZ,11):=by unfold nY;rw [h];simp only [if_neg h0,h1]
theorem rZ {l:List PN} {us gs:List PR} {ss:List ByteArray} {u x:PN} {f:PF} {t:List PF} (h:dT l ss=f :: t) (h0:¬f.2=0) (h1:dK true us gs (oM f.1)=some x) (h2:pF false x u ss=0):nY l us gs ss u=(pN false x u ss,0):=by unfold nY;rw [h];simp only [if_neg h0,h1,if_pos h2]
theorem sM {l:List PN} {us gs:List PR} {ss:List ByteArray} {u x:PN} {f:PF} {t:List PF} (h:dT l ss=f :: t) (h0:¬f.2=0) (h1:dK true us gs (oM f.1)=some x) (h2:¬pF false x u ss=0):nY l us gs ss u=(pnZ,pF false x u ss):=by unfold nY;rw [h];simp only [if_neg h0,h1,if_neg h2]
theorem up_end {l:List PN} {us gs:List PR} {ss:List ByteArray} {f:PF} {t:List PF} {u0:PN} {r:PN×Int} {k m:Nat} (h:dT l ss=f :: t) (hu:l.headD pnZ=u0) (hk:(upK l us gs ss u0 k).2=0) (hr:nY l us gs (ss.take (k+1)) (upK l us gs ss u0 k).1=r) (hn:¬r.2=0) (hm:ss.length=m) (hkm:k<m):upP l us gs ss=r:=by
  unfold upP
  rw [if_neg (by rw [h];simp),hu,hm]
  have h1:upK l us gs ss u0 (k+1)=r:=by rw [upK_on hk,hr]
  have h2:=upK_stop (i:=k+1) (l:=l) (us:=us) (gs:=gs) (ss:=ss) (u0:=u0) (by rw [h1];exact hn) (m - (k+1))
  rw [show k+1+(m - (k+1))=m by omega,h1] at h2
  exact h2
theorem strs_take {V:aE} {A:Option Addr} {n k:Nat} {xs:List ByteArray} (h:cV V A n xs) (hk:k≤n):cV V A k (xs.take k):=⟨h.1.take hk,fun x hx=>h.2 x (List.mem_of_mem_take hx)⟩
attribute [local irreducible] AtQ GoC GoL GoW QO QP Fn RV bF aD VLe bU bA
theorem Up_c (V:aE) (A:Option Addr) (n c:Nat) (xs:List LN) (h:fN V A n xs) (hn:n≤1000) (hli:∀ x∈xs,cH jK x.n) (M:LM) (hM:rC V M) (B:Option Addr) (m e:Nat) (ss:List ByteArray) (hs:cV V B m ss) (hme:m≤e) (hm:m≤100) :
    Fn Tryz.prog 95 [.slice A n c,lmV M,.slice B m e] V (UpR (upP (xs.map LN.n) M.us M.gs ss) (bA (upP (xs.map LN.n) M.us M.gs ss).2)):=by
  have hl:=h.1.1
  have sl:=hs.1.1
  have hsm:∀ x∈xs,cH eR x.n:=fun x hx=>(hli x hx).imp fun _ _=>vK
  have hall:=fun ss=>kE (p:=jK) (l:=xs.map LN.n) (fun x hx=>by obtain⟨y,hy,rfl⟩:=List.mem_map.1 hx;exact hli y hy) ss
  have hL:=fun V' (hV:VLe V V')=>LookM_c V' A n c xs (h.le hV) hn hsm B m e ss (hs.le hV)
  have hb:=upP_bd (xs.map LN.n) M.us M.gs ss
  (refine aN Tryz.func95 rfl Tryz.ntmps95 rfl ?_;intro w0)
  rcases hw:dT (xs.map LN.n) ss with _|⟨f0,t0⟩
  · have hup:upP (xs.map LN.n) M.us M.gs ss=(pnZ,5):=by unfold upP;rw [if_pos hw]
    rw [hw] at hL
    repeat' (first|(refine aG ?_;first|(refine aC ?_;(refine aS rfl ⟨Tryz.call151⟩ rfl rfl (hL _ vl9) ?_;rintro v V1 hV1 (⟨_,rfl⟩|⟨_,_,_,hx,_⟩);rotate_left;cases hx))|refine st9 ?_|(refine al9 ?_;intro γ)|refine pu9 ?_)|refine bV ?_|fail)
    all_goals (refine bL Tryz.results95 (aU agg_50 rfl bN (by exact rfl)) (aB rfl) ?_)
    rw [hup,bW (by decide)];exact UpR.zero rfl
  · have hx0:=walk_head hw
    rw [List.length_map] at hx0
    obtain⟨x0,xt,rfl⟩:∃ x0 xt,xs=x0 :: xt:=by
      cases xs with
      | nil=>simp at hx0
      | cons x t=>exact⟨x,t,rfl⟩
    have hu0:((x0 :: xt).map LN.n).headD pnZ=x0.n:=rfl
    rw [hw] at hL
    obtain⟨b0,o0,x0',hA0,hx0',hc0,hN0⟩:=h.at_ (k:=0) (by rw [←hl];simp)
    obtain rfl:x0=x0':=by simpa using hx0'
    have hO:=fun V' (hV:VLe V V')=>xO V' x0 (hN0.le hV) (hsm x0 (by simp))
    repeat' (first|(refine aG ?_;first|(refine aC ?_;(first|(refine aS rfl ⟨Tryz.call151⟩ rfl rfl (hL _ vl9) ?_;rintro v V1 hV1 (⟨hx,_⟩|⟨f,t,y,_,rfl,hyN,hyn⟩);cases hx;have hc1:=hc0.le hV1;clear hL)|(refine aS rfl ⟨Tryz.call39⟩ rfl rfl (hO _ vl9) ?_;rintro v V2 hV2 ⟨y0,rfl,hy0n,hy0N⟩)))|(refine bH ?_;refine aI (dG (k:=0) und_30 siz_50 rfl hA0 rfl (by omega)) ?_)|refine st9 ?_|(refine al9 ?_;intro γ)|refine pu9 ?_)|refine dL ?_|fail)
    rename_i g4 g6 lf g8
    have hz:dT ((x0 :: xt).map LN.n) ss=f0 :: t0:=hw
    generalize hxs:(x0 :: xt).map LN.n=ps at *
    refine bZ (fun F V' L' m'=>∃ (k:Nat) (u:LN),VLe V2 V'∧[⟨γ,50,lnC u⟩,⟨g6,50,lnC lnZ⟩,⟨g4,24,[.slice M.A M.n M.c,.slice M.B M.m M.e]⟩]=L'∧k≤m∧aT V' u∧u.n=(upK ps M.us M.gs ss x0.n k).1∧(upK ps M.us M.gs ss x0.n k).2=0∧cH (fV (80+k)) u.n∧m'=m - k∧F=[(0,.slice A n c),(2,.slice B m e),(4,.pointer (some ⟨g4,0,none⟩)),(6,.pointer (some ⟨g6,0,none⟩)),(11,.pointer (some ⟨γ,0,none⟩)),(12,.int .i64 ((k+1:Nat):Int))]) (m:=m) ⟨0,y0,vl9,rfl,Nat.zero_le _,hy0N.le vl9,by rw [hy0n];rfl,rfl,by rw [hy0n];exact(hli x0 (by simp)).imp fun _ _=>rB,by omega,rfl⟩ bG rfl (List.Sublist.cons_cons _ (List.Sublist.cons _ (List.Sublist.refl _))) ?_
    have hV02:VLe V V2:=by first|exact vl9|exact hV1.trans hV2
    clear hO
    rintro F V' L' m' ⟨k,u,hV',rfl,hkm,huN,hun,hu2,hub,rfl,rfl⟩
    have hVV:VLe V V':=hV02.trans hV'
    by_cases hlt:k<m
    · have hstr:=strs_take (hs.le hVV) (k:=k+1) (by omega)
      have hL2:=LookM_c V' A n c (x0 :: xt) (h.le hVV) hn hsm B (k+1) e (ss.take (k+1)) hstr
      rw [hxs] at hL2
      have hon:=upK_on (l:=ps) (us:=M.us) (gs:=M.gs) (ss:=ss) (u0:=x0.n) hu2
      rw [←hun] at hon
      have hend:=fun (r:PN×Int) (hr:nY ps M.us M.gs (ss.take (k+1)) u.n=r) (hn0:¬r.2=0)=>up_end (us:=M.us) (gs:=M.gs) hw hu0 hu2 (by rw [←hun];exact hr) hn0 sl hlt
      rcases hwk:dT ps (ss.take (k+1)) with _|⟨f1,t1⟩
      · rw [hwk] at hL2
        rw [qJ hwk] at hon
        repeat' (first|(refine aG ?_;first|(refine aC ?_;(refine aS rfl ⟨Tryz.call151⟩ rfl rfl (hL2) ?_;rintro v V3 hV3 (⟨_,rfl⟩|⟨_,_,_,hx,_⟩);rotate_left;cases hx))|(refine fW ?_;(first|refine aI (dY (h:=k+1) und_40 siz_9 rfl rfl (by omega)) ?_|refine aI (dY und_40 siz_9 rfl rfl (by omega)) ?_|refine aI (gQ und_40 siz_9 rfl rfl (by omega)) ?_))|refine st9 ?_|(refine al9 ?_;intro γ)|refine pu9 ?_)|refine fG ?_|(refine aA rfl ?_ ?_<;>intro hq<;>try exact no9))
        refine aY _ (m - (k+1)) ⟨k+1,u,vl9,rfl,by omega,huN.le vl9,by rw [hon],by rw [hon],hub.imp fun _ _=>kN (by omega),rfl,rfl⟩ (by omega) bG (List.Sublist.cons _ (List.Sublist.refl _))
      · have hlf:=hall (ss.take (k+1)) f1 (by rw [hwk];simp)
        rw [hwk] at hL2
        by_cases hf0:f1.2=0
        · rw [sA hwk hf0] at hon
          repeat' (first|(refine aG ?_;first|(refine aC ?_;(refine aS rfl ⟨Tryz.call151⟩ rfl rfl (hL2) ?_;rintro v V3 hV3 (⟨hx,_⟩|⟨f2,t2,y2,hx2,rfl,hy2N,hy2n⟩);cases hx;cases hx2))|(refine fW ?_;(first|refine aI (dY (h:=k+1) und_40 siz_9 rfl rfl (by omega)) ?_|refine aI (dY und_40 siz_9 rfl rfl (by omega)) ?_|refine aI (gQ und_40 siz_9 rfl rfl (by omega)) ?_))|refine st9 ?_|(refine al9 ?_;intro γ)|refine pu9 ?_)|refine gxrbe9 ?_|(refine aA rfl ?_ ?_<;>intro hq<;>try exact no9))
          all_goals first
            | (exfalso;exact hq hf0)
            | skip
          refine aY _ (m - (k+1)) ⟨k+1,u,vl9,rfl,by omega,huN.le vl9,by rw [hon],by rw [hon],hub.imp fun _ _=>kN (by omega),rfl,rfl⟩ (by omega) bG (List.Sublist.cons _ (List.Sublist.refl _))
        · have hlb:cH jK (oM f1.1):=uS (fun hd ks hh=>⟨hh.1,hh.2.1,by simp,by simp⟩) hlf
          have hsb:cH eR (oM f1.1):=hlb.imp fun _ _=>vK
          have hOut:=fun V9 (y2:LN) hN (hn2:y2.n=f1.1) hM9=>tF V9 M hM9 (bareL y2) (bare_node hN) (by rw [bare_n hn2];exact hsb)
          cases hmv:dK true M.us M.gs (oM f1.1) with
          | none =>
            have hr:=hend _ (vZ hwk hf0 hmv) (by simp)
            repeat' (first|(refine aG ?_;first|(refine aC ?_;(first|(refine aS rfl ⟨Tryz.call151⟩ rfl rfl (hL2) ?_;rintro v V3 hV3 (⟨hx,_⟩|⟨f2,t2,y2,hx2,rfl,hy2N,hy2n⟩);cases hx;cases hx2;have hOu:=hOut V3 y2 hy2N hy2n (hM.le (hVV.trans hV3));rw [bare_n hy2n,hmv] at hOu)|(refine aS rfl ⟨Tryz.call38⟩ rfl rfl (hOu) ?_;rintro v V4 hV4 ⟨y3,rfl,hy3N,hy3n⟩)))|(refine fW ?_;(first|refine aI (dY (h:=k+1) und_40 siz_9 rfl rfl (by omega)) ?_|refine aI (dY und_40 siz_9 rfl rfl (by omega)) ?_|refine aI (gQ und_40 siz_9 rfl rfl (by omega)) ?_))|refine st9 ?_|(refine al9 ?_;intro γ)|refine pu9 ?_)|refine dL ?_|(refine aA rfl ?_ ?_<;>intro hq<;>try exact no9))
            all_goals first
              | (exfalso;exact hf0 hq)
              | skip
            all_goals
              (refine bL Tryz.results95 (aU agg_50 rfl bN (by exact rfl)) (aB rfl) ?_)
              rw [hr];exact UpR.zero rfl
          | some p =>
            have hlp:cH jK p:=sT (fun hd ks u g hh=>hh) hmv hlb
            have hsp:cH eR p:=hlp.imp fun _ _=>vK
            have hbp:cH (fV (80+k)) p:=hlp.imp fun _ _ hh=>kN (by omega) (rB hh)
            have hmu:cH midP u.n:=hub.imp fun _ _=>mG (by omega)
            repeat' (first|(refine aG ?_;first|(refine aC ?_;(first|(refine aS rfl ⟨Tryz.call151⟩ rfl rfl (hL2) ?_;rintro v V3 hV3 (⟨hx,_⟩|⟨f2,t2,y2,hx2,rfl,hy2N,hy2n⟩);cases hx;cases hx2;have hOu:=hOut V3 y2 hy2N hy2n (hM.le (hVV.trans hV3));rw [bare_n hy2n,hmv] at hOu)|(refine aS rfl ⟨Tryz.call38⟩ rfl rfl (hOu) ?_;rintro v V4 hV4 ⟨y3,rfl,hy3N,hy3n⟩)))|(refine fW ?_;(first|refine aI (dY (h:=k+1) und_40 siz_9 rfl rfl (by omega)) ?_|refine aI (dY und_40 siz_9 rfl rfl (by omega)) ?_|refine aI (gQ und_40 siz_9 rfl rfl (by omega)) ?_))|refine st9 ?_|(refine al9 ?_;intro γ)|refine pu9 ?_)|refine dL ?_|(refine aA rfl ?_ ?_<;>intro hq<;>try exact no9))
            all_goals first
              | (exfalso;exact hf0 hq)
              | (exfalso;exact absurd hq (by decide))
              | (exfalso;exact hq rfl)
              | skip
            replace hy3n:y3.n=p:=hy3n
            have hP:=Put_c V4 u (huN.le vl9) hmu B (k+1) e (ss.take (k+1)) (hstr.le vl9) (by omega) y3 hy3N (by rw [hy3n];exact hsp)
            rw [hy3n] at hP
            by_cases p1:pF false p u.n (ss.take (k+1))=0
            · rw [rZ hwk hf0 hmv p1] at hon
              replace hP:=hP.mono fun v V' _ hh=>rR.y p1 hh
              refine bT (id:=15) _ mixed (List.Sublist.cons_cons _ (List.Sublist.cons_cons _ (List.Sublist.cons _ (List.Sublist.refl _)))) ?_;refine gt9 1 ?_;refine gt9 2 ?_;refine gO 3 rfl rfl (dY (h:=k+1) und_40 siz_9 rfl rfl (by omega)) ?_;refine gt9 4 ?_;refine bM (i:=0) rfl ?_;refine aI (nJ agg_50 rfl bN (by exact rfl)) ?_;refine bM (i:=5) rfl ?_;(refine aS rfl ⟨Tryz.call101⟩ rfl rfl (hP) ?_;rintro v V5 hV5 ⟨y4,rfl,hy4N,hy4n⟩);refine gt9 6 ?_;refine gt9 7 ?_;refine gt9 8 ?_;refine bM (i:=9) rfl ?_;refine aP rfl siz_50 rfl rfl rfl rfl cI fU rfl ?_;refine gt9 10 ?_;refine bC (by kernel_rfl) vl9 vl9 cC ?_
              repeat' (first|(refine aG ?_;refine pu9 ?_)|refine bV ?_|fail)
              all_goals first
                | (exfalso;exact absurd rfl hq)
                | skip
              refine aY _ (m - (k+1)) ⟨k+1,y4,vl9,rfl,by omega,hy4N,by rw [hon];exact hy4n,by rw [hon],by rw [hy4n];exact vH hbp p1 hub,rfl,rfl⟩ (by omega) bG (List.Sublist.cons _ (List.Sublist.cons _ (List.Sublist.refl _)))
            · have hr:=hend _ (sM hwk hf0 hmv p1) p1
              refine bT (id:=15) _ mixed (List.Sublist.cons_cons _ (List.Sublist.cons_cons _ (List.Sublist.cons _ (List.Sublist.refl _)))) ?_;refine gt9 1 ?_;refine gt9 2 ?_;refine gO 3 rfl rfl (dY (h:=k+1) und_40 siz_9 rfl rfl (by omega)) ?_;refine gt9 4 ?_;refine bM (i:=0) rfl ?_;refine aI (nJ agg_50 rfl bN (by exact rfl)) ?_;refine bM (i:=5) rfl ?_;(refine aS rfl ⟨Tryz.call101⟩ rfl rfl (hP) ?_;rintro v V5 hV5 ⟨y4,rfl,hy4N,hy4n⟩);refine gt9 6 ?_;refine gt9 7 ?_;refine gt9 8 ?_;refine bM (i:=9) rfl ?_;refine aP rfl siz_50 rfl rfl rfl rfl cI fU rfl ?_;refine gt9 10 ?_;refine bC (by kernel_rfl) vl9 vl9 cC ?_
              repeat' (first|(refine aG ?_;first|refine st9 ?_|refine pu9 ?_)|refine bS ?_|(refine aA rfl ?_ ?_<;>intro hq<;>try exact no9))
              all_goals first
                | (exfalso;exact hq p1)
                | skip
              all_goals
                (refine bL Tryz.results95 (aU agg_50 rfl bN (by exact rfl)) (aB rfl) ?_)
                rw [hr];exact UpR.zero rfl
    · obtain rfl:k=m:=by omega
      have hup:upP ps M.us M.gs ss=upK ps M.us M.gs ss x0.n k:=by unfold upP;rw [if_neg (by rw [hw];simp),hu0,sl]
      repeat' (first|(refine aG ?_;first|refine st9 ?_|refine pu9 ?_)|refine eT ?_|(refine aA rfl ?_ ?_<;>intro hq<;>try exact no9))
      all_goals (refine bL Tryz.results95 (aU agg_50 rfl bN (by exact rfl)) (aB rfl) ?_)
      all_goals exact⟨u,by rw [hup,hu2,bO];rfl,huN,by rw [hup];exact hun⟩
end
section
open Go.RowKit
end
section
def gP (us gs:List PR):Hd→Int→Hd:=fun h lay=>if 0<lay then h else ((dK false us gs (.mk h [])).getD pnZ).h
theorem gP_low {us gs:List PR} {h:Hd} {lay:Int} (hl:0<lay):gP us gs h lay=h:=if_pos hl
theorem moved_inv {us gs:List PR} {n x:PN} (h:dK true us gs n=some x):∃ u g,x=.mk { n.h with user:=u,group:=g } n.ks∧hz true us n.h.user=some u∧hz true gs n.h.group=some g:=by
  unfold dK at h
  cases h1:hz true us n.h.user with
  | none=>rw [h1] at h;cases h
  | some u =>
    cases h2:hz true gs n.h.group with
    | none=>rw [h1,h2] at h;cases h
    | some g=>rw [h1,h2] at h;cases h;exact⟨u,g,rfl,rfl,rfl⟩
theorem yD {u:PN} {l:List PN} (h:u.h.kind=2):mZ (u :: l)=(u,0) :: (if u.h.opq=true then [] else eB (mX 1 l)):=by
  unfold mZ
  rw [mX,mL (by show ¬u.h.kind=1;omega),eB,if_pos (by exact h)]
  split
  · rfl
  · rfl
end
section
def nmP (h:Hd) (ks:PKs):Prop:=∀ k∈ks,fS k.1.toList=true
theorem names_ok {u:Bool}:∀ (n:PN) (d so:Nat),so≤60→(cE u d so n).2=0→cH nmP n:=by
  refine PN.ind (p:=fun n=>∀ (d so:Nat),so≤60→(cE u d so n).2=0→cH nmP n) ?_
  intro h ks ih d so hs hc
  obtain⟨⟨h1,_⟩,_,h3⟩:=wN.1 hc
  obtain⟨_,h4⟩:=xY (by omega) h3
  exact .mk (fun k hk=>(h4 k hk).2.1) fun k hk=>by
    obtain⟨so',hs',hc'⟩:=(h4 k hk).2.2
    exact ih k hk (d+1) so' hs' hc'
theorem tree_names {u:Bool} {n:PN} (h:dD u n=0):cH nmP n:=names_ok n 0 0 (by omega) (vW.1 h).2
end
section
attribute [local irreducible] AtQ GoC GoL GoW QO QP Fn RV bF aD VLe bU bA
theorem two_c (V:aE) (n:Int) (hn:0≤n):Fn Tryz.prog 162 [.int .i64 n] V fun v _=>v=.string ⟨(b16 n).toArray⟩:=by
  (refine aN Tryz.func162 rfl Tryz.ntmps162 rfl ?_;intro w0)
  repeat' (first|(refine aG ?_;first|(refine bK ?_;(first|refine aI (q_shr8 rfl rfl hn) ?_|refine aI (q_shr rfl rfl (by omega)) ?_))|(refine nQ ?_;(first|refine aI (kL (us:=b16 n) und_108 und_5 und_9 rfl (fY bN rfl)) ?_|refine aI (lL und_3 und_5 rfl) ?_))|(refine dC ?_;(refine aZ rfl und_108 siz_5 zec_5 rfl rfl rfl rfl rfl rfl rfl ?_;intro γ))|refine pu9 ?_)|refine bS ?_|fail)
  all_goals (refine aR Tryz.results162 (aB rfl) ?_)
  all_goals rfl
theorem text_c (V:aE) (s:ByteArray) (hs:s.size≤100000000):Fn Tryz.prog 163 [.string s] V fun v _=>v=.string ⟨(qS s).toArray⟩:=by
  (refine aN Tryz.func163 rfl Tryz.ntmps163 rfl ?_;intro w0)
  repeat' (first|(refine aG ?_;first|(refine nQ ?_;(first|refine aI (kL (us:=[b8 (s.size:Int)]) und_108 und_5 und_9 rfl (fY bN rfl)) ?_|refine aI (lL und_3 und_5 rfl) ?_))|(refine dC ?_;(refine aZ rfl und_108 siz_5 zec_5 rfl rfl rfl rfl rfl rfl rfl ?_;intro γ))|(refine bK ?_;(first|refine aI (q_sadds rfl rfl (by simp;omega)) ?_|refine aI (uX rfl rfl (by first|omega|(simp only [ByteArray.size_append,ByteArray.size_extract];omega)|fail)) ?_))|refine pu9 ?_)|refine bS ?_|fail)
  all_goals (refine aR Tryz.results163 (aB rfl) ?_)
  all_goals rfl

theorem flag_t {h:Hd} (ho:h.opq=true):vE h=h.kind+8:=if_pos ho
theorem flag_f {h:Hd} (ho:h.opq=false):vE h=h.kind:=by unfold vE;rw [if_neg (by rw [ho];decide)]
theorem lay_c (V:aE) (x:LN) (hx:aT V x) (p:Nat):∀ (V1:aE),VLe V V1→cH fitP x.n→∀ (l:List UInt8) (Bs:List Box),BldB p l Bs→l.length+(qT x.n).length≤100000→FnB Tryz.prog 121 [.pointer (some ⟨p,0,none⟩),lnV x] V1 Bs fun v _ Bs'=>v=.tuple #[]∧BldB p (l ++ qT x.n) Bs':=by
  refine aT.ind (C:=fun x=>∀ (V1:aE),VLe V V1→cH fitP x.n→∀ (l:List UInt8) (Bs:List Box),BldB p l Bs→l.length+(qT x.n).length≤100000→FnB Tryz.prog 121 [.pointer (some ⟨p,0,none⟩),lnV x] V1 Bs fun v _ Bs'=>v=.tuple #[]∧BldB p (l ++ qT x.n) Bs') ?_ hx
  intro x es ha hca hd hck hk hks ih V1 hV1 hfit l Bs hB hlen
  have hl:=hk.len
  have hm:=hk.max
  have hz:x.ks.length=x.nk:=by rw [hks,List.length_map,hl]
  obtain⟨f1,f2,f3,f4,f5,f6,f7,f8⟩:=hfit.here
  simp only [LN.n,PN.h_mk,PN.ks_mk] at f1 f2 f3 f4 f5 f6 f7 f8
  have hal:=ha.1.1
  have hP:qT x.n=layH x.h ++ nD x.h.attrs ++ (qS x.h.data ++ [b8 (x.ks.length:Int)]) ++ nG x.ks:=layP_eq x.h x.ks
  have hPl:=congrArg List.length hP
  simp only [List.length_append,List.length_cons,List.length_nil,gE,oH] at hPl
  have hA0:=layA_le x.h.attrs
  have hK0:=layK_le x.ks
  (refine fn_enterH Tryz.func121 rfl Tryz.ntmps121 rfl ?_;intro w0 hfl0)
  repeat' (first|(refine aG ?_;first|(refine al9 ?_;intro γ)|refine pu9 ?_)|refine bS ?_|(refine bY rfl ?_ ?_<;>intro hq))
  all_goals
    have hflag:=(by first|exact flag_t hq|exact flag_f hq)
    refine gc_grow ([(0,.pointer (some ⟨p,0,none⟩)),(3,.pointer (some ⟨γ,0,none⟩)),(4,.int .i64 (vE x.h))]) mixed (by repeat (first|exact List.forall_mem_nil _|refine List.forall_mem_cons.2 ⟨?_,?_⟩|exact rfl|(rw [hflag];exact rfl))) ?_;(apply cA (n:=0) [] rfl rfl rfl (by kernel_rfl);(focus (intro V' hV;refine bX ?_;intro K hK;refine aI (lY rfl) ?_;refine cJ rfl ?_;exact cL hK rfl (VLe.refl _) rfl));(try dsimp only [List.cons_append,List.nil_append]));(apply cA (n:=1) [] rfl rfl rfl (by kernel_rfl);(focus (intro V' hV;refine bX ?_;intro K hK;refine aI (lY rfl) ?_;refine cJ rfl ?_;exact cL hK rfl (VLe.refl _) rfl));(try dsimp only [List.cons_append,List.nil_append]));(apply cA (n:=2) [1] rfl rfl rfl (by kernel_rfl);(focus (intro V' hV;refine cB (j:=1) (d:=16) rfl rfl ?_;refine bX ?_;intro K hK;(first|refine aI (lL und_3 und_5 rfl) ?_|refine aI (kL (us:=[_]) und_108 und_5 und_9 rfl (src_u8 (by assumption) rfl)) ?_);refine cJ rfl ?_;exact cL hK rfl (VLe.refl _) rfl));(try dsimp only [List.cons_append,List.nil_append]));(apply grow_new (n:=3) [2] rfl rfl rfl (by kernel_rfl);(focus (intro V' hV;refine cB (j:=2) (d:=17) rfl rfl ?_;refine bX ?_;intro K hK;(refine jE rfl hfl0 und_108 siz_5 zec_5 rfl rfl rfl rfl rfl rfl rfl ?_;intro γ V2 hV2 hg2);refine cJ rfl ?_;exact cL hK rfl hV2 ⟨_,rfl,hg2⟩));(try dsimp only [List.cons_append,List.nil_append]));(apply cA (n:=4) [3] rfl rfl rfl (by kernel_rfl);(focus (intro V' hV;refine deps_new (j:=3) (d:=18) rfl rfl ?_;intro g3 hg3;refine bX ?_;intro K hK;(first|refine aI (lL und_3 und_5 rfl) ?_|refine aI (kL (us:=[_]) und_108 und_5 und_9 rfl (src_u8 (by assumption) rfl)) ?_);refine cJ rfl ?_;exact cL hK rfl (VLe.refl _) rfl));(try dsimp only [List.cons_append,List.nil_append]));(apply cA (n:=5) [] rfl rfl rfl (by kernel_rfl);(focus (intro V' hV;refine bX ?_;intro K hK;refine aI (eF fld_50_1 rfl) ?_;refine cJ rfl ?_;exact cL hK rfl (VLe.refl _) rfl));(try dsimp only [List.cons_append,List.nil_append]));(apply cA (n:=6) [5] rfl rfl rfl (by kernel_rfl);(focus (intro V' hV;refine cB (j:=5) (d:=20) rfl rfl ?_;refine bX ?_;intro K hK;(first|refine aI (aX one_3 rfl bN (by exact rfl)) ?_|refine aI (aX one_3 rfl bN (by assumption)) ?_|refine aI (cK one_3 rfl (by assumption)) ?_);refine cJ rfl ?_;exact cL hK rfl (VLe.refl _) rfl));(try dsimp only [List.cons_append,List.nil_append]));(apply cA (n:=7) [6] rfl rfl rfl (by kernel_rfl);(focus (intro V' hV;refine cB (j:=6) (d:=21) rfl rfl ?_;refine bX ?_;intro K hK;refine aO rfl (aK ⟨Tryz.call162⟩ rfl (two_c _ _ (by omega))) ?_;refine cJ rfl ?_;exact cL hK rfl (VLe.refl _) rfl));(try dsimp only [List.cons_append,List.nil_append]));(apply cA (n:=8) [4,7] rfl rfl rfl (by kernel_rfl);(focus (intro V' hV;refine cB (j:=4) (d:=19) rfl rfl ?_;refine cB (j:=7) (d:=22) rfl rfl ?_;refine bX ?_;intro K hK;(first|refine aI (gD rfl rfl (by simp [b16])) ?_|refine aI (uX rfl rfl (by first|omega|(simp only [ByteArray.size_append,ByteArray.size_extract];omega)|fail)) ?_);refine cJ rfl ?_;exact cL hK rfl (VLe.refl _) rfl));(try dsimp only [List.cons_append,List.nil_append]));(apply cA (n:=9) [] rfl rfl rfl (by kernel_rfl);(focus (intro V' hV;refine bX ?_;intro K hK;refine aI (eF fld_50_2 rfl) ?_;refine cJ rfl ?_;exact cL hK rfl (VLe.refl _) rfl));(try dsimp only [List.cons_append,List.nil_append]));(apply cA (n:=10) [9] rfl rfl rfl (by kernel_rfl);(focus (intro V' hV;refine cB (j:=9) (d:=24) rfl rfl ?_;refine bX ?_;intro K hK;(first|refine aI (aX one_3 rfl bN (by exact rfl)) ?_|refine aI (aX one_3 rfl bN (by assumption)) ?_|refine aI (cK one_3 rfl (by assumption)) ?_);refine cJ rfl ?_;exact cL hK rfl (VLe.refl _) rfl));(try dsimp only [List.cons_append,List.nil_append]));(apply cA (n:=11) [10] rfl rfl rfl (by kernel_rfl);(focus (intro V' hV;refine cB (j:=10) (d:=25) rfl rfl ?_;refine bX ?_;intro K hK;refine aO rfl (aK ⟨Tryz.call162⟩ rfl (two_c _ _ (by omega))) ?_;refine cJ rfl ?_;exact cL hK rfl (VLe.refl _) rfl));(try dsimp only [List.cons_append,List.nil_append]));(apply cA (n:=12) [8,11] rfl rfl rfl (by kernel_rfl);(focus (intro V' hV;refine cB (j:=8) (d:=23) rfl rfl ?_;refine cB (j:=11) (d:=26) rfl rfl ?_;refine bX ?_;intro K hK;(first|refine aI (gD rfl rfl (by simp [b16])) ?_|refine aI (uX rfl rfl (by first|omega|(simp only [ByteArray.size_append,ByteArray.size_extract];omega)|fail)) ?_);refine cJ rfl ?_;exact cL hK rfl (VLe.refl _) rfl));(try dsimp only [List.cons_append,List.nil_append]));(apply cA (n:=13) [] rfl rfl rfl (by kernel_rfl);(focus (intro V' hV;refine bX ?_;intro K hK;refine aI (eF fld_50_3 rfl) ?_;refine cJ rfl ?_;exact cL hK rfl (VLe.refl _) rfl));(try dsimp only [List.cons_append,List.nil_append]));(apply cA (n:=14) [13] rfl rfl rfl (by kernel_rfl);(focus (intro V' hV;refine cB (j:=13) (d:=28) rfl rfl ?_;refine bX ?_;intro K hK;(first|refine aI (aX one_3 rfl bN (by exact rfl)) ?_|refine aI (aX one_3 rfl bN (by assumption)) ?_|refine aI (cK one_3 rfl (by assumption)) ?_);refine cJ rfl ?_;exact cL hK rfl (VLe.refl _) rfl));(try dsimp only [List.cons_append,List.nil_append]));(apply cA (n:=15) [14] rfl rfl rfl (by kernel_rfl);(focus (intro V' hV;refine cB (j:=14) (d:=29) rfl rfl ?_;refine bX ?_;intro K hK;refine aO rfl (aK ⟨Tryz.call162⟩ rfl (two_c _ _ (by omega))) ?_;refine cJ rfl ?_;exact cL hK rfl (VLe.refl _) rfl));(try dsimp only [List.cons_append,List.nil_append]));(apply cA (n:=16) [12,15] rfl rfl rfl (by kernel_rfl);(focus (intro V' hV;refine cB (j:=12) (d:=27) rfl rfl ?_;refine cB (j:=15) (d:=30) rfl rfl ?_;refine bX ?_;intro K hK;(first|refine aI (gD rfl rfl (by simp [b16])) ?_|refine aI (uX rfl rfl (by first|omega|(simp only [ByteArray.size_append,ByteArray.size_extract];omega)|fail)) ?_);refine cJ rfl ?_;exact cL hK rfl (VLe.refl _) rfl));(try dsimp only [List.cons_append,List.nil_append]));(apply cA (n:=17) [] rfl rfl rfl (by kernel_rfl);(focus (intro V' hV;refine bX ?_;intro K hK;refine aI (eF fld_50_5 rfl) ?_;refine cJ rfl ?_;exact cL hK rfl (VLe.refl _) rfl));(try dsimp only [List.cons_append,List.nil_append]));(apply cA (n:=18) [17] rfl rfl rfl (by kernel_rfl);(focus (intro V' hV;refine cB (j:=17) (d:=32) rfl rfl ?_;refine bX ?_;intro K hK;(first|refine aI (aX one_47 rfl bN (by exact rfl)) ?_|refine aI (aX one_47 rfl bN (by assumption)) ?_|refine aI (cK one_47 rfl (by assumption)) ?_);refine cJ rfl ?_;exact cL hK rfl (VLe.refl _) rfl));(try dsimp only [List.cons_append,List.nil_append]));(apply cA (n:=19) [18] rfl rfl rfl (by kernel_rfl);(focus (intro V' hV;refine cB (j:=18) (d:=33) rfl rfl ?_;refine bX ?_;intro K hK;refine aI (q_len rfl und_47 rfl) ?_;refine cJ rfl ?_;exact cL hK rfl (VLe.refl _) rfl));(try dsimp only [List.cons_append,List.nil_append]));(apply cA (n:=20) [19] rfl rfl rfl (by kernel_rfl);(focus (intro V' hV;refine cB (j:=19) (d:=34) rfl rfl ?_;refine bX ?_;intro K hK;(first|refine aI (lL und_3 und_5 rfl) ?_|refine aI (kL (us:=[_]) und_108 und_5 und_9 rfl (src_u8 (by assumption) rfl)) ?_);refine cJ rfl ?_;exact cL hK rfl (VLe.refl _) rfl));(try dsimp only [List.cons_append,List.nil_append]));(apply grow_new (n:=21) [20] rfl rfl rfl (by kernel_rfl);(focus (intro V' hV;refine cB (j:=20) (d:=35) rfl rfl ?_;refine bX ?_;intro K hK;(refine jE rfl hfl0 und_108 siz_5 zec_5 rfl rfl rfl rfl rfl rfl rfl ?_;intro γ V2 hV2 hg2);refine cJ rfl ?_;exact cL hK rfl hV2 ⟨_,rfl,hg2⟩));(try dsimp only [List.cons_append,List.nil_append]));(apply cA (n:=22) [21] rfl rfl rfl (by kernel_rfl);(focus (intro V' hV;refine deps_new (j:=21) (d:=36) rfl rfl ?_;intro g21 hg21;refine bX ?_;intro K hK;(first|refine aI (lL und_3 und_5 rfl) ?_|refine aI (kL (us:=[_]) und_108 und_5 und_9 rfl (src_u8 (by assumption) rfl)) ?_);refine cJ rfl ?_;exact cL hK rfl (VLe.refl _) rfl));(try dsimp only [List.cons_append,List.nil_append]));(apply cA (n:=23) [16,22] rfl rfl rfl (by kernel_rfl);(focus (intro V' hV;refine cB (j:=16) (d:=31) rfl rfl ?_;refine cB (j:=22) (d:=37) rfl rfl ?_;refine bX ?_;intro K hK;(first|refine aI (gD rfl rfl (by simp [b16])) ?_|refine aI (uX rfl rfl (by first|omega|(simp only [ByteArray.size_append,ByteArray.size_extract];omega)|fail)) ?_);refine cJ rfl ?_;exact cL hK rfl (VLe.refl _) rfl));(try dsimp only [List.cons_append,List.nil_append]));refine grow_last (n:=24) [0,23] rfl rfl rfl rfl (by kernel_rfl) (by kernel_rfl) (by kernel_rfl) ?_;intro VG hVG;refine cB (j:=0) (d:=15) rfl rfl ?_;refine cB (j:=23) (d:=38) rfl rfl ?_;refine bX ?_
    repeat' (first|(refine aG ?_;first|(refine aC ?_;(refine aM rfl ⟨Tryz.call161⟩ rfl bD rfl (kG _ p l Bs hB _ (by rw [oZ];simp [b16];omega)) ?_;rintro v V2 B2 hV2 ⟨rfl,hB2⟩;rw [oW] at hB2))|refine pu9 ?_)|refine cM ?_|fail)
    refine bZ (fun F V' L' m=>∃ (k:Nat) (Bk:List Box),VLe V1 V'∧(⟨γ,50,lnC x⟩ :: Bk:List Box)=L'∧BldB p (l ++ (layH x.h ++ nD (x.h.attrs.take k))) Bk∧k≤x.na∧m=x.na - k∧F=[(0,.pointer (some ⟨p,0,none⟩)),(3,.pointer (some ⟨γ,0,none⟩)),(41,.slice x.A x.na x.ca),(42,.int .i64 x.na),(43,.int .i64 k)]) (m:=x.na) ⟨0,B2,vl9,rfl,?_,by omega,rfl,rfl⟩ bG rfl sl9 ?_
    · rw [←hal] at hB2
      have e:([b8 (vE x.h)] ++ b16 x.h.mode ++ b16 x.h.user ++ b16 x.h.group ++ [b8 (x.h.attrs.length:Int)]:List UInt8)=layH x.h ++ nD (x.h.attrs.take 0):=by simp [layH,nD]
      rw [←e];exact hB2
    rintro F V' L' m ⟨k,Bk,hV',rfl,hBk,hkn,rfl,rfl⟩
    by_cases hlt:k<x.na
    · obtain⟨b1,o1,a,hA1,ha1,hc1,_⟩:=(ha.le (hV1.trans hV')).at_ hlt
      have hfa:=f5.2 a (List.mem_of_getElem? ha1)
      have hA2:=hA0 (k+1)
      have hA3:=layA_take ha1
      have hA4:=congrArg List.length hA3
      simp only [List.length_append,gE] at hA4
      repeat' (first|(refine aG ?_;first|refine st9 ?_|(refine al9 ?_;intro γ)|refine pu9 ?_)|refine cM ?_|(refine aA rfl ?_ ?_<;>intro hq<;>try exact no9))
      refine bT (id:=8) _ mixed (List.Sublist.cons_cons _ (List.Sublist.cons_cons _ (List.nil_sublist _))) ?_;refine gt9 0 ?_;refine gt9 1 ?_;refine gt9 2 ?_;refine gt9 4 ?_;refine gt9 5 ?_;refine bM (i:=3) rfl ?_;refine aO rfl (aK ⟨Tryz.call163⟩ rfl (text_c _ a.n (by omega))) ?_;refine bM (i:=6) rfl ?_;refine aO rfl (aK ⟨Tryz.call163⟩ rfl (text_c _ a.v (by omega))) ?_;refine gO 7 rfl rfl (gD rfl rfl (by simp only [gE];omega)) ?_;refine bM (i:=8) rfl ?_;(refine aM rfl ⟨Tryz.call161⟩ rfl bD rfl (kG _ p _ Bk hBk _ (by rw [oZ];simp only [List.length_append,gE,oH];omega)) ?_;rintro v V3 B3 hV3 ⟨rfl,hB3⟩;rw [oW] at hB3);refine bC (by kernel_rfl) vl9 vl9 cC ?_
      all_goals
        repeat' (first|(refine aG ?_;refine pu9 ?_)|refine bS ?_|fail)
      all_goals
        refine aY _ (x.na - (k+1)) ⟨k+1,B3,vl9,rfl,?_,by omega,rfl,rfl⟩ (by omega) bG sl9
        rw [hA3,←List.append_assoc (layH x.h),←List.append_assoc l]
        exact hB3
    · obtain rfl:k=x.na:=by omega
      rw [←hal,List.take_length] at hBk
      repeat' (first|(refine aG ?_;refine pu9 ?_)|refine eT ?_|(refine aA rfl ?_ ?_<;>intro hq<;>try exact no9))
      refine bT (id:=10) _ mixed (List.Sublist.cons_cons _ (List.nil_sublist _)) ?_;refine gt9 0 ?_;refine gt9 1 ?_;refine gt9 2 ?_;refine gt9 4 ?_;refine gt9 5 ?_;refine gt9 6 ?_;refine gO 7 rfl rfl (lL und_3 und_5 rfl) ?_;(refine iC (i:=3) (j:=8) (by kernel_rfl) rfl rfl rfl rfl vl9 vl9 cC ?_ ?_<;>first|(refine aO rfl (aK ⟨Tryz.call163⟩ rfl (text_c _ x.h.data (by omega))) ?_;refine bM (i:=8) rfl ?_;(refine aZ rfl und_108 siz_5 zec_5 rfl rfl rfl rfl rfl rfl rfl ?_;intro γ);refine bM (i:=9) rfl ?_;refine aI (kL (us:=[b8 (x.nk:Int)]) und_108 und_5 und_9 rfl (fY bN rfl)) ?_;refine gO 10 rfl rfl (gD rfl rfl (by simp only [gE,List.length_cons,List.length_nil];omega)) ?_;refine bM (i:=11) rfl ?_;(refine aM rfl ⟨Tryz.call161⟩ rfl bD rfl (kG _ p _ Bk hBk _ (by rw [oZ];simp only [List.length_append,gE,oH,List.length_cons,List.length_nil];omega)) ?_;rintro v V3 B3 hV3 ⟨rfl,hB3⟩;rw [oW] at hB3);refine bC (by kernel_rfl) vl9 vl9 cC ?_)|((refine aZ rfl und_108 siz_5 zec_5 rfl rfl rfl rfl rfl rfl rfl ?_;intro γ);(refine iC (i:=3) (j:=9) (by kernel_rfl) rfl rfl rfl rfl vl9 vl9 cC ?_ ?_<;>first|(refine aO rfl (aK ⟨Tryz.call163⟩ rfl (text_c _ x.h.data (by omega))) ?_;refine bM (i:=9) rfl ?_;refine aI (kL (us:=[b8 (x.nk:Int)]) und_108 und_5 und_9 rfl (fY bN rfl)) ?_;refine gO 10 rfl rfl (gD rfl rfl (by simp only [gE,List.length_cons,List.length_nil];omega)) ?_;refine bM (i:=11) rfl ?_;(refine aM rfl ⟨Tryz.call161⟩ rfl bD rfl (kG _ p _ Bk hBk _ (by rw [oZ];simp only [List.length_append,gE,oH,List.length_cons,List.length_nil];omega)) ?_;rintro v V3 B3 hV3 ⟨rfl,hB3⟩;rw [oW] at hB3);refine bC (by kernel_rfl) vl9 vl9 cC ?_)|(refine aI (kL (us:=[b8 (x.nk:Int)]) und_108 und_5 und_9 rfl (fY bN rfl)) ?_;refine bM (i:=3) rfl ?_;refine aO rfl (aK ⟨Tryz.call163⟩ rfl (text_c _ x.h.data (by omega))) ?_;refine gO 10 rfl rfl (gD rfl rfl (by simp only [gE,List.length_cons,List.length_nil];omega)) ?_;refine bM (i:=11) rfl ?_;(refine aM rfl ⟨Tryz.call161⟩ rfl bD rfl (kG _ p _ Bk hBk _ (by rw [oZ];simp only [List.length_append,gE,oH,List.length_cons,List.length_nil];omega)) ?_;rintro v V3 B3 hV3 ⟨rfl,hB3⟩;rw [oW] at hB3);refine bC (by kernel_rfl) vl9 vl9 cC ?_))))
      all_goals
        repeat' (first|(refine aG ?_;refine pu9 ?_)|refine cM ?_|fail)
      all_goals
        refine bZ (fun F V' L' m=>∃ (k:Nat) (Bk:List Box),VLe V1 V'∧Bk=L'∧BldB p (l ++ (layH x.h ++ nD x.h.attrs ++ (qS x.h.data ++ [b8 (x.ks.length:Int)]) ++ nG (x.ks.take k))) Bk∧k≤x.nk∧m=x.nk - k∧F=[(0,.pointer (some ⟨p,0,none⟩)),(70,.slice x.K x.nk x.ck),(71,.int .i64 x.nk),(72,.int .i64 k)]) (m:=x.nk) ⟨0,B3,vl9,rfl,?_,by omega,rfl,rfl⟩ bG rfl sl9 ?_
        · rw [List.take_zero,nG,List.append_nil,hz,←List.append_assoc l];exact hB3
        rintro F V' L' m ⟨k,Bk,hV',rfl,hBk,hkn,rfl,rfl⟩
        by_cases hlt:k<x.nk
        · obtain⟨b1,o1,e,hK1,he,hem,hc,c0,c1,hms,hne⟩:=(hk.le (hV1.trans hV')).at_ hlt
          have hke:=kz_at hks he
          have hfk:=f8 _ (List.mem_of_getElem? hke)
          simp only [] at hfk
          have hK2:=hK0 (k+1)
          have hK3:=layK_take hke
          have hK4:=congrArg List.length hK3
          simp only [List.length_append,gE] at hK4
          repeat' (first|(refine aG ?_;first|(refine aC ?_;(first|refine aO rfl (aK ⟨Tryz.call163⟩ rfl (text_c _ e.nm (by omega))) ?_|(refine aM rfl ⟨Tryz.call161⟩ rfl bD rfl (kG _ p _ Bk hBk _ (by rw [oZ];simp only [List.length_append,gE,oH,List.length_cons,List.length_nil];omega)) ?_;rintro v V4 B4 hV4 ⟨rfl,hB4⟩;rw [oW] at hB4)|(refine aM rfl ⟨Tryz.call121⟩ rfl bD rfl (ih e hem _ (hV1.trans (hV'.trans hV4)) (hfit.kid (List.mem_of_getElem? hke)) _ B4 hB4 (by simp only [List.length_append,gE,oH,List.length_cons,List.length_nil];omega)) ?_;rintro v V5 B5 hV5 ⟨rfl,hB5⟩)))|refine st9 ?_|(refine al9 ?_;intro γ)|refine pu9 ?_)|refine cM ?_|(refine aA rfl ?_ ?_<;>intro hq<;>try exact no9))
          refine aY _ (x.nk - (k+1)) ⟨k+1,B5,vl9,rfl,?_,by omega,rfl,rfl⟩ (by omega) bG sl9
          rw [hK3]
          simp only [List.append_assoc] at hB5 ⊢
          exact hB5
        · obtain rfl:k=x.nk:=by omega
          rw [List.take_of_length_le (by omega),←hP] at hBk
          repeat' (first|(refine aG ?_;refine pu9 ?_)|refine eT ?_|(refine aA rfl ?_ ?_<;>intro hq<;>try exact no9))
          (first|refine oE Tryz.results121  (List.Sublist.refl _) ?_|refine oF Tryz.results121 (List.Sublist.refl _) ?_)
          exact⟨rfl,hBk⟩
end
end Go.Proofs.YtejkmomfpidnbacGreat
