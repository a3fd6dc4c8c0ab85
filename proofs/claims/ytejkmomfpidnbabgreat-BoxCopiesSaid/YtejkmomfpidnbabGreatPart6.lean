/- Walks and plain laws, part 6: what functions compute, proved once each (MergeQ, Map, MergeG, MergeG2, FlatP, FlatT, FlatS, IdmapP, IdmapE, IdmapE2, IdmapE3, CopyP, CopyE, CopyE2, IdmapT). -/
import Derived.Test.YtejkmomfpidnbabGreatPart4
import Derived.Test.YtejkmomfpidnbabGreatPart5
import Derived.Sort.KeysCollected
import Derived.Test.YtejkmomfpidnbabGreatPart3
import Derived.MapKept
import Derived.Test.YtejkmomfpidnbabGreatPart1
import Derived.Test.YtejkmomfpidnbabGreatPart2
set_option linter.unusedSimpArgs false
set_option linter.unusedVariables false
set_option maxRecDepth 100000
set_option maxHeartbeats 40000000
namespace Go.Proofs.YtejkmomfpidnbabGreat
open Go.RowKit
section
instance memDec9 (a : ByteArray) (l : List ByteArray) : Decidable (a ∈ l) := decidable_of_iff (l.any (fun x => decide (x = a)) = true) (by simp)
def dW (r:List PF):List ByteArray:=r.flatMap fun f=>f.1.ks.map Prod.fst
def outS (r:List PF) (out:List ByteArray) (nm:ByteArray):List ByteArray:=if nm∈out∨(cO r nm).length=0 then out else out ++ [nm]
def qC (r:List PF) (l:List ByteArray):List ByteArray:=l.foldl (outS r) []
def gQ (r:List PF):List ByteArray:=uX (qC r (dW r))
theorem nW (r:List PF) (l:List ByteArray) (nm:ByteArray):qC r (l ++ [nm])=outS r (qC r l) nm:=by unfold qC;rw [List.foldl_append];rfl
theorem outS_mono {r:List PF} {out:List ByteArray} {nm x:ByteArray} (h:x∈out):x∈outS r out nm:=by
  unfold outS;split
  · exact h
  · simp [h]
theorem snoc_ind {α:Type} {C:List α→Prop} (h0:C []) (h1:∀ l x,C l→C (l ++ [x])) (l:List α):C l:=by
  have key:∀ n (l:List α),l.length=n→C l:=fun n=>by
    induction n with
    | zero=>intro l hl;rw [List.eq_nil_of_length_eq_zero hl];exact h0
    | succ n ih =>
      intro l hl
      rcases List.eq_nil_or_concat l with rfl|⟨l',x,rfl⟩
      · exact h0
      · rw [List.concat_eq_append] at *
        exact h1 l' x (ih l' (by simpa using hl))
  exact key _ l rfl
theorem outP_mem {r:List PF} (l:List ByteArray):∀ x∈qC r l,x∈l∧(cO r x).length≠0:=by
  refine snoc_ind (C:=fun l=>∀ x∈qC r l,x∈l∧(cO r x).length≠0) ?_ ?_ l
  · intro x hx;cases hx
  · intro l nm ih x hx
    rw [nW] at hx
    unfold outS at hx;split at hx
    · exact⟨by simp [(ih x hx).1],(ih x hx).2⟩
    · rename_i hc
      rcases List.mem_append.1 hx with hx|hx
      · exact⟨by simp [(ih x hx).1],(ih x hx).2⟩
      · rw [List.mem_singleton.1 hx];exact⟨by simp,fun h=>hc (.inr h)⟩
theorem outP_has {r:List PF} (l:List ByteArray):∀ x∈l,x∈qC r l∨(cO r x).length=0:=by
  refine snoc_ind (C:=fun l=>∀ x∈l,x∈qC r l∨(cO r x).length=0) ?_ ?_ l
  · intro x hx;cases hx
  · intro l nm ih x hx
    rw [nW]
    rcases List.mem_append.1 hx with hx|hx
    · exact(ih x hx).imp outS_mono id
    · rw [List.mem_singleton.1 hx]
      unfold outS
      by_cases h:nm∈qC r l∨(cO r nm).length=0
      · rw [if_pos h];exact h
      · rw [if_neg h];simp
theorem out_old {r:List PF} {l:List ByteArray} {nm:ByteArray} (h:nm∈l):qC r (l ++ [nm])=qC r l:=by
  rw [nW];exact if_pos (outP_has l nm h)
theorem out_none {r:List PF} {l:List ByteArray} {nm:ByteArray} (h:(cO r nm).length=0):qC r (l ++ [nm])=qC r l:=by
  rw [nW];exact if_pos (.inr h)
theorem out_new {r:List PF} {l:List ByteArray} {nm:ByteArray} (h:¬nm∈l) (hs:(cO r nm).length≠0):qC r (l ++ [nm])=qC r l ++ [nm]:=by
  rw [nW];exact if_neg fun hc=>hc.elim (fun h1=>h (outP_mem l nm h1).1) hs
def nN (out:List ByteArray) (nm:ByteArray):Nat:=out.findIdx fun x=>!decide (x.toList<nm.toList)
def insS (r:List PF) (out:List ByteArray) (nm:ByteArray):List ByteArray:=if (cO r nm).length=0∨out[nN out nm]?=some nm then out else out.take (nN out nm) ++ nm :: out.drop (nN out nm)
def mI (r:List PF) (l:List ByteArray):List ByteArray:=l.foldl (insS r) []
theorem vC (r:List PF) (l:List ByteArray) (nm:ByteArray):mI r (l ++ [nm])=insS r (mI r l) nm:=by unfold mI;rw [List.foldl_append];rfl
def UpS (l:List ByteArray):Prop:=l.Pairwise fun a b=>a.toList<b.toList
theorem vI (s:ByteArray):s.toList=aC s:=Lib.toList_data s
theorem toList_inj {a b:ByteArray} (h:a.toList=b.toList):a=b:=by
  rw [vI,vI] at h
  rw [←fJ a,h,fJ]
theorem insN_le (out:List ByteArray) (nm:ByteArray):nN out nm≤out.length:=List.findIdx_le_length
theorem insN_lo {out:List ByteArray} {nm:ByteArray} {i:Nat} {x:ByteArray} (hx:out[i]?=some x) (hi:i<nN out nm):x.toList<nm.toList:=by
  have h:=List.not_of_lt_findIdx (xs:=out) (p:=fun x:ByteArray=>!decide (x.toList<nm.toList)) hi
  obtain⟨h1,rfl⟩:=List.getElem?_eq_some_iff.1 hx
  simpa using h
theorem insN_at {out:List ByteArray} {nm:ByteArray} {x:ByteArray} (hx:out[nN out nm]?=some x):¬x.toList<nm.toList:=by
  obtain⟨h1,rfl⟩:=List.getElem?_eq_some_iff.1 hx
  have h:=List.findIdx_getElem (xs:=out) (p:=fun x:ByteArray=>!decide (x.toList<nm.toList)) (w:=h1)
  rw [Bool.not_eq_true',decide_eq_false_iff_not] at h
  exact h
theorem up_hi {l:List ByteArray} (h:UpS l) {i j:Nat} {x y:ByteArray} (hx:l[i]?=some x) (hy:l[j]?=some y) (hij:i<j):x.toList<y.toList:=by
  obtain⟨h1,rfl⟩:=List.getElem?_eq_some_iff.1 hx
  obtain⟨h2,rfl⟩:=List.getElem?_eq_some_iff.1 hy
  exact List.pairwise_iff_getElem.1 h i j h1 h2 hij
theorem ins_hit {out:List ByteArray} {nm:ByteArray} (h:UpS out):out[nN out nm]?=some nm↔nm∈out:=by
  refine⟨fun hx=>List.mem_of_getElem? hx,fun hm=>?_⟩
  obtain⟨i,hi⟩:=List.getElem?_of_mem hm
  have hil:i<out.length:=(List.getElem?_eq_some_iff.1 hi).1
  rcases Nat.lt_trichotomy i (nN out nm) with hlt|he|hgt
  · exact absurd (insN_lo hi hlt) (List.lt_irrefl _)
  · rw [←he];exact hi
  · obtain⟨x,hx⟩:∃ x,out[nN out nm]?=some x:=⟨_,List.getElem?_eq_getElem (by omega)⟩
    exact absurd (up_hi h hx hi hgt) (insN_at hx)
theorem lt_of_nlt_ne {a b:ByteArray} (h:¬a.toList<b.toList) (hne:a≠b):b.toList<a.toList:=by
  rcases List.le_total a.toList b.toList with hl|hl
  · rcases Decidable.em (b.toList<a.toList) with h2|h2
    · exact h2
    · exact absurd (toList_inj (List.le_antisymm (List.not_lt.1 h2) (List.not_lt.1 h))) hne
  · rcases Decidable.em (b.toList<a.toList) with h2|h2
    · exact h2
    · exact absurd (toList_inj (List.le_antisymm (List.not_lt.1 h2) (List.not_lt.1 h))) hne
theorem ins_up {out:List ByteArray} {nm:ByteArray} (h:UpS out) (hn:¬nm∈out):UpS (out.take (nN out nm) ++ nm :: out.drop (nN out nm)):=by
  have hlo:∀ a∈out.take (nN out nm),a.toList<nm.toList:=fun a ha=>by
    obtain⟨i,hi⟩:=List.getElem?_of_mem ha
    have hil:i<nN out nm:=by
      have:=(List.getElem?_eq_some_iff.1 hi).1
      rw [List.length_take] at this;omega
    rw [List.getElem?_take_of_lt hil] at hi
    exact insN_lo hi hil
  have hhi:∀ b∈out.drop (nN out nm),nm.toList<b.toList:=fun b hb=>by
    obtain⟨j,hj⟩:=List.getElem?_of_mem hb
    rw [List.getElem?_drop] at hj
    have hjl:=(List.getElem?_eq_some_iff.1 hj).1
    obtain⟨x,hx⟩:∃ x,out[nN out nm]?=some x:=⟨_,List.getElem?_eq_getElem (by omega)⟩
    have hxn:nm.toList<x.toList:=lt_of_nlt_ne (insN_at hx) fun e=>hn (e▸List.mem_of_getElem? hx)
    rcases Nat.eq_zero_or_pos j with rfl|hj0
    · rw [Nat.add_zero,hx] at hj;injection hj with hj;rw [←hj];exact hxn
    · exact List.lt_trans hxn (up_hi h hx hj (by omega))
  refine List.pairwise_append.2 ⟨h.sublist (List.take_sublist _ _),List.pairwise_cons.2 ⟨hhi,h.sublist (List.drop_sublist _ _)⟩,fun a ha b hb=>?_⟩
  rcases List.mem_cons.1 hb with rfl|hb
  · exact hlo a ha
  · exact List.lt_trans (hlo a ha) (hhi b hb)
theorem yN {r:List PF} (l:List ByteArray):UpS (mI r l)∧(mI r l).Perm (qC r l):=by
  refine snoc_ind (C:=fun l=>UpS (mI r l)∧(mI r l).Perm (qC r l)) ⟨List.Pairwise.nil,List.Perm.refl _⟩ ?_ l
  intro l nm ⟨ih1,ih2⟩
  rw [vC,nW]
  unfold insS outS
  by_cases hs:(cO r nm).length=0
  · rw [if_pos (.inl hs),if_pos (.inr hs)];exact⟨ih1,ih2⟩
  · by_cases hm:nm∈mI r l
    · rw [if_pos (.inr ((ins_hit ih1).2 hm)),if_pos (.inl (ih2.mem_iff.1 hm))];exact⟨ih1,ih2⟩
    · rw [if_neg (fun h=>h.elim hs fun h=>hm ((ins_hit ih1).1 h)),if_neg (fun h=>h.elim (fun h=>hm (ih2.mem_iff.2 h)) hs)]
      refine⟨ins_up ih1 hm,?_⟩
      refine List.perm_middle.trans ?_
      rw [List.take_append_drop]
      exact(List.Perm.cons nm ih2).trans (List.perm_append_singleton nm _).symm
theorem sortS_perm {a b:List ByteArray} (h:a.Perm b):uX a=uX b:=by
  unfold uX;rw [mergeSort_of_perm (h.map aC)]
theorem sortS_up {a:List ByteArray} (h:UpS a):uX a=a:=by
  have hp:(a.map aC).Pairwise fun x y=>decide (x≤y)=true:=by
    rw [List.pairwise_map]
    refine h.imp fun {x y} hxy=>?_
    rw [vI,vI] at hxy
    exact decide_eq_true (List.le_of_lt hxy)
  unfold uX
  rw [List.mergeSort_of_pairwise hp,List.map_map]
  conv=>rhs;rw [←List.map_id a]
  exact List.map_congr_left fun s _=>fJ s
theorem tG (r:List PF):mI r (dW r)=gQ r:=by
  obtain⟨h1,h2⟩:=yN (r:=r) (dW r)
  unfold gQ
  rw [←sortS_perm h2,sortS_up h1]
theorem listP_up (r:List PF):UpS (gQ r):=by rw [←tG];exact(yN _).1
theorem pP {r:List PF} {x:ByteArray}:x∈gQ r↔x∈dW r∧(cO r x).length≠0:=by
  rw [←tG,(yN (r:=r) (dW r)).2.mem_iff]
  exact⟨fun h=>outP_mem _ x h,fun ⟨h1,h2⟩=>(outP_has _ x h1).resolve_right h2⟩
theorem outP_len (r:List PF) (l:List ByteArray):(qC r l).length≤l.length:=by
  refine snoc_ind (C:=fun l=>(qC r l).length≤l.length) (Nat.le_refl _) ?_ l
  intro l nm ih
  rw [nW];unfold outS;split
  · simp;omega
  · simp;omega
theorem insP_len (r:List PF) (l:List ByteArray):(mI r l).length≤l.length:=by
  rw [(yN l).2.length_eq];exact outP_len r l
theorem pJ (r:List PF):(gQ r).length≤(dW r).length:=by rw [←tG];exact insP_len _ _
end
section
theorem ba_beq (a b:ByteArray):(a == b)=decide (a=b):=by
  show ByteArray.beq a b=_
  obtain⟨a⟩:=a;obtain⟨b⟩:=b
  unfold ByteArray.beq
  by_cases h:a=b<;>simp [h]
structure KK (K:Type) [DecidableEq K] where
  kv:K→Value
  d:TypeDesc
  check:∀ (P:Program) (w:World) (kt:TypeId) (e:Bool) (a:K),P.underlying kt=some d→(Instr.checkKey e 10000 kt (kv a)).run P w=.ok () w
  now:∀ a b:K,Instr.sameNow d (kv a) (kv b)=some (decide (a=b))
  stays:∀ (P:Program) (w:World) (a:K),(Instr.keyThatStays (kv a) (kv a)).run P w=.ok (kv a) w
def strKK:KK ByteArray where
  kv:=fun s=>.string s
  d:=.string
  check:=fun P w kt e a h=>by unfold Instr.checkKey;simp [run_underlying h,Sem.run_bind]
  now:=fun a b=>by simp only [Instr.sameNow];rw [ba_beq]
  stays:=fun P w a=>by
    have:(a == a)=true:=by rw [ba_beq];simp
    simp [Instr.keyThatStays,Instr.sameBits,this]
section
variable {K β : Type} [DecidableEq K]
def mM (kk:KK K) (vv:β→Value) (M:List (K×β)) (es:Array MapEntry):Prop:=es.toList.map (fun e=>(e.key,e.val))=M.map fun p=>(kk.kv p.1,vv p.2)
def jX (a:K):List (K×β)→Option (Nat×β)
  | []=>none
  | p :: M=>if a=p.1 then some (0,p.2) else (jX a M).map fun q=>(q.1+1,q.2)
variable {kk : KK K} {vv : β → Value}
theorem mM.nil:mM kk vv [] #[]:=rfl
theorem findNow_eq (a:K):∀ (M:List (K×β)) (l:List MapEntry) (i:Nat),l.map (fun e=>(e.key,e.val))=M.map (fun p=>(kk.kv p.1,vv p.2))→Instr.findNow kk.d (kk.kv a) l i=some ((jX a M).map fun q=>(i+q.1,vv q.2))
  | [],[],i,_=>rfl
  | [],_ :: _,i,h=>by simp at h
  | _ :: _,[],i,h=>by simp at h
  | p :: M,e :: l,i,h=>by
    simp only [List.map_cons,List.cons.injEq,Prod.mk.injEq] at h
    obtain⟨⟨h1,h2⟩,h3⟩:=h
    unfold Instr.findNow
    rw [h1,kk.now]
    by_cases e:a=p.1
    · simp [e,jX,h2]
    · simp only [e,decide_false]
      rw [findNow_eq a M l (i+1) h3]
      simp only [jX,e,if_false]
      cases jX a M with
      | none=>rfl
      | some q=>simp;omega
theorem uF {P:Program} {w:World} {kt:TypeId} {a:K} {M:List (K×β)} {es:Array MapEntry} (hk:P.underlying kt=some kk.d) (hM:mM kk vv M es):(Instr.findKey kt (kk.kv a) es.toList).run P w=.ok ((jX a M).map fun q=>(q.1,vv q.2)) w:=by
  unfold Instr.findKey
  simp only [Sem.run_bind,run_underlying hk,Result.andThen]
  rw [findNow_eq a M es.toList 0 hM]
  simp
def mSet (a:K) (b:β):List (K×β)→List (K×β)
  | []=>[(a,b)]
  | p :: M=>if a=p.1 then (a,b) :: M else p :: mSet a b M
def mCut (a:K):List (K×β)→List (K×β)
  | []=>[]
  | p :: M=>if a=p.1 then M else p :: mCut a M
theorem mSet_new {a:K} {b:β}:∀ {M:List (K×β)},jX a M=none→mSet a b M=M ++ [(a,b)]
  | [],_=>rfl
  | p :: M,h=>by
    unfold jX at h
    split at h
    · cases h
    · rename_i e
      have:jX a M=none:=by simpa using h
      simp [mSet,e,mSet_new this]
theorem mFind_spec {a:K}:∀ {M:List (K×β)} {i:Nat} {b:β},jX a M=some (i,b)→M[i]?=some (a,b)∧(∀ c,mSet a c M=M.modify i fun _=>(a,c))∧mCut a M=M.eraseIdx i
  | [],i,b,h=>by cases h
  | p :: M,i,b,h=>by
    unfold jX at h
    by_cases e:a=p.1
    · rw [if_pos e] at h
      injection h with h;injection h with h1 h2
      subst h1;subst h2
      obtain⟨p1,p2⟩:=p
      simp only [] at e;subst e
      simp [mSet,mCut]
    · rw [if_neg e] at h
      obtain⟨q,hq,h⟩:=Option.map_eq_some_iff.1 h
      injection h with h1 h2
      subst h1;subst h2
      obtain⟨h3,h4,h5⟩:=mFind_spec (i:=q.1) (b:=q.2) hq
      refine⟨by simpa using h3,fun c=>?_,?_⟩
      · simp [mSet,e,h4 c]
      · simp [mCut,e,h5]
theorem mM.push {M:List (K×β)} {es:Array MapEntry} (h:mM kk vv M es) (a:K) (b:β) (c:Nat):mM kk vv (M ++ [(a,b)]) (es.push ⟨kk.kv a,vv b,c⟩):=by
  unfold mM at *
  simp [h]
theorem map_mod {α γ:Type} {q:α→γ} {u:γ} {f:α→α} (hf:∀ e,q (f e)=u):∀ {l:List α} {i:Nat},(l.modify i f).map q=(l.map q).set i u
  | [],i=>by simp
  | e :: l,0=>by simp [hf]
  | e :: l,i+1=>by simp [map_mod hf (l:=l) (i:=i)]
theorem mM.modify {M:List (K×β)} {es:Array MapEntry} (h:mM kk vv M es) (i:Nat) (a:K) (b:β):mM kk vv (M.modify i fun _=>(a,b)) (es.modify i fun e=>{ e with key:=kk.kv a,val:=vv b }):=by
  unfold mM at *
  rw [Array.toList_modify,map_mod (q:=fun e:MapEntry=>(e.key,e.val)) (u:=(kk.kv a,vv b)) (f:=fun e=>{ e with key:=kk.kv a,val:=vv b }) (fun _=>rfl),map_mod (q:=fun p:K×β=>(kk.kv p.1,vv p.2)) (u:=(kk.kv a,vv b)) (f:=fun _=>(a,b)) (fun _=>rfl),h]
end
section
variable {P : Program} {B : Base} {N : Nat} {Q : Exit → Act → World → Prop} {k : List kI} {F : List (Nat × Value)} {V : aI} {L : List Box} {w : World}
variable {d : Option Tmp} {ty : TypeId} {pos : String} {af : Array Edge} {gd : Option (Nat × Bool)} {x y z : Operand} {T T2 : TypeId} {ops : Array Oper} {rest : List Oper}
theorem St.setMap {X Y:List Box} {g c c':Nat} {es es':Array MapEntry} {cs:List Value} (hs:St B V (X ++ (⟨g,.map es c,cs⟩ :: Y)) w):St B V (X ++ (⟨g,.map es' c',cs⟩ :: Y)) { w with heap:=w.heap.setIfInBounds g (.map es' c') }:=by
  have hm:(⟨g,.map es c,cs⟩:Box)∈X ++ (⟨g,.map es c,cs⟩ :: Y):=by simp
  have hg:=hs.own _ hm
  have hlt:=hs.lt hm
  have hnd:=hs.nodup
  have hmap:(X ++ (⟨g,.map es' c',cs⟩ :: Y)).map Box.g=(X ++ (⟨g,.map es c,cs⟩ :: Y)).map Box.g:=by simp
  have hblk:∀ k,¬k=g→({ w with heap:=w.heap.setIfInBounds g (.map es' c') }:World).heap[k]?=w.heap[k]?:=fun k hk=>by
    show (w.heap.setIfInBounds g _)[k]?=_
    rw [Array.getElem?_setIfInBounds_ne (by omega)]
  have hne:∀ b,b∈X∨b∈Y→b.g≠g:=by
    intro b hb e
    rw [List.map_append,List.map_cons,List.nodup_append] at hnd
    obtain⟨_,h2,h3⟩:=hnd
    rcases hb with hb|hb
    · exact h3 b.g (List.mem_map_of_mem hb) g (by simp) e
    · exact(List.nodup_cons.1 h2).1 (List.mem_map.2 ⟨b,hb,e⟩)
  have hx:Exc [g] w { w with heap:=w.heap.setIfInBounds g (.map es' c') }:=⟨rfl,rfl,rfl,by simp,fun k _ hn=>hblk k (by simpa using hn)⟩
  refine⟨hs.ext.trans hx (by intro y hy;simp at hy;subst hy;exact hg.2),fun p v hp=>?_,hs.old,hs.v0,fun b hb=>?_,by rw [hmap];exact hnd⟩
  · obtain⟨h1,h2⟩:=hs.view p v hp
    have hpg:¬p.block=g:=fun e=>h2 _ hm e.symm
    refine⟨by rw [World.cell?_of_block (hblk _ hpg)];exact h1,fun b hb=>?_⟩
    rcases List.mem_append.1 hb with hb|hb
    · exact h2 b (by simp [hb])
    · rcases List.mem_cons.1 hb with rfl|hb
      · exact fun e=>hpg e.symm
      · exact h2 b (by simp [hb])
  · have old:∀ b,b∈X∨b∈Y→b∈X ++ (⟨g,.map es c,cs⟩ :: Y):=by intro b hb;rcases hb with hb|hb<;>simp [hb]
    have keep:∀ b,b∈X∨b∈Y→({ w with heap:=w.heap.setIfInBounds g (.map es' c') }:World).heap[b.g]?=some (b.t.obj b.cs)∧(B.w.heap.size≤b.g∨b.g∈B.fl):=fun b hb=>⟨by rw [hblk _ (hne b hb)];exact(hs.own b (old b hb)).1,(hs.own b (old b hb)).2⟩
    rcases List.mem_append.1 hb with hb|hb
    · exact keep b (.inl hb)
    · rcases List.mem_cons.1 hb with rfl|hb
      · refine⟨?_,hg.2⟩
        show (w.heap.setIfInBounds g _)[g]?=_
        rw [Array.getElem?_setIfInBounds_self_of_lt hlt];rfl
      · exact keep b (.inr hb)
theorem St.allocMap (hs:St B V L w) (es:Array MapEntry) (c:Nat):St B V (⟨w.heap.size,.map es c,[]⟩ :: L) (w.alloc (.map es c)):=by
  refine⟨Exc.al _ hs.ext,fun p x hp=>?_,hs.old,hs.v0,fun b hb=>?_,?_⟩
  · obtain⟨h1,h2⟩:=hs.view p x hp
    have hlt:=World.block_lt_of_cell? w p h1
    refine⟨(World.cell?_alloc_lt w _ p hlt).trans h1,fun b hb=>?_⟩
    rcases List.mem_cons.1 hb with rfl|hb
    · simp only [];omega
    · exact h2 b hb
  · rcases List.mem_cons.1 hb with rfl|hb
    · exact⟨heap_alloc_new w _,.inl hs.ext.sz⟩
    · exact⟨(Below.heap_alloc w _ b.g (hs.lt hb)).trans (hs.own b hb).1,(hs.own b hb).2⟩
  · rw [List.map_cons,List.nodup_cons]
    refine⟨fun h=>?_,hs.nodup⟩
    obtain⟨b,hb,he⟩:=List.mem_map.1 h
    have:=hs.lt hb
    simp only [] at he;omega
structure MapIs (P:Program) (T:TypeId) (d:TypeDesc) (z:Value):Prop where
  h:∃ kt e,P.underlying T=some (.map kt e)∧P.underlying kt=some d∧∀ w,(zeroValue e).run P w=.ok z w
variable {K β : Type} [DecidableEq K] {kk : KK K} {vv : β → Value} {M : List (K × β)} {es : Array MapEntry} {c g : Nat} {f : List Box → List Box} {a : K} {b : β} {z0 : Value}
theorem oJ.getMap (hs:St B V L w) {L1:List Box} (hL:oJ L L1 f) {b:Box} (hb:b∈L1):w.heap[b.g]?=some (b.t.obj b.cs):=by
  obtain⟨X,Y,hX,_⟩:=hL.h
  exact(hs.own b (by rw [hX];simp [hb])).1
def ansOf (vv:β→Value) (z0:Value) (r:Option (Nat×β)):Value:=match r with|some q=>vv q.2|none=>z0
theorem q_lookup1 (hT:MapIs P T kk.d z0) (hx:evF F x=some (.map (some g))) (hy:evF F y=some (kk.kv a)) (hM:mM kk vv M es) (hL:oJ L [⟨g,.map es c,[]⟩] f):QP P B N V L ⟨d,.lookup T x y false,ty,pos,af,gd⟩ F (ansOf vv z0 (jX a M)):=iH fun ac w ha hs=>by
  obtain⟨kt,e,h1,h2,h3⟩:=hT.h
  have ho:=hL.getMap hs (b:=⟨g,.map es c,[]⟩) (by simp)
  simp only [BT.obj_map] at ho
  have hr:(Instr.lookup T (.map (some g)) (kk.kv a) false).run P w=.ok (ansOf vv z0 (jX a M)) w:=by
    unfold Instr.lookup
    simp only [Sem.run_bind,run_underlying h1,Result.andThen,MapKept.run_getObj_map ho,Sem.run_pure,kk.check P w kt _ a h2,uF (vv:=vv) h2 hM]
    cases jX a M with
    | none=>simp [h3,ansOf]
    | some q=>simp [ansOf]
  simp [execOp,ha.ev hx,ha.ev hy,hr]
theorem gw_makeMap {dr:iI} (hdr:dr.loud=true) (hd:okD N d=true) (h:∀ g,GoL P B N dr ops Q k rest (sJ F d (.map (some g))) V (⟨g,.map #[] 0,[]⟩ :: L)):GoW P B N dr ops Q k ⟨d,.makeMap T none,ty,pos,af,gd⟩ rest F V L:=jB hdr fun a w ha hs=>by
  refine oD (w':=w.alloc (.map #[] 0)) (v:=.map (some w.heap.size)) ?_ (gS hdr (h w.heap.size) _ _ (ha.put hd _) (hs.allocMap #[] 0))
  simp [execOp,Instr.makeMap,run_newObj_alloc]
theorem run_mapUpdate (hT:MapIs P T kk.d z0) (hM:mM kk vv M es) (ho:w.heap[g]?=some (.map es c)):∃ es' c',(Instr.mapUpdate T (.map (some g)) (kk.kv a) (vv b)).run P w=.ok () { w with heap:=w.heap.setIfInBounds g (.map es' c') }∧mM kk vv (mSet a b M) es':=by
  obtain⟨kt,e,h1,h2,h3⟩:=hT.h
  cases hf:jX a M with
  | none =>
    refine⟨es.push ⟨kk.kv a,vv b,c⟩,c+1,?_,by rw [mSet_new hf];exact hM.push a b c⟩
    unfold Instr.mapUpdate
    simp only [Sem.run_bind,run_underlying h1,Result.andThen,MapKept.run_getObj_map ho,kk.check P w kt _ a h2,uF (vv:=vv) h2 hM,hf,Option.map_none,MapKept.run_setObj_map _ ho]
  | some q =>
    obtain⟨i,v⟩:=q
    obtain⟨h4,h5,_⟩:=mFind_spec hf
    refine⟨es.modify i fun e=>{ e with key:=kk.kv a,val:=vv b },c,?_,by rw [h5];exact hM.modify i a b⟩
    have hk:(es[i]?).map (·.key)=some (kk.kv a):=by
      have:=congrArg (fun l=>l[i]?) hM
      simp only [List.getElem?_map,h4,Option.map_some] at this
      rw [Array.getElem?_toList] at this
      obtain⟨e',he,h6⟩:=Option.map_eq_some_iff.1 this
      injection h6 with h6 _
      simp [he,h6]
    unfold Instr.mapUpdate
    simp only [Sem.run_bind,run_underlying h1,Result.andThen,MapKept.run_getObj_map ho,kk.check P w kt _ a h2,uF (vv:=vv) h2 hM,hf,Option.map_some,hk,Option.getD_some,kk.stays,MapKept.run_setObj_map _ ho]
theorem gw_update {dr:iI} (hdr:dr.loud=true) (hT:MapIs P T kk.d z0) (hx:evF F x=some (.map (some g))) (hy:evF F y=some (kk.kv a)) (hz:evF F z=some (vv b)) (hM:mM kk vv M es) (hL:oJ L [⟨g,.map es c,[]⟩] f) (hd:okD N d=true)
    (h:∀ es' c',mM kk vv (mSet a b M) es'→GoL P B N dr ops Q k rest (sJ F d undef) V (f [⟨g,.map es' c',[]⟩])):GoW P B N dr ops Q k ⟨d,.mapUpdate T x y z,ty,pos,af,gd⟩ rest F V L:=jB hdr fun ac w ha hs=>by
  have ho:=hL.getMap hs (b:=⟨g,.map es c,[]⟩) (by simp)
  simp only [BT.obj_map] at ho
  obtain⟨es',c',hr,hM'⟩:=run_mapUpdate (P:=P) (a:=a) (b:=b) hT hM ho
  obtain⟨X,Y,hX,hf⟩:=hL.h
  have h:=h es' c' hM'
  rw [hf] at h
  subst hX
  refine wp_skip' (w':={ w with heap:=w.heap.setIfInBounds g (.map es' c') }) ?_ (gS hdr h _ _ (ha.put hd _) hs.setMap)
  simp [execOp,ha.ev hx,ha.ev hy,ha.ev hz,hr]
end
end
section
theorem map_sb:MapIs Tryz.prog 327 strKK.d (.bool false):=⟨9,4,Tryz.underlying327,Tryz.underlying9,Tryz.zeroValue4⟩
def HasM (M:List (ByteArray×Bool)) (l:List ByteArray):Prop:=∀ a,ansOf Value.bool (.bool false) (jX a M)=.bool (decide (a∈l))
theorem hasM_nil:HasM [] []:=fun a=>rfl
theorem find_set {b:Bool} {nm a:ByteArray}:∀ {M:List (ByteArray×Bool)},(jX a (mSet nm b M)).map Prod.snd=if a=nm then some b else (jX a M).map Prod.snd
  | []=>by
    by_cases h:a=nm<;>simp [mSet,jX,h]
  | p :: M=>by
    rw [mSet]
    by_cases hp:nm=p.1
    · rw [if_pos hp,jX,jX]
      by_cases h:a=nm
      · rw [if_pos h,if_pos h];rfl
      · rw [if_neg h,if_neg h,if_neg (fun e=>h (e.trans hp.symm))]
    · rw [if_neg hp,jX,jX]
      by_cases ha:a=p.1
      · rw [if_pos ha,if_pos ha,if_neg (fun e=>hp (e.symm.trans ha))]
      · rw [if_neg ha,if_neg ha]
        have:=find_set (b:=b) (nm:=nm) (a:=a) (M:=M)
        rw [Option.map_map,Option.map_map]
        exact this
theorem ans_snd (r:Option (Nat×Bool)):ansOf Value.bool (.bool false) r=.bool ((r.map Prod.snd).getD false):=by
  cases r<;>rfl
theorem HasM.set {M:List (ByteArray×Bool)} {l:List ByteArray} (h:HasM M l) (nm:ByteArray):HasM (mSet nm true M) (l ++ [nm]):=fun a=>by
  rw [ans_snd,find_set]
  by_cases ha:a=nm
  · rw [if_pos ha];simp [ha]
  · rw [if_neg ha,←ans_snd,h a];simp [ha]
theorem HasM.same {M:List (ByteArray×Bool)} {l l':List ByteArray} (h:HasM M l) (e:l=l'):HasM M l':=e▸h
theorem names_snoc {fs:List LF} {i:Nat} {f:LF} (h:fs[i]?=some f):dW ((fs.map fz).take (i+1))=dW ((fs.map fz).take i) ++ f.x.ks.map Prod.fst:=by
  unfold dW;rw [List.take_add_one,fz_at h,List.flatMap_append];simp [fz];rfl
theorem names_le (r:List PF) (i:Nat):(dW (r.take i)).length≤(dW r).length:=by
  have:dW r=dW (r.take i) ++ dW (r.drop i):=by
    unfold dW;rw [←List.flatMap_append,List.take_append_drop]
  rw [this,List.length_append];omega
theorem kids_names {es:List LK} {j:Nat} {e:LK} (h:es[j]?=some e):(es.take (j+1)).map LK.nm=(es.take j).map LK.nm ++ [e.nm]:=by
  rw [List.take_add_one,h,List.map_append];rfl
theorem pM (l:List ByteArray):l.flatMap strC=l.map Value.string:=by
  induction l with
  | nil=>rfl
  | cons s l ih=>rw [List.flatMap_cons,ih];rfl
theorem fnames_size {V:aI} {fs:List LF} (h:∀ f∈fs,aX V f.x):∀ s∈dW (fs.map fz),s.size≤maxLen:=fun s hs=>by
  obtain⟨p,hp,hsp⟩:=List.mem_flatMap.1 hs
  obtain⟨f,hf,rfl⟩:=List.mem_map.1 hp
  obtain⟨_,_,_,_,es,hK,hks⟩:=(h f hf).inv
  obtain⟨k,hk,rfl⟩:=List.mem_map.1 hsp
  have hk2:k∈f.x.ks:=hk
  rw [hks] at hk2
  obtain⟨e,he,rfl⟩:=List.mem_map.1 hk2
  exact(hK.2 e he).1
def NamesR (l:List ByteArray) (v:Value) (V':aI):Prop:=∃ (A:Option Addr) (n c:Nat),v=.slice A n c∧bZ V' A n l∧n≤c
attribute [local irreducible] AtQ GoC GoL GoW QO QP Fn RV bX aL VLe cG bT
theorem MList_c (V:aI) (A:Option Addr) (n c:Nat) (fs:List LF) (h:dL V A n fs) (hn:n≤1000) (hnl:(dW (fs.map fz)).length≤1000000):Fn Tryz.prog 226 [.slice A n c] V (NamesR (gQ (fs.map fz))):=by
  have hl:=h.1.1
  have hsz:=fnames_size h.2
  (refine aH Tryz.func226 rfl Tryz.ntmps226 rfl ?_;intro w0)
  repeat' (first|(refine aE ?_;first|(refine k_makeMap ?_;(refine gw_makeMap rfl rfl ?_;intro γ0))|refine pu9 ?_)|refine bW ?_|fail)
  refine bQ (fun F V' L' m=>∃ (i:Nat) (M:List (ByteArray×Bool)) (es:Array MapEntry) (ck:Nat) (A':Option Addr) (n' c':Nat) (LA:List Box),VLe V V'∧LA ++ [⟨γ0,.map es ck,[]⟩]=L'∧i≤n∧mM strKK Value.bool M es∧HasM M (dW ((fs.map fz).take i))∧cU A' n' c' 9 1 ((qC (fs.map fz) (dW ((fs.map fz).take i))).map Value.string) LA∧m=n - i∧F=[(0,.slice A n c),(3,.map (some γ0)),(4,.slice A' n' c'),(10,.slice A n c),(11,.int .i64 n),(12,.int .i64 (i:Int))]) (m:=n) ⟨0,[],#[],0,none,0,0,[],VLe.refl _,rfl,Nat.zero_le _,mM.nil,hasM_nil,cU.nil,by omega,rfl⟩ bH rfl sl9 ?_
  rintro F V' L' m ⟨i,M,es,ck,A',n',c',LA,hV',rfl,hin,hM,hH,hr,rfl,rfl⟩
  by_cases hlt:i<n
  · obtain⟨b,off,f,hA,hx,hc,hN⟩:=(h.le hV').at_ hlt
    obtain⟨_,_,_,hnk,ks,hK,hks⟩:=hN.inv
    repeat' (first|(refine aE ?_;first|(refine cK ?_;refine aR (bL und_272 siz_306 rfl hA rfl hlt) ?_)|refine st9 ?_|(refine al9 ?_;intro γ)|refine pu9 ?_)|refine bW ?_|(refine aA rfl ?_ ?_<;>intro hq<;>try exact no9))
    all_goals try exact no9
    have hkl:=hK.len
    have hnm:=names_snoc hx
    have hle:=names_le (fs.map fz) (i+1)
    have hkn:f.x.ks.map Prod.fst=ks.map LK.nm:=by rw [hks,List.map_map];rfl
    rw [hkn] at hnm
    have hle2:(dW ((fs.map fz).take i)).length+f.x.nk≤1000000:=by
      rw [hnm,List.length_append,List.length_map,hkl] at hle;omega
    refine bQ (fun F V2 L' m=>∃ (j:Nat) (M:List (ByteArray×Bool)) (es:Array MapEntry) (ck:Nat) (A':Option Addr) (n' c':Nat) (LA:List Box),VLe V' V2∧LA ++ [⟨γ0,.map es ck,[]⟩]=L'∧j≤f.x.nk∧mM strKK Value.bool M es∧HasM M (dW ((fs.map fz).take i) ++ (ks.take j).map LK.nm)∧cU A' n' c' 9 1 ((qC (fs.map fz) (dW ((fs.map fz).take i) ++ (ks.take j).map LK.nm)).map Value.string) LA∧m=f.x.nk - j∧F=[(0,.slice A n c),(3,.map (some γ0)),(4,.slice A' n' c'),(10,.slice A n c),(11,.int .i64 n),(12,.int .i64 (i:Int)),(18,.slice f.x.K f.x.nk f.x.ck),(19,.int .i64 f.x.nk),(20,.int .i64 (j:Int))]) (m:=f.x.nk) ⟨0,M,es,ck,A',n',c',LA,VLe.refl _,rfl,Nat.zero_le _,hM,hH.same (by simp),by rw [List.take_zero,List.map_nil,List.append_nil];exact hr,by omega,rfl⟩ bH rfl sl9 ?_
    clear hM hH hr
    rintro F V2 L' m ⟨j,M2,es2,ck2,A2,n2,c2,LA2,hV2,rfl,hjn,hM,hH,hr,rfl,rfl⟩
    have hrl:n2≤1000000:=by
      have h1:=hr.1
      have h2:=outP_len (fs.map fz) (dW ((fs.map fz).take i) ++ (ks.take j).map LK.nm)
      rw [List.length_append,List.length_map,List.length_take,hkl] at h2
      rw [List.length_map] at h1;omega
    by_cases hlt2:j<f.x.nk
    · obtain⟨b1,o1,e,hKA,he,hem,hce,c0,c1,hms,hne⟩:=(hK.le hV2).at_ hlt2
      have hkj:=kids_names he
      have hans:=hH e.nm
      have hH':HasM (mSet e.nm true M2) (dW ((fs.map fz).take i) ++ (ks.take (j+1)).map LK.nm):=(hH.set e.nm).same (by rw [hkj,List.append_assoc])
      have hoe:qC (fs.map fz) (dW ((fs.map fz).take i) ++ (ks.take (j+1)).map LK.nm)=qC (fs.map fz) ((dW ((fs.map fz).take i) ++ (ks.take j).map LK.nm) ++ [e.nm]):=by rw [hkj,List.append_assoc]
      by_cases hin:e.nm∈dW ((fs.map fz).take i) ++ (ks.take j).map LK.nm
      · rw [decide_eq_true hin] at hans
        rw [out_old hin] at hoe
        repeat' (first|(refine aE ?_;first|(refine cK ?_;refine aR (bL und_68 siz_156 rfl hKA rfl hlt2) ?_)|(refine k_lookup ?_;refine aR (q_lookup1 (kk:=strKK) (vv:=Value.bool) map_sb rfl rfl hM bF) ?_;rw [hans])|(refine uT ?_;(refine gw_update rfl (kk:=strKK) (vv:=Value.bool) (b:=true) map_sb rfl rfl rfl hM bF rfl ?_;intro es3 c3 hM3))|refine st9 ?_|(refine al9 ?_;intro γ)|refine pu9 ?_)|refine cV ?_|(refine aA rfl ?_ ?_<;>intro hq<;>try exact no9))
        all_goals first
          | exact no9
          | (exfalso;exact absurd hq (by decide))
          | skip
        all_goals (refine aZ _ (f.x.nk - (j+1)) ⟨j+1,_,es3,c3,A2,n2,c2,LA2,vl9,rfl,by omega,hM3,hH',by rw [hoe];exact hr,rfl,rfl⟩ (by omega) bH sl9)
      · rw [decide_eq_false hin] at hans
        have hS:=Step_c V2 A n c fs (h.le (hV'.trans hV2)) hn e.nm
        by_cases hz:(cO (fs.map fz) e.nm).length=0
        · rw [out_none hz] at hoe
          repeat' (first|(refine aE ?_;first|(refine aD ?_;(refine aM rfl ⟨Tryz.call234⟩ rfl rfl (hS) ?_;rintro v V3 hV3 ⟨A3,n3,c3,gs,rfl,hG3,hc3',hgz⟩;have hgl:=hG3.1.1;have hz2:=congrArg List.length hgz;rw [List.length_map,hgl,hz] at hz2))|(refine cK ?_;refine aR (bL und_68 siz_156 rfl hKA rfl hlt2) ?_)|(refine k_lookup ?_;refine aR (q_lookup1 (kk:=strKK) (vv:=Value.bool) map_sb rfl rfl hM bF) ?_;rw [hans])|(refine uT ?_;(refine gw_update rfl (kk:=strKK) (vv:=Value.bool) (b:=true) map_sb rfl rfl rfl hM bF rfl ?_;intro es3 c3 hM3))|refine st9 ?_|(refine al9 ?_;intro γ)|refine pu9 ?_)|refine bW ?_|(refine aA rfl ?_ ?_<;>intro hq<;>try exact no9))
          all_goals first
            | exact no9
            | (exfalso;exact absurd hq (by decide))
            | skip
          all_goals (refine aZ _ (f.x.nk - (j+1)) ⟨j+1,_,es3,c3,A2,n2,c2,LA2,vl9,rfl,by omega,hM3,hH',by rw [hoe];exact hr,rfl,rfl⟩ (by omega) bH sl9)
        · rw [out_new hin hz] at hoe
          repeat' (first|(refine aE ?_;first|(refine aD ?_;(first|(refine aM rfl ⟨Tryz.call234⟩ rfl rfl (hS) ?_;rintro v V3 hV3 ⟨A3,n3,c3,gs,rfl,hG3,hc3',hgz⟩;have hgl:=hG3.1.1;have hz2:=congrArg List.length hgz;rw [List.length_map,hgl] at hz2)|(refine aT rfl und_47 inf_9 rfl rfl rfl hr bF (cZ bB rfl) bG (by omega) rfl rfl ?_;intro A5 c5 L5 hr5)))|(refine cK ?_;refine aR (bL und_68 siz_156 rfl hKA rfl hlt2) ?_)|(refine k_lookup ?_;refine aR (q_lookup1 (kk:=strKK) (vv:=Value.bool) map_sb rfl rfl hM bF) ?_;rw [hans])|(refine cJ ?_;(refine aP rfl und_47 siz_9 zec_9 rfl rfl rfl rfl rfl rfl rfl ?_;intro γ))|(refine uT ?_;(refine gw_update rfl (kk:=strKK) (vv:=Value.bool) (b:=true) map_sb rfl rfl rfl hM bF rfl ?_;intro es3 c3 hM3))|refine st9 ?_|(refine al9 ?_;intro γ)|refine pu9 ?_)|refine bW ?_|(refine aA rfl ?_ ?_<;>intro hq<;>try exact no9))
          all_goals first
            | exact no9
            | (exfalso;exact absurd hq (by decide))
            | skip
          all_goals (refine aZ _ (f.x.nk - (j+1)) ⟨j+1,_,es3,c3,A5,n2+1,c5,L5,vl9,rfl,by omega,hM3,hH',by rw [hoe,List.map_append];exact hr5,rfl,rfl⟩ (by omega) bH sl9)
    · obtain rfl:j=f.x.nk:=by omega
      have htk:ks.take f.x.nk=ks:=List.take_of_length_le (by omega)
      rw [htk,←hnm] at hH hr
      repeat' (first|(refine aE ?_;refine pu9 ?_)|refine dR ?_|(refine aA rfl ?_ ?_<;>intro hq<;>try exact no9))
      all_goals try exact no9
      all_goals (refine aZ _ (n - (i+1)) ⟨i+1,M2,es2,ck2,A2,n2,c2,LA2,vl9,rfl,by omega,hM,hH,hr,rfl,rfl⟩ (by omega) bH sl9)
  · obtain rfl:i=n:=by omega
    have htk:(fs.map fz).take i=fs.map fz:=List.take_of_length_le (by rw [List.length_map];omega)
    rw [htk] at hH hr
    have hrl:n'≤1000000000000:=by
      have h1:=hr.1
      have h2:=outP_len (fs.map fz) (dW (fs.map fz))
      rw [List.length_map] at h1;omega
    repeat' (first|(refine aE ?_;first|(refine aD ?_;(refine aW rfl ⟨Tryz.call258⟩ rfl bF rfl (Sort_c _ hr hrl) ?_;rintro v V3 B3 hV3 ⟨rfl,hr3⟩))|refine pu9 ?_)|refine dR ?_|(refine aA rfl ?_ ?_<;>intro hq<;>try exact no9))
    have hcap:=hr3.cap
    have hln:(gQ (fs.map fz)).length=n':=by
      have:=hr3.1
      rw [List.length_map,Nat.mul_one] at this;exact this
    all_goals
      refine eA hr3 bF ?_
      intro V4 hV4 hc4
      (refine aQ Tryz.results226 (aB rfl) ?_)
      refine⟨_,_,_,rfl,⟨eT.of_cells (by rw [pM];exact hc4) (fun _=>rfl) hln (by unfold maxLen;omega),fun s hs=>?_⟩,hcap⟩
      exact hsz s (pP.1 hs).1
theorem List_c (V:aI) (A:Option Addr) (n c:Nat) (xs:List LN) (h:dP V A n xs) (hn:n≤1000) (B:Option Addr) (m e:Nat) (ss:List ByteArray) (hs:bZ V B m ss) (hnl:(dW (bY (xs.map LN.n) ss)).length≤1000000):Fn Tryz.prog 143 [.slice A n c,.slice B m e] V (NamesR (gQ (bY (xs.map LN.n) ss))):=by
  have hW:=Walk_c V A n c xs h hn B m e ss hs
  have hrl:=nM (xs.map LN.n) ss
  have hra:=h.1.1
  rw [List.length_map] at hrl
  generalize bY (xs.map LN.n) ss=r at *
  (refine aH Tryz.func143 rfl Tryz.ntmps143 rfl ?_;intro w0)
  repeat' (first|(refine aE ?_;first|(refine aD ?_;(first|(refine aM rfl ⟨Tryz.call227⟩ rfl rfl (hW) ?_;rintro v V1 hV1 ⟨A1,n1,c1,fs,rfl,hF1,hc1,rfl⟩;have hfl:=hF1.1.1;rw [List.length_map] at hrl;have hL:=MList_c V1 A1 n1 c1 fs hF1 (by omega) hnl)|(refine aM rfl ⟨Tryz.call226⟩ rfl rfl (hL) ?_;rintro v V2 hV2 ⟨A2,n2,c2,rfl,hS2,hc2⟩)))|refine pu9 ?_)|refine dQ ?_|(refine aJ rfl rfl rfl ?_ ?_<;>intro hq<;>try exact no9)|(refine bU rfl rfl rfl ?_ ?_<;>intro hq)|(refine aA rfl ?_ ?_<;>intro hq<;>try exact no9)|(refine bP rfl ?_ ?_<;>intro hq))
  all_goals
    (refine aQ Tryz.results143 (aB rfl) ?_)
    exact⟨_,_,_,rfl,hS2,hc2⟩
end
section
theorem ins_none {r:List PF} {l:List ByteArray} {nm:ByteArray} (h:(cO r nm).length=0):mI r (l ++ [nm])=mI r l:=by
  rw [vC];exact if_pos (.inl h)
theorem ins_is {r:List PF} {l:List ByteArray} {nm:ByteArray} (h:(mI r l)[nN (mI r l) nm]?=some nm):mI r (l ++ [nm])=mI r l:=by
  rw [vC];exact if_pos (.inr h)
theorem ins_put {r:List PF} {l:List ByteArray} {nm:ByteArray} (hs:(cO r nm).length≠0) (h:¬(mI r l)[nN (mI r l) nm]?=some nm):mI r (l ++ [nm])=(mI r l).take (nN (mI r l) nm) ++ nm :: (mI r l).drop (nN (mI r l) nm):=by
  rw [vC];exact if_neg fun hc=>hc.elim hs h
theorem walk_deep (l:List PN) (ss:List ByteArray) (nm:ByteArray):bY l (ss ++ [nm])=cO (bY l ss) nm:=by
  unfold bY;rw [List.foldl_append];rfl
theorem RWalk_c (V:aI) (A:Option Addr) (n c:Nat) (xs:List LN) (h:dP V A n xs) (hn:n≤1000) (B:Option Addr) (m e:Nat) (ss:List ByteArray) (hs:bZ V B m ss):Fn Tryz.prog 240 [.slice A n c,.slice B m e,.bool false] V (qM (bY (xs.map LN.n) ss)):=by
  have hW:=Stack_c V A n c xs h hn B m e ss hs false
  rw [uU m (by rw [hs.1.1];exact Nat.le_refl _),List.take_of_length_le (by rw [hs.1.1];exact Nat.le_refl _)] at hW
  exact hW
theorem bZ.of {V:aI} {A:Option Addr} {n:Nat} {l:List ByteArray} (h:eU V 1 A n (l.map Value.string)) (hl:l.length=n) (hm:n≤maxLen) (hs:∀ s∈l,s.size≤maxLen):bZ V A n l:=⟨eT.of_cells (by rw [pM];exact h) (fun _=>rfl) hl hm,hs⟩
theorem insP_mem {r:List PF} {l:List ByteArray} {x:ByteArray} (h:x∈mI r l):x∈l:=(outP_mem l x ((yN l).2.mem_iff.1 h)).1
theorem vX (l:List ByteArray):∀ u∈l.map Value.string,iO u=true:=fun u hu=>by
  obtain⟨s,_,rfl⟩:=List.mem_map.1 hu;rfl
attribute [local irreducible] AtQ GoC GoL GoW QO QP Fn RV bX aL VLe cG bT
theorem RList_c (V:aI) (A:Option Addr) (n c:Nat) (xs:List LN) (h:dP V A n xs) (hn:n≤1000) (B:Option Addr) (m e:Nat) (ss:List ByteArray) (hs:bZ V B m ss) (hm:m≤1000) (hnl:(dW (bY (xs.map LN.n) ss)).length≤1000000):Fn Tryz.prog 175 [.slice A n c,.slice B m e] V (NamesR (gQ (bY (xs.map LN.n) ss))):=by
  have hW:=RWalk_c V A n c xs h hn B m e ss hs
  have hwd:=walk_deep (xs.map LN.n) ss
  have hsl:=hs.1.1
  have hra:=h.1.1
  have hrl:=nM (xs.map LN.n) ss
  rw [List.length_map,hra] at hrl
  generalize bY (xs.map LN.n) ss=r at *
  rw [←tG]
  (refine aH Tryz.func175 rfl Tryz.ntmps175 rfl ?_;intro w0)
  repeat' (first|(refine aE ?_;first|(refine aD ?_;(refine aM rfl ⟨Tryz.call240⟩ rfl rfl (hW) ?_;rintro v V1 hV1 ⟨A1,n1,c1,fs,rfl,hF1,hc1,rfl⟩))|refine pu9 ?_)|refine bW ?_|fail)
  have hl:=hF1.1.1
  have hsz:=fnames_size hF1.2
  rw [List.length_map,hl] at hrl
  refine bQ (fun F V' L' m'=>∃ (i:Nat) (A':Option Addr) (n' c':Nat),VLe V1 V'∧[]=L'∧i≤n1∧bZ V' A' n' (mI (fs.map fz) (dW ((fs.map fz).take i)))∧n'≤c'∧m'=n1 - i∧F=[(0,.slice A n c),(1,.slice B m e),(5,.slice A1 n1 c1),(6,.slice A' n' c'),(7,.int .i64 (i:Int))]) (m:=n1) ⟨0,none,0,0,VLe.refl _,rfl,Nat.zero_le _,bZ.nil,Nat.le_refl _,by omega,rfl⟩ bH rfl sl9 ?_
  rintro F V' L' m' ⟨i,A',n',c',hV',rfl,hin,hO,hoc,rfl,rfl⟩
  by_cases hlt:i<n1
  · obtain⟨b,off,f,hA,hx,hc,hN⟩:=(hF1.le hV').at_ hlt
    obtain⟨_,_,_,hnk,ks,hK,hks⟩:=hN.inv
    have hk7:=fl_kids hc
    have hkl:=hK.len
    have hkm:=hK.max
    have hnm:=names_snoc hx
    have hle:=names_le (fs.map fz) (i+1)
    have hkn:f.x.ks.map Prod.fst=ks.map LK.nm:=by rw [hks,List.map_map];rfl
    rw [hkn] at hnm
    have hle2:(dW ((fs.map fz).take i)).length+f.x.nk≤1000000:=by
      rw [hnm,List.length_append,List.length_map,hkl] at hle;omega
    repeat' (first|(refine aE ?_;refine pu9 ?_)|refine bW ?_|(refine aA rfl ?_ ?_<;>intro hq<;>try exact no9))
    all_goals try exact no9
    refine bQ (fun F V2 L' m'=>∃ (j:Nat) (A2:Option Addr) (n2 c2:Nat),VLe V' V2∧[]=L'∧j≤f.x.nk∧bZ V2 A2 n2 (mI (fs.map fz) (dW ((fs.map fz).take i) ++ (ks.take j).map LK.nm))∧n2≤c2∧m'=f.x.nk - j∧F=[(0,.slice A n c),(1,.slice B m e),(5,.slice A1 n1 c1),(6,.slice A2 n2 c2),(7,.int .i64 (i:Int)),(8,.int .i64 (j:Int))]) (m:=f.x.nk) ⟨0,A',n',c',VLe.refl _,rfl,Nat.zero_le _,by rw [List.take_zero,List.map_nil,List.append_nil];exact hO,hoc,by omega,rfl⟩ bH rfl sl9 ?_
    clear hO hoc
    rintro F V2 L' m' ⟨j,A2,n2,c2,hV2,rfl,hjn,hO,hoc,rfl,rfl⟩
    have hol:=hO.1.1
    have hrl2:n2≤1000000:=by
      have h2:=insP_len (fs.map fz) (dW ((fs.map fz).take i) ++ (ks.take j).map LK.nm)
      rw [List.length_append,List.length_map,List.length_take,hkl] at h2;omega
    by_cases hlt2:j<f.x.nk
    · obtain⟨b1,o1,ek,hKA,he,hem,hce,c0,c1',hms,hne⟩:=(hK.le hV2).at_ hlt2
      have hkj:=kids_names he
      have hie:mI (fs.map fz) (dW ((fs.map fz).take i) ++ (ks.take (j+1)).map LK.nm)=mI (fs.map fz) ((dW ((fs.map fz).take i) ++ (ks.take j).map LK.nm) ++ [ek.nm]):=by rw [hkj,List.append_assoc]
      have hall:∀ s∈mI (fs.map fz) (dW ((fs.map fz).take i) ++ (ks.take (j+1)).map LK.nm),s.size≤maxLen:=fun s hs=>by
        have h1:=insP_mem hs
        rcases List.mem_append.1 h1 with h1|h1
        · refine hsz s ?_
          obtain⟨p,hp,hsp⟩:=List.mem_flatMap.1 h1
          exact List.mem_flatMap.2 ⟨p,List.mem_of_mem_take hp,hsp⟩
        · obtain⟨k,hk,rfl⟩:=List.mem_map.1 h1
          exact(hK.2 k (List.mem_of_mem_take hk)).1
      have hk7':=fA hV2 hk7
      generalize hog:mI (fs.map fz) (dW ((fs.map fz).take i) ++ (ks.take j).map LK.nm)=out at *
      have hsc:=((hs.le hV1).le hV').le hV2
      have hss:eU V2 1 B m (ss.map Value.string):=by rw [←pM];exact hsc.1.cells (fun _=>rfl)
      repeat' (first|(refine aE ?_;first|(refine aD ?_;(first|(refine aT rfl und_47 inf_9 rfl rfl rfl cU.nil dT (fW hss) bG (by omega) rfl rfl ?_;intro A3 c3 L3 hr3)|(refine aT rfl und_47 inf_9 rfl rfl rfl hr3 bF (cZ bB rfl) bG (by omega) rfl rfl ?_;intro A4 c4 L4 hr4)))|(refine cK ?_;(first|refine aR (bL und_68 siz_156 rfl hKA rfl hlt2) ?_|refine aR (bL und_313 siz_316 rfl hA rfl hlt) ?_))|(refine cJ ?_;(refine aP rfl und_47 siz_9 zec_9 rfl rfl rfl rfl rfl rfl rfl ?_;intro γ))|refine pu9 ?_)|refine gxb9 ?_|refine dX [7,9,10] rfl ?_|(refine aA rfl ?_ ?_<;>intro hq<;>try exact no9))
      have hcap4:=hr4.cap
      refine kR hr4 bF ?_
      intro V3 hV3 hc4
      have hdp:bZ V3 A4 (0+m+1) (ss ++ [ek.nm]):=bZ.of (by rw [List.map_append];exact hc4) (by simp [hsl]) (by unfold maxLen;omega) fun s hs'=>by
        rcases List.mem_append.1 hs' with h1|h1
        · exact hs.2 s h1
        · rw [List.mem_singleton.1 h1];exact hms
      have hpn:nN out ek.nm≤n2:=hol▸insN_le out ek.nm
      repeat' (first|(refine aE ?_;refine pu9 ?_)|refine bW ?_|fail)
      refine bQ (fun F V4 L' m'=>∃ (p:Nat),V3=V4∧[]=L'∧p≤nN out ek.nm∧m'=nN out ek.nm - p∧F=[(0,.slice A n c),(1,.slice B m e),(5,.slice A1 n1 c1),(6,.slice A2 n2 c2),(7,.int .i64 (i:Int)),(8,.int .i64 (j:Int)),(9,.string ek.nm),(10,.slice A4 (0+m+1) c4),(11,.int .i64 (p:Int))]) (m:=nN out ek.nm) ⟨0,rfl,rfl,Nat.zero_le _,by omega,rfl⟩ bH rfl sl9 ?_
      rintro F V4 L' m' ⟨p,rfl,rfl,hpl0,rfl,rfl⟩
      by_cases hlt3:p<nN out ek.nm
      · have hpl:p<n2:=by omega
        obtain⟨b2,o2,s,hA2,hxs,hcs,hss2⟩:=((hO.le hV3).at_ hpl)
        have hltn:=insN_lo hxs hlt3
        repeat' (first|(refine aE ?_;first|(refine cK ?_;refine aR (bL und_47 siz_9 rfl hA2 rfl hpl) ?_)|refine pu9 ?_)|refine pW ?_|(refine aJ rfl rfl rfl ?_ ?_<;>intro hq<;>try exact no9)|(refine aA rfl ?_ ?_<;>intro hq<;>try exact no9))
        all_goals first
          | exact no9
          | (exfalso;exact hq hltn)
          | skip
        all_goals (refine aZ _ (nN out ek.nm - (p+1)) ⟨p+1,rfl,rfl,by omega,rfl,rfl⟩ (by omega) bH sl9)
      · obtain rfl:p=nN out ek.nm:=by omega
        have hD:=RWalk_c V3 A n c xs (((h.le hV1).le hV').le (hV2.trans hV3)) hn A4 (0+m+1) c4 _ hdp
        rw [hwd] at hD
        have hO3:=hO.le hV3
        generalize hpg:nN out ek.nm=p at *
        have hs1:eU V3 1 A2 p ((out.take p).map Value.string):=by rw [←pM];exact(hO3.1.take hpn).cells (fun _=>rfl)
        have hs3:eU V3 1 (xL A2 c2 p 1) (n2 - p) ((out.drop p).map Value.string):=by rw [←pM];exact(hO3.1.drop hpn hoc).cells (fun _=>rfl)
        by_cases hz:(cO (fs.map fz) ek.nm).length=0
        · rw [ins_none hz,hog] at hie
          by_cases hpl:p<n2
          · obtain⟨b2,o2,s,hA2,hxs,hcs,hss2⟩:=hO3.at_ hpl
            have hnlt:=insN_at (out:=out) (nm:=ek.nm) (by rw [hpg];exact hxs)
            repeat' (first|(refine aE ?_;first|(refine aD ?_;(refine aM rfl ⟨Tryz.call240⟩ rfl rfl (hD) ?_;rintro v V5 hV5 ⟨A5,n5,c5,gs,rfl,hG5,hc5,hgz⟩;have hgl:=hG5.1.1;have hz2:=congrArg List.length hgz;rw [List.length_map,hgl] at hz2))|(refine cK ?_;refine aR (bL und_47 siz_9 rfl hA2 rfl hpl) ?_)|refine pu9 ?_)|refine dQ ?_|(refine aJ rfl rfl rfl ?_ ?_<;>intro hq<;>try exact no9)|(refine aA rfl ?_ ?_<;>intro hq<;>try exact no9))
            all_goals first
              | exact no9
              | (exfalso;exact hnlt hq)
              | (exfalso;rename_i hq2 hq3;exact hnlt hq2)
              | (exfalso;rename_i hq2 hq3 hq4;exact hnlt hq2)
              | (exfalso;exact hq rfl)
              | skip
            all_goals (refine aZ _ (f.x.nk - (j+1)) ⟨j+1,A2,n2,c2,vl9,rfl,by omega,by rw [hie];exact hO.le vl9,hoc,rfl,rfl⟩ (by omega) bH sl9)
          · have hnlt:¬p<n2:=hpl
            repeat' (first|(refine aE ?_;first|(refine aD ?_;(refine aM rfl ⟨Tryz.call240⟩ rfl rfl (hD) ?_;rintro v V5 hV5 ⟨A5,n5,c5,gs,rfl,hG5,hc5,hgz⟩;have hgl:=hG5.1.1;have hz2:=congrArg List.length hgz;rw [List.length_map,hgl] at hz2))|refine pu9 ?_)|refine nS ?_|(refine aJ rfl rfl rfl ?_ ?_<;>intro hq<;>try exact no9))
            all_goals first
              | exact no9
              | (exfalso;exact hnlt hq)
              | (exfalso;rename_i hq2 hq3;exact hnlt hq2)
              | (exfalso;rename_i hq2 hq3 hq4;exact hnlt hq2)
              | (exfalso;exact hq rfl)
              | skip
            all_goals (refine aZ _ (f.x.nk - (j+1)) ⟨j+1,A2,n2,c2,vl9,rfl,by omega,by rw [hie];exact hO.le vl9,hoc,rfl,rfl⟩ (by omega) bH sl9)
        · by_cases hpl:p<n2
          · obtain⟨b2,o2,s,hA2,hxs,hcs,hss2⟩:=hO3.at_ hpl
            have hnlt:=insN_at (out:=out) (nm:=ek.nm) (by rw [hpg];exact hxs)
            by_cases hne2:s=ek.nm
            · subst hne2
              rw [ins_is (by rw [hog,hpg];exact hxs),hog] at hie
              repeat' (first|(refine aE ?_;first|(refine aD ?_;(refine aM rfl ⟨Tryz.call240⟩ rfl rfl (hD) ?_;rintro v V5 hV5 ⟨A5,n5,c5,gs,rfl,hG5,hc5,hgz⟩;have hgl:=hG5.1.1;have hz2:=congrArg List.length hgz;rw [List.length_map,hgl] at hz2;have hcs5:=fA hV5 hcs))|(refine cK ?_;refine aR (bL und_47 siz_9 rfl hA2 rfl hpl) ?_)|refine pu9 ?_)|refine pW ?_|(refine aJ rfl rfl rfl ?_ ?_<;>intro hq<;>try exact no9)|(refine aA rfl ?_ ?_<;>intro hq<;>try exact no9))
              all_goals first
                | exact no9
                | (exfalso;exact hnlt hq)
                | (exfalso;rename_i hq2 hq3;exact hnlt hq2)
                | (exfalso;rename_i hq2 hq3 hq4;exact hnlt hq2)
                | (exfalso;exact hq rfl)
                | skip
              all_goals (refine aZ _ (f.x.nk - (j+1)) ⟨j+1,A2,n2,c2,vl9,rfl,by omega,by rw [hie];exact hO.le vl9,hoc,rfl,rfl⟩ (by omega) bH sl9)
            · rw [ins_put hz (by rw [hog,hpg,hxs];intro e;injection e with e;exact hne2 e),hog,hpg] at hie
              repeat' (first|(refine aE ?_;first|(refine aD ?_;(refine aM rfl ⟨Tryz.call240⟩ rfl rfl (hD) ?_;rintro v V5 hV5 ⟨A5,n5,c5,gs,rfl,hG5,hc5,hgz⟩;have hgl:=hG5.1.1;have hz2:=congrArg List.length hgz;rw [List.length_map,hgl] at hz2;have hcs5:=fA hV5 hcs))|(refine cK ?_;refine aR (bL und_47 siz_9 rfl hA2 rfl hpl) ?_)|refine pu9 ?_)|refine pW ?_|(refine aJ rfl rfl rfl ?_ ?_<;>intro hq<;>try exact no9)|(refine aA rfl ?_ ?_<;>intro hq<;>try exact no9))
              all_goals first
                | exact no9
                | (exfalso;exact hne2 hq)
                | (exfalso;exact hnlt hq)
                | skip
              all_goals
                have hs1':=hs1.le hV5
                have hs3':=hs3.le hV5
                have hon1:=vX (out.take p)
                have hon3:=vX (out.drop p)
                refine bM (id:=15) _ mixed (List.nil_sublist _) ?_;refine gt9 0 ?_;refine gt9 1 ?_;refine fP 2 rfl rfl (cE (h:=p) und_47 siz_9 rfl rfl (by omega)) ?_;refine gt9 4 ?_;refine gt9 7 ?_;refine gt9 8 ?_;refine fP 9 rfl rfl (kK (l:=p) und_47 siz_9 rfl rfl (by omega)) ?_;(refine dF (i:=3) (j:=5) (by kernel_rfl) rfl rfl rfl rfl vl9 vl9 bD ?_ ?_<;>first|((refine aT rfl und_47 inf_9 rfl rfl rfl cU.nil dT (fW hs1') bG (by omega) rfl rfl ?_;intro A7 c7 L7 hr7);refine aY (i:=5) rfl ?_;(refine aP rfl und_47 siz_9 zec_9 rfl rfl rfl rfl rfl rfl rfl ?_;intro γ);refine aY (i:=6) rfl ?_;(refine aT rfl und_47 inf_9 rfl rfl rfl hr7 bF (cZ bB rfl) bG (by omega) rfl rfl ?_;intro A8 c8 L8 hr8);refine aY (i:=10) rfl ?_;(refine aT rfl und_47 inf_9 rfl rfl rfl hr8 bF (fW hs3') bG (by omega) rfl rfl ?_;intro A9 c9 L9 hr9);refine gt9 11 ?_;refine aU (by kernel_rfl) vl9 vl9 bD ?_)|((refine aP rfl und_47 siz_9 zec_9 rfl rfl rfl rfl rfl rfl rfl ?_;intro γ);refine aY (i:=3) rfl ?_;(refine aT rfl und_47 inf_9 rfl rfl rfl cU.nil dT (fW hs1') bG (by omega) rfl rfl ?_;intro A7 c7 L7 hr7);refine aY (i:=6) rfl ?_;(refine aT rfl und_47 inf_9 rfl rfl rfl hr7 bF (cZ bB rfl) bG (by omega) rfl rfl ?_;intro A8 c8 L8 hr8);refine aY (i:=10) rfl ?_;(refine aT rfl und_47 inf_9 rfl rfl rfl hr8 bF (fW hs3') bG (by omega) rfl rfl ?_;intro A9 c9 L9 hr9);refine gt9 11 ?_;refine aU (by kernel_rfl) vl9 vl9 bD ?_))
                all_goals
                  have hcap9:=hr9.cap
                  refine eA hr9 bF ?_
                  intro V6 hV6 hc9
                  have hO9:bZ V6 A9 (0+p+1+(n2 - p)) (out.take p ++ ek.nm :: out.drop p):=bZ.of (by rw [List.map_append,List.map_cons,List.append_cons];exact hc9) (by simp [hol];omega) (by unfold maxLen;omega) (by rw [←hie];exact hall)
                  repeat' (first|(refine aE ?_;refine pu9 ?_)|refine bV ?_|fail)
                  refine aZ _ (f.x.nk - (j+1)) ⟨j+1,A9,_,c9,vl9,rfl,by omega,by rw [hie];exact hO9,hcap9,rfl,rfl⟩ (by omega) bH sl9

          · rw [ins_put hz (by rw [hog,hpg,List.getElem?_eq_none (by omega)];intro e;cases e),hog,hpg] at hie
            have hne2:¬False:=fun h=>h
            repeat' (first|(refine aE ?_;first|(refine aD ?_;(refine aM rfl ⟨Tryz.call240⟩ rfl rfl (hD) ?_;rintro v V5 hV5 ⟨A5,n5,c5,gs,rfl,hG5,hc5,hgz⟩;have hgl:=hG5.1.1;have hz2:=congrArg List.length hgz;rw [List.length_map,hgl] at hz2))|refine pu9 ?_)|refine nS ?_|(refine aJ rfl rfl rfl ?_ ?_<;>intro hq<;>try exact no9))
            all_goals first
              | exact no9
              | (exfalso;exact hne2 hq)
              | skip
            all_goals
              have hs1':=hs1.le hV5
              have hs3':=hs3.le hV5
              have hon1:=vX (out.take p)
              have hon3:=vX (out.drop p)
              refine bM (id:=15) _ mixed (List.nil_sublist _) ?_;refine gt9 0 ?_;refine gt9 1 ?_;refine fP 2 rfl rfl (cE (h:=p) und_47 siz_9 rfl rfl (by omega)) ?_;refine gt9 4 ?_;refine gt9 7 ?_;refine gt9 8 ?_;refine fP 9 rfl rfl (kK (l:=p) und_47 siz_9 rfl rfl (by omega)) ?_;(refine dF (i:=3) (j:=5) (by kernel_rfl) rfl rfl rfl rfl vl9 vl9 bD ?_ ?_<;>first|((refine aT rfl und_47 inf_9 rfl rfl rfl cU.nil dT (fW hs1') bG (by omega) rfl rfl ?_;intro A7 c7 L7 hr7);refine aY (i:=5) rfl ?_;(refine aP rfl und_47 siz_9 zec_9 rfl rfl rfl rfl rfl rfl rfl ?_;intro γ);refine aY (i:=6) rfl ?_;(refine aT rfl und_47 inf_9 rfl rfl rfl hr7 bF (cZ bB rfl) bG (by omega) rfl rfl ?_;intro A8 c8 L8 hr8);refine aY (i:=10) rfl ?_;(refine aT rfl und_47 inf_9 rfl rfl rfl hr8 bF (fW hs3') bG (by omega) rfl rfl ?_;intro A9 c9 L9 hr9);refine gt9 11 ?_;refine aU (by kernel_rfl) vl9 vl9 bD ?_)|((refine aP rfl und_47 siz_9 zec_9 rfl rfl rfl rfl rfl rfl rfl ?_;intro γ);refine aY (i:=3) rfl ?_;(refine aT rfl und_47 inf_9 rfl rfl rfl cU.nil dT (fW hs1') bG (by omega) rfl rfl ?_;intro A7 c7 L7 hr7);refine aY (i:=6) rfl ?_;(refine aT rfl und_47 inf_9 rfl rfl rfl hr7 bF (cZ bB rfl) bG (by omega) rfl rfl ?_;intro A8 c8 L8 hr8);refine aY (i:=10) rfl ?_;(refine aT rfl und_47 inf_9 rfl rfl rfl hr8 bF (fW hs3') bG (by omega) rfl rfl ?_;intro A9 c9 L9 hr9);refine gt9 11 ?_;refine aU (by kernel_rfl) vl9 vl9 bD ?_))
              all_goals
                have hcap9:=hr9.cap
                refine eA hr9 bF ?_
                intro V6 hV6 hc9
                have hO9:bZ V6 A9 (0+p+1+(n2 - p)) (out.take p ++ ek.nm :: out.drop p):=bZ.of (by rw [List.map_append,List.map_cons,List.append_cons];exact hc9) (by simp [hol];omega) (by unfold maxLen;omega) (by rw [←hie];exact hall)
                repeat' (first|(refine aE ?_;refine pu9 ?_)|refine bV ?_|fail)
                refine aZ _ (f.x.nk - (j+1)) ⟨j+1,A9,_,c9,vl9,rfl,by omega,by rw [hie];exact hO9,hcap9,rfl,rfl⟩ (by omega) bH sl9

    · obtain rfl:j=f.x.nk:=by omega
      have htk:ks.take f.x.nk=ks:=List.take_of_length_le (by omega)
      rw [htk,←hnm] at hO
      have hk7':=fA hV2 hk7
      repeat' (first|(refine aE ?_;first|(refine cK ?_;refine aR (bL und_313 siz_316 rfl hA rfl hlt) ?_)|refine pu9 ?_)|refine dR ?_|(refine aA rfl ?_ ?_<;>intro hq<;>try exact no9))
      all_goals try exact no9
      all_goals (refine aZ _ (n1 - (i+1)) ⟨i+1,A2,n2,c2,vl9,rfl,by omega,hO,hoc,rfl,rfl⟩ (by omega) bH sl9)
  · obtain rfl:i=n1:=by omega
    have htk:(fs.map fz).take i=fs.map fz:=List.take_of_length_le (by rw [List.length_map];omega)
    rw [htk] at hO
    repeat' (first|(refine aE ?_;refine pu9 ?_)|refine dR ?_|(refine aA rfl ?_ ?_<;>intro hq<;>try exact no9))
    all_goals
      (refine aQ Tryz.results175 (aB rfl) ?_)
      exact⟨_,_,_,rfl,hO,hoc⟩
end
section
inductive Deep:Nat→PN→Prop
  | mk {d:Nat} {h:Hd} {ks:PKs} (h2:∀ k∈ks,Deep d k.2):Deep (d+1) (.mk h ks)
theorem Deep.kid {d:Nat} {n:PN} (h:Deep (d+1) n):∀ k∈n.ks,Deep d k.2:=by
  cases h with|mk h2=>exact h2
theorem Deep.zero {n:PN} (h:Deep 0 n):False:=by cases h
theorem Deep.up {d:Nat} {n:PN} (h:Deep d n):∀ e,d≤e→Deep e n:=by
  induction h with
  | mk h2 ih =>
    intro e he
    obtain⟨e',rfl⟩:∃ e',e=e'+1:=⟨e - 1,by omega⟩
    exact .mk fun k hk=>ih k hk e' (by omega)
theorem wM {d:Nat} {r:List PF} {s:ByteArray} (h:∀ f∈r,Deep (d+1) f.1):∀ f∈cO r s,Deep d f.1:=fun f hf=>by
  obtain⟨g,hg,hgf⟩:=List.mem_filterMap.1 (gO hf)
  unfold gU at hgf
  split at hgf
  · cases h2:dV g.1.ks s with
    | none=>rw [h2] at hgf;cases hgf
    | some x=>rw [h2] at hgf;cases hgf;exact(h g hg).kid _ (lC h2)
  · cases hgf
def eQ (g:Hd→Int→Hd):Nat→List PF→PN
  | 0,_=>.mk hZ []
  | _+1,[]=>.mk hZ []
  | d+1,f :: t=>.mk (g { f.1.h with opq:=false } f.2) ((gQ (f :: t)).map fun nm=>(nm,eQ g d (cO (f :: t) nm)))
theorem names_few {r:List PF} (h:∀ f∈r,cA dZ f.1):(dW r).length≤r.length * 100000:=by
  unfold dW
  induction r with
  | nil=>simp
  | cons f r ih =>
    have h1:=ih fun g hg=>h g (by simp [hg])
    have h2:f.1.ks.length≤100000:=(h f (by simp)).here.2
    rw [List.flatMap_cons,List.length_append,List.length_map,List.length_cons]
    omega
end
section
def gI:Hd→Int→Hd:=fun h _=>h
theorem names_step {r:List PF} {x:ByteArray} (h:(cO r x).length≠0):x∈dW r:=by
  have h1:r.filterMap (gU x)≠[]:=fun e=>h (by unfold cO;rw [e];rfl)
  obtain⟨g,hg⟩:=List.exists_mem_of_ne_nil _ h1
  obtain⟨f,hf,hk⟩:=List.mem_filterMap.1 hg
  unfold gU at hk
  split at hk
  · cases h2:dV f.1.ks x with
    | none=>rw [h2] at hk;cases hk
    | some m=>exact List.mem_flatMap.2 ⟨f,hf,List.mem_map.2 ⟨_,lC h2,rfl⟩⟩
  · cases hk
theorem ups_nodup {l:List ByteArray} (h:UpS l):l.Nodup:=h.imp fun {a b} hab e=>by subst e;exact List.lt_irrefl _ hab
theorem ups_ext {a b:List ByteArray} (ha:UpS a) (hb:UpS b) (h:∀ x,x∈a↔x∈b):a=b:=by
  rw [←sortS_up ha,←sortS_up hb]
  exact sortS_perm ((List.perm_ext_iff_of_nodup (ups_nodup ha) (ups_nodup hb)).2 h)
theorem listP_is {r:List PF} {x:ByteArray}:x∈gQ r↔(cO r x).length≠0:=by
  rw [pP];exact⟨fun h=>h.2,fun h=>⟨names_step h,h⟩⟩
theorem listP_ext {r r2:List PF} (h:∀ x,(cO r x).length≠0↔(cO r2 x).length≠0):gQ r=gQ r2 :=
  ups_ext (listP_up _) (listP_up _) fun x=>by rw [listP_is,listP_is];exact h x
theorem dirs_app:∀ (K X:List PF),((∀ f∈K,f.1.h.kind=2∧f.1.h.opq=false)∧dI (K ++ X)=K ++ dI X)∨(∀ X,dI (K ++ X)=dI K)
  | [],X=>.inl ⟨by simp,rfl⟩
  | f :: K,X=>by
    by_cases hk:f.1.h.kind=2
    · cases ho:f.1.h.opq
      · rcases dirs_app K X with ⟨h1,h2⟩|h
        · refine .inl ⟨?_,?_⟩
          · intro g hg
            rcases List.mem_cons.1 hg with rfl|hg
            · exact⟨hk,ho⟩
            · exact h1 g hg
          · rw [List.cons_append,dI,if_pos hk,ho,if_neg (by decide),h2];rfl
        · refine .inr fun X=>?_
          rw [List.cons_append,dI,dI,if_pos hk,if_pos hk,ho,if_neg (by decide),if_neg (by decide),h X]
      · refine .inr fun X=>?_
        rw [List.cons_append,dI,dI,if_pos hk,if_pos hk,ho,if_pos rfl,if_pos rfl]
    · refine .inr fun X=>?_
      rw [List.cons_append,dI,dI,if_neg hk,if_neg hk]
theorem dirs_idem:∀ X:List PF,dI (dI X)=dI X
  | []=>rfl
  | f :: X=>by
    have:=dirs_idem X
    rw [dI]
    split
    · rename_i hk
      split
      · rename_i ho;rw [dI,if_pos hk,if_pos ho]
      · rename_i ho;rw [dI,if_pos hk,if_neg ho,this]
    · rfl
theorem dirs_head {X:List PF} {f:PF} {t:List PF} (h:dI X=f :: t):f.1.h.kind=2∧∃ X',X=f :: X':=by
  cases X with
  | nil=>cases h
  | cons g X =>
    rw [dI] at h
    split at h
    · rename_i hk
      split at h
      · injection h with h1 h2;subst h1;exact⟨hk,_,rfl⟩
      · injection h with h1 h2;subst h1;exact⟨hk,_,rfl⟩
    · cases h
theorem kN {f:PF} (h:f.1.h.kind=1) (X:List PF):dJ (f :: X)=[f]:=by rw [dJ,if_pos h]
theorem fY {f:PF} (h:¬f.1.h.kind=1) (X:List PF):dJ (f :: X)=dI (f :: X):=by rw [dJ,if_neg h]
theorem iJ {X:List PF} {f:PF} {t:List PF} (h:dJ X=f :: t):(f.1.h.kind=1∧t=[]∨f.1.h.kind=2)∧∃ X',X=f :: X':=by
  cases X with
  | nil=>cases h
  | cons g X =>
    by_cases hk:g.1.h.kind=1
    · rw [kN hk] at h;injection h with h1 h2;subst h1;exact⟨.inl ⟨hk,h2.symm⟩,_,rfl⟩
    · rw [fY hk] at h
      obtain⟨h1,h2⟩:=dirs_head h
      exact⟨.inr h1,h2⟩
theorem shown_idem (X:List PF):dJ (dJ X)=dJ X:=by
  cases X with
  | nil=>rfl
  | cons g X =>
    by_cases hk:g.1.h.kind=1
    · rw [kN hk,kN hk]
    · rw [fY hk]
      have:=dirs_idem (g :: X)
      cases h:dI (g :: X) with
      | nil=>rfl
      | cons f t =>
        have h1:=(dirs_head h).1
        rw [fY (by omega),←h,this]
theorem shown_self {f:PF} (hk:f.1.h.kind=1∨f.1.h.kind=2) (ho:f.1.h.opq=false):dJ [f]=[f]:=by
  rcases hk with hk|hk
  · exact kN hk _
  · rw [fY (by omega),dI,if_pos hk,ho,if_neg (by decide)];rfl
inductive Rel (d:Nat):List PF→List PF→Prop
  | same (r:List PF):Rel d r r
  | flat {P D:List PF} (h1:∀ f∈P,f.1.h.kind=2∧f.1.h.opq=false) (h2:dJ D=D) (h3:D≠[]) (h4:P≠[]→∃ f t,D=f :: t∧f.1.h.kind=2):Rel d (P ++ D) (P ++ [(eQ gI d D,0)])
theorem Rel.nil {d:Nat} {r r2:List PF} (h:Rel d r r2):r.length≠0↔r2.length≠0:=by
  cases h with
  | same=>exact Iff.rfl
  | flat h1 h2 h3 h4 =>
    have:=List.length_pos_iff.2 h3
    simp only [List.length_append,List.length_singleton];omega
theorem flat_h {d:Nat} {f:PF} {t:List PF} (h:Deep d f.1):(eQ gI d (f :: t)).h={ f.1.h with opq:=false }:=by
  cases d with
  | zero=>exact h.zero.elim
  | succ d=>rfl
def GX (d:Nat) (X:List PF):List PF:=if dJ X=[] then [] else [(eQ gI d (dJ X),0)]
theorem Rel.shown {d:Nat} (K X:List PF) (hX:∀ f∈X,Deep d f.1):Rel d (dJ (K ++ X)) (dJ (K ++ GX d X)):=by
  have hF:∀ f t,dJ X=f :: t→(eQ gI d (dJ X)).h={ f.1.h with opq:=false }:=fun f t e=>by
    rw [e];refine flat_h (hX f ?_)
    exact gO (by rw [e];simp)
  cases K with
  | nil =>
    rw [List.nil_append,List.nil_append];unfold GX
    cases hs:dJ X with
    | nil=>rw [if_pos rfl];exact .same _
    | cons f t =>
      rw [if_neg (by simp)]
      have hf:=hF f t hs
      have hk:=(iJ hs).1
      rw [hs] at hf
      rw [shown_self (by show (eQ gI d (f :: t)).h.kind=1∨(eQ gI d (f :: t)).h.kind=2;rw [hf];show f.1.h.kind=1∨f.1.h.kind=2;omega) (by show (eQ gI d (f :: t)).h.opq=false;rw [hf])]
      have:=Rel.flat (d:=d) (P:=[]) (D:=f :: t) (by simp) (by rw [←hs];exact shown_idem X) (by simp) (by simp)
      simpa using this
  | cons k K =>
    rw [List.cons_append,List.cons_append]
    by_cases hk:k.1.h.kind=1
    · rw [kN hk,kN hk];exact .same _
    · rw [fY hk,fY hk,←List.cons_append,←List.cons_append]
      rcases dirs_app (k :: K) X with ⟨h1,h2⟩|h
      · rcases dirs_app (k :: K) (GX d X) with ⟨_,h3⟩|h'
        · rw [h2,h3]
          cases hd:dI X with
          | nil =>
            have:dI (GX d X)=[]:=by
              unfold GX
              cases hs:dJ X with
              | nil=>rfl
              | cons f t =>
                rw [if_neg (by simp),←hs]
                have hf:=hF f t hs
                obtain⟨hk2,X',rfl⟩:=iJ hs
                have:¬f.1.h.kind=2:=fun e=>by
                  rw [dI,if_pos e] at hd
                  split at hd<;>cases hd
                rw [dI,if_neg (by show ¬(eQ gI d (dJ (f :: X'))).h.kind=2;rw [hf];exact this)]
            rw [this];exact .same _
          | cons f t =>
            obtain⟨hfk,X',rfl⟩:=dirs_head hd
            have hs:dJ (f :: X')=f :: t:=by rw [fY (by omega),hd]
            have hf:=hF f t hs
            have:GX d (f :: X')=[(eQ gI d (f :: t),0)]:=by unfold GX;rw [hs,if_neg (by simp)]
            rw [hs] at hf
            rw [this]
            have h5:dI [(eQ gI d (f :: t),(0:Int))]=[(eQ gI d (f :: t),0)]:=by
              rw [dI,if_pos (by show (eQ gI d (f :: t)).h.kind=2;rw [hf];exact hfk),if_neg (by show ¬(eQ gI d (f :: t)).h.opq=true;rw [hf];simp)];rfl
            rw [h5]
            exact .flat h1 (by rw [←hs];exact shown_idem _) (by simp) fun _=>⟨f,t,rfl,hfk⟩
        · have e1:=h' X;have e2:=h' (GX d X)
          rw [e1,e2];exact .same _
      · rw [h X,h (GX d X)];exact .same _
theorem lookK_map {α:Type} {p:ByteArray→PN} {s:ByteArray}:∀ l:List ByteArray,dV (l.map fun nm=>(nm,p nm)) s=if s∈l then some (p s) else none
  | []=>rfl
  | a :: l=>by
    rw [List.map_cons,dV]
    by_cases h:a=s
    · subst h;simp
    · rw [if_neg h,lookK_map (α:=α) l]
      have:s∈a :: l↔s∈l:=by simp [show ¬s=a from fun e=>h e.symm]
      by_cases hs:s∈l
      · rw [if_pos hs,if_pos (this.2 hs)]
      · rw [if_neg hs,if_neg (fun h=>hs (this.1 h))]
theorem flat_kid {d:Nat} {D:List PF} (h2:dJ D=D) (h3:D≠[]) (s:ByteArray):[((eQ gI (d+1) D,0):PF)].filterMap (gU s)=GX d (D.filterMap (gU s)):=by
  obtain⟨f,t,rfl⟩:∃ f t,D=f :: t:=List.exists_cons_of_ne_nil h3
  have hs:cO (f :: t) s=dJ ((f :: t).filterMap (gU s)):=rfl
  unfold GX
  rw [←hs]
  have hmem:s∈gQ (f :: t)↔¬cO (f :: t) s=[]:=by rw [listP_is];simp
  obtain⟨hk,_⟩:=iJ h2
  have e1:gU s (eQ gI (d+1) (f :: t),0)=if f.1.h.kind=2 then (if s∈gQ (f :: t) then some (eQ gI d (cO (f :: t) s),0) else none) else none:=by
    unfold gU
    show (if f.1.h.kind=2 then (dV ((gQ (f :: t)).map fun nm=>(nm,eQ gI d (cO (f :: t) nm))) s).map (fun x=>(x,(0:Int))) else none)=_
    rw [lookK_map (α:=Unit) (p:=fun nm=>eQ gI d (cO (f :: t) nm))]
    split
    · split<;>rfl
    · rfl
  rw [List.filterMap_cons,e1,List.filterMap_nil]
  rcases hk with ⟨hk,rfl⟩|hk
  · have:cO [f] s=[]:=by
      rw [hs,List.filterMap_cons,List.filterMap_nil]
      unfold gU
      rw [if_neg (by omega)];rfl
    rw [if_neg (by omega),this,if_pos rfl]
  · rw [if_pos hk]
    by_cases hm:cO (f :: t) s=[]
    · rw [if_neg (fun h=>hmem.1 h hm),if_pos hm]
    · rw [if_pos (hmem.2 hm),if_neg hm]
theorem kids_deep {d:Nat} {r:List PF} {s:ByteArray} (h:∀ f∈r,Deep (d+1) f.1):∀ f∈r.filterMap (gU s),Deep d f.1:=fun f hf=>by
  obtain⟨g,hg,hgf⟩:=List.mem_filterMap.1 hf
  unfold gU at hgf
  split at hgf
  · cases h2:dV g.1.ks s with
    | none=>rw [h2] at hgf;cases hgf
    | some x=>rw [h2] at hgf;cases hgf;exact(h g hg).kid _ (lC h2)
  · cases hgf
theorem Rel.step {d:Nat} {r r2:List PF} (h:Rel (d+1) r r2) (hd:∀ f∈r,Deep (d+1) f.1) (s:ByteArray):Rel d (cO r s) (cO r2 s):=by
  cases h with
  | same=>exact .same _
  | @flat P D h1 h2 h3 h4 =>
    unfold cO
    rw [List.filterMap_append,List.filterMap_append,flat_kid h2 h3]
    exact Rel.shown _ _ (kids_deep fun f hf=>hd f (by simp [hf]))
theorem Rel.head {d:Nat} {f f2:PF} {t t2:List PF} (h:Rel d (f :: t) (f2 :: t2)) (hd:Deep d f.1):({ f2.1.h with opq:=false }:Hd)={ f.1.h with opq:=false }:=by
  generalize he:f :: t=r at h
  generalize he2:f2 :: t2=r2 at h
  cases h with
  | same =>
    rw [←he2] at he;injection he with h1 h2;rw [h1]
  | @flat P D h1 h2 h3 h4 =>
    cases P with
    | nil =>
      rw [List.nil_append] at he he2
      injection he2 with h5 h6
      subst he
      rw [h5]
      show ({ (eQ gI d (f :: t)).h with opq:=false }:Hd)=_
      rw [flat_h hd]
    | cons p P =>
      rw [List.cons_append] at he he2
      injection he with h5 h6
      injection he2 with h7 h8
      rw [h5,h7]
theorem roots_deep {d:Nat} {l:List PN} (h:∀ x∈l,Deep d x):∀ f∈jE l,Deep d f.1:=fun f hf=>h _ (uA (gO hf))
end
section
theorem xZ:∀ ss:List ByteArray,ss.foldl cO []=[]
  | []=>rfl
  | s :: ss=>by rw [List.foldl_cons];exact xZ ss
end
section

@[ext] structure PR where
  i:Int
  o:Int
  c:Int
instance : DecidableEq PR := fun a b => decidable_of_iff (a.i = b.i ∧ a.o = b.o ∧ a.c = b.c) ⟨fun ⟨h1, h2, h3⟩ => PR.ext h1 h2 h3, fun h => by subst h; exact ⟨rfl, rfl, rfl⟩⟩

def fitsZ (f n:Int):Bool:=decide (0≤f) && decide (f≤65535) && decide (1≤n) && decide (n - 1≤65535 - f)
def meetsZ (a n b m:Int):Bool:=decide (a<b+m) && decide (b<a+n)
def okR (r:PR):Bool:=fitsZ r.i r.c && fitsZ r.o r.c
def oL (r s:PR):Bool:=meetsZ r.i r.c s.i s.c || meetsZ r.o r.c s.o s.c
def kU (seen:List PR):List PR→Int
  | []=>0
  | r :: l=>if okR r=false then 1 else if seen.any (oL r) then 3 else kU (seen ++ [r]) l
def cN (xs:List PR):Int:=if 4<xs.length then 2 else kU [] xs

def jS:List PR→Int→Option Int
  | [],_=>none
  | r :: l,x=>if r.i≤x∧x<r.i+r.c then some (r.o+(x - r.i)) else jS l x
def PR.swap (r:PR):PR:=⟨r.o,r.i,r.c⟩

def inR (r:PR) (x:Int):Prop:=r.i≤x∧x<r.i+r.c
def apart (r s:PR):Prop:=r.i+r.c≤s.i∨s.i+s.c≤r.i
def before (r s:PR):Prop:=r.i+r.c≤s.i
def bdR (r:PR):Prop:=0≤r.i∧1≤r.c∧r.i+r.c≤65536∧0≤r.o∧r.o+r.c≤65536
theorem okR_iff (r:PR):okR r=true↔bdR r:=by
  simp only [okR,fitsZ,bdR,Bool.and_eq_true,decide_eq_true_eq];omega

theorem look_some {l:List PR} {x y:Int} (h:jS l x=some y):∃ r∈l,inR r x∧y=r.o+(x - r.i):=by
  induction l with
  | nil=>cases h
  | cons r l ih =>
    rw [jS] at h
    by_cases hr:r.i≤x∧x<r.i+r.c
    · rw [if_pos hr] at h;injection h with h;exact⟨r,by simp,hr,h.symm⟩
    · rw [if_neg hr] at h
      obtain⟨s,hs,h2⟩:=ih h
      exact⟨s,by simp [hs],h2⟩
theorem look_in {l:List PR} (hp:l.Pairwise apart) {r:PR} (hr:r∈l) {x:Int} (hx:inR r x):jS l x=some (r.o+(x - r.i)):=by
  induction l with
  | nil=>cases hr
  | cons s l ih =>
    rw [List.pairwise_cons] at hp
    rw [jS]
    rcases List.mem_cons.1 hr with rfl|hr'
    · rw [if_pos (show r.i≤x∧x<r.i+r.c from hx)]
    · rw [if_neg,ih hp.2 hr']
      have h:=hp.1 r hr'
      unfold apart at h;unfold inR at hx;omega
theorem apart_symm {r s:PR} (h:apart r s):apart s r:=by unfold apart at *;omega
theorem meets_apart {r s:PR} (h1:bdR r) (h2:bdR s):oL r s=false↔apart r s∧apart r.swap s.swap:=by
  simp only [oL,meetsZ,apart,PR.swap,Bool.or_eq_false_iff,Bool.and_eq_false_iff,decide_eq_false_iff_not];unfold bdR at *;omega
theorem mfault_zero:∀ (l seen:List PR),kU seen l=0→(∀ r∈l,bdR r)∧(∀ r∈l,∀ s∈seen,oL r s=false)∧l.Pairwise fun s r=>oL r s=false
  | [],seen,_=>⟨by simp,by simp,List.Pairwise.nil⟩
  | r :: l,seen,h=>by
    rw [kU] at h
    split at h
    · omega
    · rename_i hok
      split at h
      · omega
      · rename_i hany
        obtain⟨a,b,c⟩:=mfault_zero l _ h
        have hr:bdR r:=(okR_iff r).1 (by simpa using hok)
        refine⟨fun s hs=>?_,fun s hs t ht=>?_,?_⟩
        · rcases List.mem_cons.1 hs with rfl|hs
          · exact hr
          · exact a s hs
        · rcases List.mem_cons.1 hs with rfl|hs
          · simp at hany;exact hany t ht
          · exact b s hs t (by simp [ht])
        · rw [List.pairwise_cons]
          exact⟨fun s hs=>b s hs r (by simp),c⟩
theorem jG {xs:List PR} (h:cN xs=0):xs.length≤4∧(∀ r∈xs,bdR r)∧xs.Pairwise apart∧(xs.map PR.swap).Pairwise apart:=by
  unfold cN at h
  split at h
  · omega
  · obtain⟨a,_,c⟩:=mfault_zero xs [] h
    refine⟨by omega,a,?_,?_⟩
    · refine c.imp_of_mem fun {s r} hs hr h=>?_
      exact apart_symm ((meets_apart (a r hr) (a s hs)).1 h).1
    · rw [List.pairwise_map]
      refine c.imp_of_mem fun {s r} hs hr h=>?_
      exact apart_symm ((meets_apart (a r hr) (a s hs)).1 h).2
theorem swap_bd {r:PR} (h:bdR r):bdR r.swap:=by unfold bdR PR.swap at *;simp only [];omega

end
section
abbrev prC (r:PR):List Value:=[.int .i64 r.i,.int .i64 r.o,.int .i64 r.c]
def inR64 (r:PR):Prop:=(-9223372036854775808≤r.i∧r.i≤9223372036854775807)∧(-9223372036854775808≤r.o∧r.o≤9223372036854775807)∧(-9223372036854775808≤r.c∧r.c≤9223372036854775807)
def tR (V:aI) (A:Option Addr) (n:Nat) (xs:List PR):Prop:=eT V 3 prC A n xs∧∀ r∈xs,inR64 r
theorem tR.le {V V':aI} {A:Option Addr} {n:Nat} {xs:List PR} (h:tR V A n xs) (hv:VLe V V'):tR V' A n xs:=⟨h.1.le hv,h.2⟩
theorem pr_len (r:PR):(prC r).length=3:=rfl
theorem tR.at_ {V:aI} {A:Option Addr} {n:Nat} {xs:List PR} (h:tR V A n xs) {k:Nat} (hk:k<n):∃ b off r,A=some ⟨b,off,none⟩∧xs[k]?=some r∧aL V b (off+k * 3) [.int .i64 r.i,.int .i64 r.o,.int .i64 r.c]∧V ⟨b,off+k * 3+0,none⟩=some (.int .i64 r.i)∧V ⟨b,off+k * 3+1,none⟩=some (.int .i64 r.o)∧V ⟨b,off+k * 3+2,none⟩=some (.int .i64 r.c)∧inR64 r:=by
  obtain⟨b,off,r,ha,hx,hc⟩:=h.1.at_ hk
  exact⟨b,off,r,ha,hx,hc,hc 0 _ rfl,hc 1 _ rfl,hc 2 _ rfl,h.2 r (List.mem_of_getElem? hx)⟩
theorem mfault_head {r:PR} {l seen:List PR}:kU seen (r :: l)=if okR r=false then 1 else if seen.any (oL r) then 3 else kU (seen ++ [r]) l:=rfl
theorem bdR_of {r:PR} (h:okR r=true):bdR r:=(okR_iff r).1 h
theorem rE {α:Type} {xs:List α} {k:Nat} {x:α} (h:xs[k]?=some x):xs.take (k+1)=xs.take k ++ [x]:=by rw [List.take_add_one,h];rfl
theorem okR_of {r:PR} (h1:0≤r.i∧r.i≤65535∧1≤r.c∧r.c - 1≤65535 - r.i) (h2:0≤r.o∧r.o≤65535∧1≤r.c∧r.c - 1≤65535 - r.o):okR r=true:=by
  rw [okR_iff];unfold bdR;omega
theorem okR_not {r:PR} (h:¬((0≤r.i∧r.i≤65535∧1≤r.c∧r.c - 1≤65535 - r.i)∧(0≤r.o∧r.o≤65535∧1≤r.c∧r.c - 1≤65535 - r.o))):okR r=false:=by
  cases hb:okR r
  · rfl
  · rw [okR_iff] at hb;unfold bdR at hb;omega
theorem meetR_iff (r s:PR):oL r s=true↔(r.i<s.i+s.c∧s.i<r.i+r.c)∨(r.o<s.o+s.c∧s.o<r.o+r.c):=by
  simp [oL,meetsZ]
theorem any_snoc {xs:List PR} {j:Nat} {r s:PR} (h:xs[j]?=some s) (h1:(xs.take j).any (oL r)=false) (h2:oL r s=false):(xs.take (j+1)).any (oL r)=false:=by
  rw [rE h,List.any_append,h1];simp [h2]
theorem any_hit {xs:List PR} {j k:Nat} {r s:PR} (h:xs[j]?=some s) (hj:j<k) (h2:oL r s=true):(xs.take k).any (oL r)=true:=by
  rw [List.any_eq_true]
  exact⟨s,List.mem_of_getElem? (i:=j) (by rw [List.getElem?_take,if_pos hj];exact h),h2⟩
attribute [local irreducible] AtQ GoC GoL GoW QO QP Fn RV bX aL VLe cG bT
theorem fits_c (V:aI) (f n:Int) (hn:n≤9223372036854775807):Fn Tryz.prog 136 [.int .i64 f,.int .i64 n] V fun v _=>v=.bool (decide (0≤f∧f≤65535∧1≤n∧n - 1≤65535 - f)):=by
  (refine aH Tryz.func136 rfl Tryz.ntmps136 rfl ?_;intro w0)
  repeat' (first|(refine aE ?_;refine pu9 ?_)|refine dQ ?_|(refine aJ rfl rfl rfl ?_ ?_<;>intro hq<;>try exact no9)|(refine bU rfl rfl rfl ?_ ?_<;>intro hq)|(refine aA rfl ?_ ?_<;>intro hq<;>try exact no9)|(refine bP rfl ?_ ?_<;>intro hq))
  all_goals (refine aQ Tryz.results136 (aB rfl) ?_)
  all_goals first|rfl|(refine congrArg Value.bool ?_;first|exact(decide_eq_true (by omega)).symm|exact(decide_eq_false (by omega)).symm|exact decide_eq_decide.2 (by omega))
theorem meets_c (V:aI) (a n b m:Int) (h1:0≤b+m∧b+m≤9223372036854775807) (h2:0≤a+n∧a+n≤9223372036854775807):Fn Tryz.prog 137 [.int .i64 a,.int .i64 n,.int .i64 b,.int .i64 m] V fun v _=>v=.bool (decide (a<b+m∧b<a+n)):=by
  (refine aH Tryz.func137 rfl Tryz.ntmps137 rfl ?_;intro w0)
  repeat' (first|(refine aE ?_;refine pu9 ?_)|refine dQ ?_|(refine aJ rfl rfl rfl ?_ ?_<;>intro hq<;>try exact no9)|(refine bU rfl rfl rfl ?_ ?_<;>intro hq)|(refine aA rfl ?_ ?_<;>intro hq<;>try exact no9)|(refine bP rfl ?_ ?_<;>intro hq))
  all_goals (refine aQ Tryz.results137 (aB rfl) ?_)
  all_goals first|rfl|(refine congrArg Value.bool ?_;first|exact(decide_eq_true (by omega)).symm|exact(decide_eq_false (by omega)).symm|exact decide_eq_decide.2 (by omega))
theorem span_c (V:aI) (f n:Int):Fn Tryz.prog 130 [.int .i64 f,.int .i64 n] V fun v _=>v=.tuple #[.int .i64 (if 0≤f∧f≤65535∧1≤n∧n - 1≤65535 - f then f else 0),.int .i64 (if 0≤f∧f≤65535∧1≤n∧n - 1≤65535 - f then f+n - 1 else 0),.bool (decide (0≤f∧f≤65535∧1≤n∧n - 1≤65535 - f))]:=by
  (refine aH Tryz.func130 rfl Tryz.ntmps130 rfl ?_;intro w0)
  repeat' (first|(refine aE ?_;refine pu9 ?_)|refine cD ?_|(refine aJ rfl rfl rfl ?_ ?_<;>intro hq<;>try exact no9)|(refine aA rfl ?_ ?_<;>intro hq<;>try exact no9))
  all_goals (refine eB Tryz.results130 (aB rfl) (aB rfl) (aB rfl) ?_)
  all_goals first
    | (rw [if_pos (by omega),if_pos (by omega),decide_eq_true (by omega)];done)
    | (rw [if_neg (by omega),if_neg (by omega),decide_eq_false (by omega)];done)
theorem common_c (V:aI) (a n b m:Int) (h1:0≤b+m∧b+m≤9223372036854775807) (h2:0≤a+n∧a+n≤9223372036854775807):Fn Tryz.prog 131 [.int .i64 a,.int .i64 n,.int .i64 b,.int .i64 m] V fun v _=>v=.bool (decide (a<b+m∧b<a+n)):=by
  (refine aH Tryz.func131 rfl Tryz.ntmps131 rfl ?_;intro w0)
  repeat' (first|(refine aE ?_;refine pu9 ?_)|refine bV ?_|(refine aJ rfl rfl rfl ?_ ?_<;>intro hq<;>try exact no9))
  all_goals (refine aQ Tryz.results131 (aB rfl) ?_)
  all_goals first|rfl|(refine congrArg Value.bool ?_;first|exact(decide_eq_true (by omega)).symm|exact(decide_eq_false (by omega)).symm|exact decide_eq_decide.2 (by omega))
theorem ToHost1_c (V:aI) (r:PR):Fn Tryz.prog 141 [.agg (prC r).toArray] V fun v _=>v=.tuple #[.int .i64 r.i,.int .i64 r.o]:=by
  (refine aH Tryz.func141 rfl Tryz.ntmps141 rfl ?_;intro w0)
  repeat' (first|(refine aE ?_;first|(refine al9 ?_;intro γ)|refine pu9 ?_)|refine bV ?_|refine bN (id:=1) mixed (by kernel_rfl) ?_)
  all_goals (refine bA Tryz.results141 (aB rfl) (aB rfl) ?_)
  all_goals rfl
theorem FromHost1_c (V:aI) (r:PR):Fn Tryz.prog 255 [.agg (prC r).toArray] V fun v _=>v=.tuple #[.int .i64 r.o,.int .i64 r.i]:=by
  (refine aH Tryz.func255 rfl Tryz.ntmps255 rfl ?_;intro w0)
  repeat' (first|(refine aE ?_;first|(refine al9 ?_;intro γ)|refine pu9 ?_)|refine bV ?_|refine bN (id:=1) mixed (by kernel_rfl) ?_)
  all_goals (refine bA Tryz.results255 (aB rfl) (aB rfl) ?_)
  all_goals rfl
end
section
attribute [local irreducible] AtQ GoC GoL GoW QO QP Fn RV bX aL VLe cG bT
theorem vL (xs:List PR):0≤cN xs∧cN xs≤3:=by
  have h:∀ (l seen:List PR),0≤kU seen l∧kU seen l≤3:=by
    intro l
    induction l with
    | nil=>intro seen;simp [kU]
    | cons r l ih =>
      intro seen
      rw [kU]
      (repeat' split)<;>first|omega|exact ih _
  unfold cN
  split
  · omega
  · exact h _ _
theorem yK (V:aI) (A:Option Addr) (n c:Nat) (xs:List PR) (h:tR V A n xs) (hcap:n≤c):Fn Tryz.prog 62 [.slice A n c] V fun v _=>v=bT (cN xs):=by
  have hm:=h.1.max
  have hl:=h.1.1
  (refine aH Tryz.func62 rfl Tryz.ntmps62 rfl ?_;intro w0)
  repeat' (first|(refine aE ?_;refine pu9 ?_)|refine bW ?_|(refine aA rfl ?_ ?_<;>intro hq<;>try exact no9))
  all_goals try ((refine aQ Tryz.results62 (aB rfl) ?_);refine dE 2 (by unfold cN;rw [if_pos (by omega)]))
  have hr:cN xs=kU [] xs:=by unfold cN;rw [if_neg (by omega)]
  rw [hr]
  refine bQ (fun F V' L' m=>∃ k:Nat,k≤n∧m=n - k∧V=V'∧L'=[]∧kU [] xs=kU (xs.take k) (xs.drop k)∧(∀ r∈xs.take k,bdR r)∧F=[(0,.slice A n c),(11,.slice A n c),(12,.int .i64 n),(13,.int .i64 k)]) (m:=n) ⟨0,Nat.zero_le _,by omega,rfl,rfl,by simp,by simp,rfl⟩ bH rfl sl9 ?_
  rintro F V' L' m ⟨k,hk,rfl,rfl,rfl,hg,hb,rfl⟩
  by_cases hlt:k<n
  · obtain⟨bb,off,r,rfl,hx,hc,c0,c1,c2,hr64⟩:=h.at_ hlt
    unfold inR64 at hr64
    rw [hg,kP hx,mfault_head]
    repeat' (first|(refine aE ?_;first|(refine aD ?_;refine aN rfl (aG ⟨Tryz.call136⟩ rfl (fits_c _ _ _ (by omega))) ?_)|(refine eG ?_;(first|refine aR (cE und_22 siz_197 rfl rfl (by omega)) ?_|refine aR (dS und_22 siz_197 rfl rfl (by omega)) ?_))|refine st9 ?_|(refine al9 ?_;intro γ)|refine pu9 ?_)|refine cV ?_|(refine aJ rfl rfl rfl ?_ ?_<;>intro hq<;>try exact no9)|(refine aA rfl ?_ ?_<;>intro hq<;>try exact no9))
    all_goals try ((refine aQ Tryz.results62 (aB rfl) ?_);exact dE 1 (by rw [if_pos (okR_not (by omega))]))
    · have hok:okR r=true:=okR_of (by omega) (by omega)
      have hbr:=bdR_of hok
      have hbr':=hbr
      unfold bdR at hbr
      rw [if_neg (by simp [hok])]
      refine bQ (fun F V' L' m=>∃ j:Nat,j≤k∧m=k - j∧V=V'∧L'=[⟨γ,_,prC r⟩]∧(xs.take j).any (oL r)=false∧F=[(0,.slice (some ⟨bb,off,none⟩) n c),(4,.pointer (some ⟨γ,0,none⟩)),(11,.slice (some ⟨bb,off,none⟩) n c),(12,.int .i64 n),(13,.int .i64 k),(35,.slice (some ⟨bb,off,none⟩) k c),(36,.int .i64 k),(37,.int .i64 j)]) (m:=k) ⟨0,Nat.zero_le _,by omega,rfl,rfl,by simp,rfl⟩ bH rfl sl9 ?_
      rintro F V' L' m ⟨j,hj,rfl,rfl,rfl,ha,rfl⟩
      by_cases hjk:j<k
      · obtain⟨bb',off',s,he,hy,hd,d0,d1,d2,hs64⟩:=h.at_ (k:=j) (by omega)
        cases he
        have hbs:bdR s:=hb s (List.mem_of_getElem? (i:=j) (by rw [List.getElem?_take,if_pos hjk];exact hy))
        unfold bdR at hbs
        have hmi:=meetR_iff r s
        repeat' (first|(refine aE ?_;first|(refine aD ?_;refine aN rfl (aG ⟨Tryz.call137⟩ rfl (meets_c _ _ _ _ _ (by omega) (by omega))) ?_)|refine st9 ?_|(refine al9 ?_;intro γ)|refine pu9 ?_)|refine cV ?_|(refine aJ rfl rfl rfl ?_ ?_<;>intro hq<;>try exact no9)|(refine aA rfl ?_ ?_<;>intro hq<;>try exact no9))
        all_goals try ((refine aQ Tryz.results62 (aB rfl) ?_);exact dE 3 (by rw [if_pos (any_hit hy hjk (hmi.2 (by omega)))]))
        · refine aZ _ (k - (j+1)) ⟨j+1,by omega,rfl,rfl,rfl,any_snoc hy ha ?_,rfl⟩ (by omega) bH sl9
          cases hmb:oL r s
          · rfl
          · rw [hmi] at hmb;omega
      · have hjk:j=k:=by omega
        subst hjk
        repeat' (first|(refine aE ?_;refine pu9 ?_)|refine dR ?_|(refine aA rfl ?_ ?_<;>intro hq<;>try exact no9))
        refine aZ _ (n - (j+1)) ⟨j+1,by omega,rfl,rfl,rfl,?_,?_,rfl⟩ (by omega) bH sl9
        · rw [ha,if_neg (by simp),rE hx]
        · rw [rE hx]
          intro s hs
          rcases List.mem_append.1 hs with hs|hs
          · exact hb s hs
          · simp at hs;subst hs;exact hbr'
  · repeat' (first|(refine aE ?_;refine pu9 ?_)|refine dR ?_|(refine aA rfl ?_ ?_<;>intro hq<;>try exact no9))
    (refine aQ Tryz.results62 (aB rfl) ?_)
    rw [hg,List.drop_eq_nil_of_le (by omega)]
    exact errV_nil rfl
theorem nU (V:aI) (A:Option Addr) (n c:Nat) (xs:List PR) (h:tR V A n xs):Fn Tryz.prog 58 [.slice A n c] V fun v _=>v=.int .i64 (cN xs):=by
  have hm:=h.1.max
  have hl:=h.1.1
  (refine aH Tryz.func58 rfl Tryz.ntmps58 rfl ?_;intro w0)
  repeat' (first|(refine aE ?_;refine pu9 ?_)|refine bW ?_|(refine aA rfl ?_ ?_<;>intro hq<;>try exact no9))
  all_goals try ((refine aQ Tryz.results58 (aB rfl) ?_);rw [show cN xs=2 by unfold cN;rw [if_pos (by omega)]])
  have hr:cN xs=kU [] xs:=by unfold cN;rw [if_neg (by omega)]
  rw [hr]
  refine bQ (fun F V' L' m=>∃ k:Nat,k≤n∧m=n - k∧V=V'∧L'=[]∧kU [] xs=kU (xs.take k) (xs.drop k)∧(∀ r∈xs.take k,bdR r)∧F=[(0,.slice A n c),(3,.int .i64 k)]) (m:=n) ⟨0,Nat.zero_le _,by omega,rfl,rfl,by simp,by simp,rfl⟩ bH rfl sl9 ?_
  rintro F V' L' m ⟨k,hk,rfl,rfl,rfl,hg,hb,rfl⟩
  by_cases hlt:k<n
  · obtain⟨bb,off,r,rfl,hx,hc,c0,c1,c2,hr64⟩:=h.at_ hlt
    unfold inR64 at hr64
    rw [hg,kP hx,mfault_head]
    repeat' (first|(refine aE ?_;first|(refine aD ?_;refine aN rfl (aG ⟨Tryz.call130⟩ rfl (span_c _ _ _)) ?_)|refine pu9 ?_)|refine cV ?_|(refine aJ rfl rfl rfl ?_ ?_<;>intro hq<;>try exact no9)|(refine aA rfl ?_ ?_<;>intro hq<;>try exact no9)|refine bN (id:=6) mixed (by kernel_rfl) ?_|refine bN (id:=7) mixed (by kernel_rfl) ?_)
    all_goals try ((refine aQ Tryz.results58 (aB rfl) ?_);rw [if_pos (okR_not (by omega))])
    · have hok:okR r=true:=okR_of (by omega) (by omega)
      have hbr:=bdR_of hok
      have hbr':=hbr
      unfold bdR at hbr
      rw [if_neg (by simp [hok])]
      refine bQ (fun F V' L' m=>∃ j:Nat,j≤k∧m=k - j∧V=V'∧L'=[]∧(xs.take j).any (oL r)=false∧F=[(0,.slice (some ⟨bb,off,none⟩) n c),(3,.int .i64 k),(10,.int .i64 j)]) (m:=k) ⟨0,Nat.zero_le _,by omega,rfl,rfl,by simp,rfl⟩ bH rfl sl9 ?_
      rintro F V' L' m ⟨j,hj,rfl,rfl,rfl,ha,rfl⟩
      by_cases hjk:j<k
      · obtain⟨bb',off',s,he,hy,hd,d0,d1,d2,hs64⟩:=h.at_ (k:=j) (by omega)
        cases he
        have hbs:bdR s:=hb s (List.mem_of_getElem? (i:=j) (by rw [List.getElem?_take,if_pos hjk];exact hy))
        unfold bdR at hbs
        have hmi:=meetR_iff r s
        repeat' (first|(refine aE ?_;first|(refine aD ?_;refine aN rfl (aG ⟨Tryz.call131⟩ rfl (common_c _ _ _ _ _ (by omega) (by omega))) ?_)|refine pu9 ?_)|refine cV ?_|(refine aJ rfl rfl rfl ?_ ?_<;>intro hq<;>try exact no9)|(refine aA rfl ?_ ?_<;>intro hq<;>try exact no9)|refine bN (id:=13) mixed (by kernel_rfl) ?_)
        all_goals try ((refine aQ Tryz.results58 (aB rfl) ?_);rw [if_pos (any_hit hy hjk (hmi.2 (by omega)))])
        · refine aZ _ (k - (j+1)) ⟨j+1,by omega,rfl,rfl,rfl,any_snoc hy ha ?_,rfl⟩ (by omega) bH sl9
          cases hmb:oL r s
          · rfl
          · rw [hmi] at hmb;omega
      · have hjk:j=k:=by omega
        subst hjk
        repeat' (first|(refine aE ?_;refine pu9 ?_)|refine dR ?_|(refine aA rfl ?_ ?_<;>intro hq<;>try exact no9))
        refine aZ _ (n - (j+1)) ⟨j+1,by omega,rfl,rfl,rfl,?_,?_,rfl⟩ (by omega) bH sl9
        · rw [ha,if_neg (by simp),rE hx]
        · rw [rE hx]
          intro s hs
          rcases List.mem_append.1 hs with hs|hs
          · exact hb s hs
          · simp at hs;subst hs;exact hbr'
  · repeat' (first|(refine aE ?_;refine pu9 ?_)|refine dR ?_|(refine aA rfl ?_ ?_<;>intro hq<;>try exact no9))
    (refine aQ Tryz.results58 (aB rfl) ?_)
    rw [hg,List.drop_eq_nil_of_le (by omega)]
    rfl
end
section
def qB (o:Option Int):Value:=.tuple #[.int .i64 (o.getD 0),.bool o.isSome]
def eS (xs:List PR) (x:Int):Option Int:=if cN xs=0 then jS xs x else none
def jM (xs:List PR) (x:Int):Option Int:=if cN xs=0 then jS (xs.map PR.swap) x else none
theorem look_hit {r:PR} {l:List PR} {x:Int} (h:r.i≤x∧x<r.i+r.c):jS (r :: l) x=some (r.o+(x - r.i)):=by rw [jS,if_pos h]
theorem look_miss {r:PR} {l:List PR} {x:Int} (h:¬(r.i≤x∧x<r.i+r.c)):jS (r :: l) x=jS l x:=by rw [jS,if_neg h]
theorem wN {o:Option Int} {y z:Int} (h:o=some y) (e:z=y):Value.tuple #[.int .i64 z,.bool true]=qB o:=by subst h e;rfl
theorem sI {o:Option Int} (h:o=none):Value.tuple #[.int .i64 0,.bool false]=qB o:=by subst h;rfl
attribute [local irreducible] AtQ GoC GoL GoW QO QP Fn RV bX aL VLe cG bT
theorem outside_c (V:aI) (A:Option Addr) (n c:Nat) (xs:List PR) (h:tR V A n xs) (hb:∀ r∈xs,bdR r) (x:Int):Fn Tryz.prog 223 [.slice A n c,.int .i64 x] V fun v _=>v=qB (jS xs x):=by
  have hm:=h.1.max
  have hl:=h.1.1
  (refine aH Tryz.func223 rfl Tryz.ntmps223 rfl ?_;intro w0)
  repeat' (first|(refine aE ?_;refine pu9 ?_)|refine bW ?_|fail)
  refine bQ (fun F V' L' m=>∃ k:Nat,k≤n∧m=n - k∧V=V'∧L'=[]∧jS xs x=jS (xs.drop k) x∧F=[(0,.slice A n c),(1,.int .i64 x),(6,.int .i64 k)]) (m:=n) ⟨0,Nat.zero_le _,by omega,rfl,rfl,by simp,rfl⟩ bH rfl sl9 ?_
  rintro F V' L' m ⟨k,hk,rfl,rfl,rfl,hg,rfl⟩
  by_cases hlt:k<n
  · obtain⟨bb,off,r,rfl,hx,hc,c0,c1,c2,hr64⟩:=h.at_ hlt
    have hbr:=hb r (List.mem_of_getElem? hx)
    unfold bdR at hbr
    have e1:(0≤r.i∧r.i≤65535∧1≤r.c∧r.c - 1≤65535 - r.i)=True:=eq_true (by omega)
    have hsp:=span_c V r.i r.c
    simp only [e1,if_true,decide_true] at hsp
    rw [hg,kP hx]
    repeat' (first|(refine aE ?_;first|(refine aD ?_;refine aN rfl (aG ⟨Tryz.call130⟩ rfl (hsp)) ?_)|refine pu9 ?_)|refine cV ?_|(refine aJ rfl rfl rfl ?_ ?_<;>intro hq<;>try exact no9)|(refine aA rfl ?_ ?_<;>intro hq<;>try exact no9)|refine bN (id:=4) mixed (by kernel_rfl) ?_)
    all_goals try ((refine bA Tryz.results223 (aB rfl) (aB rfl) ?_);exact wN (look_hit (by omega)) (by omega))
    all_goals
      refine aZ _ (n - (k+1)) ⟨k+1,by omega,rfl,rfl,rfl,?_,rfl⟩ (by omega) bH sl9
      rw [look_miss (by omega)]
  · repeat' (first|(refine aE ?_;refine pu9 ?_)|refine dR ?_|(refine aA rfl ?_ ?_<;>intro hq<;>try exact no9))
    (refine bA Tryz.results223 (aB rfl) (aB rfl) ?_)
    rw [hg,List.drop_eq_nil_of_le (by omega)]
    exact sI rfl
theorem inside_c (V:aI) (A:Option Addr) (n c:Nat) (xs:List PR) (h:tR V A n xs) (hb:∀ r∈xs,bdR r) (x:Int):Fn Tryz.prog 222 [.slice A n c,.int .i64 x] V fun v _=>v=qB (jS (xs.map PR.swap) x):=by
  have hm:=h.1.max
  have hl:=h.1.1
  (refine aH Tryz.func222 rfl Tryz.ntmps222 rfl ?_;intro w0)
  repeat' (first|(refine aE ?_;refine pu9 ?_)|refine bW ?_|fail)
  refine bQ (fun F V' L' m=>∃ k:Nat,k≤n∧m=n - k∧V=V'∧L'=[]∧jS (xs.map PR.swap) x=jS ((xs.drop k).map PR.swap) x∧F=[(0,.slice A n c),(1,.int .i64 x),(6,.int .i64 k)]) (m:=n) ⟨0,Nat.zero_le _,by omega,rfl,rfl,by simp,rfl⟩ bH rfl sl9 ?_
  rintro F V' L' m ⟨k,hk,rfl,rfl,rfl,hg,rfl⟩
  by_cases hlt:k<n
  · obtain⟨bb,off,r,rfl,hx,hc,c0,c1,c2,hr64⟩:=h.at_ hlt
    have hbr:=hb r (List.mem_of_getElem? hx)
    unfold bdR at hbr
    have e1:(0≤r.o∧r.o≤65535∧1≤r.c∧r.c - 1≤65535 - r.o)=True:=eq_true (by omega)
    have hsp:=span_c V r.o r.c
    simp only [e1,if_true,decide_true] at hsp
    rw [hg,kP hx,List.map_cons]
    repeat' (first|(refine aE ?_;first|(refine aD ?_;refine aN rfl (aG ⟨Tryz.call130⟩ rfl (hsp)) ?_)|refine pu9 ?_)|refine cV ?_|(refine aJ rfl rfl rfl ?_ ?_<;>intro hq<;>try exact no9)|(refine aA rfl ?_ ?_<;>intro hq<;>try exact no9)|refine bN (id:=4) mixed (by kernel_rfl) ?_)
    all_goals try ((refine bA Tryz.results222 (aB rfl) (aB rfl) ?_);exact wN (look_hit (by simp only [PR.swap];omega)) (by simp only [PR.swap]))
    all_goals
      refine aZ _ (n - (k+1)) ⟨k+1,by omega,rfl,rfl,rfl,?_,rfl⟩ (by omega) bH sl9
      rw [look_miss (by simp only [PR.swap];omega)]
  · repeat' (first|(refine aE ?_;refine pu9 ?_)|refine dR ?_|(refine aA rfl ?_ ?_<;>intro hq<;>try exact no9))
    (refine bA Tryz.results222 (aB rfl) (aB rfl) ?_)
    rw [hg,List.drop_eq_nil_of_le (by omega)]
    exact sI rfl
theorem nR (V:aI) (A:Option Addr) (n c:Nat) (xs:List PR) (h:tR V A n xs) (x:Int):Fn Tryz.prog 135 [.slice A n c,.int .i64 x] V fun v _=>v=qB (eS xs x):=by
  have hbd:=vL xs
  (refine aH Tryz.func135 rfl Tryz.ntmps135 rfl ?_;intro w0)
  by_cases h0:cN xs=0
  · repeat' (first|(refine aE ?_;first|(refine aD ?_;(first|refine aN rfl (aG ⟨Tryz.call58⟩ rfl (nU _ _ _ _ xs h)) ?_|refine aN rfl (aG ⟨Tryz.call223⟩ rfl (outside_c _ _ _ _ xs h (jG h0).2.1 x)) ?_))|refine pu9 ?_)|refine dQ ?_|(refine aJ rfl rfl rfl ?_ ?_<;>intro hq<;>try exact no9)|(refine bU rfl rfl rfl ?_ ?_<;>intro hq)|(refine aA rfl ?_ ?_<;>intro hq<;>try exact no9)|(refine bP rfl ?_ ?_<;>intro hq))
    all_goals (refine bA Tryz.results135 (aB rfl) (aB rfl) ?_)
    all_goals (rw [eS,if_pos h0];rfl)
  · repeat' (first|(refine aE ?_;first|(refine aD ?_;refine aN rfl (aG ⟨Tryz.call58⟩ rfl (nU _ _ _ _ xs h)) ?_)|refine pu9 ?_)|refine dQ ?_|(refine aJ rfl rfl rfl ?_ ?_<;>intro hq<;>try exact no9)|(refine bU rfl rfl rfl ?_ ?_<;>intro hq)|(refine aA rfl ?_ ?_<;>intro hq<;>try exact no9)|(refine bP rfl ?_ ?_<;>intro hq))
    all_goals (refine bA Tryz.results135 (aB rfl) (aB rfl) ?_)
    all_goals (rw [eS,if_neg h0];rfl)
theorem fE (V:aI) (A:Option Addr) (n c:Nat) (xs:List PR) (h:tR V A n xs) (x:Int):Fn Tryz.prog 134 [.slice A n c,.int .i64 x] V fun v _=>v=qB (jM xs x):=by
  have hbd:=vL xs
  (refine aH Tryz.func134 rfl Tryz.ntmps134 rfl ?_;intro w0)
  by_cases h0:cN xs=0
  · repeat' (first|(refine aE ?_;first|(refine aD ?_;(first|refine aN rfl (aG ⟨Tryz.call58⟩ rfl (nU _ _ _ _ xs h)) ?_|refine aN rfl (aG ⟨Tryz.call222⟩ rfl (inside_c _ _ _ _ xs h (jG h0).2.1 x)) ?_))|refine pu9 ?_)|refine dQ ?_|(refine aJ rfl rfl rfl ?_ ?_<;>intro hq<;>try exact no9)|(refine bU rfl rfl rfl ?_ ?_<;>intro hq)|(refine aA rfl ?_ ?_<;>intro hq<;>try exact no9)|(refine bP rfl ?_ ?_<;>intro hq))
    all_goals (refine bA Tryz.results134 (aB rfl) (aB rfl) ?_)
    all_goals (rw [jM,if_pos h0];rfl)
  · repeat' (first|(refine aE ?_;first|(refine aD ?_;refine aN rfl (aG ⟨Tryz.call58⟩ rfl (nU _ _ _ _ xs h)) ?_)|refine pu9 ?_)|refine dQ ?_|(refine aJ rfl rfl rfl ?_ ?_<;>intro hq<;>try exact no9)|(refine bU rfl rfl rfl ?_ ?_<;>intro hq)|(refine aA rfl ?_ ?_<;>intro hq<;>try exact no9)|(refine bP rfl ?_ ?_<;>intro hq))
    all_goals (refine bA Tryz.results134 (aB rfl) (aB rfl) ?_)
    all_goals (rw [jM,if_neg h0];rfl)
theorem through_c (V:aI) (A:Option Addr) (n c:Nat) (xs:List PR) (h:tR V A n xs) (hcap:n≤c) (x:Int) (f:FuncId) (g:PR→PR) (he:kW Tryz.prog f) (hg1:∀ r,(g r).c=r.c) (hg2:∀ r,bdR r→bdR (g r))
    (hs:∀ V r,Fn Tryz.prog f [.agg (prC r).toArray] V fun v _=>v=.tuple #[.int .i64 (g r).i,.int .i64 (g r).o]) :
    Fn Tryz.prog 140 [.slice A n c,.int .i64 x,.func (.func f) #[] #[]] V fun v _=>v=qB (if cN xs=0 then jS (xs.map g) x else none):=by
  have hm:=h.1.max
  have hl:=h.1.1
  (refine aH Tryz.func140 rfl Tryz.ntmps140 rfl ?_;intro w0)
  by_cases h0:cN xs=0
  · rw [if_pos h0]
    have hb:=(jG h0).2.1
    repeat' (first|(refine aE ?_;first|(refine aD ?_;refine aN rfl (aG ⟨Tryz.call62⟩ rfl (yK _ _ _ _ xs h hcap)) ?_)|refine pu9 ?_)|refine bW ?_|(refine aA rfl ?_ ?_<;>intro hq<;>try exact no9))
    refine bQ (fun F V' L' m=>∃ k:Nat,k≤n∧m=n - k∧V=V'∧L'=[]∧jS (xs.map g) x=jS ((xs.drop k).map g) x∧F=[(1,.int .i64 x),(2,.func (.func f) #[] #[]),(15,.slice A n c),(16,.int .i64 n),(17,.int .i64 k)]) (m:=n) ⟨0,Nat.zero_le _,by omega,rfl,rfl,by simp,rfl⟩ bH rfl sl9 ?_
    rintro F V' L' m ⟨k,hk,rfl,rfl,rfl,hg,rfl⟩
    by_cases hlt:k<n
    · obtain⟨bb,off,r,rfl,hx,hc,c0,c1,c2,hr64⟩:=h.at_ hlt
      have hbr:=hb r (List.mem_of_getElem? hx)
      have hbg:=hg2 r hbr
      have hgc:=hg1 r
      unfold bdR at hbr hbg
      rw [hg,kP hx,List.map_cons]
      repeat' (first|(refine aE ?_;first|(refine aD ?_;refine aN rfl (q_callv he rfl rfl (hs _ r)) ?_)|refine st9 ?_|(refine al9 ?_;intro γ)|refine pu9 ?_)|refine cV ?_|(refine aJ rfl rfl rfl ?_ ?_<;>intro hq<;>try exact no9)|(refine aA rfl ?_ ?_<;>intro hq<;>try exact no9))
      all_goals try ((refine bA Tryz.results140 (aB rfl) (aB rfl) ?_);exact wN (look_hit (by omega)) (by omega))
      all_goals
        refine aZ _ (n - (k+1)) ⟨k+1,by omega,rfl,rfl,rfl,?_,rfl⟩ (by omega) bH sl9
        rw [look_miss (by omega)]
    · repeat' (first|(refine aE ?_;refine pu9 ?_)|refine dR ?_|(refine aA rfl ?_ ?_<;>intro hq<;>try exact no9))
      (refine bA Tryz.results140 (aB rfl) (aB rfl) ?_)
      rw [hg,List.drop_eq_nil_of_le (by omega)]
      exact sI rfl
  · rw [if_neg h0]
    repeat' (first|(refine aE ?_;first|(refine aD ?_;refine aN rfl (aG ⟨Tryz.call62⟩ rfl (yK _ _ _ _ xs h hcap)) ?_)|refine pu9 ?_)|refine bV ?_|(refine aA rfl ?_ ?_<;>intro hq<;>try exact no9))
    all_goals (refine bA Tryz.results140 (aB rfl) (aB rfl) ?_)
    all_goals exact sI rfl
theorem mL (V:aI) (A:Option Addr) (n c:Nat) (xs:List PR) (h:tR V A n xs) (hcap:n≤c) (x:Int):Fn Tryz.prog 66 [.slice A n c,.int .i64 x] V fun v _=>v=qB (eS xs x):=by
  have ht:=through_c V A n c xs h hcap x 141 (fun r=>r) ⟨Tryz.call141⟩ (fun _=>rfl) (fun _ hr=>hr) (fun V r=>ToHost1_c V r)
  rw [show (xs.map fun r=>r)=xs by simp] at ht
  (refine aH Tryz.func66 rfl Tryz.ntmps66 rfl ?_;intro w0)
  repeat' (first|(refine aE ?_;first|(refine aD ?_;refine aN rfl (aG ⟨Tryz.call140⟩ rfl (ht)) ?_)|refine pu9 ?_)|refine dQ ?_|(refine aJ rfl rfl rfl ?_ ?_<;>intro hq<;>try exact no9)|(refine bU rfl rfl rfl ?_ ?_<;>intro hq)|(refine aA rfl ?_ ?_<;>intro hq<;>try exact no9)|(refine bP rfl ?_ ?_<;>intro hq))
  all_goals (refine bA Tryz.results66 (aB rfl) (aB rfl) ?_)
  all_goals rfl
theorem lM (V:aI) (A:Option Addr) (n c:Nat) (xs:List PR) (h:tR V A n xs) (hcap:n≤c) (x:Int):Fn Tryz.prog 206 [.slice A n c,.int .i64 x] V fun v _=>v=qB (jM xs x):=by
  have ht:=through_c V A n c xs h hcap x 255 PR.swap ⟨Tryz.call255⟩ (fun _=>rfl) (fun _ hr=>swap_bd hr) (fun V r=>FromHost1_c V r)
  (refine aH Tryz.func206 rfl Tryz.ntmps206 rfl ?_;intro w0)
  repeat' (first|(refine aE ?_;first|(refine aD ?_;refine aN rfl (aG ⟨Tryz.call140⟩ rfl (ht)) ?_)|refine pu9 ?_)|refine dQ ?_|(refine aJ rfl rfl rfl ?_ ?_<;>intro hq<;>try exact no9)|(refine bU rfl rfl rfl ?_ ?_<;>intro hq)|(refine aA rfl ?_ ?_<;>intro hq<;>try exact no9)|(refine bP rfl ?_ ?_<;>intro hq))
  all_goals (refine bA Tryz.results206 (aB rfl) (aB rfl) ?_)
  all_goals rfl
end
section
def hz (out:Bool) (m:List PR) (x:Int):Option Int:=if out=true then eS m x else jM m x
def cT (out:Bool) (us gs:List PR) (n:PN):Option PN :=
  match hz out us n.h.user,hz out gs n.h.group with
  | some u,some g=>some (.mk { n.h with user:=u,group:=g } n.ks)
  | _,_=>none
theorem lL {out:Bool} {us gs:List PR} {n:PN} {u g:Int} (h1:hz out us n.h.user=some u) (h2:hz out gs n.h.group=some g):cT out us gs n=some (.mk { n.h with user:=u,group:=g } n.ks):=by unfold cT;rw [h1,h2]
theorem rG {out:Bool} {us gs:List PR} {n:PN} (h1:hz out us n.h.user=none):cT out us gs n=none:=by unfold cT;rw [h1]
theorem rC {out:Bool} {us gs:List PR} {n:PN} (h1:hz out gs n.h.group=none):cT out us gs n=none:=by unfold cT;rw [h1];cases hz out us n.h.user<;>rfl
def movF (r:Option PN):Int:=if r.isSome=true then 0 else 11
def jT (n:PN):PN:=.mk { n.h with opq:=false } []
def nG (l:List PN) (us gs:List PR) (ss:List ByteArray) (u:PN):PN×Int :=
  match bY l ss with
  | []=>(u,0)
  | f :: _=>if f.2=0 then (u,0) else match cT true us gs (jT f.1) with
    | none=>(pnZ,11)
    | some x=>if pF false x u ss=0 then (pN false x u ss,0) else (pnZ,pF false x u ss)
def upK (l:List PN) (us gs:List PR) (ss:List ByteArray) (u0:PN):Nat→PN×Int
  | 0=>(u0,0)
  | i+1=>if (upK l us gs ss u0 i).2=0 then nG l us gs (ss.take (i+1)) (upK l us gs ss u0 i).1 else upK l us gs ss u0 i
theorem upK_stop {l:List PN} {us gs:List PR} {ss:List ByteArray} {u0:PN} {i:Nat} (h:¬(upK l us gs ss u0 i).2=0):∀ d,upK l us gs ss u0 (i+d)=upK l us gs ss u0 i
  | 0=>rfl
  | d+1=>by
    have:=upK_stop h d
    rw [←Nat.add_assoc,upK,this,if_neg h]
theorem sM {l:List PN} {us gs:List PR} {ss:List ByteArray} {u0:PN} {i:Nat} (h:(upK l us gs ss u0 i).2=0):upK l us gs ss u0 (i+1)=nG l us gs (ss.take (i+1)) (upK l us gs ss u0 i).1:=by rw [upK,if_pos h]
def upP (l:List PN) (us gs:List PR) (ss:List ByteArray):PN×Int :=
  if bY l ss=[] then (pnZ,5) else upK l us gs ss (l.headD pnZ) ss.length
theorem upOne_bd (l:List PN) (us gs:List PR) (ss:List ByteArray) (u:PN):0≤(nG l us gs ss u).2∧(nG l us gs ss u).2≤11:=by
  unfold nG
  split
  · simp
  · split
    · simp
    · split
      · simp
      · rename_i x _
        have:=uR false x ss u
        split
        · simp
        · simp only [];omega
theorem upK_bd (l:List PN) (us gs:List PR) (ss:List ByteArray) (u0:PN):∀ i,0≤(upK l us gs ss u0 i).2∧(upK l us gs ss u0 i).2≤11
  | 0=>by simp [upK]
  | i+1=>by
    rw [upK];split
    · exact upOne_bd _ _ _ _ _
    · exact upK_bd l us gs ss u0 i
theorem oQ (l:List PN) (us gs:List PR) (ss:List ByteArray):0≤(upP l us gs ss).2∧(upP l us gs ss).2≤11:=by
  unfold upP;split
  · simp
  · exact upK_bd _ _ _ _ _ _
def fB (b:Nat) (h:Hd) (ks:PKs):Prop:=h.attrs.length≤1000∧ks.length≤b
theorem iD {b c:Nat} (h:b≤c) {hd:Hd} {ks:PKs} (k:fB b hd ks):fB c hd ks:=⟨k.1,Nat.le_trans k.2 h⟩
theorem gK {b:Nat} (h:b≤50000) {hd:Hd} {ks:PKs} (k:fB b hd ks):sX hd ks:=⟨by have:=k.1;omega,Nat.le_trans k.2 h⟩
theorem edit_bound {b:Nat} {x:PN} {hd:Hd} {ks:PKs} {s:ByteArray} (hn:fB b hd ks) (hk:∀ k∈ks,cA (fB (b+1)) k.2) (hx:cA (fB (b+1)) x):cA (fB (b+1)) (.mk hd (gB false x ks s)):=by
  refine .mk ⟨hn.1,?_⟩ fun k hk2=>?_
  · have:=edit_len (cut:=false) (x:=x) (ks:=ks) (s:=s)
    have:=hn.2
    omega
  · rcases pI hk2 with h|h
    · exact hk k h
    · rw [h];exact hx
theorem rX {b:Nat} {x:PN} (hx:cA (fB b) x):∀ {l:List ByteArray} {n:PN},pF false x n l=0→cA (fB b) n→cA (fB (b+1)) (pN false x n l)
  | [],n,h,_=>by simp [pF] at h
  | [s],n,_,hm=>by
    rw [pN]
    exact edit_bound hm.here (fun k hk=>(hm.kid hk).imp fun _ _=>iD (by omega)) (hx.imp fun _ _=>iD (by omega))
  | s :: t :: l,n,h,hm=>by
    obtain⟨hk,m,hm2,h3⟩:=vN.1 h
    rw [vD hm2]
    exact edit_bound hm.here (fun k hk=>(hm.kid hk).imp fun _ _=>iD (by omega)) (rX hx h3 (hm.kid (lC hm2)))
end
section
structure LM where
  A:Option Addr
  n:Nat
  c:Nat
  us:List PR
  B:Option Addr
  m:Nat
  e:Nat
  gs:List PR
abbrev lmV (M:LM):Value:=.agg #[.slice M.A M.n M.c,.slice M.B M.m M.e]
def mS (V:aI) (M:LM):Prop:=tR V M.A M.n M.us∧M.n≤M.c∧tR V M.B M.m M.gs∧M.m≤M.e
theorem mS.le {V V':aI} (hv:VLe V V') {M:LM} (h:mS V M):mS V' M:=⟨⟨h.1.1.le hv,h.1.2⟩,h.2.1,⟨h.2.2.1.1.le hv,h.2.2.1.2⟩,h.2.2.2⟩
def MovR (r:Option PN) (ev:Value) (v:Value) (V':aI):Prop:=∃ y:LN,v=.tuple #[lnV y,ev]∧aX V' y∧y.n=r.getD pnZ
theorem MovR.none {V:aI} {r:Option PN} {ev:Value} (h:r=.none):MovR r ev (.tuple #[lnV lnZ,ev]) V:=⟨lnZ,rfl,aX.zero,by rw [h];rfl⟩
theorem sD {V:aI} {x:LN} {u g:Int} (h:aX V x):aX V { x with h:={ x.h with user:=u,group:=g } }:=by
  obtain⟨h1,h2,h3,h4,es,h5,h6⟩:=h.inv
  exact aX.of (es:=es) h1 h2 h3 h4 h5 h6
attribute [local irreducible] AtQ GoC GoL GoW QO QP Fn RV bX aL VLe cG bT
theorem rW (V:aI) (M:LM) (hM:mS V M) (x:LN) (hx:aX V x) (hsm:cA dZ x.n):Fn Tryz.prog 57 [lmV M,lnV x] V (MovR (cT true M.us M.gs x.n) (bT (movF (cT true M.us M.gs x.n)))):=by
  cases h1:eS M.us x.h.user with
  | none =>
    have hm:=rG (out:=true) (us:=M.us) (gs:=M.gs) (n:=x.n) h1
    have c1:=fun V' (hV:VLe V V')=>(by have h:=mL V' M.A M.n M.c M.us (hM.le hV).1 hM.2.1 x.h.user;rw [h1] at h;exact h:Fn Tryz.prog 66 [.slice M.A M.n M.c,.int .i64 x.h.user] V' fun v _=>v=.tuple #[.int .i64 0,.bool false])
    have c2:=fun V' (hV:VLe V V')=>mL V' M.B M.m M.e M.gs (hM.le hV).2.2.1 hM.2.2.2 x.h.group
    rw [hm]
    (refine aH Tryz.func57 rfl Tryz.ntmps57 rfl ?_;intro w0)
    repeat' (first|(refine aE ?_;first|(refine aD ?_;(first|refine aN rfl (aG ⟨Tryz.call66⟩ rfl (c1 _ vl9)) ?_|refine aN rfl (aG ⟨Tryz.call66⟩ rfl (c2 _ vl9)) ?_|(refine aM rfl ⟨Tryz.call54⟩ rfl rfl (Own_v _ x (hx.le vl9) hsm) ?_;rintro v V2 hV2 ⟨y,rfl,hyn,hyN⟩)))|refine st9 ?_|(refine al9 ?_;intro γ)|refine pu9 ?_)|refine cD ?_|fail)
    all_goals (refine bA Tryz.results57 (aS agg_70 rfl bB (by exact rfl)) (aB rfl) ?_)
    all_goals exact(by rw [←dU (e:=11) (by decide)];exact MovR.none rfl)
  | some u =>
    have c1:=fun V' (hV:VLe V V')=>(by have h:=mL V' M.A M.n M.c M.us (hM.le hV).1 hM.2.1 x.h.user;rw [h1] at h;exact h:Fn Tryz.prog 66 [.slice M.A M.n M.c,.int .i64 x.h.user] V' fun v _=>v=.tuple #[.int .i64 u,.bool true])
    cases h2:eS M.gs x.h.group with
    | none =>
      have hm:=rC (out:=true) (us:=M.us) (gs:=M.gs) (n:=x.n) h2
      have c2:=fun V' (hV:VLe V V')=>(by have h:=mL V' M.B M.m M.e M.gs (hM.le hV).2.2.1 hM.2.2.2 x.h.group;rw [h2] at h;exact h:Fn Tryz.prog 66 [.slice M.B M.m M.e,.int .i64 x.h.group] V' fun v _=>v=.tuple #[.int .i64 0,.bool false])
      rw [hm]
      (refine aH Tryz.func57 rfl Tryz.ntmps57 rfl ?_;intro w0)
      repeat' (first|(refine aE ?_;first|(refine aD ?_;(first|refine aN rfl (aG ⟨Tryz.call66⟩ rfl (c1 _ vl9)) ?_|refine aN rfl (aG ⟨Tryz.call66⟩ rfl (c2 _ vl9)) ?_|(refine aM rfl ⟨Tryz.call54⟩ rfl rfl (Own_v _ x (hx.le vl9) hsm) ?_;rintro v V2 hV2 ⟨y,rfl,hyn,hyN⟩)))|refine st9 ?_|(refine al9 ?_;intro γ)|refine pu9 ?_)|refine cD ?_|fail)
      all_goals (refine bA Tryz.results57 (aS agg_70 rfl bB (by exact rfl)) (aB rfl) ?_)
      all_goals exact(by rw [←dU (e:=11) (by decide)];exact MovR.none rfl)
    | some g =>
      have hm:=lL (out:=true) (us:=M.us) (gs:=M.gs) (n:=x.n) h1 h2
      have c2:=fun V' (hV:VLe V V')=>(by have h:=mL V' M.B M.m M.e M.gs (hM.le hV).2.2.1 hM.2.2.2 x.h.group;rw [h2] at h;exact h:Fn Tryz.prog 66 [.slice M.B M.m M.e,.int .i64 x.h.group] V' fun v _=>v=.tuple #[.int .i64 g,.bool true])
      rw [hm]
      (refine aH Tryz.func57 rfl Tryz.ntmps57 rfl ?_;intro w0)
      repeat' (first|(refine aE ?_;first|(refine aD ?_;(first|refine aN rfl (aG ⟨Tryz.call66⟩ rfl (c1 _ vl9)) ?_|refine aN rfl (aG ⟨Tryz.call66⟩ rfl (c2 _ vl9)) ?_|(refine aM rfl ⟨Tryz.call54⟩ rfl rfl (Own_v _ x (hx.le vl9) hsm) ?_;rintro v V2 hV2 ⟨y,rfl,hyn,hyN⟩)))|refine st9 ?_|(refine al9 ?_;intro γ)|refine pu9 ?_)|refine cD ?_|fail)
      all_goals (refine bA Tryz.results57 (aS agg_70 rfl bB (by exact rfl)) (aB rfl) ?_)
      all_goals exact⟨{ y with h:={ y.h with user:=u,group:=g } },by rw [show movF (some _)=0 from rfl,dA];rfl,sD (hyN.le vl9),by show PN.mk { y.h with user:=u,group:=g } y.ks=_;rw [show y.h=x.h from congrArg PN.h hyn,show y.ks=x.ks from congrArg PN.ks hyn];rfl⟩
theorem sB (V:aI) (M:LM) (hM:mS V M) (x:LN) (hx:aX V x):Fn Tryz.prog 61 [lmV M,lnV x,.bool true] V (MovR (cT true M.us M.gs x.n) (.bool (cT true M.us M.gs x.n).isSome)):=by
  cases h1:eS M.us x.h.user with
  | none =>
    have hm:=rG (out:=true) (us:=M.us) (gs:=M.gs) (n:=x.n) h1
    have c1:=fun V' (hV:VLe V V')=>(by have h:=nR V' M.A M.n M.c M.us (hM.le hV).1 x.h.user;rw [h1] at h;exact h:Fn Tryz.prog 135 [.slice M.A M.n M.c,.int .i64 x.h.user] V' fun v _=>v=.tuple #[.int .i64 0,.bool false])
    have c2:=fun V' (hV:VLe V V')=>nR V' M.B M.m M.e M.gs (hM.le hV).2.2.1 x.h.group
    rw [hm]
    (refine aH Tryz.func61 rfl Tryz.ntmps61 rfl ?_;intro w0)
    repeat' (first|(refine aE ?_;first|(refine aD ?_;(first|refine aN rfl (aG ⟨Tryz.call135⟩ rfl (c1 _ vl9)) ?_|refine aN rfl (aG ⟨Tryz.call135⟩ rfl (c2 _ vl9)) ?_|refine aN rfl (aG ⟨Tryz.call134⟩ rfl (fE _ M.A M.n M.c M.us (hM.le vl9).1 x.h.user)) ?_|refine aN rfl (aG ⟨Tryz.call134⟩ rfl (fE _ M.B M.m M.e M.gs (hM.le vl9).2.2.1 x.h.group)) ?_))|refine st9 ?_|(refine al9 ?_;intro γ)|refine pu9 ?_)|refine cD ?_|fail)
    all_goals (refine bA Tryz.results61 (aS agg_70 rfl bB (by exact rfl)) (aB rfl) ?_)
    all_goals exact MovR.none rfl
  | some u =>
    have c1:=fun V' (hV:VLe V V')=>(by have h:=nR V' M.A M.n M.c M.us (hM.le hV).1 x.h.user;rw [h1] at h;exact h:Fn Tryz.prog 135 [.slice M.A M.n M.c,.int .i64 x.h.user] V' fun v _=>v=.tuple #[.int .i64 u,.bool true])
    cases h2:eS M.gs x.h.group with
    | none =>
      have hm:=rC (out:=true) (us:=M.us) (gs:=M.gs) (n:=x.n) h2
      have c2:=fun V' (hV:VLe V V')=>(by have h:=nR V' M.B M.m M.e M.gs (hM.le hV).2.2.1 x.h.group;rw [h2] at h;exact h:Fn Tryz.prog 135 [.slice M.B M.m M.e,.int .i64 x.h.group] V' fun v _=>v=.tuple #[.int .i64 0,.bool false])
      rw [hm]
      (refine aH Tryz.func61 rfl Tryz.ntmps61 rfl ?_;intro w0)
      repeat' (first|(refine aE ?_;first|(refine aD ?_;(first|refine aN rfl (aG ⟨Tryz.call135⟩ rfl (c1 _ vl9)) ?_|refine aN rfl (aG ⟨Tryz.call135⟩ rfl (c2 _ vl9)) ?_|refine aN rfl (aG ⟨Tryz.call134⟩ rfl (fE _ M.A M.n M.c M.us (hM.le vl9).1 x.h.user)) ?_|refine aN rfl (aG ⟨Tryz.call134⟩ rfl (fE _ M.B M.m M.e M.gs (hM.le vl9).2.2.1 x.h.group)) ?_))|refine st9 ?_|(refine al9 ?_;intro γ)|refine pu9 ?_)|refine cD ?_|fail)
      all_goals (refine bA Tryz.results61 (aS agg_70 rfl bB (by exact rfl)) (aB rfl) ?_)
      all_goals exact MovR.none rfl
    | some g =>
      have hm:=lL (out:=true) (us:=M.us) (gs:=M.gs) (n:=x.n) h1 h2
      have c2:=fun V' (hV:VLe V V')=>(by have h:=nR V' M.B M.m M.e M.gs (hM.le hV).2.2.1 x.h.group;rw [h2] at h;exact h:Fn Tryz.prog 135 [.slice M.B M.m M.e,.int .i64 x.h.group] V' fun v _=>v=.tuple #[.int .i64 g,.bool true])
      rw [hm]
      (refine aH Tryz.func61 rfl Tryz.ntmps61 rfl ?_;intro w0)
      repeat' (first|(refine aE ?_;first|(refine aD ?_;(first|refine aN rfl (aG ⟨Tryz.call135⟩ rfl (c1 _ vl9)) ?_|refine aN rfl (aG ⟨Tryz.call135⟩ rfl (c2 _ vl9)) ?_|refine aN rfl (aG ⟨Tryz.call134⟩ rfl (fE _ M.A M.n M.c M.us (hM.le vl9).1 x.h.user)) ?_|refine aN rfl (aG ⟨Tryz.call134⟩ rfl (fE _ M.B M.m M.e M.gs (hM.le vl9).2.2.1 x.h.group)) ?_))|refine st9 ?_|(refine al9 ?_;intro γ)|refine pu9 ?_)|refine cD ?_|fail)
      all_goals (refine bA Tryz.results61 (aS agg_70 rfl bB (by exact rfl)) (aB rfl) ?_)
      all_goals exact⟨{ x with h:={ x.h with user:=u,group:=g } },rfl,sD (hx.le vl9),rfl⟩
def seenV (upper:Bool) (us gs:List PR) (h:Hd):Value:=.agg #[.bool (decide (h.kind=2)),.int .i64 h.mode,.int .i64 (if upper=true then (jM us h.user).getD 65534 else if (eS us h.user).isSome=true then h.user else 65534),.int .i64 (if upper=true then (jM gs h.group).getD 65534 else if (eS gs h.group).isSome=true then h.group else 65534),.bool (if upper=true then (jM us h.user).isSome && (jM gs h.group).isSome else (eS us h.user).isSome && (eS gs h.group).isSome)]
theorem Seen_c (V:aI) (M:LM) (hM:mS V M) (x:LN) (hx:aX V x) (upper:Bool):Fn Tryz.prog 260 [lmV M,lnV x,.bool upper] V fun v _=>v=seenV upper M.us M.gs x.h:=by
  cases upper with
  | true =>
    have c1:=fun V' (hV:VLe V V')=>lM V' M.A M.n M.c M.us (hM.le hV).1 hM.2.1 x.h.user
    have c2:=fun V' (hV:VLe V V')=>lM V' M.B M.m M.e M.gs (hM.le hV).2.2.1 hM.2.2.2 x.h.group
    unfold seenV
    generalize jM M.us x.h.user=o1 at *
    generalize jM M.gs x.h.group=o2 at *
    unfold qB at c1 c2
    rcases o1 with _|u<;>rcases o2 with _|g
    all_goals
      (refine aH Tryz.func260 rfl Tryz.ntmps260 rfl ?_;intro w0)
      repeat' (first|(refine aE ?_;first|(refine aD ?_;(first|refine aN rfl (aG ⟨Tryz.call206⟩ rfl (c1 _ vl9)) ?_|refine aN rfl (aG ⟨Tryz.call206⟩ rfl (c2 _ vl9)) ?_))|refine st9 ?_|(refine al9 ?_;intro γ)|refine pu9 ?_)|refine cD ?_|fail)
      all_goals first
        | (exact absurd hq (by decide))
        | ((refine aQ Tryz.results260 (aS agg_212 rfl bB (by exact rfl)) ?_);rfl)
  | false =>
    have c1:=fun V' (hV:VLe V V')=>mL V' M.A M.n M.c M.us (hM.le hV).1 hM.2.1 x.h.user
    have c2:=fun V' (hV:VLe V V')=>mL V' M.B M.m M.e M.gs (hM.le hV).2.2.1 hM.2.2.2 x.h.group
    unfold seenV
    generalize eS M.us x.h.user=o1 at *
    generalize eS M.gs x.h.group=o2 at *
    unfold qB at c1 c2
    rcases o1 with _|u<;>rcases o2 with _|g
    all_goals
      (refine aH Tryz.func260 rfl Tryz.ntmps260 rfl ?_;intro w0)
      repeat' (first|(refine aE ?_;first|(refine aD ?_;(first|refine aN rfl (aG ⟨Tryz.call66⟩ rfl (c1 _ vl9)) ?_|refine aN rfl (aG ⟨Tryz.call66⟩ rfl (c2 _ vl9)) ?_))|refine st9 ?_|(refine al9 ?_;intro γ)|refine pu9 ?_)|refine cD ?_|fail)
      all_goals first
        | (exact absurd hq (by decide))
        | ((refine aQ Tryz.results260 (aS agg_212 rfl bB (by exact rfl)) ?_);rfl)
theorem RSeen_c (V:aI) (M:LM) (hM:mS V M) (x:LN) (hx:aX V x) (upper:Bool):Fn Tryz.prog 242 [lmV M,lnV x,.bool upper] V fun v _=>v=seenV upper M.us M.gs x.h:=by
  cases upper with
  | true =>
    have c1:=fun V' (hV:VLe V V')=>fE V' M.A M.n M.c M.us (hM.le hV).1 x.h.user
    have c2:=fun V' (hV:VLe V V')=>fE V' M.B M.m M.e M.gs (hM.le hV).2.2.1 x.h.group
    unfold seenV
    generalize jM M.us x.h.user=o1 at *
    generalize jM M.gs x.h.group=o2 at *
    unfold qB at c1 c2
    rcases o1 with _|u<;>rcases o2 with _|g
    all_goals
      (refine aH Tryz.func242 rfl Tryz.ntmps242 rfl ?_;intro w0)
      repeat' (first|(refine aE ?_;first|(refine aD ?_;(first|refine aN rfl (aG ⟨Tryz.call134⟩ rfl (c1 _ vl9)) ?_|refine aN rfl (aG ⟨Tryz.call134⟩ rfl (c2 _ vl9)) ?_))|refine st9 ?_|(refine al9 ?_;intro γ)|refine pu9 ?_)|refine cD ?_|fail)
      all_goals first
        | (exact absurd hq (by decide))
        | ((refine aQ Tryz.results242 (aS agg_212 rfl bB (by exact rfl)) ?_);rfl)
  | false =>
    have c1:=fun V' (hV:VLe V V')=>nR V' M.A M.n M.c M.us (hM.le hV).1 x.h.user
    have c2:=fun V' (hV:VLe V V')=>nR V' M.B M.m M.e M.gs (hM.le hV).2.2.1 x.h.group
    unfold seenV
    generalize eS M.us x.h.user=o1 at *
    generalize eS M.gs x.h.group=o2 at *
    unfold qB at c1 c2
    rcases o1 with _|u<;>rcases o2 with _|g
    all_goals
      (refine aH Tryz.func242 rfl Tryz.ntmps242 rfl ?_;intro w0)
      repeat' (first|(refine aE ?_;first|(refine aD ?_;(first|refine aN rfl (aG ⟨Tryz.call135⟩ rfl (c1 _ vl9)) ?_|refine aN rfl (aG ⟨Tryz.call135⟩ rfl (c2 _ vl9)) ?_))|refine st9 ?_|(refine al9 ?_;intro γ)|refine pu9 ?_)|refine cD ?_|fail)
      all_goals first
        | (exact absurd hq (by decide))
        | ((refine aQ Tryz.results242 (aS agg_212 rfl bB (by exact rfl)) ?_);rfl)
end
section
def PutY (p:PN) (v:Value) (V':aI):Prop:=∃ z:LN,v=.tuple #[lnV z,bT 0]∧aX V' z∧z.n=p
theorem qV.y {cut:Bool} {x n:PN} {l:List ByteArray} (h:pF cut x n l=0) {v:Value} {V':aI} (k:qV cut x n l v V'):PutY (pN cut x n l) v V':=by
  obtain⟨z,h1,h2,h3⟩:=k
  rw [h] at h1;rw [show tS cut x n l=pN cut x n l from if_pos h] at h3
  exact⟨z,h1,h2,h3⟩
def UpR (r:PN×Int) (ev:Value) (v:Value) (V':aI):Prop:=∃ y:LN,v=.tuple #[lnV y,ev]∧aX V' y∧y.n=r.1
theorem UpR.zero {V:aI} {r:PN×Int} {ev:Value} (h:r.1=pnZ):UpR r ev (.tuple #[lnV lnZ,ev]) V:=⟨lnZ,rfl,aX.zero,h.symm⟩
abbrev bareL (y:LN):LN:=⟨{ y.h with opq:=false },y.A,y.na,y.ca,none,0,0,[]⟩
theorem bare_node {V:aI} {y:LN} (h:aX V y):aX V (bareL y):=by
  obtain⟨h1,h2,h3,h4,es,h5,h6⟩:=h.inv
  exact aX.of (es:=[]) h1 h2 h3 (Nat.le_refl _) eI.nil rfl
theorem bare_n {y:LN} {n:PN} (h:y.n=n):(bareL y).n=jT n:=by rw [←h];rfl
theorem mD {h:Hd} {ks:PKs} (k:eW h ks):fB 80 h ks:=by
  obtain⟨h1,_,h3,_⟩:=k
  refine⟨?_,h3⟩
  unfold oU at h1
  simp at h1
  omega
theorem rQ {p:Hd→PKs→Prop} {n:PN} (h:∀ hd ks,p hd ks→p { hd with opq:=false } []) (hn:cA p n):cA p (jT n):=.mk (h _ _ hn.here) (by simp)
theorem pE {p:Hd→PKs→Prop} {out:Bool} {us gs:List PR} {n m:PN} (h:∀ (hd:Hd) ks u g,p hd ks→p { hd with user:=u,group:=g } ks) (hm:cT out us gs n=some m) (hn:cA p n):cA p m:=by
  unfold cT at hm
  split at hm
  · cases hm
    exact .mk (h _ _ _ _ hn.here) fun k hk=>hn.kid hk
  · cases hm
theorem walk_head {l:List PN} {ss:List ByteArray} {f:PF} {t:List PF} (h:bY l ss=f :: t):0<l.length:=by
  have:=nM l ss
  rw [h] at this;simp at this;omega
theorem nO {l:List PN} {us gs:List PR} {ss:List ByteArray} {u:PN} (h:bY l ss=[]):nG l us gs ss u=(u,0):=by unfold nG;rw [h]
theorem lS {l:List PN} {us gs:List PR} {ss:List ByteArray} {u:PN} {f:PF} {t:List PF} (h:bY l ss=f :: t) (h0:f.2=0):nG l us gs ss u=(u,0):=by unfold nG;rw [h];exact if_pos h0
theorem oK {l:List PN} {us gs:List PR} {ss:List ByteArray} {u:PN} {f:PF} {t:List PF} (h:bY l ss=f :: t) (h0:¬f.2=0) (h1:cT true us gs (jT f.1)=none):nG l us gs ss u=(pnZ,11):=by unfold nG;rw [h];simp only [if_neg h0,h1]
theorem lZ {l:List PN} {us gs:List PR} {ss:List ByteArray} {u x:PN} {f:PF} {t:List PF} (h:bY l ss=f :: t) (h0:¬f.2=0) (h1:cT true us gs (jT f.1)=some x) (h2:pF false x u ss=0):nG l us gs ss u=(pN false x u ss,0):=by unfold nG;rw [h];simp only [if_neg h0,h1,if_pos h2]
theorem lQ {l:List PN} {us gs:List PR} {ss:List ByteArray} {u x:PN} {f:PF} {t:List PF} (h:bY l ss=f :: t) (h0:¬f.2=0) (h1:cT true us gs (jT f.1)=some x) (h2:¬pF false x u ss=0):nG l us gs ss u=(pnZ,pF false x u ss):=by unfold nG;rw [h];simp only [if_neg h0,h1,if_neg h2]
theorem up_end {l:List PN} {us gs:List PR} {ss:List ByteArray} {f:PF} {t:List PF} {u0:PN} {r:PN×Int} {k m:Nat} (h:bY l ss=f :: t) (hu:l.headD pnZ=u0) (hk:(upK l us gs ss u0 k).2=0) (hr:nG l us gs (ss.take (k+1)) (upK l us gs ss u0 k).1=r) (hn:¬r.2=0) (hm:ss.length=m) (hkm:k<m):upP l us gs ss=r:=by
  unfold upP
  rw [if_neg (by rw [h];simp),hu,hm]
  have h1:upK l us gs ss u0 (k+1)=r:=by rw [sM hk,hr]
  have h2:=upK_stop (i:=k+1) (l:=l) (us:=us) (gs:=gs) (ss:=ss) (u0:=u0) (by rw [h1];exact hn) (m - (k+1))
  rw [show k+1+(m - (k+1))=m by omega,h1] at h2
  exact h2
theorem strs_take {V:aI} {A:Option Addr} {n k:Nat} {xs:List ByteArray} (h:bZ V A n xs) (hk:k≤n):bZ V A k (xs.take k):=⟨h.1.take hk,fun x hx=>h.2 x (List.mem_of_mem_take hx)⟩
attribute [local irreducible] AtQ GoC GoL GoW QO QP Fn RV bX aL VLe cG bT
theorem Up_c (V:aI) (A:Option Addr) (n c:Nat) (xs:List LN) (h:dP V A n xs) (hn:n≤1000) (hli:∀ x∈xs,cA eW x.n) (M:LM) (hM:mS V M) (B:Option Addr) (m e:Nat) (ss:List ByteArray) (hs:bZ V B m ss) (hme:m≤e) (hm:m≤100) :
    Fn Tryz.prog 152 [.slice A n c,lmV M,.slice B m e] V (UpR (upP (xs.map LN.n) M.us M.gs ss) (bT (upP (xs.map LN.n) M.us M.gs ss).2)):=by
  have hl:=h.1.1
  have sl:=hs.1.1
  have hsm:∀ x∈xs,cA dZ x.n:=fun x hx=>(hli x hx).imp fun _ _=>kE
  have hall:=fun ss=>fZ (p:=eW) (l:=xs.map LN.n) (fun x hx=>by obtain⟨y,hy,rfl⟩:=List.mem_map.1 hx;exact hli y hy) ss
  have hL:=fun V' (hV:VLe V V')=>LookM_c V' A n c xs (h.le hV) hn hsm B m e ss (hs.le hV)
  have hb:=oQ (xs.map LN.n) M.us M.gs ss
  (refine aH Tryz.func152 rfl Tryz.ntmps152 rfl ?_;intro w0)
  rcases hw:bY (xs.map LN.n) ss with _|⟨f0,t0⟩
  · have hup:upP (xs.map LN.n) M.us M.gs ss=(pnZ,5):=by unfold upP;rw [if_pos hw]
    rw [hw] at hL
    repeat' (first|(refine aE ?_;first|(refine aD ?_;(refine aM rfl ⟨Tryz.call232⟩ rfl rfl (hL _ vl9) ?_;rintro v V1 hV1 (⟨_,rfl⟩|⟨_,_,_,hx,_⟩);rotate_left;cases hx))|refine st9 ?_|(refine al9 ?_;intro γ)|refine pu9 ?_)|refine cD ?_|fail)
    all_goals (refine bA Tryz.results152 (aS agg_70 rfl bB (by exact rfl)) (aB rfl) ?_)
    rw [hup,dU (by decide)];exact UpR.zero rfl
  · have hx0:=walk_head hw
    rw [List.length_map] at hx0
    obtain⟨x0,xt,rfl⟩:∃ x0 xt,xs=x0 :: xt:=by
      cases xs with
      | nil=>simp at hx0
      | cons x t=>exact⟨x,t,rfl⟩
    have hu0:((x0 :: xt).map LN.n).headD pnZ=x0.n:=rfl
    rw [hw] at hL
    obtain⟨b0,o0,x0',hA0,hx0',hc0,hN0⟩:=h.at_ (k:=0) (by rw [←hl];simp)
    obtain rfl:x0=x0':=by simpa using hx0'
    have hO:=fun V' (hV:VLe V V')=>Own_v V' x0 (hN0.le hV) (hsm x0 (by simp))
    repeat' (first|(refine aE ?_;first|(refine aD ?_;(first|(refine aM rfl ⟨Tryz.call232⟩ rfl rfl (hL _ vl9) ?_;rintro v V1 hV1 (⟨hx,_⟩|⟨f,t,y,_,rfl,hyN,hyn⟩);cases hx;have hc1:=hc0.le hV1;clear hL)|(refine aM rfl ⟨Tryz.call54⟩ rfl rfl (hO _ vl9) ?_;rintro v V2 hV2 ⟨y0,rfl,hy0n,hy0N⟩)))|(refine cK ?_;refine aR (bL (k:=0) und_30 siz_70 rfl hA0 rfl (by omega)) ?_)|refine st9 ?_|(refine al9 ?_;intro γ)|refine pu9 ?_)|refine cV ?_|fail)
    rename_i g4 g6 lf g8
    have hz:bY ((x0 :: xt).map LN.n) ss=f0 :: t0:=hw
    generalize hxs:(x0 :: xt).map LN.n=ps at *
    refine bQ (fun F V' L' m'=>∃ (k:Nat) (u:LN),VLe V2 V'∧[⟨γ,70,lnC u⟩,⟨g6,70,lnC lnZ⟩,⟨g4,24,[.slice M.A M.n M.c,.slice M.B M.m M.e]⟩]=L'∧k≤m∧aX V' u∧u.n=(upK ps M.us M.gs ss x0.n k).1∧(upK ps M.us M.gs ss x0.n k).2=0∧cA (fB (80+k)) u.n∧m'=m - k∧F=[(0,.slice A n c),(2,.slice B m e),(4,.pointer (some ⟨g4,0,none⟩)),(6,.pointer (some ⟨g6,0,none⟩)),(11,.pointer (some ⟨γ,0,none⟩)),(12,.int .i64 ((k+1:Nat):Int))]) (m:=m) ⟨0,y0,vl9,rfl,Nat.zero_le _,hy0N.le vl9,by rw [hy0n];rfl,rfl,by rw [hy0n];exact(hli x0 (by simp)).imp fun _ _=>mD,by omega,rfl⟩ bH rfl (List.Sublist.cons_cons _ (List.Sublist.cons _ (List.Sublist.refl _))) ?_
    have hV02:VLe V V2:=by first|exact vl9|exact hV1.trans hV2
    clear hO
    rintro F V' L' m' ⟨k,u,hV',rfl,hkm,huN,hun,hu2,hub,rfl,rfl⟩
    have hVV:VLe V V':=hV02.trans hV'
    by_cases hlt:k<m
    · have hstr:=strs_take (hs.le hVV) (k:=k+1) (by omega)
      have hL2:=LookM_c V' A n c (x0 :: xt) (h.le hVV) hn hsm B (k+1) e (ss.take (k+1)) hstr
      rw [hxs] at hL2
      have hon:=sM (l:=ps) (us:=M.us) (gs:=M.gs) (ss:=ss) (u0:=x0.n) hu2
      rw [←hun] at hon
      have hend:=fun (r:PN×Int) (hr:nG ps M.us M.gs (ss.take (k+1)) u.n=r) (hn0:¬r.2=0)=>up_end (us:=M.us) (gs:=M.gs) hw hu0 hu2 (by rw [←hun];exact hr) hn0 sl hlt
      rcases hwk:bY ps (ss.take (k+1)) with _|⟨f1,t1⟩
      · rw [hwk] at hL2
        rw [nO hwk] at hon
        repeat' (first|(refine aE ?_;first|(refine aD ?_;(refine aM rfl ⟨Tryz.call232⟩ rfl rfl (hL2) ?_;rintro v V3 hV3 (⟨_,rfl⟩|⟨_,_,_,hx,_⟩);rotate_left;cases hx))|(refine eG ?_;(first|refine aR (cE (h:=k+1) und_47 siz_9 rfl rfl (by omega)) ?_|refine aR (cE und_47 siz_9 rfl rfl (by omega)) ?_|refine aR (dS und_47 siz_9 rfl rfl (by omega)) ?_))|refine st9 ?_|(refine al9 ?_;intro γ)|refine pu9 ?_)|refine dQ ?_|(refine aA rfl ?_ ?_<;>intro hq<;>try exact no9))
        refine aZ _ (m - (k+1)) ⟨k+1,u,vl9,rfl,by omega,huN.le vl9,by rw [hon],by rw [hon],hub.imp fun _ _=>iD (by omega),rfl,rfl⟩ (by omega) bH (List.Sublist.cons _ (List.Sublist.refl _))
      · have hlf:=hall (ss.take (k+1)) f1 (by rw [hwk];simp)
        rw [hwk] at hL2
        by_cases hf0:f1.2=0
        · rw [lS hwk hf0] at hon
          repeat' (first|(refine aE ?_;first|(refine aD ?_;(refine aM rfl ⟨Tryz.call232⟩ rfl rfl (hL2) ?_;rintro v V3 hV3 (⟨hx,_⟩|⟨f2,t2,y2,hx2,rfl,hy2N,hy2n⟩);cases hx;cases hx2))|(refine eG ?_;(first|refine aR (cE (h:=k+1) und_47 siz_9 rfl rfl (by omega)) ?_|refine aR (cE und_47 siz_9 rfl rfl (by omega)) ?_|refine aR (dS und_47 siz_9 rfl rfl (by omega)) ?_))|refine st9 ?_|(refine al9 ?_;intro γ)|refine pu9 ?_)|refine pW ?_|(refine aA rfl ?_ ?_<;>intro hq<;>try exact no9))
          all_goals first
            | (exfalso;exact hq hf0)
            | skip
          refine aZ _ (m - (k+1)) ⟨k+1,u,vl9,rfl,by omega,huN.le vl9,by rw [hon],by rw [hon],hub.imp fun _ _=>iD (by omega),rfl,rfl⟩ (by omega) bH (List.Sublist.cons _ (List.Sublist.refl _))
        · have hlb:cA eW (jT f1.1):=rQ (fun hd ks hh=>⟨hh.1,hh.2.1,by simp,by simp⟩) hlf
          have hsb:cA dZ (jT f1.1):=hlb.imp fun _ _=>kE
          have hOut:=fun V9 (y2:LN) hN (hn2:y2.n=f1.1) hM9=>rW V9 M hM9 (bareL y2) (bare_node hN) (by rw [bare_n hn2];exact hsb)
          cases hmv:cT true M.us M.gs (jT f1.1) with
          | none =>
            have hr:=hend _ (oK hwk hf0 hmv) (by simp)
            repeat' (first|(refine aE ?_;first|(refine aD ?_;(first|(refine aM rfl ⟨Tryz.call232⟩ rfl rfl (hL2) ?_;rintro v V3 hV3 (⟨hx,_⟩|⟨f2,t2,y2,hx2,rfl,hy2N,hy2n⟩);cases hx;cases hx2;have hOu:=hOut V3 y2 hy2N hy2n (hM.le (hVV.trans hV3));rw [bare_n hy2n,hmv] at hOu)|(refine aM rfl ⟨Tryz.call57⟩ rfl rfl (hOu) ?_;rintro v V4 hV4 ⟨y3,rfl,hy3N,hy3n⟩)))|(refine eG ?_;(first|refine aR (cE (h:=k+1) und_47 siz_9 rfl rfl (by omega)) ?_|refine aR (cE und_47 siz_9 rfl rfl (by omega)) ?_|refine aR (dS und_47 siz_9 rfl rfl (by omega)) ?_))|refine st9 ?_|(refine al9 ?_;intro γ)|refine pu9 ?_)|refine cV ?_|(refine aA rfl ?_ ?_<;>intro hq<;>try exact no9))
            all_goals first
              | (exfalso;exact hf0 hq)
              | skip
            all_goals
              (refine bA Tryz.results152 (aS agg_70 rfl bB (by exact rfl)) (aB rfl) ?_)
              rw [hr];exact UpR.zero rfl
          | some p =>
            have hlp:cA eW p:=pE (fun hd ks u g hh=>hh) hmv hlb
            have hsp:cA dZ p:=hlp.imp fun _ _=>kE
            have hbp:cA (fB (80+k)) p:=hlp.imp fun _ _ hh=>iD (by omega) (mD hh)
            have hmu:cA sX u.n:=hub.imp fun _ _=>gK (by omega)
            repeat' (first|(refine aE ?_;first|(refine aD ?_;(first|(refine aM rfl ⟨Tryz.call232⟩ rfl rfl (hL2) ?_;rintro v V3 hV3 (⟨hx,_⟩|⟨f2,t2,y2,hx2,rfl,hy2N,hy2n⟩);cases hx;cases hx2;have hOu:=hOut V3 y2 hy2N hy2n (hM.le (hVV.trans hV3));rw [bare_n hy2n,hmv] at hOu)|(refine aM rfl ⟨Tryz.call57⟩ rfl rfl (hOu) ?_;rintro v V4 hV4 ⟨y3,rfl,hy3N,hy3n⟩)))|(refine eG ?_;(first|refine aR (cE (h:=k+1) und_47 siz_9 rfl rfl (by omega)) ?_|refine aR (cE und_47 siz_9 rfl rfl (by omega)) ?_|refine aR (dS und_47 siz_9 rfl rfl (by omega)) ?_))|refine st9 ?_|(refine al9 ?_;intro γ)|refine pu9 ?_)|refine cV ?_|(refine aA rfl ?_ ?_<;>intro hq<;>try exact no9))
            all_goals first
              | (exfalso;exact hf0 hq)
              | (exfalso;exact absurd hq (by decide))
              | (exfalso;exact hq rfl)
              | skip
            replace hy3n:y3.n=p:=hy3n
            have hP:=Put_c V4 u (huN.le vl9) hmu B (k+1) e (ss.take (k+1)) (hstr.le vl9) (by omega) y3 hy3N (by rw [hy3n];exact hsp)
            rw [hy3n] at hP
            by_cases p1:pF false p u.n (ss.take (k+1))=0
            · rw [lZ hwk hf0 hmv p1] at hon
              replace hP:=hP.mono fun v V' _ hh=>qV.y p1 hh
              refine bM (id:=15) _ mixed (List.Sublist.cons_cons _ (List.Sublist.cons_cons _ (List.Sublist.cons _ (List.Sublist.refl _)))) ?_;refine gt9 1 ?_;refine gt9 2 ?_;refine fP 3 rfl rfl (cE (h:=k+1) und_47 siz_9 rfl rfl (by omega)) ?_;refine gt9 4 ?_;refine aY (i:=0) rfl ?_;refine aR (pG agg_70 rfl bB (by exact rfl)) ?_;refine aY (i:=5) rfl ?_;(refine aM rfl ⟨Tryz.call159⟩ rfl rfl (hP) ?_;rintro v V5 hV5 ⟨y4,rfl,hy4N,hy4n⟩);refine gt9 6 ?_;refine gt9 7 ?_;refine gt9 8 ?_;refine aY (i:=9) rfl ?_;refine aO rfl siz_70 rfl rfl rfl rfl bG dC rfl ?_;refine gt9 10 ?_;refine aU (by kernel_rfl) vl9 vl9 bD ?_
              repeat' (first|(refine aE ?_;refine pu9 ?_)|refine cD ?_|fail)
              all_goals first
                | (exfalso;exact absurd rfl hq)
                | skip
              refine aZ _ (m - (k+1)) ⟨k+1,y4,vl9,rfl,by omega,hy4N,by rw [hon];exact hy4n,by rw [hon],by rw [hy4n];exact rX hbp p1 hub,rfl,rfl⟩ (by omega) bH (List.Sublist.cons _ (List.Sublist.cons _ (List.Sublist.refl _)))
            · have hr:=hend _ (lQ hwk hf0 hmv p1) p1
              refine bM (id:=15) _ mixed (List.Sublist.cons_cons _ (List.Sublist.cons_cons _ (List.Sublist.cons _ (List.Sublist.refl _)))) ?_;refine gt9 1 ?_;refine gt9 2 ?_;refine fP 3 rfl rfl (cE (h:=k+1) und_47 siz_9 rfl rfl (by omega)) ?_;refine gt9 4 ?_;refine aY (i:=0) rfl ?_;refine aR (pG agg_70 rfl bB (by exact rfl)) ?_;refine aY (i:=5) rfl ?_;(refine aM rfl ⟨Tryz.call159⟩ rfl rfl (hP) ?_;rintro v V5 hV5 ⟨y4,rfl,hy4N,hy4n⟩);refine gt9 6 ?_;refine gt9 7 ?_;refine gt9 8 ?_;refine aY (i:=9) rfl ?_;refine aO rfl siz_70 rfl rfl rfl rfl bG dC rfl ?_;refine gt9 10 ?_;refine aU (by kernel_rfl) vl9 vl9 bD ?_
              repeat' (first|(refine aE ?_;first|refine st9 ?_|refine pu9 ?_)|refine bV ?_|(refine aA rfl ?_ ?_<;>intro hq<;>try exact no9))
              all_goals first
                | (exfalso;exact hq p1)
                | skip
              all_goals
                (refine bA Tryz.results152 (aS agg_70 rfl bB (by exact rfl)) (aB rfl) ?_)
                rw [hr];exact UpR.zero rfl
    · obtain rfl:k=m:=by omega
      have hup:upP ps M.us M.gs ss=upK ps M.us M.gs ss x0.n k:=by unfold upP;rw [if_neg (by rw [hw];simp),hu0,sl]
      repeat' (first|(refine aE ?_;first|refine st9 ?_|refine pu9 ?_)|refine dR ?_|(refine aA rfl ?_ ?_<;>intro hq<;>try exact no9))
      all_goals (refine bA Tryz.results152 (aS agg_70 rfl bB (by exact rfl)) (aB rfl) ?_)
      all_goals exact⟨u,by rw [hup,hu2,dA];rfl,huN,by rw [hup];exact hun⟩
end
section

theorem back_of {xs:List PR} (hp:xs.Pairwise apart) (hs:(xs.map PR.swap).Pairwise apart) {x y:Int} (h:jS xs x=some y):jS (xs.map PR.swap) y=some x:=by
  obtain⟨r,hr,hi,e⟩:=look_some h
  have:=look_in (x:=y) hs (List.mem_map_of_mem (f:=PR.swap) hr) (by unfold inR PR.swap at *;simp only [];omega)
  rw [this];simp only [PR.swap];congr 1;omega
end
end Go.Proofs.YtejkmomfpidnbabGreat
