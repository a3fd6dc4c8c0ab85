/- Walks and plain laws, part 3: what functions compute, proved once each (Mut, Mut2, TreeP, TreeE, TreeE2, TreeE3, TreeE4, TreeE5, TreeE6, TreeE7, TreeE8, TreeE9, TreeE10, TreeE11, AttrE2, AttrE3, AttrE4, TreeE12, TreeE13). -/
import Derived.Test.YtejkmomfpidnbabGreatPart2
import Derived.Laws.BytesString
import Derived.Laws.MakeOwn
import Derived.Laws.Pointers
set_option linter.unusedSimpArgs false
set_option linter.unusedVariables false
set_option maxRecDepth 100000
set_option maxHeartbeats 40000000
namespace Go.Proofs.YtejkmomfpidnbabGreat
open Go.RowKit
section
def fW (Bs:List Box):List Nat:=Bs.map Box.g
@[simp] theorem gsOf_nil:fW []=[]:=rfl
def vI (V:aD) (w:World) (Bs:List Box) (R:Value→aD→List Box→Prop) (e:Ending) (w':World):Prop :=
  ∃ v V' Bs',e=.returned v∧St ⟨V,w,fW Bs⟩ V' Bs' w'∧R v V' Bs'
def FnB (P:Program) (f:FuncId) (args:List Value) (V:aD) (Bs:List Box) (R:Value→aD→List Box→Prop):Prop :=
  ∀ w,St ⟨V,w,fW Bs⟩ V Bs w→Calls P f args.toArray w (vI V w Bs R)
section
variable {P : Program} {B : Base} {N : Nat} {Q : Exit → Act → World → Prop} {k : List jI} {F : List (Nat × Value)} {V : aD} {L : List Box} {w : World}
variable {d : Option Tmp} {ty : TypeId} {pos : String} {af : Array Edge} {gd : Option (Nat × Bool)} {x y : Operand} {T T2 : TypeId} {ops : Array Oper} {rest : List Oper}
theorem bD {f:FuncId} {fn:Func} {c:Code} {args:List Value} {Bs:List Box} {R:Value→aD→List Box→Prop} (hf:P.funcs[f]?=some fn) (hb:fn.body=some c) (hN:fn.ntmps=N) (hsz:Nat.ble args.length N=true)
    (h:∀ w,GoC P ⟨V,w,fW Bs⟩ N c (bodyPost P fn (vI V w Bs R)) [] (vZ args 0) V Bs):FnB P f args V Bs R:=fun w hV=>by
  refine calls_of_wp hf hb (h w _ w ⟨rfl,?_,fun t v hv=>?_⟩ hV)
  · have:=Nat.le_of_ble_eq_true hsz
    simp [hN];omega
  · obtain⟨_,h2⟩:=nY args 0 t v hv
    have hlt:t<args.length:=by
      rcases Nat.lt_or_ge t args.length with hl|hl
      · exact hl
      · rw [List.getElem?_eq_none (by omega)] at h2;cases h2
    rw [List.getElem?_eq_getElem (by omega)] at h2
    simp only [Nat.sub_zero] at h2
    injection h2 with h2
    simp [Array.getElem?_append,hlt,h2]
variable {fn : Func} {w0 : World} {V0 : aD} {Bs : List Box} {R : Value → aD → List Box → Prop}
theorem kZ (hr:fn.results=#[]) {L':List Box} (hL:L'.Sublist L) (hR:R (.tuple #[]) V L'):AtQ P ⟨V0,w0,fW Bs⟩ N (bodyPost P fn (vI V0 w0 Bs R)) [] .ret F V L:=fun a w ha hs =>
  ⟨ha.1,.tuple #[],by simp [results,hr],_,V,L',rfl,hs.sub hL,hR⟩
theorem lN (hr:fn.results=#[]) {L':List Box} (hL:L'.Sublist L) (hR:R (.tuple #[]) V L'):AtQ P ⟨V0,w0,fW Bs⟩ N (bodyPost P fn (vI V0 w0 Bs R)) [] .normal F V L:=fun a w ha hs =>
  ⟨ha.1,.tuple #[],by simp [results,hr],_,V,L',rfl,hs.sub hL,hR⟩
theorem bE {r:ResultVar} {v:Value} (hr:fn.results=#[r]) (h1:RV P ⟨V0,w0,fW Bs⟩ N F V L r v) {L':List Box} (hL:L'.Sublist L) (hR:R v V L'):AtQ P ⟨V0,w0,fW Bs⟩ N (bodyPost P fn (vI V0 w0 Bs R)) [] .ret F V L:=fun a w ha hs=>by
  refine⟨ha.1,v,?_,_,V,L',rfl,hs.sub hL,hR⟩
  have h1:=h1 a w ha hs
  unfold results
  rw [hr]
  cases r<;>simp_all
theorem dA {r s:ResultVar} {v u:Value} (hr:fn.results=#[r,s]) (h1:RV P ⟨V0,w0,fW Bs⟩ N F V L r v) (h2:RV P ⟨V0,w0,fW Bs⟩ N F V L s u) {L':List Box} (hL:L'.Sublist L) (hR:R (.tuple #[v,u]) V L'):AtQ P ⟨V0,w0,fW Bs⟩ N (bodyPost P fn (vI V0 w0 Bs R)) [] .ret F V L:=fun a w ha hs=>by
  refine⟨ha.1,_,?_,_,V,L',rfl,hs.sub hL,hR⟩
  unfold results
  rw [hr]
  exact run_res2 _ (h1 a w ha hs) (h2 a w ha hs)
theorem St.sub' {L':List Box} (hs:St B V L w) (h:L'.Sublist L):St ⟨V,w,fW L'⟩ V L' w :=
  ⟨Exc.refl _ w,fun p x hp=>⟨(hs.view p x hp).1,fun b hb=>(hs.view p x hp).2 b (h.subset hb)⟩,fun p x hp _=>hp,VLe.refl V,fun b hb=>⟨(hs.own b (h.subset hb)).1,.inr (List.mem_map_of_mem (f:=Box.g) hb)⟩,List.Nodup.sublist (h.map Box.g) hs.nodup⟩
theorem St.callB {X Y Bs Bs':List Box} {w':World} {V':aD} (hs:St B V (X ++ (Bs ++ Y)) w) (hc:St ⟨V,w,fW Bs⟩ V' Bs' w'):St B V' (X ++ (Bs' ++ Y)) w':=by
  have hnd:=hs.nodup
  rw [List.map_append,List.map_append,List.nodup_append] at hnd
  obtain⟨n1,n2,n3⟩:=hnd
  rw [List.nodup_append] at n2
  obtain⟨n4,n5,n6⟩:=n2
  have hlo:∀ g∈fW Bs,B.w.heap.size≤g∨g∈B.fl:=by
    intro g hg
    obtain⟨b,hb,rfl⟩:=List.mem_map.1 hg
    exact(hs.own b (by simp [hb])).2
  have hother:∀ b,b∈X∨b∈Y→b∈X ++ (Bs ++ Y)∧¬b.g∈fW Bs:=by
    intro b hb
    refine⟨by rcases hb with hb|hb<;>simp [hb],fun hm=>?_⟩
    obtain⟨q,hq,he⟩:=List.mem_map.1 hm
    rcases hb with hb|hb
    · exact n3 b.g (List.mem_map_of_mem (f:=Box.g) hb) q.g (by simp;exact .inl ⟨q,hq,rfl⟩) he.symm
    · exact n6 q.g (List.mem_map_of_mem (f:=Box.g) hq) b.g (List.mem_map_of_mem (f:=Box.g) hb) he
  have hsz:∀ b∈Bs',b.g∈fW Bs∨w.heap.size≤b.g:=fun b hb=>by
    rcases (hc.own b hb).2 with h|h
    · exact .inr h
    · exact .inl h
  refine⟨hs.ext.trans hc.ext hlo,fun p x hp=>⟨(hc.view p x hp).1,fun b hb=>?_⟩,fun p x hp hb=>?_,hs.v0.trans hc.v0,fun b hb=>?_,?_⟩
  · simp only [List.mem_append] at hb
    rcases hb with hb|hb|hb
    · obtain⟨h1,h2⟩:=hother b (.inl hb)
      rcases Nat.lt_or_ge p.block w.heap.size with h|h
      · exact(hs.view p x (hc.old p x hp h)).2 b h1
      · have:=hs.lt h1;omega
    · exact(hc.view p x hp).2 b hb
    · obtain⟨h1,h2⟩:=hother b (.inr hb)
      rcases Nat.lt_or_ge p.block w.heap.size with h|h
      · exact(hs.view p x (hc.old p x hp h)).2 b h1
      · have:=hs.lt h1;omega
  · exact hs.old p x (hc.old p x hp (Nat.lt_of_lt_of_le hb hs.ext.sz)) hb
  · simp only [List.mem_append] at hb
    rcases hb with hb|hb|hb
    · obtain⟨h1,h2⟩:=hother b (.inl hb)
      exact⟨(hc.ext.block b.g (hs.lt h1) h2).trans (hs.own b h1).1,(hs.own b h1).2⟩
    · refine⟨(hc.own b hb).1,?_⟩
      rcases hsz b hb with h|h
      · exact hlo _ h
      · exact .inl (Nat.le_trans hs.ext.sz h)
    · obtain⟨h1,h2⟩:=hother b (.inr hb)
      exact⟨(hc.ext.block b.g (hs.lt h1) h2).trans (hs.own b h1).1,(hs.own b h1).2⟩
  · rw [List.map_append,List.map_append,List.nodup_append,List.nodup_append]
    refine⟨n1,⟨hc.nodup,n5,?_⟩,?_⟩
    · intro a ha b hb e
      obtain⟨p,hp,rfl⟩:=List.mem_map.1 ha
      obtain⟨q,hq,rfl⟩:=List.mem_map.1 hb
      obtain⟨h1,h2⟩:=hother q (.inr hq)
      rcases hsz p hp with h|h
      · exact h2 (e▸h)
      · have:=hs.lt h1;omega
    · intro a ha b hb e
      obtain⟨q,hq,rfl⟩:=List.mem_map.1 ha
      obtain⟨h1,h2⟩:=hother q (.inl hq)
      rcases List.mem_append.1 hb with hb|hb
      · obtain⟨p,hp,rfl⟩:=List.mem_map.1 hb
        rcases hsz p hp with h|h
        · exact h2 (e▸h)
        · have:=hs.lt h1;omega
      · exact n3 q.g ha b (by rw [List.mem_append];exact .inr hb) e
theorem aL {dr:gO} (hdr:dr.loud=true) {f:FuncId} {args:List Operand} {ats:Array TypeId} {vs:List Value} {Bs:List Box} {R:Value→aD→List Box→Prop} {g:List Box→List Box} (he:jV P f) (hv:evL F args=some vs) (hL:mY L Bs g) (hd:okD N d=true) (hc:FnB P f vs V Bs R)
    (h:∀ v V' Bs',VLe V V'→R v V' Bs'→GoL P B N dr ops Q k rest (rT F d v) V' (g Bs')):GoW P B N dr ops Q k ⟨d,.call ⟨.value (.func f),args.toArray,ats⟩,ty,pos,af,gd⟩ rest F V L:=iG hdr fun a w ha hs=>by
  obtain⟨X,Y,hX,hg⟩:=hL.h
  subst hX
  unfold Oper.wp
  rw [qG he ha hv]
  have hsub:Bs.Sublist (X ++ (Bs ++ Y)):=(List.sublist_append_left Bs Y).trans (List.sublist_append_right X (Bs ++ Y))
  refine(hc w (hs.sub' hsub)).mono fun e w' ⟨v,V',Bs',he',hst,hR⟩=>?_
  subst he'
  have h1:=h v V' Bs' hst.v0 hR
  rw [hg] at h1
  exact fT hdr h1 _ _ (ha.put hd v) (hs.callB hst)
theorem FnB.pure {f:FuncId} {args:List Value} {V:aD} {R:Value→aD→Prop} (h:FnB P f args V [] fun v V' _=>R v V'):Fn P f args V R:=fun w hV=>by
  have hs:St ⟨V,w,fW []⟩ V [] w:=⟨Exc.refl _ w,fun p x hp=>⟨hV p x hp,by simp⟩,fun p x hp _=>hp,VLe.refl V,by simp,by simp⟩
  exact(h w hs).mono fun e w' ⟨v,V',Bs',he,hst,hR⟩=>⟨v,he,hst.ext.ext,V',hst.v0,fun p x hp=>(hst.view p x hp).1,hst.old,hR⟩
end
end
section
section
variable {P : Program} {B : Base} {N : Nat} {Q : Exit → Act → World → Prop} {k : List jI} {F : List (Nat × Value)} {V : aD} {L : List Box} {w : World}
variable {d : Option Tmp} {ty : TypeId} {pos : String} {af : Array Edge} {gd : Option (Nat × Bool)} {x y : Operand} {T T2 : TypeId} {ops : Array Oper} {rest : List Oper}
theorem wW {f:FuncId} {args:List Operand} {ats:Array TypeId} {vs:List Value} {v:Value} {Bs:List Box} {g:List Box→List Box} (he:jV P f) (hv:evL F args=some vs) (hL:mY L Bs g) (hc:FnB P f vs V Bs fun u _ Bs'=>u=v∧Bs'=Bs):QO P B N V L ⟨d,.call ⟨.value (.func f),args.toArray,ats⟩,ty,pos,af,gd⟩ F v:=fun a w ha hs=>by
  obtain⟨X,Y,hX,hg⟩:=hL.h
  subst hX
  unfold Oper.quietAt
  rw [qG he ha hv]
  have hsub:Bs.Sublist (X ++ (Bs ++ Y)):=(List.sublist_append_left Bs Y).trans (List.sublist_append_right X (Bs ++ Y))
  refine⟨rfl,(hc w (hs.sub' hsub)).mono fun e w' ⟨u,V',Bs',he',hst,hR⟩=>?_⟩
  obtain⟨rfl,rfl⟩:=hR
  subst he'
  exact⟨rfl,(hs.callB hst).less hst.v0 hs.v0⟩
theorem ones_any {l:List Value} (h:∀ u∈l,gQ u=true):∀ u∈l,gQ u=true:=h
def u8C (l:List UInt8):List Value:=l.map fun c=>.int .u8 (c.toNat:Int)
theorem tQ (l:List UInt8):(u8C l).length=l.length:=by simp [u8C]
theorem fold_push (l:List UInt8):∀ s:ByteArray,((l.map fun c=>(c.toNat:Int)).foldl (fun r n=>r.push (UInt8.ofNat n.toNat)) s).data.toList=s.data.toList ++ l:=by
  induction l with
  | nil=>intro s;simp
  | cons c l ih=>intro s;rw [List.map_cons,List.foldl_cons,ih];simp [ByteArray.push]
theorem iH {t t2 E m c2:Nat} {As:Option Addr} {us:List UInt8} (hu:bV P t (.slice E)) (hE:bV P E (.int .u8)) (ht:bV P t2 .string) (hx:evF F x=some (.slice As m c2)) (hsrc:bR B V L 1 As m (u8C us)):QP P B N V L ⟨d,.convert t t2 x,ty,pos,af,gd⟩ F (.string ⟨us.toArray⟩):=gN fun a w ha hs=>by
  have hc:=hsrc w hs
  have hlen:us.length=m:=by have:=hc.1;rw [tQ] at this;omega
  have hb:(Conv.bytesToString (.slice As m c2)).run P w=.ok (.string ⟨us.toArray⟩) w:=by
    cases As with
    | none =>
      have hm:m=0:=by
        rcases Nat.eq_zero_or_pos m with h|h
        · exact h
        · obtain⟨_,_,h,_⟩:=hc.2 h;cases h
      have:us=[]:=List.eq_nil_of_length_eq_zero (by omega)
      subst this
      rfl
    | some ad =>
      have hl:(loadCells ad m).run P w=.ok ((us.map fun c=>(c.toNat:Int)).map (Value.int .u8)).toArray w:=by
        rcases Nat.eq_zero_or_pos m with h|h
        · have:us=[]:=List.eq_nil_of_length_eq_zero (by omega)
          subst this;subst h;rfl
        · obtain⟨b,off,he,hcell⟩:=hc.2 h
          injection he with he;subst he
          have hr:=rF (P:=P) b off w (u8C us) 0 #[] (fun j v hj=>by rw [Nat.zero_add];exact hcell j v hj)
          rw [tQ,hlen] at hr
          rw [loadCells,hr]
          simp [u8C]
      rw [run_bytesToString w ad m c2 _ hl]
      congr 2
      apply str_ext
      rw [Lib.toList_data,Lib.toList_data,fold_push]
      simp
  simp [execOp,ha.ev hx,convert,hu.h,hE.h,ht.h,hb]
structure PtrIs (P:Program) (T:TypeId):Prop where
  h:P.underlying T=some (.pointer (P.pointee T))
theorem kK {t ty2:TypeId} {p:Option Addr} (hp:PtrIs P t) (hx:evF F x=some (.pointer p)):QP P B N V L ⟨d,.binOp .eql t x (.const (.pointer none)) ty2,ty,pos,af,gd⟩ F (.bool p.isNone) :=
  pC (y:=.const (.pointer none)) hx rfl (fun w=>by simp [eqGuard]) (fun w=>run_eql_pointer_nil w t p hp.h)
end
end
section
section
variable {P : Program} {B : Base} {N : Nat} {F : List (Nat × Value)} {V : aD} {L : List Box}
variable {d : Option Tmp} {ty : TypeId} {pos : String} {af : Array Edge} {gd : Option (Nat × Bool)} {x y : Operand} {T : TypeId}
theorem bF {E sz b o n c k:Nat} {A:Option Addr} (hu:bV P T (.slice E)) (hS:dU P E sz) (hx:evF F x=some (.slice A n c)) (hA:A=some ⟨b,o,none⟩) (hi:evF F y=some (.int .i64 (k:Int))) (hk:k<n):QP P B N V L ⟨d,.indexAddr T x y,ty,pos,af,gd⟩ F (.pointer (some ⟨b,o+k * sz,none⟩)):=by
  subst hA;exact eZ hu hS hx hi hk
theorem oN {E sz b o n c:Nat} {i:Int} {A:Option Addr} (hu:bV P T (.slice E)) (hS:dU P E sz) (hx:evF F x=some (.slice A n c)) (hA:A=some ⟨b,o,none⟩) (hi:evF F y=some (.int .i64 i)) (hk:0≤i∧i<n):QP P B N V L ⟨d,.indexAddr T x y,ty,pos,af,gd⟩ F (.pointer (some ⟨b,o+i.toNat * sz,none⟩)):=by
  subst hA;exact pT hu hS hx hi hk
end
@[ext] structure Hd where
  kind:Int
  mode:Int
  user:Int
  group:Int
  opq:Bool
  attrs:List PA
  data:ByteArray
inductive PN where
  | mk (h:Hd) (ks:List (ByteArray×PN))
abbrev PKs:=List (ByteArray×PN)
def PN.h:PN→Hd|.mk h _=>h
def PN.ks:PN→PKs|.mk _ ks=>ks
@[simp] theorem PN.h_mk (h:Hd) (ks:PKs):(PN.mk h ks).h=h:=rfl
@[simp] theorem PN.ks_mk (h:Hd) (ks:PKs):(PN.mk h ks).ks=ks:=rfl
theorem PN.lt_of_mem {h:Hd} {ks:PKs} {k:ByteArray×PN} (hk:k∈ks):SizeOf.sizeOf k.2<SizeOf.sizeOf (PN.mk h ks):=by
  have h1:=List.sizeOf_lt_of_mem hk
  obtain⟨a,b⟩:=k
  simp only [Prod.mk.sizeOf_spec] at h1
  simp only [PN.mk.sizeOf_spec]
  omega
theorem PN.ind {p:PN→Prop} (h:∀ hd ks,(∀ k∈ks,p k.2)→p (.mk hd ks)) (n:PN):p n:=by
  match n with
  | .mk hd ks=>exact h hd ks fun k hk=>PN.ind h k.2
termination_by SizeOf.sizeOf n
decreasing_by exact PN.lt_of_mem hk
def hZ:Hd:=⟨0,0,0,0,false,[],⟨#[]⟩⟩
def pnZ:PN:=.mk hZ []
inductive cB (p:Hd→PKs→Prop):PN→Prop
  | mk {h:Hd} {ks:PKs} (h1:p h ks) (h2:∀ k∈ks,cB p k.2):cB p (.mk h ks)
theorem cB.here {p:Hd→PKs→Prop} {n:PN} (h:cB p n):p n.h n.ks:=by cases h;assumption
theorem cB.kid {p:Hd→PKs→Prop} {n:PN} (h:cB p n) {k:ByteArray×PN} (hk:k∈n.ks):cB p k.2:=by cases h with|mk h1 h2=>exact h2 k hk
def iB (ks:PKs) (s:ByteArray):Bool:=ks.any fun k=>decide (k.1=s)
def atN (ks:PKs) (s:ByteArray):Nat:=ks.findIdx fun k=>decide (k.1=s)
def gtN (ks:PKs) (s:ByteArray):Nat:=ks.findIdx fun k=>decide (s.toList<k.1.toList)
def cJ (ks:PKs) (s:ByteArray):Nat:=if iB ks s=true then atN ks s else gtN ks s
theorem atN_lt {ks:PKs} {s:ByteArray}:iB ks s=true↔atN ks s<ks.length:=by
  unfold iB atN;rw [List.findIdx_lt_length,List.any_eq_true]
theorem tO (ks:PKs) (s:ByteArray):cJ ks s≤ks.length:=by
  unfold cJ;split
  · exact List.findIdx_le_length
  · exact List.findIdx_le_length
theorem nS {ks:PKs} {s:ByteArray} (h:iB ks s=true):cJ ks s<ks.length:=by
  unfold cJ;rw [if_pos h];exact atN_lt.1 h
theorem at_eq {ks:PKs} {s:ByteArray} {i:Nat} {k:ByteArray×PN} (hi:ks[i]?=some k) (he:k.1=s) (hb:∀ j k',j<i→ks[j]?=some k'→¬k'.1=s):iB ks s=true∧atN ks s=i:=by
  have hlt:i<ks.length:=by
    rcases Nat.lt_or_ge i ks.length with h|h
    · exact h
    · rw [List.getElem?_eq_none h] at hi;cases hi
  have e:atN ks s=i:=by
    unfold atN
    rw [List.findIdx_eq hlt]
    refine⟨?_,fun j hj=>?_⟩
    · rw [List.getElem?_eq_getElem hlt] at hi;injection hi with hi;rw [hi];exact decide_eq_true he
    · have:=hb j (ks[j]'(by omega)) hj (List.getElem?_eq_getElem (by omega))
      exact decide_eq_false this
  exact⟨atN_lt.2 (by omega),e⟩
theorem at_none {ks:PKs} {s:ByteArray} (hb:∀ j k',j<ks.length→ks[j]?=some k'→¬k'.1=s):iB ks s=false:=by
  cases h:iB ks s
  · rfl
  · have:=atN_lt.1 h
    unfold iB at h
    rw [List.any_eq_true] at h
    obtain⟨k,hk,he⟩:=h
    obtain⟨j,hj,rfl⟩:=List.getElem_of_mem hk
    exact absurd (of_decide_eq_true he) (hb j _ hj (List.getElem?_eq_getElem hj))
theorem gt_drop {ks:PKs} {s:ByteArray} {i:Nat} {k:ByteArray×PN} (hi:ks[i]?=some k):i+gtN (ks.drop i) s=if s.toList<k.1.toList then i else (i+1)+gtN (ks.drop (i+1)) s:=by
  have hlt:i<ks.length:=by
    rcases Nat.lt_or_ge i ks.length with h|h
    · exact h
    · rw [List.getElem?_eq_none h] at hi;cases hi
  rw [List.getElem?_eq_getElem hlt] at hi;injection hi with hi
  rw [List.drop_eq_getElem_cons hlt,hi]
  unfold gtN
  rw [List.findIdx_cons]
  by_cases h:s.toList<k.1.toList
  · rw [if_pos h,decide_eq_true h];rfl
  · rw [if_neg h,decide_eq_false h]
    simp only [cond_false];omega
def eI:PN→List ByteArray→Option PN
  | n,[]=>some n
  | n,s :: l=>if n.h.kind=2∧iB n.ks s=true then (match n.ks[cJ n.ks s]? with|some k=>eI k.2 l|none=>none) else none
def nJ (cut:Bool) (ks:PKs) (s:ByteArray):Int:=if cut=true then (if iB ks s=true then 0 else 5) else if eV s.toList=true then 0 else 4
def lZ (cut:Bool) (x:PN) (ks:PKs) (s:ByteArray):PKs :=
  ks.take (cJ ks s) ++ (if cut=true then [] else [(s,x)]) ++ ks.drop (if iB ks s=true then cJ ks s+1 else cJ ks s)
def pF (cut:Bool) (x:PN):PN→List ByteArray→Int
  | _,[]=>7
  | n,[s]=>if n.h.kind=2 then nJ cut n.ks s else 7
  | n,s :: t :: l=>if ¬n.h.kind=2 then 7 else if iB n.ks s=true then (match n.ks[cJ n.ks s]? with|some k=>pF cut x k.2 (t :: l)|none=>5) else 5
def pN (cut:Bool) (x:PN):PN→List ByteArray→PN
  | n,[]=>n
  | n,[s]=>.mk n.h (lZ cut x n.ks s)
  | n,s :: t :: l=>match n.ks[cJ n.ks s]? with|some k=>.mk n.h (n.ks.set (cJ n.ks s) (k.1,pN cut x k.2 (t :: l)))|none=>n
def xL (cut:Bool) (x n:PN) (l:List ByteArray):PN:=if pF cut x n l=0 then pN cut x n l else pnZ
theorem editF_bd (cut:Bool) (ks:PKs) (s:ByteArray):0≤nJ cut ks s∧nJ cut ks s≤7:=by unfold nJ;(repeat' split)<;>omega
theorem pF_bd (cut:Bool) (x:PN):∀ (l:List ByteArray) (n:PN),0≤pF cut x n l∧pF cut x n l≤7
  | [],n=>by simp [pF]
  | [s],n=>by
    simp only [pF]
    split
    · exact editF_bd _ _ _
    · omega
  | s :: t :: l,n=>by
    rw [pF]
    split
    · omega
    · split
      · split
        · exact pF_bd cut x (t :: l) _
        · omega
      · omega
def iO (h:Hd) (many:Bool) (upper root:Bool):Int :=
  if ¬(h.kind=1∨h.kind=2∨h.kind=3) then 3
  else if ¬((0≤h.mode∧h.mode≤4095)∧(0≤h.user∧h.user≤65535)∧(0≤h.group∧h.group≤65535)) then 1
  else if ¬eO h.attrs=0 then eO h.attrs
  else if 200<h.data.size then 1
  else if (h.kind=3∧(upper=false∨0<h.mode+h.user+h.group+h.attrs.length))∨(¬h.kind=1∧0<h.data.size)∨(¬h.kind=2∧(many=true∨h.opq=true))∨(h.opq=true∧(upper=false∨root=true)) then 3
  else 0
mutual
def bU (upper:Bool) (deep so:Nat):PN→Nat×Int
  | .mk h ks=>if so=60∨6<deep then (so,2) else if ¬iO h (decide (0<ks.length)) upper (decide (deep=0))=0 then (so,iO h (decide (0<ks.length)) upper (decide (deep=0))) else dD upper deep (so+1) none ks
termination_by n=>SizeOf.sizeOf n
def dD (upper:Bool) (deep so:Nat) (prev:Option ByteArray):PKs→Nat×Int
  | []=>(so,0)
  | (nm,n) :: ks=>if ¬eV nm.toList=true then (so,4) else if (∃ y,prev=some y∧¬y.toList<nm.toList) then (so,3) else if ¬(bU upper (deep+1) so n).2=0 then bU upper (deep+1) so n else dD upper deep (bU upper (deep+1) so n).1 (some nm) ks
termination_by ks=>SizeOf.sizeOf ks
end
def cP (upper:Bool) (n:PN):Int:=if ¬n.h.kind=2 then 7 else (bU upper 0 0 n).2
end
section
def gA (h:Hd) (ks:PKs):Prop:=nF h.attrs=true∧h.data.size≤300∧ks.length≤80∧∀ k∈ks,k.1.size≤60
structure LN where
  h:Hd
  A:Option Addr
  na:Nat
  ca:Nat
  K:Option Addr
  nk:Nat
  ck:Nat
  ks:PKs
def LN.n (x:LN):PN:=.mk x.h x.ks
abbrev lnC (x:LN):List Value:=[.int .i64 x.h.kind,.int .i64 x.h.mode,.int .i64 x.h.user,.int .i64 x.h.group,.bool x.h.opq,.slice x.A x.na x.ca,.string x.h.data,.slice x.K x.nk x.ck]
abbrev lnV (x:LN):Value:=.agg #[.int .i64 x.h.kind,.int .i64 x.h.mode,.int .i64 x.h.user,.int .i64 x.h.group,.bool x.h.opq,.slice x.A x.na x.ca,.string x.h.data,.slice x.K x.nk x.ck]
structure LK where
  nm:ByteArray
  x:LN
abbrev lkC (e:LK):List Value:=[.string e.nm,.int .i64 e.x.h.kind,.int .i64 e.x.h.mode,.int .i64 e.x.h.user,.int .i64 e.x.h.group,.bool e.x.h.opq,.slice e.x.A e.x.na e.x.ca,.string e.x.h.data,.slice e.x.K e.x.nk e.x.ck]
def kz (e:LK):ByteArray×PN:=(e.nm,e.x.n)
theorem rK (e:LK):(lkC e).length=9:=rfl
theorem rZ (l:List LK):∀ u∈l.flatMap lkC,gQ u=true:=fun u hu=>by
  obtain⟨r,_,hr⟩:=List.mem_flatMap.1 hu
  simp only [List.mem_cons,List.not_mem_nil,or_false] at hr
  rcases hr with rfl|rfl|rfl|rfl|rfl|rfl|rfl|rfl|rfl<;>rfl
inductive aT (V:aD):LN→Prop
  | mk (x:LN) (es:List LK) (ha:eC V x.A x.na x.h.attrs) (hca:x.na≤x.ca) (hd:x.h.data.size≤maxLen) (hk:eP V 9 lkC x.K x.nk es) (hck:x.nk≤x.ck) (hks:x.ks=es.map kz) (hn:∀ e∈es,e.nm.size≤maxLen) (hs:∀ e∈es,aT V e.x):aT V x
def dV (V:aD) (K:Option Addr) (n:Nat) (es:List LK):Prop:=eP V 9 lkC K n es∧∀ e∈es,e.nm.size≤maxLen∧aT V e.x
theorem aT.inv {V:aD} {x:LN} (h:aT V x):eC V x.A x.na x.h.attrs∧x.na≤x.ca∧x.h.data.size≤maxLen∧x.nk≤x.ck∧∃ es,dV V x.K x.nk es∧x.ks=es.map kz:=by
  cases h with
  | mk x es ha hca hd hk hck hks hn hs=>exact⟨ha,hca,hd,hck,es,⟨hk,fun e he=>⟨hn e he,hs e he⟩⟩,hks⟩
theorem aT.of {V:aD} {x:LN} {es:List LK} (ha:eC V x.A x.na x.h.attrs) (hca:x.na≤x.ca) (hd:x.h.data.size≤maxLen) (hck:x.nk≤x.ck) (hk:dV V x.K x.nk es) (hks:x.ks=es.map kz):aT V x :=
  .mk x es ha hca hd hk.1 hck hks (fun e he=>(hk.2 e he).1) (fun e he=>(hk.2 e he).2)
theorem aT.ind {V:aD} {C:LN→Prop} (step:∀ x es,eC V x.A x.na x.h.attrs→x.na≤x.ca→x.h.data.size≤maxLen→x.nk≤x.ck→dV V x.K x.nk es→x.ks=es.map kz→(∀ e∈es,C e.x)→C x) {x:LN} (h:aT V x):C x:=by
  induction h with
  | mk x es ha hca hd hk hck hks hn hs ih=>exact step x es ha hca hd hck ⟨hk,fun e he=>⟨hn e he,hs e he⟩⟩ hks ih
theorem aT.le {V V':aD} (hv:VLe V V') {x:LN} (h:aT V x):aT V' x:=by
  induction h with
  | mk x es ha hca hd hk hck hks hn hs ih=>exact .mk x es (ha.le hv) hca hd (hk.le hv) hck hks hn ih
theorem dV.le {V V':aD} {K:Option Addr} {n:Nat} {es:List LK} (hv:VLe V V') (h:dV V K n es):dV V' K n es:=⟨h.1.le hv,fun e he=>⟨(h.2 e he).1,(h.2 e he).2.le hv⟩⟩
theorem aG.tail {V:aD} {b o:Nat} {c:Value} {cs:List Value} (h:aG V b o (c :: cs)):aG V b (o+1) cs:=fun j v hj=>by
  have:=h (j+1) v (by simpa using hj)
  rw [show o+1+j=o+(j+1) by omega];exact this
theorem dV.at_ {V:aD} {K:Option Addr} {n:Nat} {es:List LK} (h:dV V K n es) {k:Nat} (hk:k<n):∃ b off e,K=some ⟨b,off,none⟩∧es[k]?=some e∧e∈es∧aG V b (off+k * 9) (lkC e)∧V ⟨b,off+k * 9+0,none⟩=some (.string e.nm)∧aG V b (off+k * 9+1) (lnC e.x)∧e.nm.size≤9223372036854775807∧aT V e.x:=by
  obtain⟨b,off,e,ha,hx,hc⟩:=h.1.at_ hk
  have hm:=List.mem_of_getElem? hx
  have:=h.2 e hm
  have h1:=this.1
  unfold maxLen at h1
  exact⟨b,off,e,ha,hx,hm,hc,hc 0 _ rfl,hc.tail,by omega,this.2⟩
theorem dV.len {V:aD} {K:Option Addr} {n:Nat} {es:List LK} (h:dV V K n es):es.length=n:=h.1.1
theorem dV.max {V:aD} {K:Option Addr} {n:Nat} {es:List LK} (h:dV V K n es):n≤9223372036854775807:=h.1.max
theorem pA {es:List LK} {ks:PKs} (h:ks=es.map kz) {k:Nat} {e:LK} (he:es[k]?=some e):ks[k]?=some (e.nm,e.x.n):=by
  subst h;rw [List.getElem?_map,he];rfl
theorem take_next {α:Type} {xs ys:List α} {k:Nat} {a b:α} (hx:xs[k]?=some a) (hy:ys[k]?=some b) (h:xs.take k=ys.take k) (e:a=b):xs.take (k+1)=ys.take (k+1):=by
  rw [List.take_add_one,List.take_add_one,h,hx,hy,e]
noncomputable def sameB (a b:PN):Bool:=@decide (a=b) (Classical.propDecidable _)
theorem nT {a b:PN}:sameB a b=true↔a=b:=by unfold sameB;exact @decide_eq_true_iff _ (Classical.propDecidable _)
theorem sameB_h {x y:LN} (h:¬x.h=y.h):Value.bool false=Value.bool (sameB x.n y.n):=by
  congr 1;symm;rw [←Bool.not_eq_true,nT];intro e;injection e with e1 _;exact h e1
theorem sameB_ks {x y:LN} (h:¬x.ks=y.ks):Value.bool false=Value.bool (sameB x.n y.n):=by
  congr 1;symm;rw [←Bool.not_eq_true,nT];intro e;injection e with _ e2;exact h e2
theorem sameB_yes {x y:LN} (h1:x.h=y.h) (h2:x.ks=y.ks):Value.bool true=Value.bool (sameB x.n y.n):=by
  congr 1;symm;rw [nT];unfold LN.n;rw [h1,h2]
theorem ks_ne {us vs:PKs} {i:Nat} {a b:ByteArray×PN} (ha:us[i]?=some a) (hb:vs[i]?=some b) (h:¬a=b):¬us=vs:=by
  intro e;subst e;rw [ha] at hb;injection hb with hb;exact h hb
attribute [local irreducible] AtQ GoC GoL GoW QO QP Fn RV bL aG VLe bR bK
theorem SameNode_c (V:aD) (x:LN) (hx:aT V x):∀ y:LN,aT V y→Fn Tryz.prog 27 [lnV x,lnV y] V fun v _=>v=.bool (sameB x.n y.n):=by
  refine aT.ind (C:=fun x=>∀ y:LN,aT V y→Fn Tryz.prog 27 [lnV x,lnV y] V fun v _=>v=.bool (sameB x.n y.n)) ?_ hx
  intro x es ha hca hd hck hk hks ih y hy
  obtain⟨ha2,hca2,hd2,hck2,fs,hk2,hks2⟩:=hy.inv
  have hl1:=hk.len
  have hl2:=hk2.len
  have hm1:=hk.max
  have hm2:=hk2.max
  have hz1:x.ks.length=x.nk:=by rw [hks,List.length_map,hl1]
  have hz2:y.ks.length=y.nk:=by rw [hks2,List.length_map,hl2]
  have hsame:=SameAttrs_c V _ _ _ _ x.ca y.ca _ _ ha ha2
  (refine aI Tryz.func27 rfl Tryz.ntmps27 rfl ?_;intro w0)
  repeat' (first|(refine aE ?_;first|(refine cN ?_;refine aO (yB und_4 rfl rfl) ?_)|(refine al9 ?_;intro γ)|refine pu9 ?_)|refine dG ?_|(refine aJ rfl rfl rfl ?_ ?_<;>intro hq<;>try exact no9)|(refine aA rfl ?_ ?_<;>intro hq<;>try exact no9))
  all_goals first
    | ((refine aM Tryz.results27 (aB rfl) ?_);first|exact sameB_h (fun e=>by rw [e] at hq;exact hq rfl)|exact sameB_ks (fun e=>by rw [←hz1,←hz2,e] at hq;exact hq rfl))
    | skip
  have hh:x.h.kind=y.h.kind∧x.h.mode=y.h.mode∧x.h.user=y.h.user∧x.h.group=y.h.group∧x.h.opq=y.h.opq∧x.h.data=y.h.data∧x.nk=y.nk:=by
    refine⟨?_,?_,?_,?_,?_,?_,?_⟩<;>first|omega|(apply Decidable.not_not.1;assumption)
  rename_i γ1 _ _ _ _ _ _
  refine bN (fun F V' L' m=>∃ k:Nat,V=V'∧[⟨γ,70,lnC y⟩,⟨γ1,70,lnC x⟩]=L'∧k≤x.nk∧m=x.nk - k∧x.ks.take k=y.ks.take k∧F=[(2,.pointer (some ⟨γ1,0,none⟩)),(3,.pointer (some ⟨γ,0,none⟩)),(5,.int .i64 k)]) (m:=x.nk) ⟨0,rfl,rfl,Nat.zero_le _,by omega,rfl,rfl⟩ bH rfl sl9 ?_
  rintro F V' L' m ⟨k,rfl,rfl,hkn,rfl,htk,rfl⟩
  have hxy:x.nk=y.nk:=hh.2.2.2.2.2.2
  by_cases hlt:k<x.nk
  · obtain⟨b1,o1,e,hK1,he,hem,hc,c0,c1,_,hne⟩:=hk.at_ hlt
    obtain⟨b2,o2,f,hK2,hf,hfm,hc',c0',c1',_,hnf⟩:=hk2.at_ (k:=k) (by omega)
    have hcall:=ih e hem f.x hnf
    have hz1:=pA hks he
    have hz2:=pA hks2 hf
    repeat' (first|(refine aE ?_;first|(refine cN ?_;refine aO (yB und_4 rfl rfl) ?_)|(refine aC ?_;refine aP rfl (aK ⟨Tryz.call27⟩ rfl (hcall)) ?_)|refine pu9 ?_)|refine bY ?_|(refine aA rfl ?_ ?_<;>intro hq<;>try exact no9)|(refine bM rfl ?_ ?_<;>intro hq)|refine bQ (id:=6) mixed (by kernel_rfl) ?_|refine bQ (id:=8) mixed (by kernel_rfl) ?_)
    all_goals first
      | ((refine aM Tryz.results27 (aB rfl) ?_);first|exact sameB_ks (ks_ne hz1 hz2 (fun e=>hq (congrArg Prod.fst e)))|exact sameB_ks (ks_ne hz1 hz2 (fun e=>by injection e with _ e;rw [nT.2 e] at hq;cases hq)))
      | skip
    have hst:=take_next hz1 hz2 htk (by rw [Prod.mk.injEq];exact⟨Decidable.not_not.1 (by assumption),nT.1 (by simpa using hq)⟩)
    refine aX _ (x.nk - (k+1)) ⟨k+1,rfl,rfl,by omega,rfl,hst,rfl⟩ (by omega) bH sl9
  · repeat' (first|(refine aE ?_;first|(refine cN ?_;refine aO (yB und_4 rfl rfl) ?_)|(refine aC ?_;refine aP rfl (aK ⟨Tryz.call97⟩ rfl (hsame)) ?_)|refine pu9 ?_)|refine dT ?_|(refine aA rfl ?_ ?_<;>intro hq<;>try exact no9))
    all_goals (refine aM Tryz.results27 (aB rfl) ?_)
    have hks:x.ks=y.ks:=by
      rw [List.take_of_length_le (by omega),List.take_of_length_le (by omega)] at htk;exact htk
    by_cases hat:x.h.attrs=y.h.attrs
    · rw [decide_eq_true hat]
      obtain⟨e1,e2,e3,e4,e5,e6,_⟩:=hh
      exact sameB_yes (Hd.ext e1 e2 e3 e4 e5 hat e6) hks
    · rw [decide_eq_false hat]
      exact sameB_h (fun e=>hat (by rw [e]))
end
section
abbrev strC (s:ByteArray):List Value:=[.string s]
def cL (V:aD) (A:Option Addr) (n:Nat) (xs:List ByteArray):Prop:=eP V 1 strC A n xs∧∀ s∈xs,s.size≤maxLen
theorem cL.le {V V':aD} {A:Option Addr} {n:Nat} {xs:List ByteArray} (hv:VLe V V') (h:cL V A n xs):cL V' A n xs:=⟨h.1.le hv,h.2⟩
theorem cL.nil {V:aD} {A:Option Addr}:cL V A 0 []:=⟨eP.nil,by simp⟩
theorem cL.at_ {V:aD} {A:Option Addr} {n:Nat} {xs:List ByteArray} (h:cL V A n xs) {k:Nat} (hk:k<n):∃ b off s,A=some ⟨b,off,none⟩∧xs[k]?=some s∧V ⟨b,off+k * 1,none⟩=some (.string s)∧s.size≤9223372036854775807:=by
  obtain⟨b,off,r,ha,hx,hc⟩:=h.1.at_ hk
  have:=h.2 r (List.mem_of_getElem? hx)
  unfold maxLen at this
  exact⟨b,off,r,ha,hx,hc 0 _ rfl,by omega⟩
attribute [local irreducible] AtQ GoC GoL GoW QO QP Fn RV bL aG VLe bR bK
theorem light_c (V:aD) (x:LN) (hx:aT V x):∀ V',VLe V V'→∀ left:Nat,left≤80→Fn Tryz.prog 129 [lnV x,.int .i64 left] V' fun v _=>∃ r:Nat,v=.int .i64 r∧r≤left∧(0<r→cB gA x.n):=by
  refine aT.ind (C:=fun x=>∀ V',VLe V V'→∀ left:Nat,left≤80→Fn Tryz.prog 129 [lnV x,.int .i64 left] V' fun v _=>∃ r:Nat,v=.int .i64 r∧r≤left∧(0<r→cB gA x.n)) ?_ hx
  intro x es ha hca hd hck hk hks ih V' hV left hleft
  have hl:=hk.len
  have hm:=hk.max
  have hz:x.ks.length=x.nk:=by rw [hks,List.length_map,hl]
  have hla:=lightAttrs_c V' _ _ x.ca _ (ha.le hV)
  have hmd:x.h.data.size≤9223372036854775807:=by unfold maxLen at hd;omega
  (refine aI Tryz.func129 rfl Tryz.ntmps129 rfl ?_;intro w0)
  repeat' (first|(refine aE ?_;first|(refine aC ?_;refine aP rfl (aK ⟨Tryz.call219⟩ rfl (hla)) ?_)|(refine al9 ?_;intro γ)|refine pu9 ?_)|refine dG ?_|(refine aJ rfl rfl rfl ?_ ?_<;>intro hq<;>try exact no9)|(refine bS rfl rfl rfl ?_ ?_<;>intro hq)|(refine aA rfl ?_ ?_<;>intro hq<;>try exact no9))
  all_goals first
    | ((refine aM Tryz.results129 (aB rfl) ?_);exact⟨0,rfl,Nat.zero_le _,fun h=>absurd h (by omega)⟩)
    | skip
  refine bN (fun F V2 L' m=>∃ (k r:Nat) (R:Int),VLe V V2∧[⟨γ,70,lnC x⟩]=L'∧k≤x.nk∧r≤left∧(0<r→∀ j e,j<k→es[j]?=some e→e.nm.size≤60∧cB gA e.x.n)∧m=x.nk - k∧R=r∧F=[(1,.int .i64 R),(2,.pointer (some ⟨γ,0,none⟩)),(5,.int .i64 k)]) (m:=x.nk) ⟨0,left - 1,(left:Int) - 1,hV,rfl,Nat.zero_le _,by omega,fun _ j e hj=>by omega,by omega,by omega,rfl⟩ bH rfl sl9 ?_
  rintro F V2 L' m ⟨k,r,_,hV2,rfl,hkn,hr,hold,rfl,rfl,rfl⟩
  by_cases hlt:k<x.nk∧0<r
  · obtain⟨b1,o1,e,hK1,he,hem,hc,c0,c1,hms,hne⟩:=(hk.le hV2).at_ hlt.1
    repeat' (first|(refine aE ?_;first|(refine aC ?_;(refine aS rfl ⟨Tryz.call129⟩ rfl rfl (ih e hem _ (by assumption) r (by omega)) ?_;rintro v V3 hV3 ⟨r2,rfl,hr2,hall⟩))|refine pu9 ?_)|refine bY ?_|(refine aJ rfl rfl rfl ?_ ?_<;>intro hq<;>try exact no9)|(refine aA rfl ?_ ?_<;>intro hq<;>try exact no9))
    all_goals first
      | ((refine aM Tryz.results129 (aB rfl) ?_);exact⟨0,rfl,Nat.zero_le _,fun h=>absurd h (by omega)⟩)
      | skip
    refine aX _ (x.nk - (k+1)) ⟨k+1,r2,r2,vl9,rfl,by omega,by omega,fun h j f hj hf=>?_,rfl,rfl,rfl⟩ (by omega) bH sl9
    rcases Nat.lt_or_ge j k with h2|h2
    · exact hold (by omega) j f h2 hf
    · obtain rfl:j=k:=by omega
      rw [he] at hf;injection hf with hf;subst hf
      exact⟨by omega,hall h⟩
  · repeat' (first|(refine aE ?_;refine pu9 ?_)|refine iX ?_|(refine aJ rfl rfl rfl ?_ ?_<;>intro hq<;>try exact no9)|(refine aA rfl ?_ ?_<;>intro hq<;>try exact no9))
    all_goals (refine aM Tryz.results129 (aB rfl) ?_)
    all_goals
      refine⟨r,rfl,hr,fun h=>?_⟩
      refine .mk ⟨by simpa using ‹(!nF x.h.attrs)=false›,by omega,by omega,fun k hk=>?_⟩ fun k hk=>?_
      all_goals
        rw [hks] at hk
        obtain⟨f,hf,rfl⟩:=List.mem_map.1 hk
        obtain⟨j,hj,he⟩:=List.getElem_of_mem hf
        have:=hold h j f (by omega) (by rw [List.getElem?_eq_getElem hj,he])
        first
          | exact this.1
          | exact this.2
theorem Light_c (V:aD) (x:LN) (hx:aT V x):Fn Tryz.prog 53 [lnV x] V fun v _=>∃ b:Bool,v=.bool b∧(b=true→cB gA x.n):=by
  (refine aI Tryz.func53 rfl Tryz.ntmps53 rfl ?_;intro w0)
  repeat' (first|(refine aE ?_;first|(refine aC ?_;(refine aS rfl ⟨Tryz.call129⟩ rfl rfl (light_c V x hx _ vl9 80 (by decide)) ?_;rintro v V3 hV3 ⟨r2,rfl,hr2,hall⟩))|(refine al9 ?_;intro γ)|refine pu9 ?_)|refine cC ?_|fail)
  all_goals (refine aM Tryz.results53 (aB rfl) ?_)
  exact⟨_,rfl,fun h=>hall (by have:=of_decide_eq_true h;omega)⟩
end
section
def eA (h:Hd) (ks:PKs):Prop:=h.attrs.length≤100000∧ks.length≤100000
theorem cB.imp {p q:Hd→PKs→Prop} (hpq:∀ h ks,p h ks→q h ks) {n:PN} (h:cB p n):cB q n:=by
  induction h with
  | mk h1 h2 ih=>exact .mk (hpq _ _ h1) ih
theorem tE {h:Hd} {ks:PKs} (k:gA h ks):eA h ks:=by
  obtain⟨h1,_,h3,_⟩:=k
  unfold nF at h1
  simp at h1
  exact⟨by omega,by omega⟩
def OwnV (V:aD) (y:LN) (es:List LK) (Bs:List Box):Prop :=
  eC V y.A y.na y.h.attrs∧y.na≤y.ca∧y.h.data.size≤maxLen∧cO y.K y.nk y.ck 156 9 (es.flatMap lkC) Bs∧es.length=y.nk∧(∀ e∈es,e.nm.size≤maxLen∧aT V e.x)∧y.ks=es.map kz
theorem lP {V:aD} {A:Option Addr} {n:Nat} {xs:List PA} (hc:eL V 2 A n (xs.flatMap paC)) (hl:xs.length=n) (hm:n≤maxLen) (hg:∀ a∈xs,a.n.size≤maxLen∧a.v.size≤maxLen):eC V A n xs :=
  ⟨eP.of_cells hc yG hl hm,hg⟩
theorem OwnV.node {V V':aD} {y:LN} {es:List LK} {Bs:List Box} (h:OwnV V y es Bs) (hV:VLe V V') (hc:eL V' 9 y.K y.nk (es.flatMap lkC)) (hm:y.nk≤maxLen):aT V' y:=by
  obtain⟨h1,h2,h3,h4,h5,h6,h7⟩:=h
  exact aT.of (h1.le hV) h2 h3 h4.cap ⟨eP.of_cells hc rK h5 hm,fun e he=>⟨(h6 e he).1,(h6 e he).2.le hV⟩⟩ h7
theorem OwnV.row {V:aD} {y:LN} {es:List LK} {Bs:List Box} (h:OwnV V y es Bs):cO y.K y.nk y.ck 156 9 (es.flatMap lkC) Bs:=h.2.2.2.1
theorem OwnV.bound {V:aD} {y x:LN} {es:List LK} {Bs:List Box} (h:OwnV V y es Bs) (he:y.n=x.n) (hs:cB eA x.n):y.nk≤maxLen:=by
  have h1:=hs.here.2
  rw [←he] at h1
  obtain⟨_,_,_,_,h5,_,h7⟩:=h
  have h2:y.ks.length≤100000:=h1
  rw [h7,List.length_map] at h2
  unfold maxLen;omega
theorem kz_mem {es:List LK} {ks:PKs} (h:ks=es.map kz) {e:LK} (he:e∈es):(e.nm,e.x.n)∈ks:=by
  subst h;exact List.mem_map_of_mem (f:=kz) he
attribute [local irreducible] AtQ GoC GoL GoW QO QP Fn RV bL aG VLe bR bK
theorem Own_c (V:aD) (x:LN) (hx:aT V x):∀ V',VLe V V'→cB eA x.n→FnB Tryz.prog 54 [lnV x] V' [] fun v V2 Bs=>∃ (y:LN) (es:List LK),v=lnV y∧y.n=x.n∧OwnV V2 y es Bs:=by
  refine aT.ind (C:=fun x=>∀ V',VLe V V'→cB eA x.n→FnB Tryz.prog 54 [lnV x] V' [] fun v V2 Bs=>∃ (y:LN) (es:List LK),v=lnV y∧y.n=x.n∧OwnV V2 y es Bs) ?_ hx
  intro x es ha hca hd hck hk hks ih V' hV hsm
  have hl:=hk.len
  have hm:=hk.max
  have hz:x.ks.length=x.nk:=by rw [hks,List.length_map,hl]
  obtain⟨s1,s2⟩:=hsm.here
  replace s1:x.h.attrs.length≤100000:=s1
  replace s2:x.ks.length≤100000:=s2
  have hal:=ha.1.1
  have hsrc:=(ha.le hV).1.cells yG
  have h1:=ones_pa x.h.attrs
  (refine bD Tryz.func54 rfl Tryz.ntmps54 rfl ?_;intro w0)
  repeat' (first|(refine aE ?_;first|(refine aC ?_;(refine aQ rfl und_67 inf_271 rfl rfl rfl cO.nil (xY dO) (fY hsrc) bJ (by omega) rfl rfl ?_;intro A1 c1 L1 hr1;rw [Nat.zero_add] at hr1 ⊢;rw [List.nil_append] at hr1))|refine st9 ?_|(refine al9 ?_;intro γ)|refine pu9 ?_)|refine bY ?_|fail)
  rename_i γ1
  have hcap1:=hr1.cap
  refine gS hr1 aV ?_
  intro V2 hV2 hc2
  have ha2:eC V2 A1 x.na x.h.attrs:=lP hc2 hal (by unfold maxLen;omega) ha.2
  refine bN (fun F V3 L' m=>∃ (k:Nat) (fs:List LK) (A3:Option Addr) (c3:Nat) (L3:List Box),VLe V2 V3∧L3 ++ [⟨γ,70,lnC ⟨hZ,none,0,0,none,0,0,[]⟩⟩,⟨γ1,70,[.int .i64 x.h.kind,.int .i64 x.h.mode,.int .i64 x.h.user,.int .i64 x.h.group,.bool x.h.opq,.slice A1 x.na c1,.string x.h.data,.slice x.K x.nk x.ck]⟩]=L'∧k≤x.nk∧m=x.nk - k∧cO A3 k c3 156 9 (fs.flatMap lkC) L3∧fs.length=k∧fs.map kz=(es.take k).map kz∧(∀ f∈fs,f.nm.size≤maxLen∧aT V3 f.x)∧F=[(1,.pointer (some ⟨γ1,0,none⟩)),(2,.pointer (some ⟨γ,0,none⟩)),(3,.slice A3 k c3),(11,.slice x.K x.nk x.ck),(12,.int .i64 x.nk),(13,.int .i64 k)]) (m:=x.nk) ⟨0,[],none,0,[],VLe.refl _,rfl,Nat.zero_le _,by omega,cO.nil,rfl,rfl,by simp,rfl⟩ bH rfl sl9 ?_
  rintro F V3 L' m ⟨k,fs,A3,c3,L3,hV3,rfl,hkn,rfl,hr3,hfl,hfm,hfn,rfl⟩
  by_cases hlt:k<x.nk
  · obtain⟨b1,o1,e,hK1,he,hem,hc,c0,c1',hms,hne⟩:=((hk.le hV).le (VLe.trans hV2 hV3)).at_ hlt
    have hse:cB eA e.x.n:=hsm.kid (kz_mem hks hem)
    repeat' (first|(refine aE ?_;first|refine st9 ?_|(refine al9 ?_;intro γ)|refine pu9 ?_)|refine bY ?_|(refine aA rfl ?_ ?_<;>intro hq<;>try exact no9))
    refine bX (id:=6) _ mixed (List.Sublist.cons_cons _ (List.nil_sublist _)) ?_;refine gt9 0 ?_;refine gt9 1 ?_;refine gt9 2 ?_;refine gt9 3 ?_;refine gt9 4 ?_;refine aZ (i:=5) rfl ?_;(refine aL rfl ⟨Tryz.call54⟩ rfl aV rfl (ih e hem _ vl9 hse) ?_;rintro v V4 B4 hV4 ⟨y,gs,rfl,hyn,hO⟩;refine kG rfl hO.row aV ?_;intro V5 hV5 hc5;have hyN:=hO.node hV5 hc5 (hO.bound hyn hse));refine gt9 6 ?_;refine aZ (i:=7) rfl ?_;(refine aN rfl und_68 siz_156 zec_156 rfl rfl rfl rfl rfl rfl rfl ?_;intro γ);refine aZ (i:=8) rfl ?_;(refine aQ rfl und_68 inf_156 rfl rfl rfl hr3 aV (cY bA rfl) bJ (by omega) rfl rfl ?_;intro A4 c4 L4 hr4);refine gt9 9 ?_;refine aY (by kernel_rfl) vl9 vl9 bP ?_
    repeat' (first|(refine aE ?_;refine pu9 ?_)|refine cC ?_|fail)
    refine aX _ (x.nk - (k+1)) ⟨k+1,fs ++ [⟨e.nm,y⟩],A4,c4,L4,vl9,rfl,by omega,rfl,by rw [List.flatMap_append];exact hr4,by rw [List.length_append,hfl];rfl,?_,?_,rfl⟩ (by omega) bH sl9
    · rw [List.map_append,hfm,List.take_add_one,he,List.map_append]
      simp [kz,hyn]
    · intro f hf
      rcases List.mem_append.1 hf with hf|hf
      · exact⟨(hfn f hf).1,(hfn f hf).2.le vl9⟩
      · rw [List.mem_singleton] at hf;subst hf
        exact⟨(hk.2 e hem).1,hyN⟩
  · repeat' (first|(refine aE ?_;first|refine st9 ?_|refine pu9 ?_)|refine dT ?_|(refine aA rfl ?_ ?_<;>intro hq<;>try exact no9))
    all_goals
      (refine bE Tryz.results54 (aW agg_70 rfl bA (by exact rfl)) (List.sublist_append_left _ _) ?_)
      refine⟨⟨x.h,A1,x.na,c1,A3,k,c3,x.ks⟩,fs,rfl,rfl,ha2.le hV3,hcap1,hd,hr3,hfl,hfn,?_⟩
      show x.ks=_
      rw [hks,hfm,List.take_of_length_le (by omega)]
end
section
def lnZ:LN:=⟨hZ,none,0,0,none,0,0,[]⟩
theorem aT.zero {V:aD}:aT V lnZ:=aT.of (es:=[]) eC.nil (Nat.le_refl _) (Nat.zero_le _) (Nat.le_refl _) ⟨eP.nil,by simp⟩ rfl
theorem xZ {α:Type} {xs:List α} {k:Nat} {a:α} (h:xs[k]?=some a):k<xs.length:=by
  rcases Nat.lt_or_ge k xs.length with h2|h2
  · exact h2
  · rw [List.getElem?_eq_none h2] at h;cases h
theorem xV {α:Type} {xs:List α} {k:Nat} {a:α} (h:xs[k]?=some a):xs.drop k=a :: xs.drop (k+1):=by
  have hk:=xZ h
  rw [List.drop_eq_getElem_cons hk]
  rw [List.getElem?_eq_getElem hk] at h;injection h with h;rw [h]
def kidR (n:PN) (s:ByteArray):Int:=if n.h.kind=2∧iB n.ks s=true then (atN n.ks s:Int) else -1
attribute [local irreducible] AtQ GoC GoL GoW QO QP Fn RV bL aG VLe bR bK
theorem xG (V:aD) (K:Option Addr) (n c:Nat) (es:List LK) (h:dV V K n es) (ks:PKs) (hks:ks=es.map kz) (s:ByteArray):Fn Tryz.prog 235 [.slice K n c,.string s] V fun v _=>v=.tuple #[.int .i64 (cJ ks s),.bool (iB ks s)]:=by
  have hl:=h.len
  have hm:=h.max
  have hz:ks.length=n:=by rw [hks,List.length_map,hl]
  (refine aI Tryz.func235 rfl Tryz.ntmps235 rfl ?_;intro w0)
  repeat' (first|(refine aE ?_;refine pu9 ?_)|refine bY ?_|fail)
  refine bN (fun F V' L' m=>∃ (j:Nat) (I R:Int),V=V'∧[]=L'∧j≤n∧j=m∧I=j - 1∧R=((j+gtN (ks.drop j) s:Nat):Int)∧F=[(0,.slice K n c),(1,.string s),(6,.int .i64 R),(7,.int .i64 I)]) (m:=n) ⟨n,_,_,rfl,rfl,Nat.le_refl _,rfl,rfl,by rw [List.drop_of_length_le (by omega)],rfl⟩ bH rfl sl9 ?_
  rintro F V' L' m ⟨j,I,R,rfl,rfl,hj,rfl,hI,hR,rfl⟩
  by_cases hlt:0<j
  · obtain⟨k,rfl⟩:∃ k,j=k+1:=⟨j - 1,by omega⟩
    have hIk:I.toNat=k:=by omega
    obtain⟨b1,o1,e,hK1,he,hem,hc,c0,c1,hms,hne⟩:=h.at_ (k:=k) (by omega)
    have hg:=gt_drop (s:=s) (pA hks he)
    rw [←hIk] at c0
    repeat' (first|(refine aE ?_;first|(refine cN ?_;refine aO (q_sgtr rfl rfl) ?_)|refine pu9 ?_)|refine bY ?_|(refine aA rfl ?_ ?_<;>intro hq<;>try exact no9))
    · refine aX _ k ⟨k,_,_,rfl,rfl,by omega,rfl,?_,?_,rfl⟩ (by omega) bH sl9
      · omega
      · rw [hg,if_pos (by assumption)];omega
    · refine aX _ k ⟨k,_,_,rfl,rfl,by omega,rfl,?_,?_,rfl⟩ (by omega) bH sl9
      · omega
      · rw [hg,if_neg (by assumption)];omega
  · obtain rfl:j=0:=by omega
    repeat' (first|(refine aE ?_;refine pu9 ?_)|refine nG ?_|(refine aA rfl ?_ ?_<;>intro hq<;>try exact no9))
    refine bN (fun F V' L' m=>∃ k:Nat,V=V'∧[]=L'∧k≤n∧m=n - k∧(∀ i k',i<k→ks[i]?=some k'→¬k'.1=s)∧F=[(1,.string s),(6,.int .i64 R),(27,.slice K n c),(28,.int .i64 n),(29,.int .i64 k)]) (m:=n) ⟨0,rfl,rfl,Nat.zero_le _,by omega,fun i _ hi=>by omega,rfl⟩ bH rfl sl9 ?_
    rintro F V' L' m ⟨k,rfl,rfl,hkn,rfl,hold,rfl⟩
    by_cases hlt:k<n
    · obtain⟨b1,o1,e,hK1,he,hem,hc,c0,c1,hms,hne⟩:=h.at_ (k:=k) hlt
      have hke:=pA hks he
      repeat' (first|(refine aE ?_;first|refine st9 ?_|(refine al9 ?_;intro γ)|refine pu9 ?_)|refine bY ?_|(refine aA rfl ?_ ?_<;>intro hq<;>try exact no9))
      · (refine bB Tryz.results235 (aB rfl) (aB rfl) ?_)
        obtain⟨h1,h2⟩:=at_eq hke (show e.nm=s by assumption) hold
        unfold cJ;rw [h1,if_pos rfl,h2]
      · refine aX _ (n - (k+1)) ⟨k+1,rfl,rfl,by omega,rfl,fun i k' hi hk'=>?_,rfl⟩ (by omega) bH sl9
        rcases Nat.lt_or_ge i k with h2|h2
        · exact hold i k' h2 hk'
        · obtain rfl:i=k:=by omega
          rw [hke] at hk';injection hk' with hk';subst hk';assumption
    · repeat' (first|(refine aE ?_;refine pu9 ?_)|refine dT ?_|(refine aA rfl ?_ ?_<;>intro hq<;>try exact no9))
      (refine bB Tryz.results235 (aB rfl) (aB rfl) ?_)
      have h1:=at_none (ks:=ks) (s:=s) (fun i k' hi hk'=>hold i k' (by omega) hk')
      unfold cJ;rw [h1,if_neg (by decide),hR,List.drop_zero,Nat.zero_add]
theorem kid_c (V:aD) (x:LN) (hx:aT V x) (s:ByteArray):Fn Tryz.prog 245 [lnV x,.string s] V fun v _=>v=.int .i64 (kidR x.n s):=by
  obtain⟨ha,hca,hd,hck,es,h,hks⟩:=hx.inv
  have hl:=h.len
  have hm:=h.max
  have hz:x.ks.length=x.nk:=by rw [hks,List.length_map,hl]
  (refine aI Tryz.func245 rfl Tryz.ntmps245 rfl ?_;intro w0)
  repeat' (first|(refine aE ?_;first|(refine al9 ?_;intro γ)|refine pu9 ?_)|refine bY ?_|(refine aA rfl ?_ ?_<;>intro hq<;>try exact no9))
  · (refine aM Tryz.results245 (aB rfl) ?_)
    unfold kidR;rw [if_neg (fun hh=>by have:x.h.kind=2:=hh.1;exact absurd this (by assumption))]
  · have hk2:x.h.kind=2:=by omega
    refine bN (fun F V' L' m=>∃ k:Nat,V=V'∧[⟨γ,70,lnC x⟩]=L'∧k≤x.nk∧m=x.nk - k∧(∀ i k',i<k→x.ks[i]?=some k'→¬k'.1=s)∧F=[(1,.string s),(2,.pointer (some ⟨γ,0,none⟩)),(5,.int .i64 k)]) (m:=x.nk) ⟨0,rfl,rfl,Nat.zero_le _,by omega,fun i _ hi=>by omega,rfl⟩ bH rfl sl9 ?_
    rintro F V' L' m ⟨k,rfl,rfl,hkn,rfl,hold,rfl⟩
    by_cases hlt:k<x.nk
    · obtain⟨b1,o1,e,hK1,he,hem,hc,c0,c1,hms,hne⟩:=h.at_ (k:=k) hlt
      have hke:=pA hks he
      repeat' (first|(refine aE ?_;refine pu9 ?_)|refine bY ?_|(refine aA rfl ?_ ?_<;>intro hq<;>try exact no9))
      · (refine aM Tryz.results245 (aB rfl) ?_)
        obtain⟨h1,h2⟩:=at_eq hke (show e.nm=s by assumption) hold
        unfold kidR
        rw [if_pos ⟨hk2,h1⟩]
        show _=Value.int .i64 (atN x.ks s:Int)
        rw [h2]
      · refine aX _ (x.nk - (k+1)) ⟨k+1,rfl,rfl,by omega,rfl,fun i k' hi hk'=>?_,rfl⟩ (by omega) bH sl9
        rcases Nat.lt_or_ge i k with h2|h2
        · exact hold i k' h2 hk'
        · obtain rfl:i=k:=by omega
          rw [hke] at hk';injection hk' with hk';subst hk';assumption
    · repeat' (first|(refine aE ?_;refine pu9 ?_)|refine dT ?_|(refine aA rfl ?_ ?_<;>intro hq<;>try exact no9))
      (refine aM Tryz.results245 (aB rfl) ?_)
      have h1:iB x.n.ks s=false:=at_none (fun i k' hi hk'=>hold i k' (by rw [←hz] at hlt;have:x.n.ks.length=x.ks.length:=rfl;omega) hk')
      unfold kidR;rw [if_neg (fun hh=>by rw [h1] at hh;cases hh.2)]
theorem findP_no {n:PN} {s:ByteArray} {l:List ByteArray} (h:¬n.h.kind=2∨iB n.ks s=false):eI n (s :: l)=none:=by
  rw [eI,if_neg (fun hh=>by rcases h with h|h;exact h hh.1;rw [h] at hh;cases hh.2)]
theorem findP_yes {n:PN} {s:ByteArray} {l:List ByteArray} {k:ByteArray×PN} (h:n.h.kind=2) (h2:iB n.ks s=true) (hk:n.ks[cJ n.ks s]?=some k):eI n (s :: l)=eI k.2 l:=by
  rw [eI,if_pos ⟨h,h2⟩,hk]
theorem placeN_yes {ks:PKs} {s:ByteArray} (h:iB ks s=true):cJ ks s=atN ks s:=by unfold cJ;rw [if_pos h]
def FindR (r:Option PN) (v:Value) (V':aD):Prop:=∃ z:LN,v=.tuple #[lnV z,.bool r.isSome]∧aT V' z∧z.n=r.getD pnZ
theorem Find_c (V:aD) (x:LN) (hx:aT V x) (hsm:cB eA x.n) (A:Option Addr) (n c:Nat) (xs:List ByteArray) (hs:cL V A n xs):Fn Tryz.prog 158 [lnV x,.slice A n c] V (FindR (eI x.n xs)):=by
  have hl:=hs.1.1
  have hm:=hs.1.max
  (refine aI Tryz.func158 rfl Tryz.ntmps158 rfl ?_;intro w0)
  repeat' (first|(refine aE ?_;first|(refine al9 ?_;intro γ)|refine pu9 ?_)|refine bY ?_|fail)
  rename_i γ1
  refine bN (fun F V' L' m=>∃ (k:Nat) (y:LN),VLe V V'∧[⟨γ,70,lnC lnZ⟩,⟨γ1,70,lnC y⟩]=L'∧k≤n∧m=n - k∧aT V' y∧cB eA y.n∧eI x.n xs=eI y.n (xs.drop k)∧F=[(2,.pointer (some ⟨γ1,0,none⟩)),(4,.pointer (some ⟨γ,0,none⟩)),(10,.slice A n c),(11,.int .i64 n),(12,.int .i64 k)]) (m:=n) ⟨0,x,VLe.refl _,rfl,Nat.zero_le _,by omega,hx,hsm,rfl,rfl⟩ bH rfl sl9 ?_
  rintro F V' L' m ⟨k,y,hV',rfl,hkn,rfl,hy,hsy,hf,rfl⟩
  by_cases hlt:k<n
  · obtain⟨b1,o1,s,rfl,hxs,hc,hss⟩:=(hs.le hV').at_ hlt
    obtain⟨ha,hca,hd,hck,es,hk,hks⟩:=hy.inv
    rw [xV hxs] at hf
    have hzl:y.ks.length=y.nk:=by rw [hks,List.length_map,hk.len]
    have hpl:=tO y.ks s
    repeat' (first|(refine aE ?_;first|(refine aC ?_;refine aP rfl (aK ⟨Tryz.call235⟩ rfl (xG _ _ _ _ es hk _ hks s)) ?_)|refine st9 ?_|refine pu9 ?_)|refine dG ?_|(refine aJ rfl rfl rfl ?_ ?_<;>intro hq<;>try exact no9)|(refine aA rfl ?_ ?_<;>intro hq<;>try exact no9)|(refine bM rfl ?_ ?_<;>intro hq))
    all_goals first
      | ((refine bB Tryz.results158 (aW agg_70 rfl bA (by exact rfl)) (aB rfl) ?_);rw [hf,findP_no (.inl (show ¬y.n.h.kind=2 from hq))];exact⟨lnZ,rfl,aT.zero,rfl⟩)
      | ((refine bB Tryz.results158 (aW agg_70 rfl bA (by exact rfl)) (aB rfl) ?_);rw [hf,findP_no (.inr (show iB y.n.ks s=false by rw [Bool.not_eq_true'] at hq;exact hq))];exact⟨lnZ,rfl,aT.zero,rfl⟩)
      | skip
    have hia:iB y.ks s=true:=by simpa using hq
    have hpl2:=nS hia
    obtain⟨b2,o2,e,hK1,he,hem,hc',c0,c1,hms,hne⟩:=hk.at_ (k:=cJ y.ks s) (by omega)
    have hke:=pA hks he
    repeat' (first|(refine aE ?_;first|refine st9 ?_|refine pu9 ?_)|refine cC ?_|fail)
    refine aX _ (n - (k+1)) ⟨k+1,e.x,hV',rfl,by omega,rfl,hne,hsy.kid (List.mem_of_getElem? hke),?_,rfl⟩ (by omega) bH sl9
    rw [hf,findP_yes (n:=y.n) (Decidable.not_not.1 (by assumption)) hia hke]
  · repeat' (first|(refine aE ?_;first|(refine aC ?_;(refine aL rfl ⟨Tryz.call54⟩ rfl aV rfl (Own_c _ y hy _ (VLe.refl _) hsy) ?_;rintro v V4 B4 hV4 ⟨z,gs,rfl,hyn,hO⟩;refine kG rfl hO.row aV ?_;intro V5 hV5 hc5;have hzN:=hO.node hV5 hc5 (hO.bound hyn hsy)))|refine st9 ?_|refine pu9 ?_)|refine dT ?_|(refine aA rfl ?_ ?_<;>intro hq<;>try exact no9))
    all_goals
      (refine bB Tryz.results158 (aW agg_70 rfl bA (by exact rfl)) (aB rfl) ?_)
      rw [List.drop_of_length_le (by omega)] at hf
      rw [hf]
      exact⟨z,rfl,hzN,hyn⟩
theorem kidR_yes {n:PN} {s:ByteArray} (h:¬kidR n s<0):n.h.kind=2∧iB n.ks s=true∧kidR n s=(cJ n.ks s:Int):=by
  unfold kidR at h ⊢
  split at h
  · rename_i hh
    exact⟨hh.1,hh.2,by rw [if_pos hh,placeN_yes hh.2]⟩
  · omega
end
section
def EditR (cut:Bool) (x:PN) (ks:PKs) (s:ByteArray) (v:Value) (V':aD):Prop :=
  ∃ (K:Option Addr) (n c:Nat) (es:List LK),v=.tuple #[.slice K n c,bK (nJ cut ks s)]∧n≤c∧dV V' K n es∧(nJ cut ks s=0→es.map kz=lZ cut x ks s)
theorem dV.nil {V:aD}:dV V none 0 []:=⟨eP.nil,by simp⟩
theorem dV.take {V:aD} {K:Option Addr} {n k:Nat} {es:List LK} (h:dV V K n es) (hk:k≤n):dV V K k (es.take k):=⟨h.1.take hk,fun e he=>h.2 e (List.mem_of_mem_take he)⟩
theorem dV.drop {V:aD} {K:Option Addr} {n k c:Nat} {es:List LK} (h:dV V K n es) (hk:k≤n) (hc:n≤c):dV V (vX K c k 9) (n - k) (es.drop k):=⟨h.1.drop hk hc,fun e he=>h.2 e (List.mem_of_mem_drop he)⟩
theorem dV.src {B:Base} {V:aD} {L:List Box} {K:Option Addr} {n:Nat} {es:List LK} (h:dV V K n es):bR B V L 9 K n (es.flatMap lkC):=fY (h.1.cells rK)
theorem dV.of {V:aD} {K:Option Addr} {n:Nat} {es:List LK} (hc:eL V 9 K n (es.flatMap lkC)) (hl:es.length=n) (hm:n≤maxLen) (hg:∀ e∈es,e.nm.size≤maxLen∧aT V e.x):dV V K n es:=⟨eP.of_cells hc rK hl hm,hg⟩
theorem edit_cells {es fs:List LK} {e:LK} {l:List Value} (h:l=(es ++ e :: fs).flatMap lkC):l=([] ++ es.flatMap lkC ++ lkC e) ++ fs.flatMap lkC:=by
  rw [h,List.flatMap_append,List.flatMap_cons];simp only [List.nil_append,List.append_assoc]
theorem edit_mem {V V':aD} {K:Option Addr} {n p q:Nat} {es:List LK} {s:ByteArray} {x:LN} (hV:VLe V V') (h:dV V K n es) (hs:s.size≤maxLen) (hx:aT V x):∀ e∈es.take p ++ ⟨s,x⟩ :: es.drop q,e.nm.size≤maxLen∧aT V' e.x:=by
  intro e he
  rcases List.mem_append.1 he with he|he
  · have:=h.2 e (List.mem_of_mem_take he);exact⟨this.1,this.2.le hV⟩
  · rcases List.mem_cons.1 he with rfl|he
    · exact⟨hs,hx.le hV⟩
    · have:=h.2 e (List.mem_of_mem_drop he);exact⟨this.1,this.2.le hV⟩
theorem edit_map {es:List LK} {e:LK} {p q:Nat}:(es.take p ++ e :: es.drop q).map kz=(es.map kz).take p ++ kz e :: (es.map kz).drop q:=by
  rw [List.map_append,List.map_cons,List.map_take,List.map_drop]
theorem editF_put {ks:PKs} {s:ByteArray} (h:eV s.toList=true):nJ false ks s=0:=by unfold nJ;rw [if_neg (by decide),if_pos h]
theorem editF_name {ks:PKs} {s:ByteArray} (h:eV s.toList=false):nJ false ks s=4:=by unfold nJ;rw [if_neg (by decide),if_neg (by rw [h];decide)]
theorem editF_cut {ks:PKs} {s:ByteArray} (h:iB ks s=true):nJ true ks s=0:=by unfold nJ;rw [if_pos rfl,if_pos h]
theorem editF_none {ks:PKs} {s:ByteArray} (h:iB ks s=false):nJ true ks s=5:=by unfold nJ;rw [if_pos rfl,if_neg (by rw [h];decide)]
attribute [local irreducible] AtQ GoC GoL GoW QO QP Fn RV bL aG VLe bR bK
theorem PutF_c (V:aD) (K:Option Addr) (n c:Nat) (es:List LK) (h:dV V K n es) (hnc:n≤c) (hn:n≤100000) (ks:PKs) (hks:ks=es.map kz) (s:ByteArray) (hs:s.size≤maxLen) (g:Nat) (x:LN) (hg:aG V g 0 (lnC x)) (hx:aT V x):Fn Tryz.prog 237 [.slice K n c,.string s,.pointer (some ⟨g,0,none⟩)] V (EditR false x.n ks s):=by
  have hl:=h.len
  have hm:=h.max
  have hz:ks.length=n:=by rw [hks,List.length_map,hl]
  have hple:=tO ks s
  have hs':s.size≤9223372036854775807:=by unfold maxLen at hs;omega
  have hc1:aG V g 0 (lnC x):=hg
  have o1:=rZ (es.take (cJ ks s))
  have o2:=rZ (es.drop (cJ ks s))
  have o3:=rZ (es.drop (cJ ks s+1))
  cases hnm:eV s.toList with
  | false =>
    have hN:=Name_c V s hs'
    rw [hnm] at hN
    (refine aI Tryz.func237 rfl Tryz.ntmps237 rfl ?_;intro w0)
    repeat' (first|(refine aE ?_;first|(refine aC ?_;refine aP rfl (aK ⟨Tryz.call225⟩ rfl (hN)) ?_)|refine pu9 ?_)|refine cX ?_|fail)
    all_goals
      (refine bB Tryz.results237 (aB rfl) (aB rfl) ?_)
      exact⟨none,0,0,[],by rw [editF_name hnm,cU (by decide)],Nat.le_refl _,dV.nil,fun h0=>by rw [editF_name hnm] at h0;cases h0⟩
  | true =>
    have hN:=Name_c V s hs'
    rw [hnm] at hN
    (refine aI Tryz.func237 rfl Tryz.ntmps237 rfl ?_;intro w0)
    repeat' (first|(refine aE ?_;first|(refine aC ?_;(first|refine aP rfl (aK ⟨Tryz.call225⟩ rfl (hN)) ?_|refine aP rfl (aK ⟨Tryz.call235⟩ rfl (xG _ _ _ _ es h _ hks s)) ?_|(refine aQ rfl und_68 inf_156 rfl rfl rfl cO.nil dO (h.take (k:=cJ ks s) (by omega)).src bJ (by omega) rfl rfl ?_;intro A1 c1 L1 hr1)|(refine aQ rfl und_68 inf_156 rfl rfl rfl hr1 aV (cY bA rfl) bJ (by omega) rfl rfl ?_;intro A2 c2 L2 hr2)))|(refine eG ?_;(first|refine aO (cT und_68 siz_156 rfl rfl (by omega)) ?_|refine aO (nQ und_68 siz_156 rfl rfl (by omega)) ?_))|(refine cF ?_;(refine aN rfl und_68 siz_156 zec_156 rfl rfl rfl rfl rfl rfl rfl ?_;intro γ))|refine pu9 ?_)|refine cX ?_|(refine bM rfl ?_ ?_<;>intro hq))
    · have hlt:=nS hq
      repeat' (first|(refine aE ?_;first|(refine aC ?_;(refine aQ rfl und_68 inf_156 rfl rfl rfl hr2 aV ((h.drop (k:=cJ ks s+1) (by omega) hnc).src) bJ (by omega) rfl rfl ?_;intro A3 c3 L3 hr3))|(refine eG ?_;refine aO (mE und_68 siz_156 rfl rfl (by omega)) ?_)|refine pu9 ?_)|refine gx9 ?_|fail)
      have hr3':cO A3 (0+cJ ks s+1+(n - ((cJ ks s:Int)+1).toNat)) c3 156 9 ((es.take (cJ ks s) ++ ⟨s,x⟩ :: es.drop (cJ ks s+1)).flatMap lkC) L3:=by rw [edit_cells rfl];exact hr3
      refine fF hr3' aV ?_
      intro V2 hV2 hc2
      (refine bB Tryz.results237 (aB rfl) (aB rfl) ?_)
      refine⟨A3,_,c3,_,by rw [editF_put hnm,cH],hr3'.cap,dV.of hc2 (by simp;omega) (by unfold maxLen;omega) ?_,fun _=>?_⟩
      · exact edit_mem hV2 h hs hx
      · rw [edit_map,←hks];unfold lZ;rw [if_pos hq];simp [kz]
    · skip
      repeat' (first|(refine aE ?_;first|(refine aC ?_;(refine aQ rfl und_68 inf_156 rfl rfl rfl hr2 aV ((h.drop (k:=cJ ks s) (by omega) hnc).src) bJ (by omega) rfl rfl ?_;intro A3 c3 L3 hr3))|refine pu9 ?_)|refine gx9 ?_|fail)
      have hr3':cO A3 (0+cJ ks s+1+(n - cJ ks s)) c3 156 9 ((es.take (cJ ks s) ++ ⟨s,x⟩ :: es.drop (cJ ks s)).flatMap lkC) L3:=by rw [edit_cells rfl];exact hr3
      refine fF hr3' aV ?_
      intro V2 hV2 hc2
      (refine bB Tryz.results237 (aB rfl) (aB rfl) ?_)
      refine⟨A3,_,c3,_,by rw [editF_put hnm,cH],hr3'.cap,dV.of hc2 (by simp;omega) (by unfold maxLen;omega) ?_,fun _=>?_⟩
      · exact edit_mem hV2 h hs hx
      · rw [edit_map,←hks];unfold lZ;rw [if_neg (show ¬iB ks s=true by rw [hq];decide)];simp [kz]
theorem CutF_c (V:aD) (K:Option Addr) (n c:Nat) (es:List LK) (h:dV V K n es) (hnc:n≤c) (hn:n≤100000) (ks:PKs) (hks:ks=es.map kz) (s:ByteArray) (x:PN):Fn Tryz.prog 261 [.slice K n c,.string s] V (EditR true x ks s):=by
  have hl:=h.len
  have hm:=h.max
  have hz:ks.length=n:=by rw [hks,List.length_map,hl]
  have hple:=tO ks s
  have o1:=rZ (es.take (cJ ks s))
  have o3:=rZ (es.drop (cJ ks s+1))
  have hP:=xG V K n c es h ks hks s
  cases hia:iB ks s with
  | false =>
    rw [hia] at hP
    (refine aI Tryz.func261 rfl Tryz.ntmps261 rfl ?_;intro w0)
    repeat' (first|(refine aE ?_;first|(refine aC ?_;refine aP rfl (aK ⟨Tryz.call235⟩ rfl (hP)) ?_)|refine pu9 ?_)|refine cX ?_|fail)
    all_goals
      (refine bB Tryz.results261 (aB rfl) (aB rfl) ?_)
      exact⟨none,0,0,[],by rw [editF_none hia,cU (by decide)],Nat.le_refl _,dV.nil,fun h0=>by rw [editF_none hia] at h0;cases h0⟩
  | true =>
    rw [hia] at hP
    have hlt:=nS hia
    (refine aI Tryz.func261 rfl Tryz.ntmps261 rfl ?_;intro w0)
    repeat' (first|(refine aE ?_;first|(refine aC ?_;refine aP rfl (aK ⟨Tryz.call235⟩ rfl (hP)) ?_)|refine pu9 ?_)|refine cX ?_|(refine bX (id:=4) _ mixed (List.Sublist.refl _) ?_;refine gt9 0 ?_;refine gt9 1 ?_;refine fL 2 rfl rfl (cT und_68 siz_156 rfl rfl (by omega)) ?_;refine gt9 4 ?_;refine gt9 5 ?_;refine gt9 6 ?_;refine fL 7 rfl rfl (mE und_68 siz_156 rfl rfl (by omega)) ?_;refine aZ (i:=3) rfl ?_;(refine aQ rfl und_68 inf_156 rfl rfl rfl cO.nil dO (h.take (k:=cJ ks s) (by omega)).src bJ (by omega) rfl rfl ?_;intro A1 c1 L1 hr1);refine aZ (i:=8) rfl ?_;(refine aQ rfl und_68 inf_156 rfl rfl rfl hr1 aV ((h.drop (k:=cJ ks s+1) (by omega) hnc).src) bJ (by omega) rfl rfl ?_;intro A3 c3 L3 hr3);refine gt9 9 ?_;refine gt9 10 ?_;refine aY (by kernel_rfl) vl9 vl9 bP ?_))
    have hr3':cO A3 (0+cJ ks s+(n - ((cJ ks s:Int)+1).toNat)) c3 156 9 ((es.take (cJ ks s) ++ es.drop (cJ ks s+1)).flatMap lkC) L3:=by rw [List.flatMap_append];exact hr3
    refine fF hr3' aV ?_
    intro V2 hV2 hc2
    (refine bB Tryz.results261 (aB rfl) (aB rfl) ?_)
    refine⟨A3,_,c3,_,by rw [editF_cut hia,cH],hr3'.cap,dV.of hc2 (by simp;omega) (by unfold maxLen;omega) ?_,fun _=>?_⟩
    · intro e he
      rcases List.mem_append.1 he with he|he
      · have:=h.2 e (List.mem_of_mem_take he);exact⟨this.1,this.2.le hV2⟩
      · have:=h.2 e (List.mem_of_mem_drop he);exact⟨this.1,this.2.le hV2⟩
    · rw [List.map_append,List.map_take,List.map_drop,←hks];unfold lZ;rw [if_pos hia];simp
end
section
def midP (h:Hd) (ks:PKs):Prop:=h.attrs.length≤50000∧ks.length≤50000
theorem mid_small {h:Hd} {ks:PKs} (k:midP h ks):eA h ks:=⟨by have:=k.1;omega,by have:=k.2;omega⟩
theorem nR {cut:Bool} {x:PN} {ks:PKs} {s:ByteArray} {k:ByteArray×PN} (h:k∈lZ cut x ks s):k∈ks∨k=(s,x):=by
  unfold lZ at h
  rcases List.mem_append.1 h with h|h
  · rcases List.mem_append.1 h with h|h
    · exact .inl (List.mem_of_mem_take h)
    · split at h
      · cases h
      · exact .inr (by simpa using h)
  · exact .inl (List.mem_of_mem_drop h)
theorem wU {cut:Bool} {x:PN} {ks:PKs} {s:ByteArray}:(lZ cut x ks s).length≤ks.length+1:=by
  unfold lZ
  have h1:(if cut=true then ([]:PKs) else [(s,x)]).length≤1:=by split<;>simp
  have h2:cJ ks s≤(if iB ks s=true then cJ ks s+1 else cJ ks s):=by split<;>omega
  simp only [List.length_append,List.length_take,List.length_drop]
  omega
theorem edit_small {cut:Bool} {x:PN} {h:Hd} {ks:PKs} {s:ByteArray} (hm:cB midP (.mk h ks)) (hx:cB eA x):cB eA (.mk h (lZ cut x ks s)):=by
  have hh:=hm.here
  have hl:ks.length≤50000:=hh.2
  have:=wU (cut:=cut) (x:=x) (ks:=ks) (s:=s)
  refine .mk ⟨(mid_small hh).1,by omega⟩ fun k hk=>?_
  rcases nR hk with hk|rfl
  · exact(hm.kid hk).imp fun _ _=>mid_small
  · exact hx
def pR (cut:Bool) (x n:PN) (l:List ByteArray) (v:Value) (V':aD):Prop:=∃ z:LN,v=.tuple #[lnV z,bK (pF cut x n l)]∧aT V' z∧z.n=xL cut x n l
theorem pR.bad {cut:Bool} {x n:PN} {l:List ByteArray} {V':aD} {e:Int} (h:pF cut x n l=e) (h0:¬e=0):pR cut x n l (.tuple #[lnV lnZ,bK e]) V' :=
  ⟨lnZ,by rw [h],aT.zero,by unfold xL;rw [h,if_neg h0];rfl⟩
theorem pR.good {cut:Bool} {x n:PN} {l:List ByteArray} {V':aD} {z:LN} (h:pF cut x n l=0) (hz:aT V' z) (hn:z.n=pN cut x n l):pR cut x n l (.tuple #[lnV z,.nilIface]) V' :=
  ⟨z,by rw [h,cH],hz,by unfold xL;rw [if_pos h,hn]⟩
theorem cL.tail {V:aD} {A:Option Addr} {n c:Nat} {s:ByteArray} {l:List ByteArray} (h:cL V A n (s :: l)) (hc:n≤c):cL V (vX A c 1 1) (n - 1) l :=
  ⟨h.1.drop (k:=1) (by have:=h.1.1;simp at this;omega) hc,fun t ht=>h.2 t (List.mem_cons_of_mem _ ht)⟩
theorem spl_part {α:Type} {f:α→List Value} {sz:Nat} (hf:∀ x,(f x).length=sz) {xs:List α} {rest us:List Value} {k j:Nat} {x y:α} (hx:xs[k]?=some x) (hj:j+us.length≤sz) (hy:spl (f x) j us=f y):spl (xs.flatMap f ++ rest) (0+k * sz+j) us=(xs.set k y).flatMap f ++ rest:=by
  have hk:=xZ hx
  have e:xs=xs.take k ++ x :: xs.drop (k+1):=by rw [←xV hx,List.take_append_drop]
  have hl:(xs.take k).length=k:=by rw [List.length_take];omega
  have hl2:((xs.take k).flatMap f).length=k * sz:=by rw [lO f hf,hl]
  have e2:xs.flatMap f ++ rest=(xs.take k).flatMap f ++ (f x ++ ((xs.drop (k+1)).flatMap f ++ rest)):=by
    conv=>lhs;rw [e]
    rw [List.flatMap_append,List.flatMap_cons];simp only [List.append_assoc]
  have e3:(xs.set k y).flatMap f ++ rest=(xs.take k).flatMap f ++ (f y ++ ((xs.drop (k+1)).flatMap f ++ rest)):=by
    rw [List.set_eq_take_append_cons_drop,if_pos hk,List.flatMap_append,List.flatMap_cons];simp only [List.append_assoc]
  rw [e2,e3,←hy]
  have hfx:=hf x
  rw [spl_app _ _ _ (by simp only [List.length_append,hl2,hfx];omega),spl_app _ _ _ (by rw [hfx];omega)]
  rw [show 0+k * sz+j=((xs.take k).flatMap f).length+j by rw [hl2];omega]
  simp only [List.append_assoc]
  rw [List.take_length_add_append,show ((xs.take k).flatMap f).length+j+us.length=((xs.take k).flatMap f).length+(j+us.length) by omega,List.drop_length_add_append,List.take_append_of_le_length (by rw [hfx];omega),List.drop_append_of_le_length (by rw [hfx];omega)]
  simp only [List.append_assoc]
end
section
theorem pF_kind {cut:Bool} {x n:PN} {l:List ByteArray} (h:¬n.h.kind=2):pF cut x n l=7:=by
  match l with
  | []=>rfl
  | [s]=>rw [pF,if_neg h]
  | s :: t :: l=>rw [pF,if_pos h]
theorem pF_one {cut:Bool} {x n:PN} {s:ByteArray} (h:n.h.kind=2):pF cut x n [s]=nJ cut n.ks s:=by rw [pF,if_pos h]
theorem pF_none {cut:Bool} {x n:PN} {s t:ByteArray} {l:List ByteArray} (h:n.h.kind=2) (h2:iB n.ks s=false):pF cut x n (s :: t :: l)=5:=by rw [pF,if_neg (by omega),if_neg (by rw [h2];decide)]
theorem pF_on {cut:Bool} {x n:PN} {s t:ByteArray} {l:List ByteArray} {k:ByteArray×PN} (h:n.h.kind=2) (h2:iB n.ks s=true) (hk:n.ks[cJ n.ks s]?=some k):pF cut x n (s :: t :: l)=pF cut x k.2 (t :: l):=by rw [pF,if_neg (by omega),if_pos h2,hk]
theorem pN_on {cut:Bool} {x n:PN} {s t:ByteArray} {l:List ByteArray} {k:ByteArray×PN} (hk:n.ks[cJ n.ks s]?=some k):pN cut x n (s :: t :: l)=.mk n.h (n.ks.set (cJ n.ks s) (k.1,pN cut x k.2 (t :: l))):=by rw [pN,hk]
theorem pR.badI {cut:Bool} {x n:PN} {l:List ByteArray} {V':aD} {e:Int} (h:pF cut x n l=e) (h0:¬e=0):pR cut x n l (.tuple #[lnV lnZ,.iface 120 (.int .i64 e)]) V':=by
  rw [←cU h0];exact pR.bad h h0
theorem kz_back {es:List LK} {ks:PKs} (h:ks=es.map kz) {k:Nat} {u:ByteArray×PN} (hk:ks[k]?=some u):∃ e,es[k]?=some e∧kz e=u:=by
  subst h
  rw [List.getElem?_map] at hk
  cases he:es[k]? with
  | none=>rw [he] at hk;cases hk
  | some e=>rw [he] at hk;exact⟨e,rfl,by simpa using hk⟩
def EditC (V:aD) (f:FuncId) (cs:List Value) (cut:Bool) (x0:PN):Prop :=
  ∀ V',VLe V V'→∀ (K:Option Addr) (n c:Nat) (es:List LK),dV V' K n es→n≤c→n≤100000→∀ (ks:PKs),ks=es.map kz→∀ s:ByteArray,s.size≤maxLen→Fn Tryz.prog f ([.slice K n c,.string s] ++ cs) V' (EditR cut x0 ks s)
attribute [local irreducible] AtQ GoC GoL GoW QO QP Fn RV bL aG VLe bR bK
theorem change_c (V:aD) (f:FuncId) (cs:List Value) (cut:Bool) (x0:PN) (he:jV Tryz.prog f) (hed:EditC V f cs cut x0) (hx0:cB eA x0):∀ (l:List ByteArray) (x:LN) (A:Option Addr) (n c:Nat) (V':aD),VLe V V'→aT V' x→cB midP x.n→cL V' A n l→n≤c →
    Fn Tryz.prog 236 [lnV x,.slice A n c,.func (.func f) #[] cs.toArray] V' (pR cut x0 x.n l):=by
  intro l
  induction l with
  | nil =>
    intro x A n c V' hV hx hmid hs hnc
    have hl:=hs.1.1
    simp at hl
    subst hl
    (refine aI Tryz.func236 rfl Tryz.ntmps236 rfl ?_;intro w0)
    repeat' (first|(refine aE ?_;first|refine st9 ?_|(refine al9 ?_;intro γ)|refine pu9 ?_)|refine cX ?_|(refine aJ rfl rfl rfl ?_ ?_<;>intro hq<;>try exact no9))
    all_goals
      (refine bB Tryz.results236 (aW agg_70 rfl bA (by exact rfl)) (aB rfl) ?_)
      exact pR.badI (V':=V') (cut:=cut) (x:=x0) (n:=x.n) (l:=[]) rfl (by decide)
  | cons s l ih =>
    intro x A n c V' hV hx hmid hs hnc
    have hl:=hs.1.1
    have hm:=hs.1.max
    have hn0:0<n:=by rw [←hl];simp
    obtain⟨b1,o1,s',rfl,hs0,hsc,hss⟩:=hs.at_ hn0
    obtain rfl:s=s':=by simpa using hs0
    have hsm:=hs.2 s (by simp)
    obtain⟨ha,hca,hd,hck,es,hk,hks⟩:=hx.inv
    have hzl:x.ks.length=x.nk:=by rw [hks,List.length_map,hk.len]
    have hmn:=hmid.here
    replace hmn:x.ks.length≤50000:=hmn.2
    have hsmall:=hmid.imp fun _ _=>mid_small
    have hple:=tO x.ks s
    by_cases hkind:x.h.kind=2
    · cases l with
      | nil =>
        have hn1:n=1:=by rw [←hl];rfl
        subst hn1
        have e1:=pF_one (cut:=cut) (x:=x0) (n:=x.n) (s:=s) hkind
        (refine aI Tryz.func236 rfl Tryz.ntmps236 rfl ?_;intro w0)
        repeat' (first|(refine aE ?_;first|(refine al9 ?_;intro γ)|refine pu9 ?_)|refine cX ?_|(refine aJ rfl rfl rfl ?_ ?_<;>intro hq<;>try exact no9))
        refine bX (id:=4) _ mixed (List.Sublist.refl _) ?_;refine gt9 0 ?_;refine gt9 1 ?_;refine gt9 2 ?_;refine gt9 3 ?_;refine gt9 4 ?_;refine gt9 5 ?_;refine aZ (i:=6) rfl ?_;(refine gw_callv rfl he rfl rfl rfl (hed V' hV _ _ _ es hk hck (by omega) _ hks s hsm) ?_;rintro v V4 hV4 ⟨K2,n2,c2,es2,rfl,hnc2,hk2,hm2⟩);refine gt9 7 ?_;refine gt9 8 ?_;refine gt9 9 ?_;refine gt9 10 ?_;refine gt9 11 ?_;refine aY (by kernel_rfl) vl9 vl9 bP ?_
        repeat' (first|(refine aE ?_;first|refine st9 ?_|refine pu9 ?_)|refine cC ?_|(refine aA rfl ?_ ?_<;>intro hq<;>try exact no9))
        · (refine bB Tryz.results236 (aW agg_70 rfl bA (by exact rfl)) (aB rfl) ?_)
          exact pR.bad (V':=V4) e1 hq
        · have e0:nJ cut x.ks s=0:=Decidable.not_not.1 hq
          have hx':aT V4 ⟨x.h,x.A,x.na,x.ca,K2,n2,c2,lZ cut x0 x.ks s⟩:=aT.of (ha.le hV4) hca hd hnc2 hk2 (hm2 e0).symm
          have hs':=edit_small (cut:=cut) (s:=s) hmid hx0
          repeat' (first|(refine aE ?_;first|(refine aC ?_;(refine aL rfl ⟨Tryz.call54⟩ rfl aV rfl (Own_c _ _ hx' _ (VLe.refl _) hs') ?_;rintro v V5 B5 hV5 ⟨z,gs,rfl,hzn,hO⟩;refine kG rfl hO.row aV ?_;intro V6 hV6 hc6;have hzN:=hO.node hV6 hc6 (hO.bound hzn hs')))|refine st9 ?_|refine pu9 ?_)|refine gx9 ?_|fail)
          all_goals
            (refine bB Tryz.results236 (aW agg_70 rfl bA (by exact rfl)) (aB rfl) ?_)
            exact pR.good (n:=x.n) (e1.trans e0) hzN hzn
      | cons t l =>
        have hn2:n=l.length+2:=by rw [←hl];rfl
        (refine aI Tryz.func236 rfl Tryz.ntmps236 rfl ?_;intro w0)
        repeat' (first|(refine aE ?_;first|(refine al9 ?_;intro γ)|refine pu9 ?_)|refine cC ?_|(refine aJ rfl rfl rfl ?_ ?_<;>intro hq<;>try exact no9)|(refine aA rfl ?_ ?_<;>intro hq<;>try exact no9))
        repeat' (first|(refine aE ?_;first|(refine aC ?_;refine aP rfl (aK ⟨Tryz.call235⟩ rfl (xG _ _ _ _ es hk _ hks s)) ?_)|refine st9 ?_|refine pu9 ?_)|refine cC ?_|(refine bM rfl ?_ ?_<;>intro hq)|refine bQ (id:=9) mixed (by kernel_rfl) ?_)
        · (refine bB Tryz.results236 (aW agg_70 rfl bA (by exact rfl)) (aB rfl) ?_)
          exact pR.badI (V':=V') (pF_none (n:=x.n) hkind (show iB x.ks s=false by rw [Bool.not_eq_true'] at hq;exact hq)) (by decide)
        · have hia:iB x.ks s=true:=by rw [Bool.not_eq_false'] at hq;exact hq
          have hpl:=nS hia
          obtain⟨b2,o2,e,hK1,he2,hem,hc',c0,c1,hms,hne⟩:=hk.at_ (k:=cJ x.ks s) (by omega)
          have hke:=pA hks he2
          have e1:=pF_on (cut:=cut) (x:=x0) (n:=x.n) (s:=s) (t:=t) (l:=l) hkind hia hke
          have e2:=pN_on (cut:=cut) (x:=x0) (n:=x.n) (s:=s) (t:=t) (l:=l) hke
          have htl:=hs.tail hnc
          have hcall:=ih e.x _ _ (c - 1) V' hV hne (hmid.kid (List.mem_of_getElem? hke)) htl (by omega)
          refine bX (id:=12) _ mixed (List.Sublist.refl _) ?_;refine gt9 0 ?_;refine gt9 1 ?_;refine gt9 2 ?_;refine gt9 3 ?_;refine gt9 4 ?_;refine gt9 5 ?_;refine gt9 6 ?_;refine fL 7 rfl rfl (mE und_47 siz_9 rfl rfl (by omega)) ?_;refine gt9 8 ?_;(refine dL (i:=9) (j:=13) (by kernel_rfl) rfl rfl rfl rfl vl9 vl9 bP ?_ ?_<;>first|((refine aS rfl ⟨Tryz.call236⟩ rfl rfl (hcall) ?_;rintro v V4 hV4 ⟨z,rfl,hzN,hzn⟩);refine gt9 10 ?_;refine gt9 11 ?_;refine gt9 12 ?_;refine aZ (i:=13) rfl ?_;(refine cV rfl zer_70 rfl ?_;intro γ);refine aZ (i:=14) rfl ?_;refine aR rfl siz_70 rfl rfl rfl rfl bJ dP rfl ?_;refine gt9 15 ?_;refine aY (by kernel_rfl) vl9 vl9 bP ?_)|((refine cV rfl zer_70 rfl ?_;intro γ);refine aZ (i:=9) rfl ?_;(refine aS rfl ⟨Tryz.call236⟩ rfl rfl (hcall) ?_;rintro v V4 hV4 ⟨z,rfl,hzN,hzn⟩);refine gt9 10 ?_;refine gt9 11 ?_;refine gt9 12 ?_;refine aZ (i:=14) rfl ?_;refine aR rfl siz_70 rfl rfl rfl rfl bJ dP rfl ?_;refine gt9 15 ?_;refine aY (by kernel_rfl) vl9 vl9 bP ?_))
          repeat' (first|(refine aE ?_;first|refine st9 ?_|refine pu9 ?_)|refine cC ?_|(refine aA rfl ?_ ?_<;>intro hq<;>try exact no9))
          all_goals first
            | ((refine bB Tryz.results236 (aW agg_70 rfl bA (by exact rfl)) (aB rfl) ?_);exact pR.bad e1 hq)
            | skip
          all_goals
            have e0:pF cut x0 e.x.n (t :: l)=0:=Decidable.not_not.1 hq
            repeat' (first|(refine aE ?_;first|(refine aC ?_;(refine aL rfl ⟨Tryz.call54⟩ rfl aV rfl (Own_c _ x (hx.le hV4) _ (VLe.refl _) hsmall) ?_;rintro v V5 B5 hV5 ⟨z2,gs,rfl,hzn2,hO⟩;obtain⟨hh2,hk2⟩:=PN.mk.inj hzn2;obtain⟨ha3,hca3,hd3,hr3,hl3,hg3,hks3⟩:=hO;obtain⟨f2,hgf,hf2⟩:=kz_back hks3 (k:=cJ x.ks s) (u:=(e.nm,e.x.n)) (by rw [hk2];exact hke);have hlg:=xZ hgf;obtain⟨g,rest,hK2,rfl,hlen,hcap,hmax⟩:=hr3.open (by omega);have hfit:0+cJ x.ks s * 9+1+(lnC z).length≤(gs.flatMap lkC ++ rest).length:=(by rw [hlen];show 0+cJ x.ks s * 9+1+8≤z2.ck * 9;omega)))|(refine eF ?_;refine aR rfl siz_70 rfl rfl rfl rfl bJ puts9 rfl ?_)|refine st9 ?_|(refine al9 ?_;intro γ)|refine pu9 ?_)|refine cC ?_|fail)
            rw [spl_part (f:=lkC) rK (y:=⟨f2.nm,z⟩) hgf (by show 1+8≤9;omega) rfl]
            have hlen':((gs.set (cJ x.ks s) ⟨f2.nm,z⟩).flatMap lkC ++ rest).length=z2.ck * 9:=by rw [List.length_append,lO lkC rK,List.length_set,←lO lkC rK gs,←List.length_append];exact hlen
            refine fF (cO.close (g:=g) (E:=156) rK (by rw [List.length_set,hl3]) hlen' hcap hmax) aV ?_
            intro V6 hV6 hc6
            rw [←hK2] at hc6
            (refine bB Tryz.results236 (aW agg_70 rfl bA (by exact rfl)) (aB rfl) ?_)
            refine pR.good (z:=⟨z2.h,z2.A,z2.na,z2.ca,z2.K,z2.nk,z2.ck,z2.ks.set (cJ x.ks s) (f2.nm,z.n)⟩) (n:=x.n) (e1.trans e0) (aT.of (ha3.le hV6) hca3 hd3 hcap (dV.of hc6 (by rw [List.length_set,hl3]) (by have h1:z2.ks.length=gs.length:=(by rw [hks3,List.length_map]);rw [hk2] at h1;show z2.nk≤maxLen;unfold maxLen;omega) ?_) ?_) ?_
            · intro u hu
              rcases List.mem_or_eq_of_mem_set hu with hu|rfl
              · exact⟨(hg3 u hu).1,(hg3 u hu).2.le hV6⟩
              · exact⟨(hg3 f2 (List.mem_of_getElem? hgf)).1,hzN.le (VLe.trans hV5 hV6)⟩
            · show z2.ks.set _ _=_
              rw [hks3,List.map_set];rfl
            · rw [e2]
              have hzz:z.n=pN cut x0 e.x.n (t :: l):=by rw [hzn];unfold xL;rw [if_pos e0]
              show PN.mk z2.h (z2.ks.set _ _)=PN.mk x.h (x.ks.set _ _)
              rw [hzz,hh2,hk2]
              have:=congrArg Prod.fst hf2
              simp only [kz] at this
              rw [this]
              rfl
    · (refine aI Tryz.func236 rfl Tryz.ntmps236 rfl ?_;intro w0)
      repeat' (first|(refine aE ?_;first|refine st9 ?_|(refine al9 ?_;intro γ)|refine pu9 ?_)|refine cX ?_|(refine aJ rfl rfl rfl ?_ ?_<;>intro hq<;>try exact no9))
      all_goals
        (refine bB Tryz.results236 (aW agg_70 rfl bA (by exact rfl)) (aB rfl) ?_)
        exact pR.badI (V':=V') (cut:=cut) (x:=x0) (pF_kind (n:=x.n) (l:=s :: l) hkind) (by decide)
end
section
attribute [local irreducible] AtQ GoC GoL GoW QO QP Fn RV bL aG VLe bR bK
theorem putC {V:aD} {g:Nat} {x:LN} (hg:aG V g 0 (lnC x)) (hx:aT V x):EditC V 237 [.pointer (some ⟨g,0,none⟩)] false x.n :=
  fun V' hV' K n c es hk hnc hn ks hks s hs=>PutF_c V' K n c es hk hnc hn ks hks s hs g x (hg.le hV') (hx.le hV')
theorem cutC {V:aD} {x:PN}:EditC V 261 [] true x :=
  fun V' hV' K n c es hk hnc hn ks hks s hs=>CutF_c V' K n c es hk hnc hn ks hks s x
theorem Put_c (V:aD) (x:LN) (hx:aT V x) (hmid:cB midP x.n) (A:Option Addr) (n c:Nat) (l:List ByteArray) (hs:cL V A n l) (hnc:n≤c) (y:LN) (hy:aT V y) (hys:cB eA y.n):Fn Tryz.prog 159 [lnV x,.slice A n c,lnV y] V (pR false y.n x.n l):=by
  (refine aI Tryz.func159 rfl Tryz.ntmps159 rfl ?_;intro w0)
  repeat' (first|(refine aE ?_;first|(refine al9 ?_;intro γ)|refine pu9 ?_)|refine cC ?_|fail)
  refine yA rfl (fN.next _ _ _ _ _ (fN.here _ _ _ _)) ?_
  intro V1 hV1 hg1
  have hC:=putC hg1 (hy.le hV1)
  repeat' (first|(refine aE ?_;first|(refine aC ?_;(refine aS rfl ⟨Tryz.call236⟩ rfl rfl (change_c V1 _ _ false y.n ⟨Tryz.call237⟩ hC hys l x A n c V1 (VLe.refl _) (hx.le hV1) hmid (hs.le hV1) hnc) ?_;rintro v V4 hV4 ⟨z,rfl,hzN,hzn⟩))|refine st9 ?_|refine pu9 ?_)|refine gx9 ?_|fail)
  all_goals
    (refine bB Tryz.results159 (aW agg_70 rfl bA (by exact rfl)) (aB rfl) ?_)
    exact⟨z,rfl,hzN,hzn⟩
theorem Cut_tc (V:aD) (x:LN) (hx:aT V x) (hmid:cB midP x.n) (A:Option Addr) (n c:Nat) (l:List ByteArray) (hs:cL V A n l) (hnc:n≤c):Fn Tryz.prog 233 [lnV x,.slice A n c] V (pR true pnZ x.n l):=by
  (refine aI Tryz.func233 rfl Tryz.ntmps233 rfl ?_;intro w0)
  repeat' (first|(refine aE ?_;first|(refine aC ?_;(refine aS rfl ⟨Tryz.call236⟩ rfl rfl (change_c V _ [] true pnZ ⟨Tryz.call261⟩ cutC (.mk ⟨Nat.zero_le _,Nat.zero_le _⟩ (by simp)) l x A n c V (VLe.refl _) hx hmid hs hnc) ?_;rintro v V4 hV4 ⟨z,rfl,hzN,hzn⟩))|refine st9 ?_|(refine al9 ?_;intro γ)|refine pu9 ?_)|refine cC ?_|fail)
  all_goals
    (refine bB Tryz.results233 (aW agg_70 rfl bA (by exact rfl)) (aB rfl) ?_)
    exact⟨z,rfl,hzN,hzn⟩
end
section
def RPutR (cut:Bool) (x n:PN) (l:List ByteArray) (v:Value) (V':aD):Prop:=∃ z:LN,v=.tuple #[lnV z,.int .i64 (pF cut x n l)]∧aT V' z∧z.n=xL cut x n l
theorem RPutR.bad {cut:Bool} {x n:PN} {l:List ByteArray} {V':aD} {e:Int} (h:pF cut x n l=e) (h0:¬e=0):RPutR cut x n l (.tuple #[lnV lnZ,.int .i64 e]) V' :=
  ⟨lnZ,by rw [h],aT.zero,by unfold xL;rw [h,if_neg h0];rfl⟩
theorem RPutR.good {cut:Bool} {x n:PN} {l:List ByteArray} {V':aD} {z:LN} (h:pF cut x n l=0) (hz:aT V' z) (hn:z.n=pN cut x n l):RPutR cut x n l (.tuple #[lnV z,.int .i64 0]) V' :=
  ⟨z,by rw [h],hz,by unfold xL;rw [if_pos h,hn]⟩
attribute [local irreducible] AtQ GoC GoL GoW QO QP Fn RV bL aG VLe bR bK
theorem kidR_is {n:PN} {s:ByteArray} (h:n.h.kind=2) (h2:iB n.ks s=true):kidR n s=((cJ n.ks s:Nat):Int):=by unfold kidR;rw [if_pos ⟨h,h2⟩,placeN_yes h2]
end
section
attribute [local irreducible] AtQ GoC GoL GoW QO QP Fn RV bL aG VLe bR bK
end
section
attribute [local irreducible] AtQ GoC GoL GoW QO QP Fn RV bL aG VLe bR bK
end
section
theorem not_t' {b:Bool} (h:(!b)=true):b=false:=by cases b<;>simp_all
theorem not_f' {b:Bool} (h:(!b)=false):b=true:=by cases b<;>simp_all
attribute [local irreducible] AtQ GoC GoL GoW QO QP Fn RV bL aG VLe bR bK
theorem Search_c (V:aD) (n:Nat) (hn:n≤1000000) (f:FuncId) (cs:List Value) (g:Nat→Bool) (he:jV Tryz.prog f) (hmono:∀ i j,i≤j→j<n→g i=true→g j=true)
    (hc:∀ (V':aD) (i:Nat),VLe V V'→i<n→Fn Tryz.prog f (.int .i64 i :: cs) V' fun v _=>v=.bool (g i)) :
    Fn Tryz.prog 263 [.int .i64 n,.func (.func f) #[] cs.toArray] V fun v _=>∃ k:Nat,v=.int .i64 k∧k≤n∧(∀ i,i<k→g i=false)∧∀ i,k≤i→i<n→g i=true:=by
  (refine aI Tryz.func263 rfl Tryz.ntmps263 rfl ?_;intro w0)
  repeat' (first|(refine aE ?_;first|(refine cN ?_;refine aO (q_shr rfl rfl (by omega)) ?_)|refine pu9 ?_)|refine eE ?_|(refine aJ rfl rfl rfl ?_ ?_<;>intro hq<;>try exact no9)|(refine bS rfl rfl rfl ?_ ?_<;>intro hq)|(refine aA rfl ?_ ?_<;>intro hq<;>try exact no9)|(refine bM rfl ?_ ?_<;>intro hq))
  refine bN (fun F V' L' m=>∃ i j:Nat,i≤j∧j≤n∧m=j - i∧V=V'∧[]=L'∧(∀ t,t<i→g t=false)∧(∀ t,j≤t→t<n→g t=true)∧F=[(1,.func (.func f) #[] cs.toArray),(5,.int .i64 i),(6,.int .i64 j)]) (m:=n) ⟨0,n,Nat.zero_le _,Nat.le_refl _,by omega,rfl,rfl,by omega,by omega,rfl⟩ bH rfl sl9 ?_
  rintro F V' L' m ⟨i,j,hij,hj,rfl,rfl,rfl,h1,h2,rfl⟩
  by_cases hlt:i<j
  · have hh:(((i+j) / 2:Nat):Int)=((i:Int)+j) / 2:=by omega
    have hci:=hc V ((i+j) / 2) (VLe.refl V) (by omega)
    rw [hh] at hci
    repeat' (first|(refine aE ?_;first|(refine cN ?_;(first|refine aO (q_half rfl rfl (by omega)) ?_|refine aO (q_shr rfl rfl (by omega)) ?_))|(refine eK ?_;(first|refine aO (sY und_148 und_3 rfl (mW (by omega))) ?_|refine aO (sY und_3 und_148 rfl (wrap_u64 (by omega))) ?_))|(refine aC ?_;refine aP rfl (iY he rfl rfl (hci)) ?_)|refine pu9 ?_)|refine bY ?_|(refine aA rfl ?_ ?_<;>intro hq<;>try exact no9)|(refine bM rfl ?_ ?_<;>intro hq))
    all_goals first
      | (have hg:g ((i+j) / 2)=false:=by first|assumption|exact not_t' (by assumption)
         rw [←hh]
         refine aX _ (j - ((i+j) / 2+1)) ⟨(i+j) / 2+1,j,by omega,hj,rfl,rfl,rfl,?_,h2,rfl⟩ (by omega) bH sl9
         intro t ht
         by_cases htt:t<i
         · exact h1 t htt
         · cases hgt:g t
           · rfl
           · rw [hmono t ((i+j) / 2) (by omega) (by omega) hgt] at hg;cases hg)
      | (have hg:g ((i+j) / 2)=true:=by first|assumption|exact not_f' (by assumption)
         rw [←hh]
         refine aX _ ((i+j) / 2 - i) ⟨i,(i+j) / 2,by omega,by omega,rfl,rfl,rfl,h1,?_,rfl⟩ (by omega) bH sl9
         intro t ht htn
         exact hmono _ t ht htn hg)
  · have hij:i=j:=by omega
    subst hij
    repeat' (first|(refine aE ?_;first|(refine cN ?_;refine aO (q_shr rfl rfl (by omega)) ?_)|refine pu9 ?_)|refine eE ?_|(refine aJ rfl rfl rfl ?_ ?_<;>intro hq<;>try exact no9)|(refine bS rfl rfl rfl ?_ ?_<;>intro hq)|(refine aA rfl ?_ ?_<;>intro hq<;>try exact no9)|(refine bM rfl ?_ ?_<;>intro hq))
    (refine aM Tryz.results263 (aB rfl) ?_)
    exact⟨i,rfl,hj,h1,h2⟩
end
section
def xW (nm:ByteArray) (xs:List PA) (i:Nat):Bool:=match xs[i]? with|some a=>decide (¬a.n.toList<nm.toList)|none=>true
theorem qV {nm:ByteArray} {xs:List PA} {i:Nat} {a:PA} (h:xs[i]?=some a):xW nm xs i=decide (¬a.n.toList<nm.toList):=by rw [xW,h]
theorem belowA_mono {nm:ByteArray} {xs:List PA} (hp:xs.Pairwise ltA) {i j:Nat} (hij:i≤j) (hj:j<xs.length) (h:xW nm xs i=true):xW nm xs j=true:=by
  have hi:i<xs.length:=by omega
  rw [qV (List.getElem?_eq_getElem hi)] at h
  rw [qV (List.getElem?_eq_getElem hj)]
  rcases Nat.lt_or_ge i j with hlt|hge
  · have:=List.pairwise_iff_getElem.1 hp i j hi hj hlt
    simp only [decide_eq_true_eq] at h ⊢
    intro h2
    exact h (nW this h2)
  · have:i=j:=by omega
    subst this;exact h
def rV (nm:ByteArray) (xs:List PA):Bool:=xs.any fun a=>decide (a.n=nm)
theorem iC {nm:ByteArray} {xs:List PA}:rV nm xs=true↔isA nm xs:=by simp [rV,isA]
theorem hasA_at {nm:ByteArray} {xs:List PA} (hp:xs.Pairwise ltA) {a:PA} (h:xs[atA nm xs]?=some a):rV nm xs=decide (a.n=nm):=by
  rw [Bool.eq_iff_iff,iC,vH hp,decide_eq_true_eq]
  constructor
  · rintro ⟨b,hb,e⟩;rw [h] at hb;injection hb with hb;subst hb;exact e
  · intro e;exact⟨a,h,e⟩
theorem hasA_none {nm:ByteArray} {xs:List PA} (hp:xs.Pairwise ltA) (h:¬atA nm xs<xs.length):rV nm xs=false:=by
  cases hb:rV nm xs
  · rfl
  · rw [iC,vH hp] at hb
    obtain⟨a,ha,_⟩:=hb
    rw [List.getElem?_eq_none (by omega)] at ha;cases ha
theorem getF_err {xs:List PA} {nm:ByteArray} (h:¬eO xs=0):kX xs nm=eO xs:=by unfold kX;rw [if_pos h]
theorem getF_name {xs:List PA} {nm:ByteArray} (h:eO xs=0) (h2:eJ nm=0):kX xs nm=4:=by unfold kX;rw [if_neg (by omega),if_pos h2]
theorem getF_has {xs:List PA} {nm:ByteArray} (h:eO xs=0) (h2:¬eJ nm=0):kX xs nm=if rV nm xs=true then 0 else 5:=by
  unfold kX
  rw [if_neg (by omega),if_neg h2]
  by_cases hi:isA nm xs
  · rw [if_pos hi,if_pos (iC.2 hi)]
  · rw [if_neg hi,if_neg (fun e=>hi (iC.1 e))]
theorem setF_err {xs:List PA} {nm vl:ByteArray} (h:¬eO xs=0):sG xs nm vl=eO xs:=by unfold sG;rw [if_pos h]
theorem setF_name {xs:List PA} {nm vl:ByteArray} (h:eO xs=0) (h2:eJ nm=0):sG xs nm vl=4:=by unfold sG;rw [if_neg (by omega),if_pos h2]
theorem setF_big {xs:List PA} {nm vl:ByteArray} (h:eO xs=0) (h2:¬eJ nm=0) (h3:20<vl.size):sG xs nm vl=1:=by unfold sG;rw [if_neg (by omega),if_neg h2,if_pos h3]
theorem setF_has {xs:List PA} {nm vl:ByteArray} (h:eO xs=0) (h2:¬eJ nm=0) (h3:¬20<vl.size):sG xs nm vl=if rV nm xs=false∧xs.length=4 then 2 else 0:=by
  unfold sG
  rw [if_neg (by omega),if_neg h2,if_neg h3]
  have e:(¬isA nm xs)↔rV nm xs=false:=by rw [←iC];simp
  by_cases hh:¬isA nm xs∧xs.length=4
  · rw [if_pos hh,if_pos ⟨e.1 hh.1,hh.2⟩]
  · rw [if_neg hh,if_neg (fun h=>hh ⟨e.2 h.1,h.2⟩)]
theorem setA_has {xs:List PA} {nm vl:ByteArray}:qA xs nm vl=xs.take (atA nm xs) ++ ⟨nm,vl⟩ :: xs.drop (if rV nm xs=true then atA nm xs+1 else atA nm xs):=by
  unfold qA
  by_cases hi:isA nm xs
  · rw [if_pos hi,if_pos (iC.2 hi)]
  · rw [if_neg hi,if_neg (fun e=>hi (iC.1 e))]
def AttrRes (f:Int) (zs:List PA) (v:Value) (V:aD):Prop :=
  (f=0∧∃ A c,v=.tuple #[.slice A zs.length c,bK 0]∧eC V A zs.length zs∧zs.length≤c)∨(¬f=0∧v=.tuple #[.slice none 0 0,bK f])
theorem kT {f g:Int} {zs:List PA} {V:aD} (h:f=g) (h0:¬g=0):AttrRes f zs (.tuple #[.slice none 0 0,bK g]) V:=by subst h;exact .inr ⟨h0,rfl⟩
theorem pU {V:aD} {A:Option Addr} {n:Nat} {xs:List PA} (h:eL V 2 A n (xs.flatMap paC)) (hl:xs.length=n) (hm:n≤1000000) (hb:∀ a∈xs,a.n.size≤maxLen∧a.v.size≤maxLen):eC V A n xs :=
  ⟨eP.of_cells h yG hl (by unfold maxLen;omega),hb⟩
theorem cells_zero {V:aD} {b:Nat} {v:Value} (h:aG V b 0 [v]):V ⟨b,0,none⟩=some v:=h 0 v rfl
theorem vle_at {V V':aD} (h:VLe V V') {p:Addr} {x:Value} (hp:V p=some x):V' p=some x:=h p x hp
attribute [local irreducible] AtQ GoC GoL GoW QO QP Fn RV bL aG VLe bR bK
theorem place1_c (V:aD) (p q:Nat) (A:Option Addr) (n c:Nat) (xs:List PA) (nm:ByteArray) (h:eC V A n xs) (h1:V ⟨p,0,none⟩=some (.slice A n c)) (h2:V ⟨q,0,none⟩=some (.string nm)) (i:Nat) (hi:i<n) :
    Fn Tryz.prog 264 [.int .i64 i,.pointer (some ⟨p,0,none⟩),.pointer (some ⟨q,0,none⟩)] V fun v _=>v=.bool (xW nm xs i):=by
  obtain⟨bb,off,a,rfl,hx,hc,c0,c1,_,_⟩:=h.at_ hi
  (refine aI Tryz.func264 rfl Tryz.ntmps264 rfl ?_;intro w0)
  repeat' (first|(refine aE ?_;first|(refine cN ?_;refine aO (q_sgeq rfl rfl) ?_)|refine pu9 ?_)|refine cC ?_|refine bQ (id:=1) mixed (by kernel_rfl) ?_)
  (refine aM Tryz.results264 (aB rfl) ?_)
  rw [qV hx]
theorem place_c (V:aD) (A:Option Addr) (n c:Nat) (xs:List PA) (nm:ByteArray) (h:eC V A n xs) (hp:xs.Pairwise ltA) (hn:n≤1000) :
    Fn Tryz.prog 238 [.slice A n c,.string nm] V fun v _=>v=.tuple #[.int .i64 (atA nm xs),.bool (rV nm xs)]:=by
  have hl:=h.1.1
  have hm:=h.1.max
  (refine aI Tryz.func238 rfl Tryz.ntmps238 rfl ?_;intro w0)
  repeat' (first|(refine aE ?_;first|(refine al9 ?_;intro γ)|refine pu9 ?_)|refine cC ?_|fail)
  refine yA rfl (fN.here _ _ _ _) ?_
  intro V1 hV1 hs1
  refine yA rfl (fN.here _ _ _ _) ?_
  intro V2 hV2 hs2
  have h1:=cells_zero hs2
  have h2:=vle_at hV2 (cells_zero hs1)
  have hS:=fun p q (h1:V2 ⟨p,0,none⟩=some (.slice A n c)) (h2:V2 ⟨q,0,none⟩=some (.string nm))=>Search_c V2 n (by omega) 264 [.pointer (some ⟨p,0,none⟩),.pointer (some ⟨q,0,none⟩)] (xW nm xs) ⟨Tryz.call264⟩ (fun i j hij hj hg=>belowA_mono hp hij (by omega) hg)
    (fun V' i hV' hi=>place1_c V' p q A n c xs nm ((h.le (hV1.trans hV2)).le hV') (vle_at hV' h1) (vle_at hV' h2) i hi)
  repeat' (first|(refine aE ?_;first|(refine aC ?_;(refine aS rfl ⟨Tryz.call263⟩ rfl rfl (hS _ _ h1 h2) ?_;rintro v V3 hV3 ⟨k,rfl,hk,hk1,hk2⟩))|refine pu9 ?_)|refine gx9 ?_|fail)
  have hka:k=atA nm xs:=atA_of hp (by omega) (fun j a hj ha=>by
      have:=hk1 j hj
      rw [qV ha] at this
      simpa using this) (fun j a hj ha=>by
      have hjn:j<n:=by
        rcases Nat.lt_or_ge j n with h|h
        · exact h
        · rw [List.getElem?_eq_none (by omega)] at ha;cases ha
      have:=hk2 j hj hjn
      rw [qV ha] at this
      simpa using this)
  subst hka
  have h1':=vle_at hV3 h1
  have h2':=vle_at hV3 h2
  have h3:=h.le (hV1.trans (hV2.trans hV3))
  by_cases hlt:atA nm xs<n
  · obtain⟨bb,off,a,rfl,hx,hc,c0,c1,_,_⟩:=h3.at_ hlt
    have hha:=hasA_at hp hx
    repeat' (first|(refine aE ?_;refine pu9 ?_)|refine gx9 ?_|(refine aJ rfl rfl rfl ?_ ?_<;>intro hq<;>try exact no9)|refine bQ (id:=2) mixed (by kernel_rfl) ?_)
    all_goals (refine bB Tryz.results238 (aB rfl) (aB rfl) ?_)
    all_goals first|(rw [hha];done)|rfl|exact no9
  · have hha:=hasA_none hp (show ¬atA nm xs<xs.length by omega)
    repeat' (first|(refine aE ?_;refine pu9 ?_)|refine gx9 ?_|(refine aJ rfl rfl rfl ?_ ?_<;>intro hq<;>try exact no9)|refine bQ (id:=2) mixed (by kernel_rfl) ?_)
    all_goals (refine bB Tryz.results238 (aB rfl) (aB rfl) ?_)
    all_goals first|(rw [hha];done)|rfl|exact no9
end
section
noncomputable def GetR (xs:List PA) (nm:ByteArray):Value:=.tuple #[.string (if rV nm xs=true∧kX xs nm=0 then getA nm xs else ⟨#[]⟩),bK (kX xs nm)]
theorem getR_bad {xs:List PA} {nm:ByteArray} {f:Int} (h:kX xs nm=f) (h0:¬f=0):Value.tuple #[.string ⟨#[]⟩,bK f]=GetR xs nm:=by
  subst h;unfold GetR;rw [if_neg (fun e=>h0 e.2)]
theorem getR_ok {xs:List PA} {nm:ByteArray} (h:kX xs nm=0) (hh:rV nm xs=true):Value.tuple #[.string (getA nm xs),bK 0]=GetR xs nm:=by
  unfold GetR;rw [if_pos ⟨hh,h⟩,h]
theorem tn1 (a:Nat):((a:Int)+1).toNat=a+1:=by omega
theorem ev1:Value.iface 120 (.int .i64 1)=bK 1:=cQ 1 rfl
theorem ev2:Value.iface 120 (.int .i64 2)=bK 2:=cQ 2 rfl
theorem ev4:Value.iface 120 (.int .i64 4)=bK 4:=cQ 4 rfl
theorem ev5:Value.iface 120 (.int .i64 5)=bK 5:=cQ 5 rfl
attribute [local irreducible] AtQ GoC GoL GoW QO QP Fn RV bL aG VLe bR bK
theorem Get_c (V:aD) (A:Option Addr) (n c:Nat) (xs:List PA) (nm:ByteArray) (h:eC V A n xs) (hm2:nm.size≤9223372036854775807):Fn Tryz.prog 171 [.slice A n c,.string nm] V fun v _=>v=GetR xs nm:=by
  have hl:=h.1.1
  have hm:=h.1.max
  have hbd:=oU xs
  by_cases h0:eO xs=0
  · obtain⟨r1,r2,r3⟩:=pB h0
    by_cases hc:eJ nm=0
    · (refine aI Tryz.func171 rfl Tryz.ntmps171 rfl ?_;intro w0)
      repeat' (first|(refine aE ?_;first|(refine aC ?_;(first|refine aP rfl (aK ⟨Tryz.call239⟩ rfl (jX _ _ _ _ xs h)) ?_|refine aP rfl (aK ⟨Tryz.call166⟩ rfl (jP _ nm hm2)) ?_))|refine pu9 ?_)|refine cC ?_|(refine aA rfl ?_ ?_<;>intro hq<;>try exact no9))
      all_goals (refine bB Tryz.results171 (aB rfl) (aB rfl) ?_)
      rw [ev4]
      exact getR_bad (f:=4) (getF_name h0 hc) (by decide)
    · have hg:=getF_has (nm:=nm) h0 hc
      cases hh:rV nm xs with
      | true =>
        obtain⟨a,ha,hn⟩:=(vH r2).1 (iC.1 hh)
        have hlt:atA nm xs<n:=by
          rcases Nat.lt_or_ge (atA nm xs) n with h|h
          · exact h
          · rw [List.getElem?_eq_none (by omega)] at ha;cases ha
        obtain⟨bb,off,a',rfl,hx,hcc,c0,c1,_,_⟩:=h.at_ hlt
        have hga:getA nm xs=a'.v:=by rw [getA,hx];rfl
        have hpl:=place_c V (some ⟨bb,off,none⟩) n c xs nm h r2 (by omega)
        rw [hh] at hpl
        rw [hh] at hg
        (refine aI Tryz.func171 rfl Tryz.ntmps171 rfl ?_;intro w0)
        repeat' (first|(refine aE ?_;first|(refine aC ?_;(first|refine aP rfl (aK ⟨Tryz.call239⟩ rfl (jX _ _ _ _ xs h)) ?_|refine aP rfl (aK ⟨Tryz.call166⟩ rfl (jP _ nm hm2)) ?_|refine aP rfl (aK ⟨Tryz.call238⟩ rfl (hpl)) ?_))|refine pu9 ?_)|refine cX ?_|(refine aA rfl ?_ ?_<;>intro hq<;>try exact no9))
        all_goals (refine bB Tryz.results171 (aB rfl) (aB rfl) ?_)
        have:=getR_ok (by rw [hg];rfl) hh
        rw [hga,cH] at this
        exact this
      | false =>
        have hpl:=place_c V A n c xs nm h r2 (by omega)
        rw [hh] at hpl
        rw [hh] at hg
        (refine aI Tryz.func171 rfl Tryz.ntmps171 rfl ?_;intro w0)
        repeat' (first|(refine aE ?_;first|(refine aC ?_;(first|refine aP rfl (aK ⟨Tryz.call239⟩ rfl (jX _ _ _ _ xs h)) ?_|refine aP rfl (aK ⟨Tryz.call166⟩ rfl (jP _ nm hm2)) ?_|refine aP rfl (aK ⟨Tryz.call238⟩ rfl (hpl)) ?_))|refine pu9 ?_)|refine cX ?_|(refine aA rfl ?_ ?_<;>intro hq<;>try exact no9))
        all_goals (refine bB Tryz.results171 (aB rfl) (aB rfl) ?_)
        rw [ev5]
        exact getR_bad (f:=5) (by rw [hg];rfl) (by decide)
  · (refine aI Tryz.func171 rfl Tryz.ntmps171 rfl ?_;intro w0)
    repeat' (first|(refine aE ?_;first|(refine aC ?_;refine aP rfl (aK ⟨Tryz.call239⟩ rfl (jX _ _ _ _ xs h)) ?_)|refine pu9 ?_)|refine cC ?_|(refine aA rfl ?_ ?_<;>intro hq<;>try exact no9))
    all_goals (refine bB Tryz.results171 (aB rfl) (aB rfl) ?_)
    exact getR_bad (getF_err h0) h0
theorem vA {V:aD} {A:Option Addr} {n c k:Nat} {xs:List PA} (h:eC V A n xs) (hk:k≤n) (hc:n≤c):eL V 2 (vX A c k 2) (n - k) ((xs.drop k).flatMap paC):=(h.1.drop hk hc).cells yG
theorem vR {V:aD} {A:Option Addr} {n k:Nat} {xs:List PA} (h:eC V A n xs) (hk:k≤n):eL V 2 A k ((xs.take k).flatMap paC):=(h.1.take hk).cells yG
theorem Set_c (V:aD) (A:Option Addr) (n c:Nat) (xs:List PA) (nm vl:ByteArray) (h:eC V A n xs) (hcap:n≤c) (hm2:nm.size≤maxLen) (hm3:vl.size≤maxLen):Fn Tryz.prog 169 [.slice A n c,.string nm,.string vl] V (AttrRes (sG xs nm vl) (qA xs nm vl)):=by
  have hl:=h.1.1
  have hm:=h.1.max
  have hbd:=oU xs
  have hmx:maxLen≤9223372036854775807:=by unfold maxLen;omega
  by_cases h0:eO xs=0
  · obtain⟨r1,r2,r3⟩:=pB h0
    by_cases hc:eJ nm=0
    · (refine aI Tryz.func169 rfl Tryz.ntmps169 rfl ?_;intro w0)
      repeat' (first|(refine aE ?_;first|(refine aC ?_;(first|refine aP rfl (aK ⟨Tryz.call239⟩ rfl (jX _ _ _ _ xs h)) ?_|refine aP rfl (aK ⟨Tryz.call166⟩ rfl (jP _ nm (by omega))) ?_))|refine pu9 ?_)|refine cC ?_|(refine aA rfl ?_ ?_<;>intro hq<;>try exact no9))
      all_goals (refine bB Tryz.results169 (aB rfl) (aB rfl) ?_)
      rw [ev4]
      exact kT (g:=4) (setF_name h0 hc) (by decide)
    · by_cases hv:20<vl.size
      · (refine aI Tryz.func169 rfl Tryz.ntmps169 rfl ?_;intro w0)
        repeat' (first|(refine aE ?_;first|(refine aC ?_;(first|refine aP rfl (aK ⟨Tryz.call239⟩ rfl (jX _ _ _ _ xs h)) ?_|refine aP rfl (aK ⟨Tryz.call166⟩ rfl (jP _ nm (by omega))) ?_))|refine pu9 ?_)|refine cC ?_|(refine aA rfl ?_ ?_<;>intro hq<;>try exact no9))
        all_goals (refine bB Tryz.results169 (aB rfl) (aB rfl) ?_)
        rw [ev1]
        exact kT (g:=1) (setF_big h0 hc hv) (by decide)
      · have hs:=setF_has (nm:=nm) (vl:=vl) h0 hc hv
        have hz:=setA_has (xs:=xs) (nm:=nm) (vl:=vl)
        have hle:=atA_le nm xs
        have hpl:=place_c V A n c xs nm h r2 (by omega)
        have hgood:∀ a∈qA xs nm vl,a.n.size≤maxLen∧a.v.size≤maxLen:=fun a ha=>by
          rcases (setA_mem r2 nm vl a).1 ha with rfl|⟨ha,_⟩
          · exact⟨hm2,hm3⟩
          · exact h.2 a ha
        have hlen:=setA_len nm vl r2
        cases hh:rV nm xs with
        | true =>
          have hlz:=hlen.1 (iC.1 hh)
          obtain⟨a,ha,_⟩:=(vH r2).1 (iC.1 hh)
          have hlt:atA nm xs<n:=by
            rcases Nat.lt_or_ge (atA nm xs) n with h|h
            · exact h
            · rw [List.getElem?_eq_none (by omega)] at ha;cases ha
          rw [hh] at hpl hs hz
          rw [if_pos rfl,←tn1] at hz
          have hdr:=vA (k:=((atA nm xs:Int)+1).toNat) h (by omega) hcap
          (refine aI Tryz.func169 rfl Tryz.ntmps169 rfl ?_;intro w0)
          repeat' (first|(refine aE ?_;first|(refine aC ?_;(first|refine aP rfl (aK ⟨Tryz.call239⟩ rfl (jX _ _ _ _ xs h)) ?_|refine aP rfl (aK ⟨Tryz.call166⟩ rfl (jP _ nm (by omega))) ?_|refine aP rfl (aK ⟨Tryz.call238⟩ rfl (hpl)) ?_|(refine aQ rfl und_67 inf_271 rfl rfl rfl cO.nil dO (fY (vR (k:=atA nm xs) h (by omega))) bJ (by omega) rfl rfl ?_;intro A1 c1 L1 hr1)|(refine aQ rfl und_67 inf_271 rfl rfl rfl hr1 aV (cY bA rfl) bJ (by omega) rfl rfl ?_;intro A2 c2 L2 hr2)|(refine aQ rfl und_67 inf_271 rfl rfl rfl hr2 aV (fY hdr) bJ (by omega) rfl rfl ?_;intro A3 c3 L3 hr3;have hcap3:=hr3.cap)))|(refine eG ?_;(first|refine aO (cT und_67 siz_271 rfl rfl (by omega)) ?_|refine aO (mE und_67 siz_271 rfl rfl (by omega)) ?_))|(refine cF ?_;(refine aN rfl und_67 siz_271 zec_271 rfl rfl rfl rfl rfl rfl rfl ?_;intro γ))|refine pu9 ?_)|refine cX ?_|(refine aA rfl ?_ ?_<;>intro hq<;>try exact no9))
          all_goals first
            | (refine fF hr3 aV ?_
               intro V2 hV2 hc3
               (refine bB Tryz.results169 (aB rfl) (aB rfl) ?_)
               have hf0:sG xs nm vl=0:=by rw [hs,if_neg (by simp)]
               have hcells:([] ++ (xs.take (atA nm xs)).flatMap paC ++ [.string nm,.string vl] ++ (xs.drop (((atA nm xs:Int)+1).toNat)).flatMap paC:List Value)=(qA xs nm vl).flatMap paC:=by rw [hz,List.flatMap_append,List.flatMap_cons];simp
               have hN:0+atA nm xs+1+(n - (((atA nm xs:Int)+1).toNat))=(qA xs nm vl).length:=by rw [hlz];omega
               have hM:eC V2 A3 _ (qA xs nm vl):=pU (hcells▸hc3) hN.symm (by omega) hgood
               exact .inl ⟨hf0,A3,c3,by rw [←hN,cH],hN▸hM,hN▸hcap3⟩)
            | ((refine bB Tryz.results169 (aB rfl) (aB rfl) ?_)
               rw [ev2]
               exact kT (g:=2) (by rw [hs,if_pos ⟨rfl,by omega⟩]) (by decide))
        | false =>
          have hlz:=hlen.2 (fun e=>by rw [←iC,hh] at e;cases e)
          rw [hh] at hpl hs hz
          rw [if_neg (by simp)] at hz
          have hdr:=vA (k:=atA nm xs) h (by omega) hcap
          (refine aI Tryz.func169 rfl Tryz.ntmps169 rfl ?_;intro w0)
          repeat' (first|(refine aE ?_;first|(refine aC ?_;(first|refine aP rfl (aK ⟨Tryz.call239⟩ rfl (jX _ _ _ _ xs h)) ?_|refine aP rfl (aK ⟨Tryz.call166⟩ rfl (jP _ nm (by omega))) ?_|refine aP rfl (aK ⟨Tryz.call238⟩ rfl (hpl)) ?_|(refine aQ rfl und_67 inf_271 rfl rfl rfl cO.nil dO (fY (vR (k:=atA nm xs) h (by omega))) bJ (by omega) rfl rfl ?_;intro A1 c1 L1 hr1)|(refine aQ rfl und_67 inf_271 rfl rfl rfl hr1 aV (cY bA rfl) bJ (by omega) rfl rfl ?_;intro A2 c2 L2 hr2)|(refine aQ rfl und_67 inf_271 rfl rfl rfl hr2 aV (fY hdr) bJ (by omega) rfl rfl ?_;intro A3 c3 L3 hr3;have hcap3:=hr3.cap)))|(refine eG ?_;(first|refine aO (cT und_67 siz_271 rfl rfl (by omega)) ?_|refine aO (nQ und_67 siz_271 rfl rfl (by omega)) ?_))|(refine cF ?_;(refine aN rfl und_67 siz_271 zec_271 rfl rfl rfl rfl rfl rfl rfl ?_;intro γ))|refine pu9 ?_)|refine cX ?_|(refine aA rfl ?_ ?_<;>intro hq<;>try exact no9))
          all_goals first
            | (refine fF hr3 aV ?_
               intro V2 hV2 hc3
               (refine bB Tryz.results169 (aB rfl) (aB rfl) ?_)
               have hf0:sG xs nm vl=0:=by rw [hs,if_neg (by omega)]
               have hcells:([] ++ (xs.take (atA nm xs)).flatMap paC ++ [.string nm,.string vl] ++ (xs.drop (atA nm xs)).flatMap paC:List Value)=(qA xs nm vl).flatMap paC:=by rw [hz,List.flatMap_append,List.flatMap_cons];simp
               have hN:0+atA nm xs+1+(n - (atA nm xs))=(qA xs nm vl).length:=by rw [hlz];omega
               have hM:eC V2 A3 _ (qA xs nm vl):=pU (hcells▸hc3) hN.symm (by omega) hgood
               exact .inl ⟨hf0,A3,c3,by rw [←hN,cH],hN▸hM,hN▸hcap3⟩)
            | ((refine bB Tryz.results169 (aB rfl) (aB rfl) ?_)
               rw [ev2]
               exact kT (g:=2) (by rw [hs,if_pos ⟨rfl,by omega⟩]) (by decide))
  · (refine aI Tryz.func169 rfl Tryz.ntmps169 rfl ?_;intro w0)
    repeat' (first|(refine aE ?_;first|(refine aC ?_;refine aP rfl (aK ⟨Tryz.call239⟩ rfl (jX _ _ _ _ xs h)) ?_)|refine pu9 ?_)|refine cC ?_|(refine aA rfl ?_ ?_<;>intro hq<;>try exact no9))
    all_goals (refine bB Tryz.results169 (aB rfl) (aB rfl) ?_)
    exact kT (setF_err h0) h0
end
section
theorem size_zero {a:ByteArray}:a=⟨#[]⟩↔a.size=0:=by
  constructor
  · intro h;subst h;rfl
  · intro h;apply str_ext;rw [Lib.toList_data,Lib.toList_data]
    apply List.eq_nil_of_length_eq_zero
    rw [Array.length_toList];exact h
theorem q_sne0 {B:Base} {N:Nat} {F:List (Nat×Value)} {V:aD} {L:List Box} {d:Option Tmp} {ty t ty2:TypeId} {pos:String} {af:Array Edge} {gd:Option (Nat×Bool)} {x:Operand} {a:ByteArray} (hx:evF F x=some (.string a)):QP Tryz.prog B N V L ⟨d,.binOp .neq t x (.const (.string ⟨#[]⟩)) ty2,ty,pos,af,gd⟩ F (.bool (decide (¬a.size=0))):=by
  have:=q_sneq (P:=Tryz.prog) (B:=B) (N:=N) (V:=V) (L:=L) (d:=d) (ty:=ty) (t:=t) (ty2:=ty2) (pos:=pos) (af:=af) (gd:=gd) (F:=F) (x:=x) (y:=.const (.string ⟨#[]⟩)) (b:=⟨#[]⟩) hx rfl
  have e:decide (¬a=⟨#[]⟩)=decide (¬a.size=0):=decide_eq_decide.2 (not_congr size_zero)
  rw [e] at this;exact this
attribute [local irreducible] AtQ GoC GoL GoW QO QP Fn RV bL aG VLe bR bK
theorem tisID_c (V:aD) (x:Int):Fn Tryz.prog 132 [.int .i64 x] V fun v _=>v=.bool (decide (0≤x∧x≤65535)):=by
  (refine aI Tryz.func132 rfl Tryz.ntmps132 rfl ?_;intro w0)
  repeat' (first|(refine aE ?_;refine pu9 ?_)|refine eE ?_|(refine aJ rfl rfl rfl ?_ ?_<;>intro hq<;>try exact no9)|(refine bS rfl rfl rfl ?_ ?_<;>intro hq)|(refine aA rfl ?_ ?_<;>intro hq<;>try exact no9)|(refine bM rfl ?_ ?_<;>intro hq))
  all_goals (refine aM Tryz.results132 (aB rfl) ?_)
  all_goals first|rfl|(refine congrArg Value.bool ?_;first|exact(decide_eq_true (by omega)).symm|exact(decide_eq_false (by omega)).symm|exact decide_eq_decide.2 (by omega))
theorem oneF_1 {h:Hd} {many upper root:Bool} (a:¬(h.kind=1∨h.kind=2∨h.kind=3)):iO h many upper root=3:=by unfold iO;rw [if_pos a]
theorem oneF_2 {h:Hd} {many upper root:Bool} (a:h.kind=1∨h.kind=2∨h.kind=3) (b:¬((0≤h.mode∧h.mode≤4095)∧(0≤h.user∧h.user≤65535)∧(0≤h.group∧h.group≤65535))):iO h many upper root=1:=by unfold iO;rw [if_neg (not_not_intro a),if_pos b]
theorem oneF_3 {h:Hd} {many upper root:Bool} (a:h.kind=1∨h.kind=2∨h.kind=3) (b:(0≤h.mode∧h.mode≤4095)∧(0≤h.user∧h.user≤65535)∧(0≤h.group∧h.group≤65535)) (c:¬eO h.attrs=0):iO h many upper root=eO h.attrs:=by unfold iO;rw [if_neg (not_not_intro a),if_neg (not_not_intro b),if_pos c]
theorem oneF_4 {h:Hd} {many upper root:Bool} (a:h.kind=1∨h.kind=2∨h.kind=3) (b:(0≤h.mode∧h.mode≤4095)∧(0≤h.user∧h.user≤65535)∧(0≤h.group∧h.group≤65535)) (c:eO h.attrs=0) (d:200<h.data.size):iO h many upper root=1:=by unfold iO;rw [if_neg (not_not_intro a),if_neg (not_not_intro b),if_neg (not_not_intro c),if_pos d]
def shapeN (h:Hd) (many upper root:Bool):Prop:=(h.kind=3∧(upper=false∨0<h.mode+h.user+h.group+h.attrs.length))∨(¬h.kind=1∧0<h.data.size)∨(¬h.kind=2∧(many=true∨h.opq=true))∨(h.opq=true∧(upper=false∨root=true))
theorem oneF_5 {h:Hd} {many upper root:Bool} (a:h.kind=1∨h.kind=2∨h.kind=3) (b:(0≤h.mode∧h.mode≤4095)∧(0≤h.user∧h.user≤65535)∧(0≤h.group∧h.group≤65535)) (c:eO h.attrs=0) (d:h.data.size≤200) (e:shapeN h many upper root):iO h many upper root=3:=by unfold iO;rw [if_neg (not_not_intro a),if_neg (not_not_intro b),if_neg (not_not_intro c),if_neg (by omega)];exact if_pos e
theorem oneF_6 {h:Hd} {many upper root:Bool} (a:h.kind=1∨h.kind=2∨h.kind=3) (b:(0≤h.mode∧h.mode≤4095)∧(0≤h.user∧h.user≤65535)∧(0≤h.group∧h.group≤65535)) (c:eO h.attrs=0) (d:h.data.size≤200) (e:¬shapeN h many upper root):iO h many upper root=0:=by unfold iO;rw [if_neg (not_not_intro a),if_neg (not_not_intro b),if_neg (not_not_intro c),if_neg (by omega)];exact if_neg e
theorem one_c (V:aD) (x:LN) (hx:aT V x) (upper root:Bool):Fn Tryz.prog 224 [lnV x,.bool upper,.bool root] V fun v _=>v=bK (iO x.h (decide (0<x.nk)) upper root):=by
  obtain⟨ha,hca,hd,hck,es,hk,hks⟩:=hx.inv
  have hatt:=jX V x.A x.na x.ca x.h.attrs ha
  have hab:=oU x.h.attrs
  have hal:x.h.attrs.length=x.na:=ha.1.1
  have hmk:=hk.max
  have hma:=ha.1.max
  have hmd:x.h.data.size≤9223372036854775807:=by unfold maxLen at hd;omega
  have h4:¬eO x.h.attrs=0∨x.na≤4:=by
    rcases Nat.lt_or_ge 4 x.na with h|h
    · left;unfold eO;rw [if_pos (by omega)];decide
    · right;exact h
  clear hks hk ha hx
  (refine aI Tryz.func224 rfl Tryz.ntmps224 rfl ?_;intro w0)
  repeat' (first|(refine aE ?_;first|(refine cN ?_;refine aO (q_sne0 rfl) ?_)|(refine aC ?_;refine aP rfl (aK ⟨Tryz.call239⟩ rfl (hatt)) ?_)|(refine al9 ?_;intro γ)|refine pu9 ?_)|refine dG ?_|(refine aJ rfl rfl rfl ?_ ?_<;>intro hq<;>try exact no9)|(refine bS rfl rfl rfl ?_ ?_<;>intro hq)|(refine aA rfl ?_ ?_<;>intro hq<;>try exact no9)|(refine bM rfl ?_ ?_<;>intro hq))
  all_goals (refine aM Tryz.results224 (aB rfl) ?_)
  all_goals first
    | (refine cQ 3 (oneF_1 ?_);omega)
    | (refine cQ 1 (oneF_2 ?_ ?_)<;>omega)
    | (refine congrArg bK (oneF_3 ?_ ?_ ?_).symm<;>omega)
    | (refine cQ 1 (oneF_4 ?_ ?_ ?_ ?_)<;>omega)
    | (refine cQ 3 (oneF_5 (h:=x.h) (by omega) (by omega) (by omega) (by omega) ?_);(try simp only [Bool.not_eq_true',Bool.not_eq_false'] at *);first
        | exact .inl ⟨by omega,.inl (by assumption)⟩
        | exact .inl ⟨by omega,.inr (by omega)⟩
        | exact .inr (.inl ⟨by omega,by omega⟩)
        | exact .inr (.inr (.inl ⟨by omega,.inl (decide_eq_true (by omega))⟩))
        | exact .inr (.inr (.inl ⟨by omega,.inr (by assumption)⟩))
        | exact .inr (.inr (.inr ⟨by assumption,.inl (by assumption)⟩))
        | exact .inr (.inr (.inr ⟨by assumption,.inr (by assumption)⟩)))
    | (refine xJ (oneF_6 (h:=x.h) (by omega) (by omega) (by omega) (by omega) ?_);(try simp only [Bool.not_eq_true',Bool.not_eq_false'] at *);unfold shapeN;rintro (⟨h1,h2|h2⟩|⟨h1,h2⟩|⟨h1,h2|h2⟩|⟨h1,h2|h2⟩)<;>first|omega|(have h2:=of_decide_eq_true h2;omega)|simp_all)
theorem nodeFault_c (V:aD) (x:LN) (hx:aT V x) (upper root:Bool):Fn Tryz.prog 220 [lnV x,.bool upper,.bool root] V fun v _=>v=.int .i64 (iO x.h (decide (0<x.nk)) upper root):=by
  obtain⟨ha,hca,hd,hck,es,hk,hks⟩:=hx.inv
  have hatt:=AttrFault_c V x.A x.na x.ca x.h.attrs ha
  have hab:=oU x.h.attrs
  have hal:x.h.attrs.length=x.na:=ha.1.1
  have hmk:=hk.max
  have hma:=ha.1.max
  have hmd:x.h.data.size≤9223372036854775807:=by unfold maxLen at hd;omega
  clear hks hk ha hx
  (refine aI Tryz.func220 rfl Tryz.ntmps220 rfl ?_;intro w0)
  repeat' (first|(refine aE ?_;first|(refine aC ?_;(first|refine aP rfl (aK ⟨Tryz.call246⟩ rfl (hatt)) ?_|refine aP rfl (aK ⟨Tryz.call132⟩ rfl (tisID_c _ _)) ?_))|(refine al9 ?_;intro γ)|refine pu9 ?_)|refine cX ?_|(refine aJ rfl rfl rfl ?_ ?_<;>intro hq<;>try exact no9)|(refine bS rfl rfl rfl ?_ ?_<;>intro hq)|(refine aA rfl ?_ ?_<;>intro hq<;>try exact no9)|(refine bM rfl ?_ ?_<;>intro hq))
  all_goals (refine aM Tryz.results220 (aB rfl) ?_)
  all_goals first
    | (refine congrArg (Value.int .i64) (Eq.symm (oneF_1 ?_));omega)
    | (refine congrArg (Value.int .i64) (Eq.symm (oneF_2 ?_ ?_))<;>omega)
    | (refine congrArg (Value.int .i64) (oneF_3 ?_ ?_ ?_).symm<;>omega)
    | (refine congrArg (Value.int .i64) (Eq.symm (oneF_4 ?_ ?_ ?_ ?_))<;>omega)
    | (refine congrArg (Value.int .i64) (Eq.symm (oneF_5 (h:=x.h) (by omega) (by omega) (by omega) (by omega) ?_));(try simp only [Bool.not_eq_true',Bool.not_eq_false'] at *);first
        | exact .inl ⟨by omega,.inl (by assumption)⟩
        | exact .inl ⟨by omega,.inr (by omega)⟩
        | exact .inr (.inl ⟨by omega,by omega⟩)
        | exact .inr (.inr (.inl ⟨by omega,.inl (decide_eq_true (by omega))⟩))
        | exact .inr (.inr (.inl ⟨by omega,.inr (by assumption)⟩))
        | exact .inr (.inr (.inr ⟨by assumption,.inl (by assumption)⟩))
        | exact .inr (.inr (.inr ⟨by assumption,.inr (by assumption)⟩)))
    | (refine congrArg (Value.int .i64) (Eq.symm (oneF_6 (h:=x.h) (by omega) (by omega) (by omega) (by omega) ?_));(try simp only [Bool.not_eq_true',Bool.not_eq_false'] at *);unfold shapeN;rintro (⟨h1,h2|h2⟩|⟨h1,h2⟩|⟨h1,h2|h2⟩|⟨h1,h2|h2⟩)<;>first|omega|(have h2:=of_decide_eq_true h2;omega)|simp_all)
end
section
theorem dV.prev {V:aD} {b off n k:Nat} {es:List LK} (h:dV V (some ⟨b,off,none⟩) n es) (hk:k<n) (h0:¬k=0):∃ y,es[k - 1]?=some y∧V ⟨b,off+((k:Int) - 1).toNat * 9+0,none⟩=some (.string y.nm):=by
  obtain⟨b',off',z,he,hz,_,_,hc,_⟩:=h.at_ (k:=k - 1) (by omega)
  cases he
  exact⟨z,hz,by rw [show ((k:Int) - 1).toNat=k - 1 by omega];exact hc⟩
theorem oneF_bd (h:Hd) (many upper root:Bool):0≤iO h many upper root∧iO h many upper root≤7:=by
  have:=oU h.attrs
  unfold iO;(repeat' split)<;>omega
mutual
theorem iT (upper:Bool):∀ (deep so:Nat) (n:PN),so≤60→(bU upper deep so n).1≤60∧0≤(bU upper deep so n).2∧(bU upper deep so n).2≤7
  | deep,so,.mk h ks,hs=>by
    have h1:=oneF_bd h (decide (0<ks.length)) upper (decide (deep=0))
    rw [bU]
    split
    · exact⟨hs,by simp,by simp⟩
    · split
      · exact⟨hs,h1⟩
      · exact countK_bd upper deep (so+1) none ks (by omega)
theorem countK_bd (upper:Bool):∀ (deep so:Nat) (prev:Option ByteArray) (ks:PKs),so≤60→(dD upper deep so prev ks).1≤60∧0≤(dD upper deep so prev ks).2∧(dD upper deep so prev ks).2≤7
  | deep,so,prev,[],hs=>by rw [dD];exact⟨hs,by simp,by simp⟩
  | deep,so,prev,(nm,n) :: ks,hs=>by
    have h1:=iT upper (deep+1) so n hs
    rw [dD]
    split
    · exact⟨hs,by simp,by simp⟩
    · split
      · exact⟨hs,by simp,by simp⟩
      · split
        · exact h1
        · exact countK_bd upper deep _ _ ks h1.1
end
theorem sU {upper:Bool} {deep so:Nat} {n:PN} (h:so=60∨6<deep):bU upper deep so n=(so,2):=by cases n;rw [bU,if_pos h]
theorem vK {upper:Bool} {deep so:Nat} {n:PN} (h:¬(so=60∨6<deep)) (h2:¬iO n.h (decide (0<n.ks.length)) upper (decide (deep=0))=0):bU upper deep so n=(so,iO n.h (decide (0<n.ks.length)) upper (decide (deep=0))):=by
  obtain⟨hd,ks⟩:=n;simp only [PN.h_mk,PN.ks_mk] at h2 ⊢;rw [bU,if_neg h];exact if_pos h2
theorem mT {upper:Bool} {deep so:Nat} {n:PN} (h:¬(so=60∨6<deep)) (h2:iO n.h (decide (0<n.ks.length)) upper (decide (deep=0))=0):bU upper deep so n=dD upper deep (so+1) none n.ks:=by
  obtain⟨hd,ks⟩:=n;simp only [PN.h_mk,PN.ks_mk] at h2 ⊢;rw [bU,if_neg h];exact if_neg (not_not_intro h2)
def prevK (ks:PKs) (k:Nat):Option ByteArray:=if k=0 then none else (ks[k - 1]?).map Prod.fst
theorem prevK_pos {ks:PKs} {k:Nat} (h:¬k=0):prevK ks k=(ks[k - 1]?).map Prod.fst:=if_neg h
theorem rN {ks:PKs} {k:Nat}:prevK ks (k+1)=(ks[k]?).map Prod.fst:=by rw [prevK,if_neg (by omega)];rfl
theorem mU {upper:Bool} {deep so:Nat} {p:Option ByteArray} {k:ByteArray×PN} {ks:PKs} (h:eV k.1.toList=false):dD upper deep so p (k :: ks)=(so,4):=by
  obtain⟨a,b⟩:=k;rw [dD,if_pos (show ¬eV a.toList=true by have:eV a.toList=false:=h;rw [this];decide)]
theorem sQ {upper:Bool} {deep so:Nat} {y:ByteArray} {k:ByteArray×PN} {ks:PKs} (h:eV k.1.toList=true) (h2:¬y.toList<k.1.toList):dD upper deep so (some y) (k :: ks)=(so,3):=by
  obtain⟨a,b⟩:=k;rw [dD,if_neg (not_not_intro h),if_pos ⟨y,rfl,h2⟩]
theorem oC {upper:Bool} {deep so:Nat} {p:Option ByteArray} {k:ByteArray×PN} {ks:PKs} (h:eV k.1.toList=true) (h2:∀ y,p=some y→y.toList<k.1.toList) (h3:¬(bU upper (deep+1) so k.2).2=0):dD upper deep so p (k :: ks)=bU upper (deep+1) so k.2:=by
  obtain⟨a,b⟩:=k;rw [dD,if_neg (not_not_intro h),if_neg (fun ⟨y,hy,hn⟩=>hn (h2 y hy)),if_pos h3]
theorem kN {upper:Bool} {deep so:Nat} {p:Option ByteArray} {k:ByteArray×PN} {ks:PKs} (h:eV k.1.toList=true) (h2:∀ y,p=some y→y.toList<k.1.toList) (h3:(bU upper (deep+1) so k.2).2=0):dD upper deep so p (k :: ks)=dD upper deep (bU upper (deep+1) so k.2).1 (some k.1) ks:=by
  obtain⟨a,b⟩:=k;rw [dD,if_neg (not_not_intro h),if_neg (fun ⟨y,hy,hn⟩=>hn (h2 y hy)),if_neg (not_not_intro h3)]
theorem rW {upper:Bool} {deep so:Nat} {p:Option ByteArray}:dD upper deep so p []=(so,0):=by rw [dD]
theorem cnt_is {p:Nat×Int} {a:Nat} (b:Int) (h:p=(a,b)) (hb:¬b=0):Value.tuple #[.int .i64 (a:Int),.iface 120 (.int .i64 b)]=.tuple #[.int .i64 (p.1:Int),bK p.2]:=by
  subst h;rw [cU hb]
theorem cnt_e {p:Nat×Int} {a:Nat} {b:Int} (h:p=(a,b)):Value.tuple #[.int .i64 (a:Int),bK b]=.tuple #[.int .i64 (p.1:Int),bK p.2]:=by
  subst h;rfl
theorem cnt_0 {p:Nat×Int} {a:Nat} (h:p=(a,0)):Value.tuple #[.int .i64 (a:Int),.nilIface]=.tuple #[.int .i64 (p.1:Int),bK p.2]:=by
  subst h;rw [cH]
theorem not_t {b:Bool} (h:(!b)=true):b=false:=by cases b<;>simp_all
theorem uV {b:Bool} (h:(!b)=false):b=true:=by cases b<;>simp_all
attribute [local irreducible] AtQ GoC GoL GoW QO QP Fn RV bL aG VLe bR bK
theorem count_c (V:aD) (x:LN) (hx:aT V x) (upper:Bool):∀ (deep so:Nat),deep≤7→so≤60→Fn Tryz.prog 139 [lnV x,.bool upper,.int .i64 (deep:Int),.int .i64 (so:Int)] V fun v _=>v=.tuple #[.int .i64 ((bU upper deep so x.n).1:Int),bK (bU upper deep so x.n).2]:=by
  refine aT.ind (C:=fun x=>∀ (deep so:Nat),deep≤7→so≤60→Fn Tryz.prog 139 [lnV x,.bool upper,.int .i64 (deep:Int),.int .i64 (so:Int)] V fun v _=>v=.tuple #[.int .i64 ((bU upper deep so x.n).1:Int),bK (bU upper deep so x.n).2]) ?_ hx
  intro x es ha hca hd hck hk hks ih deep so hdeep hso
  have hl:=hk.len
  have hm:=hk.max
  have hz:x.ks.length=x.nk:=by rw [hks,List.length_map,hl]
  have hone:=one_c V x (aT.of ha hca hd hck hk hks) upper (decide (deep=0))
  have hob:=oneF_bd x.h (decide (0<x.nk)) upper (decide (deep=0))
  have hd0:decide ((deep:Int)=0)=decide (deep=0):=decide_eq_decide.2 (by omega)
  rw [←hd0] at hone
  (refine aI Tryz.func139 rfl Tryz.ntmps139 rfl ?_;intro w0)
  repeat' (first|(refine aE ?_;first|(refine aC ?_;refine aP rfl (aK ⟨Tryz.call224⟩ rfl (hone)) ?_)|(refine al9 ?_;intro γ)|refine pu9 ?_)|refine dG ?_|(refine aJ rfl rfl rfl ?_ ?_<;>intro hq<;>try exact no9)|(refine aA rfl ?_ ?_<;>intro hq<;>try exact no9))
  all_goals (try rw [hd0] at hq)
  all_goals (try rw [hd0])
  all_goals first
    | ((refine bB Tryz.results139 (aB rfl) (aB rfl) ?_);exact cnt_is 2 (sU (by omega)) (by decide))
    | ((refine bB Tryz.results139 (aB rfl) (aB rfl) ?_);exact cnt_e (by rw [←hz] at *;exact vK (n:=x.n) (by omega) hq))
    | skip
  have hone0:iO x.h (decide (0<x.nk)) upper (decide (deep=0))=0:=by first|exact Decidable.not_not.1 hq|omega
  have hkids:bU upper deep so x.n=dD upper deep (so+1) none x.ks:=mT (n:=x.n) (by omega) (by rw [←hz] at hone0;exact hone0)
  refine bN (fun F V' L' m=>∃ (k s:Nat) (S:Int),V=V'∧[⟨γ,70,lnC x⟩]=L'∧k≤x.nk∧m=x.nk - k∧s≤60∧S=s∧bU upper deep so x.n=dD upper deep s (prevK x.ks k) (x.ks.drop k)∧F=[(1,.bool upper),(2,.int .i64 (deep:Int)),(3,.int .i64 S),(4,.pointer (some ⟨γ,0,none⟩)),(33,.slice x.K x.nk x.ck),(34,.int .i64 x.nk),(35,.int .i64 k)]) (m:=x.nk) ⟨0,so+1,_,rfl,rfl,Nat.zero_le _,by omega,by omega,rfl,hkids,rfl⟩ bH rfl sl9 ?_
  rintro F V' L' m ⟨k,s,S,rfl,rfl,hkn,rfl,hs60,rfl,hcnt,rfl⟩
  by_cases hlt:k<x.nk
  · obtain⟨b1,o1,e,hK1,he,hem,hc,c0,c1,hms,hne⟩:=hk.at_ hlt
    have hke:=pA hks he
    rw [xV hke] at hcnt
    have hcall:=ih e hem (deep+1) s (by omega) hs60
    have hcb:=iT upper (deep+1) s e.x.n hs60
    have hN:=Name_c V e.nm hms
    rw [Int.natCast_add,Int.natCast_one] at hcall
    by_cases h0:k=0
    · subst h0
      replace hcnt:bU upper deep so x.n=dD upper deep s none ((e.nm,e.x.n) :: x.ks.drop (0+1)):=hcnt
      repeat' (first|(refine aE ?_;first|(refine aC ?_;(first|refine aP rfl (aK ⟨Tryz.call225⟩ rfl (hN)) ?_|refine aP rfl (aK ⟨Tryz.call139⟩ rfl (hcall)) ?_))|refine st9 ?_|(refine al9 ?_;intro γ)|refine pu9 ?_)|refine dG ?_|(refine aA rfl ?_ ?_<;>intro hq<;>try exact no9)|(refine bM rfl ?_ ?_<;>intro hq)|refine bQ (id:=12) mixed (by kernel_rfl) ?_)
      all_goals first
        | ((refine bB Tryz.results139 (aB rfl) (aB rfl) ?_);exact cnt_is 4 (hcnt.trans (mU (not_t hq))) (by decide))
        | ((refine bB Tryz.results139 (aB rfl) (aB rfl) ?_);rw [hcnt,oC (uV (by assumption)) (fun y hy=>by cases hy) hq];rfl)
        | (refine aX _ (x.nk - (0+1)) ⟨0+1,(bU upper (deep+1) s e.x.n).1,_,rfl,rfl,by omega,rfl,hcb.1,rfl,?_,rfl⟩ (by omega) bH sl9
           rw [hcnt,kN (uV (by assumption)) (fun y hy=>by cases hy) (Decidable.not_not.1 hq),rN,hke];rfl)
    · obtain⟨y,hy,hcy⟩:=(hK1▸hk).prev hlt h0
      rw [prevK_pos h0,pA hks hy] at hcnt
      replace hcnt:bU upper deep so x.n=dD upper deep s (some y.nm) ((e.nm,e.x.n) :: x.ks.drop (k+1)):=hcnt
      repeat' (first|(refine aE ?_;first|(refine cN ?_;refine aO (q_sgeq rfl rfl) ?_)|(refine aC ?_;(first|refine aP rfl (aK ⟨Tryz.call225⟩ rfl (hN)) ?_|refine aP rfl (aK ⟨Tryz.call139⟩ rfl (hcall)) ?_))|refine st9 ?_|(refine al9 ?_;intro γ)|refine pu9 ?_)|refine bY ?_|(refine aJ rfl rfl rfl ?_ ?_<;>intro hq<;>try exact no9)|(refine aA rfl ?_ ?_<;>intro hq<;>try exact no9)|(refine bM rfl ?_ ?_<;>intro hq)|refine bQ (id:=12) mixed (by kernel_rfl) ?_)
      all_goals first
        | ((refine bB Tryz.results139 (aB rfl) (aB rfl) ?_);exact cnt_is 4 (hcnt.trans (mU (not_t hq))) (by decide))
        | ((refine bB Tryz.results139 (aB rfl) (aB rfl) ?_);exact cnt_is 3 (hcnt.trans (sQ (uV (by assumption)) hq)) (by decide))
        | ((refine bB Tryz.results139 (aB rfl) (aB rfl) ?_);rw [hcnt,oC (uV (by assumption)) (fun z hz=>by cases hz;exact Classical.byContradiction (by assumption)) hq];rfl)
        | (refine aX _ (x.nk - (k+1)) ⟨k+1,(bU upper (deep+1) s e.x.n).1,_,rfl,rfl,by omega,rfl,hcb.1,rfl,?_,rfl⟩ (by omega) bH sl9
           rw [hcnt,kN (uV (by assumption)) (fun z hz=>by cases hz;exact Classical.byContradiction (by assumption)) (Decidable.not_not.1 hq),rN,hke];rfl)
  · repeat' (first|(refine aE ?_;refine pu9 ?_)|refine dT ?_|(refine aA rfl ?_ ?_<;>intro hq<;>try exact no9))
    (refine bB Tryz.results139 (aB rfl) (aB rfl) ?_)
    rw [hcnt,List.drop_eq_nil_of_le (by omega)]
    exact cnt_0 rW
theorem xN (V:aD) (x:LN) (hx:aT V x) (upper:Bool):Fn Tryz.prog 65 [lnV x,.bool upper] V fun v _=>v=bK (cP upper x.n):=by
  have hb:=iT upper 0 0 x.n (by omega)
  have hc:=count_c V x hx upper 0 0 (by omega) (by omega)
  (refine aI Tryz.func65 rfl Tryz.ntmps65 rfl ?_;intro w0)
  repeat' (first|(refine aE ?_;first|(refine aC ?_;refine aP rfl (aK ⟨Tryz.call139⟩ rfl (hc)) ?_)|(refine al9 ?_;intro γ)|refine pu9 ?_)|refine cC ?_|(refine aA rfl ?_ ?_<;>intro hq<;>try exact no9))
  all_goals (refine aM Tryz.results65 (aB rfl) ?_)
  · exact cQ 7 (by unfold cP;exact if_pos hq)
  · unfold cP;rw [if_neg (show ¬¬x.n.h.kind=2 from hq)];rfl
end
end Go.Proofs.YtejkmomfpidnbabGreat
