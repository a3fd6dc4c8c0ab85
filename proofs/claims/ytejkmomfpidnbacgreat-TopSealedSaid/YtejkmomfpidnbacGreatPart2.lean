/- Walks and plain laws, part 2: what functions compute, proved once each (Ops4, Mut, Mut2, TreeP, LayP, DiskP, IdmapP, HostP, Bld, Grow, Lay, Held3, Auto). -/
import Derived.Test.YtejkmomfpidnbacGreatPart1
import Derived.Laws.StructEq
import Derived.Laws.BytesString
import Derived.Laws.MakeOwn
import Derived.Laws.Pointers
import Derived.Lib.Builder
import Derived.Lib.UnsafeStr
import Derived.Lib.MakeNoZero
import Derived.Lib.Bytealg
import Derived.Laws.Externs
import Derived.KernelRfl
set_option linter.unusedSimpArgs false
set_option linter.unusedVariables false
set_option maxRecDepth 100000
set_option maxHeartbeats 40000000
namespace Go.Proofs.YtejkmomfpidnbacGreat
open Go.RowKit
section

section
variable {P : Program} {B : Base} {N : Nat} {Q : Exit → Act → World → Prop} {k : List kC} {F : List (Nat × Value)} {V : aE} {L : List Box} {w : World}
variable {d : Option Tmp} {ty : TypeId} {pos : String} {af : Array Edge} {gd : Option (Nat × Bool)} {x y : Operand} {T T2 : TypeId} {ops : Array Oper} {rest : List Oper}

theorem q_makeFunc {fn:Go.Fn} {fs cs:List Operand} {vs us:List Value} (h1:evL F fs=some vs) (h2:evL F cs=some us):QP P B N V L ⟨d,.makeFunc fn fs.toArray cs.toArray,ty,pos,af,gd⟩ F (.func fn vs.toArray us.toArray):=iD fun a w ha _=>by
  have e1:=ha.evL h1
  have e2:=ha.evL h2
  simp [execOp,Instr.makeFunc,e1,e2]
theorem exec_callv {f:FuncId} {fo:Operand} {args:List Operand} {ats:Array TypeId} {vs fs cs:List Value} {a:Act} {w:World} (he:lB P f) (ha:Kn N F a) (hf:evF F fo=some (.func (.func f) fs.toArray cs.toArray)) (hv:evL F args=some vs) :
    (execOp a.eval ⟨d,.call ⟨.value fo,args.toArray,ats⟩,ty,pos,af,gd⟩).run P w=.ok (.enter f (fs ++ vs ++ cs).toArray) w:=by
  have h:=ha.evL hv
  have hf:=ha.ev hf
  simp [execOp,resolve,Deferred.ofValue,invoke,h,hf,he.h (fs ++ (vs ++ cs)).toArray w]
theorem gw_callv {dr:iM} (hdr:dr.loud=true) {f:FuncId} {fo:Operand} {args:List Operand} {ats:Array TypeId} {vs fs cs:List Value} {R:Value→aE→Prop} (he:lB P f) (hf:evF F fo=some (.func (.func f) fs.toArray cs.toArray)) (hv:evL F args=some vs) (hd:okD N d=true) (hc:Fn P f (fs ++ vs ++ cs) V R)
    (h:∀ v V',VLe V V'→R v V'→GoL P B N dr ops Q k rest (qQ F d v) V' L):GoW P B N dr ops Q k ⟨d,.call ⟨.value fo,args.toArray,ats⟩,ty,pos,af,gd⟩ rest F V L:=iI hdr fun a w ha hs=>by
  unfold Oper.wp
  rw [exec_callv he ha hf hv]
  refine(hc w (fun p x hp=>(hs.view p x hp).1)).mono fun e w' ⟨v,he',hx,V',h1,h2,h3,hR⟩=>?_
  subst he'
  exact fQ hdr (h v V' h1 hR) _ _ (ha.put hd v) (hs.call hx h1 h2 h3)
theorem q_callv {f:FuncId} {fo:Operand} {args:List Operand} {ats:Array TypeId} {vs fs cs:List Value} {v:Value} (he:lB P f) (hf:evF F fo=some (.func (.func f) fs.toArray cs.toArray)) (hv:evL F args=some vs) (hc:Fn P f (fs ++ vs ++ cs) V fun u _=>u=v):QO P B N V L ⟨d,.call ⟨.value fo,args.toArray,ats⟩,ty,pos,af,gd⟩ F v:=fun a w ha hs=>by
  unfold Oper.quietAt
  rw [exec_callv he ha hf hv]
  refine⟨rfl,(hc w (fun p x hp=>(hs.view p x hp).1)).mono fun e w' ⟨u,he',hx,V',h1,h2,h3,hR⟩=>?_⟩
  subst he' hR
  exact⟨rfl,(hs.call hx h1 h2 h3).less h1 hs.v0⟩

theorem rA {lo:Operand} {i:Int} {s:ByteArray} {t:TypeId} (hu:bR P t .string) (hx:evF F x=some (.string s)) (hl:evF F lo=some (.int .i64 i)) (h:0≤i∧i≤(s.size:Int)):QP P B N V L ⟨d,.slice t x (some lo) none none,ty,pos,af,gd⟩ F (.string (s.extract i.toNat s.size)) :=
  pT hu hx (by rw [hl,Int.toNat_of_nonneg h.1]) (by omega)
theorem vJ {hi:Operand} {i:Int} {s:ByteArray} {t:TypeId} (hu:bR P t .string) (hx:evF F x=some (.string s)) (hl:evF F hi=some (.int .i64 i)) (h:0≤i∧i≤(s.size:Int)):QP P B N V L ⟨d,.slice t x none (some hi) none,ty,pos,af,gd⟩ F (.string (s.extract 0 i.toNat)) :=
  xZ hu hx (by rw [hl,Int.toNat_of_nonneg h.1]) (by omega)
theorem gQ {E sz n c:Nat} {A:Option Addr} {hi:Operand} {i:Int} (hu:bR P T (.slice E)) (hS:dI P E sz) (hx:evF F x=some (.slice A n c)) (hh:evF F hi=some (.int .i64 i)) (h:0≤i∧i≤(c:Int)):QP P B N V L ⟨d,.slice T x none (some hi) none,ty,pos,af,gd⟩ F (.slice A i.toNat c) :=
  dY hu hS hx (by rw [hh,Int.toNat_of_nonneg h.1]) (by omega)
theorem iV {E sz n c:Nat} {A:Option Addr} {lo:Operand} {i:Int} (hu:bR P T (.slice E)) (hS:dI P E sz) (hx:evF F x=some (.slice A n c)) (hl:evF F lo=some (.int .i64 i)) (h:0≤i∧i≤(n:Int)):QP P B N V L ⟨d,.slice T x (some lo) none none,ty,pos,af,gd⟩ F (.slice (pX A c i.toNat sz) (n - i.toNat) (c - i.toNat)) :=
  sB hu hS hx (by rw [hl,Int.toNat_of_nonneg h.1]) (by omega)
theorem q_max {c:Call} {k:IntKind} {a b:Int} (hc:c=⟨.builtin .max,#[x,y],#[T,T2]⟩) (hx:evF F x=some (.int k a)) (hy:evF F y=some (.int k b)):QP P B N V L ⟨d,.call c,ty,pos,af,gd⟩ F (.int k (max a b)):=iD fun ac w ha _=>by
  subst hc
  have e:(if b>a then b else a)=max a b:=by split<;>omega
  simp [execOp,ha.ev hx,ha.ev hy,resolve,invoke,builtin,Builtin.max_,Builtin.max2,e]
theorem pC {c:Call} {k:IntKind} {a b:Int} (hc:c=⟨.builtin .min,#[x,y],#[T,T2]⟩) (hx:evF F x=some (.int k a)) (hy:evF F y=some (.int k b)):QP P B N V L ⟨d,.call c,ty,pos,af,gd⟩ F (.int k (min a b)):=iD fun ac w ha _=>by
  subst hc
  have e:(if b<a then b else a)=min a b:=by split<;>omega
  simp [execOp,ha.ev hx,ha.ev hy,resolve,invoke,builtin,Builtin.min_,Builtin.min2,e]
theorem q_half {k:IntKind} {t ty2:TypeId} {a:Int} (hx:evF F x=some (.int .u64 a)) (hy:evF F y=some (.int k 1)) (h:0≤a):QP P B N V L ⟨d,.binOp .shr t x y ty2,ty,pos,af,gd⟩ F (.int .u64 (a / 2)):=by
  refine sU hx hy (fun w=>by simp [eqGuard]) (fun w=>?_)
  have e:a.fdiv 2=a / 2:=Int.fdiv_eq_ediv_of_nonneg a (by decide)
  simp [binOp,Op.shift,IntKind.bits,e]
theorem q_conv {k:IntKind} {k0:IntKind} {s t:TypeId} {ds:TypeDesc} {a:Int} (hs:bR P s ds) (ht:bR P t (.int k)) (hx:evF F x=some (.int k0 a)) (h:k.wrap a=a):QP P B N V L ⟨d,.convert s t x,ty,pos,af,gd⟩ F (.int k a):=iD fun ac w ha _=>by
  have e:(Conv.intToInt k a)=pure (.int k a):=by unfold Conv.intToInt;rw [h]
  simp [execOp,ha.ev hx,convert,hs.h,ht.h,e]
theorem wrap_u64 {a:Int} (h:0≤a∧a≤9223372036854775807):IntKind.wrap .u64 a=a:=by
  simp [IntKind.wrap,IntKind.signed,IntKind.bits];omega
theorem wrap_i64 {a:Int} (h:-9223372036854775808≤a∧a≤9223372036854775807):IntKind.wrap .i64 a=a:=IntWalk.i64_in _ h

structure EqIs (P:Program) (T:TypeId) (xs ys:List Value) (b:Bool):Prop where
  h:∀ w,(Op.equalIn 10000 T (.agg xs.toArray) (.agg ys.toArray)).run P w=.ok b w
structure NoGuard (P:Program) (T:TypeId):Prop where
  h:P.eqGuardType P.depth T=false
theorem q_aneq {t ty2:TypeId} {xs ys:List Value} {b:Bool} (hg:NoGuard P t) (hx:evF F x=some (.agg xs.toArray)) (hy:evF F y=some (.agg ys.toArray)) (he:EqIs P t xs ys b):QP P B N V L ⟨d,.binOp .neq t x y ty2,ty,pos,af,gd⟩ F (.bool (!b)) :=
  sU hx hy (fun w=>run_eqGuard_agg w _ _ _ _ _ _ hg.h) (fun w=>by rw [run_neq_struct,he.h];rfl)

theorem cX.open {α:Type} {f:α→List Value} {A:Option Addr} {n c E sz:Nat} {xs:List α} {L1:List Box} (h:cX A n c E sz (xs.flatMap f) L1) (hn:0<n):∃ g rest,A=some ⟨g,0,none⟩∧L1=[⟨g,E,xs.flatMap f ++ rest⟩]∧(xs.flatMap f ++ rest).length=c * sz∧n≤c∧c≤maxLen:=by
  obtain⟨h1,h|h⟩:=h
  · omega
  · obtain⟨g,cs,rfl,rfl,h2,h3,h4,h5⟩:=h
    refine⟨g,cs.drop (n * sz),rfl,?_,?_,h2,h3⟩
    · rw [←h5,List.take_append_drop]
    · rw [←h5,List.take_append_drop];exact h4
theorem cX.close {α:Type} {f:α→List Value} {sz:Nat} (hf:∀ x,(f x).length=sz) {n c E g:Nat} {xs:List α} {rest:List Value} (hl:xs.length=n) (hc:(xs.flatMap f ++ rest).length=c * sz) (hn:n≤c) (hm:c≤maxLen):cX (some ⟨g,0,none⟩) n c E sz (xs.flatMap f) [⟨g,E,xs.flatMap f ++ rest⟩]:=by
  have e:=eU f hf xs
  rw [hl] at e
  exact⟨e,.inr ⟨g,_,rfl,rfl,hn,hm,hc,by rw [List.take_left' e]⟩⟩
theorem vA {α:Type} {f:α→List Value} {sz:Nat} (hf:∀ x,(f x).length=sz) (xs:List α) (k:Nat):(xs.flatMap f).take (k * sz)=(xs.take k).flatMap f∧(xs.flatMap f).drop (k * sz)=(xs.drop k).flatMap f:=by
  rcases Nat.lt_or_ge k xs.length with h|h
  · have e:xs.flatMap f=(xs.take k).flatMap f ++ (xs.drop k).flatMap f:=by rw [←List.flatMap_append,List.take_append_drop]
    have hl:((xs.take k).flatMap f).length=k * sz:=by rw [eU f hf,List.length_take];congr 1;omega
    rw [e]
    exact⟨List.take_left' hl,List.drop_left' hl⟩
  · have hl:(xs.flatMap f).length≤k * sz:=by rw [eU f hf];exact Nat.mul_le_mul_right sz h
    rw [List.take_of_length_le hl,List.drop_eq_nil_of_le hl,List.take_of_length_le h,List.drop_eq_nil_of_le h]
    exact⟨rfl,rfl⟩
theorem row_part {α:Type} {f:α→List Value} {sz:Nat} (hf:∀ x,(f x).length=sz) {xs:List α} {rest:List Value} {k:Nat} {x:α} (hx:xs[k]?=some x):((xs.flatMap f ++ rest).drop (0+k * sz)).take sz=f x:=by
  have hk:k<xs.length:=by
    rcases Nat.lt_or_ge k xs.length with h|h
    · exact h
    · rw [List.getElem?_eq_none h] at hx;cases hx
  rw [Nat.zero_add,List.drop_append_of_le_length (by rw [eU f hf];exact Nat.mul_le_mul_right sz (by omega)),(vA hf xs k).2,nV hx,List.flatMap_cons,List.append_assoc,List.take_left' (hf x)]
theorem spl_app (vs:List Value):∀ (cs:List Value) (i:Nat),i+vs.length≤cs.length→spl cs i vs=cs.take i ++ vs ++ cs.drop (i+vs.length):=by
  induction vs with
  | nil=>intro cs i h;simp [spl]
  | cons v vs ih =>
    intro cs i h
    simp at h
    rw [spl,ih _ _ (by simp;omega)]
    apply List.ext_getElem?
    intro j
    simp only [List.getElem?_append,List.length_append,List.length_take,List.length_set,List.length_cons,List.getElem?_take,List.getElem?_set,List.getElem?_drop,List.getElem?_cons]
    rcases Nat.lt_trichotomy j i with hj|hj|hj
    · rw [if_pos (by omega),if_pos (by omega),if_pos (by omega),if_neg (by omega),if_pos (by omega),if_pos (by omega),if_pos (by omega)]
    · subst hj
      rw [if_pos (by omega),if_pos (by omega),if_pos (by omega),if_pos rfl,if_pos (by omega),if_pos (by omega),if_neg (by omega),if_pos (by omega)]
    · by_cases h2:j<i+(vs.length+1)
      · rw [if_pos (by omega),if_neg (by omega),if_pos (by omega),if_neg (by omega),if_neg (by omega)]
        congr 1;omega
      · rw [if_neg (by omega),if_neg (by omega),if_neg (by omega)]
        congr 1;omega
theorem row_set {α:Type} {f:α→List Value} {sz:Nat} (hf:∀ x,(f x).length=sz) {xs:List α} {rest:List Value} {k:Nat} (hk:k<xs.length) (x:α):spl (xs.flatMap f ++ rest) (0+k * sz) (f x)=(xs.set k x).flatMap f ++ rest:=by
  have hle:k * sz+sz≤(xs.flatMap f).length:=by
    rw [eU f hf]
    have:=Nat.mul_le_mul_right sz (show k+1≤xs.length by omega)
    rw [Nat.succ_mul] at this;exact this
  rw [spl_app _ _ _ (by rw [hf,List.length_append];omega),Nat.zero_add,hf,List.take_append_of_le_length (by omega),List.drop_append_of_le_length (by omega),show k * sz+sz=(k+1) * sz by rw [Nat.succ_mul],(vA hf xs k).1,(vA hf xs (k+1)).2,List.set_eq_take_append_cons_drop,if_pos hk,List.flatMap_append,List.flatMap_cons]
  simp [List.append_assoc]
end
end
section
def iG (Bs:List Box):List Nat:=Bs.map Box.g
@[simp] theorem gsOf_nil:iG []=[]:=rfl
def vF (V:aE) (w:World) (Bs:List Box) (R:Value→aE→List Box→Prop) (e:Ending) (w':World):Prop :=
  ∃ v V' Bs',e=.returned v∧St ⟨V,w,iG Bs⟩ V' Bs' w'∧R v V' Bs'
def FnB (P:Program) (f:FuncId) (args:List Value) (V:aE) (Bs:List Box) (R:Value→aE→List Box→Prop):Prop :=
  ∀ w,St ⟨V,w,iG Bs⟩ V Bs w→Calls P f args.toArray w (vF V w Bs R)
section
variable {P : Program} {B : Base} {N : Nat} {Q : Exit → Act → World → Prop} {k : List kC} {F : List (Nat × Value)} {V : aE} {L : List Box} {w : World}
variable {d : Option Tmp} {ty : TypeId} {pos : String} {af : Array Edge} {gd : Option (Nat × Bool)} {x y : Operand} {T T2 : TypeId} {ops : Array Oper} {rest : List Oper}
theorem aL {f:FuncId} {fn:Func} {c:Code} {args:List Value} {Bs:List Box} {R:Value→aE→List Box→Prop} (hf:P.funcs[f]?=some fn) (hb:fn.body=some c) (hN:fn.ntmps=N) (hsz:Nat.ble args.length N=true)
    (h:∀ w,GoC P ⟨V,w,iG Bs⟩ N c (bodyPost P fn (vF V w Bs R)) [] (argsF args 0) V Bs):FnB P f args V Bs R:=fun w hV=>by
  refine calls_of_wp hf hb (h w _ w ⟨rfl,?_,fun t v hv=>?_⟩ hV)
  · have:=Nat.le_of_ble_eq_true hsz
    simp [hN];omega
  · obtain⟨_,h2⟩:=pK args 0 t v hv
    have hlt:t<args.length:=by
      rcases Nat.lt_or_ge t args.length with hl|hl
      · exact hl
      · rw [List.getElem?_eq_none (by omega)] at h2;cases h2
    rw [List.getElem?_eq_getElem (by omega)] at h2
    simp only [Nat.sub_zero] at h2
    injection h2 with h2
    simp [Array.getElem?_append,hlt,h2]
variable {fn : Func} {w0 : World} {V0 : aE} {Bs : List Box} {R : Value → aE → List Box → Prop}
theorem oE (hr:fn.results=#[]) {L':List Box} (hL:L'.Sublist L) (hR:R (.tuple #[]) V L'):AtQ P ⟨V0,w0,iG Bs⟩ N (bodyPost P fn (vF V0 w0 Bs R)) [] .ret F V L:=fun a w ha hs =>
  ⟨ha.1,.tuple #[],by simp [results,hr],_,V,L',rfl,hs.sub hL,hR⟩
theorem oF (hr:fn.results=#[]) {L':List Box} (hL:L'.Sublist L) (hR:R (.tuple #[]) V L'):AtQ P ⟨V0,w0,iG Bs⟩ N (bodyPost P fn (vF V0 w0 Bs R)) [] .normal F V L:=fun a w ha hs =>
  ⟨ha.1,.tuple #[],by simp [results,hr],_,V,L',rfl,hs.sub hL,hR⟩
theorem aV {r:ResultVar} {v:Value} (hr:fn.results=#[r]) (h1:RV P ⟨V0,w0,iG Bs⟩ N F V L r v) {L':List Box} (hL:L'.Sublist L) (hR:R v V L'):AtQ P ⟨V0,w0,iG Bs⟩ N (bodyPost P fn (vF V0 w0 Bs R)) [] .ret F V L:=fun a w ha hs=>by
  refine⟨ha.1,v,?_,_,V,L',rfl,hs.sub hL,hR⟩
  have h1:=h1 a w ha hs
  unfold results
  rw [hr]
  cases r<;>simp_all
theorem bJ {r s:ResultVar} {v u:Value} (hr:fn.results=#[r,s]) (h1:RV P ⟨V0,w0,iG Bs⟩ N F V L r v) (h2:RV P ⟨V0,w0,iG Bs⟩ N F V L s u) {L':List Box} (hL:L'.Sublist L) (hR:R (.tuple #[v,u]) V L'):AtQ P ⟨V0,w0,iG Bs⟩ N (bodyPost P fn (vF V0 w0 Bs R)) [] .ret F V L:=fun a w ha hs=>by
  refine⟨ha.1,_,?_,_,V,L',rfl,hs.sub hL,hR⟩
  unfold results
  rw [hr]
  exact run_res2 _ (h1 a w ha hs) (h2 a w ha hs)
theorem St.sub' {L':List Box} (hs:St B V L w) (h:L'.Sublist L):St ⟨V,w,iG L'⟩ V L' w :=
  ⟨Exc.refl _ w,fun p x hp=>⟨(hs.view p x hp).1,fun b hb=>(hs.view p x hp).2 b (h.subset hb)⟩,fun p x hp _=>hp,VLe.refl V,fun b hb=>⟨(hs.own b (h.subset hb)).1,.inr (List.mem_map_of_mem (f:=Box.g) hb)⟩,List.Nodup.sublist (h.map Box.g) hs.nodup⟩
theorem St.callB {X Y Bs Bs':List Box} {w':World} {V':aE} (hs:St B V (X ++ (Bs ++ Y)) w) (hc:St ⟨V,w,iG Bs⟩ V' Bs' w'):St B V' (X ++ (Bs' ++ Y)) w':=by
  have hnd:=hs.nodup
  rw [List.map_append,List.map_append,List.nodup_append] at hnd
  obtain⟨n1,n2,n3⟩:=hnd
  rw [List.nodup_append] at n2
  obtain⟨n4,n5,n6⟩:=n2
  have hlo:∀ g∈iG Bs,B.w.heap.size≤g∨g∈B.fl:=by
    intro g hg
    obtain⟨b,hb,rfl⟩:=List.mem_map.1 hg
    exact(hs.own b (by simp [hb])).2
  have hother:∀ b,b∈X∨b∈Y→b∈X ++ (Bs ++ Y)∧¬b.g∈iG Bs:=by
    intro b hb
    refine⟨by rcases hb with hb|hb<;>simp [hb],fun hm=>?_⟩
    obtain⟨q,hq,he⟩:=List.mem_map.1 hm
    rcases hb with hb|hb
    · exact n3 b.g (List.mem_map_of_mem (f:=Box.g) hb) q.g (by simp;exact .inl ⟨q,hq,rfl⟩) he.symm
    · exact n6 q.g (List.mem_map_of_mem (f:=Box.g) hq) b.g (List.mem_map_of_mem (f:=Box.g) hb) he
  have hsz:∀ b∈Bs',b.g∈iG Bs∨w.heap.size≤b.g:=fun b hb=>by
    rcases (hc.own b hb).2 with h|h
    · exact .inr h
    · exact .inl h
  refine⟨hs.ext.trans hc.ext hlo,fun p x hp=>⟨(hc.view p x hp).1,fun b hb=>?_⟩,fun p x hp hb=>?_,hs.v0.trans hc.v0,fun b hb=>?_,?_⟩
  · simp only [List.mem_append] at hb
    rcases hb with hb|hb|hb
    · obtain⟨h1,h2⟩:=hother b (.inl hb)
      rcases Nat.lt_or_ge p.block w.heap.size with h|h
      · exact(hs.view p x (hc.old p x hp h)).2 b h1
      · have:=hs.lt h1;omega
    · exact(hc.view p x hp).2 b hb
    · obtain⟨h1,h2⟩:=hother b (.inr hb)
      rcases Nat.lt_or_ge p.block w.heap.size with h|h
      · exact(hs.view p x (hc.old p x hp h)).2 b h1
      · have:=hs.lt h1;omega
  · exact hs.old p x (hc.old p x hp (Nat.lt_of_lt_of_le hb hs.ext.sz)) hb
  · simp only [List.mem_append] at hb
    rcases hb with hb|hb|hb
    · obtain⟨h1,h2⟩:=hother b (.inl hb)
      exact⟨(hc.ext.block b.g (hs.lt h1) h2).trans (hs.own b h1).1,(hs.own b h1).2⟩
    · refine⟨(hc.own b hb).1,?_⟩
      rcases hsz b hb with h|h
      · exact hlo _ h
      · exact .inl (Nat.le_trans hs.ext.sz h)
    · obtain⟨h1,h2⟩:=hother b (.inr hb)
      exact⟨(hc.ext.block b.g (hs.lt h1) h2).trans (hs.own b h1).1,(hs.own b h1).2⟩
  · rw [List.map_append,List.map_append,List.nodup_append,List.nodup_append]
    refine⟨n1,⟨hc.nodup,n5,?_⟩,?_⟩
    · intro a ha b hb e
      obtain⟨p,hp,rfl⟩:=List.mem_map.1 ha
      obtain⟨q,hq,rfl⟩:=List.mem_map.1 hb
      obtain⟨h1,h2⟩:=hother q (.inr hq)
      rcases hsz p hp with h|h
      · exact h2 (e▸h)
      · have:=hs.lt h1;omega
    · intro a ha b hb e
      obtain⟨q,hq,rfl⟩:=List.mem_map.1 ha
      obtain⟨h1,h2⟩:=hother q (.inl hq)
      rcases List.mem_append.1 hb with hb|hb
      · obtain⟨p,hp,rfl⟩:=List.mem_map.1 hb
        rcases hsz p hp with h|h
        · exact h2 (e▸h)
        · have:=hs.lt h1;omega
      · exact n3 q.g ha b (by rw [List.mem_append];exact .inr hb) e
theorem aM {dr:iM} (hdr:dr.loud=true) {f:FuncId} {args:List Operand} {ats:Array TypeId} {vs:List Value} {Bs:List Box} {R:Value→aE→List Box→Prop} {g:List Box→List Box} (he:lB P f) (hv:evL F args=some vs) (hL:lT L Bs g) (hd:okD N d=true) (hc:FnB P f vs V Bs R)
    (h:∀ v V' Bs',VLe V V'→R v V' Bs'→GoL P B N dr ops Q k rest (qQ F d v) V' (g Bs')):GoW P B N dr ops Q k ⟨d,.call ⟨.value (.func f),args.toArray,ats⟩,ty,pos,af,gd⟩ rest F V L:=iI hdr fun a w ha hs=>by
  obtain⟨X,Y,hX,hg⟩:=hL.h
  subst hX
  unfold Oper.wp
  rw [tE he ha hv]
  have hsub:Bs.Sublist (X ++ (Bs ++ Y)):=(List.sublist_append_left Bs Y).trans (List.sublist_append_right X (Bs ++ Y))
  refine(hc w (hs.sub' hsub)).mono fun e w' ⟨v,V',Bs',he',hst,hR⟩=>?_
  subst he'
  have h1:=h v V' Bs' hst.v0 hR
  rw [hg] at h1
  exact fQ hdr h1 _ _ (ha.put hd v) (hs.callB hst)
theorem FnB.pure {f:FuncId} {args:List Value} {V:aE} {R:Value→aE→Prop} (h:FnB P f args V [] fun v V' _=>R v V'):Fn P f args V R:=fun w hV=>by
  have hs:St ⟨V,w,iG []⟩ V [] w:=⟨Exc.refl _ w,fun p x hp=>⟨hV p x hp,by simp⟩,fun p x hp _=>hp,VLe.refl V,by simp,by simp⟩
  exact(h w hs).mono fun e w' ⟨v,V',Bs',he,hst,hR⟩=>⟨v,he,hst.ext.ext,V',hst.v0,fun p x hp=>(hst.view p x hp).1,hst.old,hR⟩
end
end
section
section
variable {P : Program} {B : Base} {N : Nat} {Q : Exit → Act → World → Prop} {k : List kC} {F : List (Nat × Value)} {V : aE} {L : List Box} {w : World}
variable {d : Option Tmp} {ty : TypeId} {pos : String} {af : Array Edge} {gd : Option (Nat × Bool)} {x y : Operand} {T T2 : TypeId} {ops : Array Oper} {rest : List Oper}
theorem dB {f:FuncId} {args:List Operand} {ats:Array TypeId} {vs:List Value} {v:Value} {Bs:List Box} {g:List Box→List Box} (he:lB P f) (hv:evL F args=some vs) (hL:lT L Bs g) (hc:FnB P f vs V Bs fun u _ Bs'=>u=v∧Bs'=Bs):QO P B N V L ⟨d,.call ⟨.value (.func f),args.toArray,ats⟩,ty,pos,af,gd⟩ F v:=fun a w ha hs=>by
  obtain⟨X,Y,hX,hg⟩:=hL.h
  subst hX
  unfold Oper.quietAt
  rw [tE he ha hv]
  have hsub:Bs.Sublist (X ++ (Bs ++ Y)):=(List.sublist_append_left Bs Y).trans (List.sublist_append_right X (Bs ++ Y))
  refine⟨rfl,(hc w (hs.sub' hsub)).mono fun e w' ⟨u,V',Bs',he',hst,hR⟩=>?_⟩
  obtain⟨rfl,rfl⟩:=hR
  subst he'
  exact⟨rfl,(hs.callB hst).less hst.v0 hs.v0⟩
theorem ones_any {l:List Value} (h:∀ u∈l,jF u=true):∀ u∈l,jF u=true:=h
structure MakeIs (P:Program) (E:TypeId) (sz bytes:Nat) (z:Value):Prop where
  h:∃ i,P.info? E=some i∧i.zero=some z∧i.size=sz∧i.bytes=bytes
theorem gw_makeSlice {dr:iM} (hdr:dr.loud=true) {E sz bytes n:Nat} {z:Value} (hu:bR P T (.slice E)) (hi:MakeIs P E sz bytes z) (hx:evF F x=some (.int .i64 (n:Int))) (hy:evF F y=some (.int .i64 (n:Int))) (hn:n≤1000000) (hby:Nat.ble bytes 100000=true) (hd:okD N d=true)
    (h:∀ g,GoL P B N dr ops Q k rest (qQ F d (.slice (some ⟨g,0,none⟩) n n)) V (⟨g,E,(madeCells z.cells (n * sz)).toList⟩ :: L)):GoW P B N dr ops Q k ⟨d,.makeSlice T x y,ty,pos,af,gd⟩ rest F V L:=iI hdr fun a w ha hs=>by
  obtain⟨i,hinfo,hz,e1,e2⟩:=hi.h
  have hb:=Nat.le_of_ble_eq_true hby
  have hbytes:(i.bytes:Int) * (n:Int)≤281474976710656:=by
    have h1:i.bytes * n≤100000 * 1000000:=Nat.mul_le_mul (by omega) hn
    have h2:((i.bytes * n:Nat):Int)≤281474976710656:=by omega
    rwa [Int.natCast_mul] at h2
  have hr:=run_make (P:=P) w T E i z hu.u hinfo hz .i64 .i64 n n (by omega) (Int.le_refl _) hbytes (by omega)
  simp only [Int.toNat_natCast] at hr
  rw [e1] at hr
  refine jY (w':=w.alloc (.cells (madeCells z.cells (n * sz)).toList.toArray E)) (v:=.slice (some ⟨w.heap.size,0,none⟩) n n) ?_ (fQ hdr (h w.heap.size) _ _ (ha.put hd _) (hs.alloc E _))
  simp [execOp,ha.ev hx,ha.ev hy,hr]
def u8C (l:List UInt8):List Value:=l.map fun c=>.int .u8 (c.toNat:Int)
theorem wU (l:List UInt8):(u8C l).length=l.length:=by simp [u8C]
theorem fold_push (l:List UInt8):∀ s:ByteArray,((l.map fun c=>(c.toNat:Int)).foldl (fun r n=>r.push (UInt8.ofNat n.toNat)) s).data.toList=s.data.toList ++ l:=by
  induction l with
  | nil=>intro s;simp
  | cons c l ih=>intro s;rw [List.map_cons,List.foldl_cons,ih];simp [ByteArray.push]
theorem kL {t t2 E m c2:Nat} {As:Option Addr} {us:List UInt8} (hu:bR P t (.slice E)) (hE:bR P E (.int .u8)) (ht:bR P t2 .string) (hx:evF F x=some (.slice As m c2)) (hsrc:bU B V L 1 As m (u8C us)):QP P B N V L ⟨d,.convert t t2 x,ty,pos,af,gd⟩ F (.string ⟨us.toArray⟩):=iD fun a w ha hs=>by
  have hc:=hsrc w hs
  have hlen:us.length=m:=by have:=hc.1;rw [wU] at this;omega
  have hb:(Conv.bytesToString (.slice As m c2)).run P w=.ok (.string ⟨us.toArray⟩) w:=by
    cases As with
    | none =>
      have hm:m=0:=by
        rcases Nat.eq_zero_or_pos m with h|h
        · exact h
        · obtain⟨_,_,h,_⟩:=hc.2 h;cases h
      have:us=[]:=List.eq_nil_of_length_eq_zero (by omega)
      subst this
      rfl
    | some ad =>
      have hl:(loadCells ad m).run P w=.ok ((us.map fun c=>(c.toNat:Int)).map (Value.int .u8)).toArray w:=by
        rcases Nat.eq_zero_or_pos m with h|h
        · have:us=[]:=List.eq_nil_of_length_eq_zero (by omega)
          subst this;subst h;rfl
        · obtain⟨b,off,he,hcell⟩:=hc.2 h
          injection he with he;subst he
          have hr:=uF (P:=P) b off w (u8C us) 0 #[] (fun j v hj=>by rw [Nat.zero_add];exact hcell j v hj)
          rw [wU,hlen] at hr
          rw [loadCells,hr]
          simp [u8C]
      rw [run_bytesToString w ad m c2 _ hl]
      congr 2
      apply str_ext
      rw [Lib.toList_data,Lib.toList_data,fold_push]
      simp
  simp [execOp,ha.ev hx,convert,hu.h,hE.h,ht.h,hb]
theorem gw_copys {dr:iM} (hdr:dr.loud=true) {E dl dc g i:Nat} {dp:Option Addr} {s:ByteArray} {us:List UInt8} {L':List Box} (hu:bR P T (.slice E)) (hS:dI P E 1) (hx:evF F x=some (.slice dp dl dc)) (hy:evF F y=some (.string s))
    (hus:s.toList.take (min s.size dl)=us) (hpos:0<us.length→dp=some ⟨g,i,none⟩) (hp:cF L g i (u8C us) L') (hd:okD N d=true)
    (h:GoL P B N dr ops Q k rest (qQ F d (.int .i64 ((min s.size dl:Nat):Int))) V L'):GoW P B N dr ops Q k ⟨d,.call ⟨.builtin .copy,#[x,y],#[T,T2]⟩,ty,pos,af,gd⟩ rest F V L:=iI hdr fun a w ha hs=>by
  have hf:(Builtin.firstCells 1 (min s.size dl) (.string s)).run P w=.ok (u8C us).toArray w:=by
    have e:(s.extract 0 (min s.size dl)).data.toList=us:=by
      rw [←Lib.toList_data,ba_take' s _ (Nat.min_le_left _ _),hus]
    show Result.ok ((s.extract 0 (min s.size dl)).data.map fun b=>Value.int .u8 b.toNat) w=_
    congr 1
    rw [←e]
    apply Array.toList_inj.1
    simp [u8C]
  have h1:∀ u∈u8C us,jF u=true:=by intro u hu;obtain⟨c,_,rfl⟩:=List.mem_map.1 hu;rfl
  have hmin:Nat.min s.size dl=min s.size dl:=rfl
  by_cases hvs:us=[]
  · subst hvs
    have hL:L'=L:=hp.nil
    subst hL
    refine jY (w':=w) (v:=goInt ((min s.size dl:Nat):Int)) ?_ (fQ hdr h _ w (ha.put hd _) hs)
    cases dp with
    | none=>simp [execOp,ha.ev hx,ha.ev hy,resolve,invoke,builtin,Builtin.copy_,hu.h,hS.h,Builtin.lenOf,hmin,hf];try rfl
    | some ad=>simp [execOp,ha.ev hx,ha.ev hy,resolve,invoke,builtin,Builtin.copy_,hu.h,hS.h,Builtin.lenOf,hmin,hf,u8C,storeCells];try rfl
  · have hpos:=hpos (List.length_pos_iff.2 hvs)
    subst hpos
    obtain⟨w',hr,hs'⟩:=qD (P:=P) (u8C us) (k:=0) hs hp h1
    refine jY (w':=w') (v:=goInt ((min s.size dl:Nat):Int)) ?_ (fQ hdr h _ w' (ha.put hd _) hs')
    simp [execOp,ha.ev hx,ha.ev hy,resolve,invoke,builtin,Builtin.copy_,hu.h,hS.h,Builtin.lenOf,hmin,hf,hr];try rfl
structure PtrIs (P:Program) (T:TypeId):Prop where
  h:P.underlying T=some (.pointer (P.pointee T))
theorem eH {t ty2:TypeId} {p:Option Addr} (hp:PtrIs P t) (hx:evF F x=some (.pointer p)):QP P B N V L ⟨d,.binOp .eql t x (.const (.pointer none)) ty2,ty,pos,af,gd⟩ F (.bool p.isNone) :=
  sU (y:=.const (.pointer none)) hx rfl (fun w=>by simp [eqGuard]) (fun w=>run_eql_pointer_nil w t p hp.h)
end
end
section
section
variable {P : Program} {B : Base} {N : Nat} {F : List (Nat × Value)} {V : aE} {L : List Box}
variable {d : Option Tmp} {ty : TypeId} {pos : String} {af : Array Edge} {gd : Option (Nat × Bool)} {x y : Operand} {T : TypeId}
theorem dG {E sz b o n c k:Nat} {A:Option Addr} (hu:bR P T (.slice E)) (hS:dI P E sz) (hx:evF F x=some (.slice A n c)) (hA:A=some ⟨b,o,none⟩) (hi:evF F y=some (.int .i64 (k:Int))) (hk:k<n):QP P B N V L ⟨d,.indexAddr T x y,ty,pos,af,gd⟩ F (.pointer (some ⟨b,o+k * sz,none⟩)):=by
  subst hA;exact iN hu hS hx hi hk
theorem vM {E sz b o n c:Nat} {i:Int} {A:Option Addr} (hu:bR P T (.slice E)) (hS:dI P E sz) (hx:evF F x=some (.slice A n c)) (hA:A=some ⟨b,o,none⟩) (hi:evF F y=some (.int .i64 i)) (hk:0≤i∧i<n):QP P B N V L ⟨d,.indexAddr T x y,ty,pos,af,gd⟩ F (.pointer (some ⟨b,o+i.toNat * sz,none⟩)):=by
  subst hA;exact rQ hu hS hx hi hk
end
@[ext] structure Hd where
  kind:Int
  mode:Int
  user:Int
  group:Int
  opq:Bool
  attrs:List PA
  data:ByteArray
inductive PN where
  | mk (h:Hd) (ks:List (ByteArray×PN))
abbrev PKs:=List (ByteArray×PN)
def PN.h:PN→Hd|.mk h _=>h
def PN.ks:PN→PKs|.mk _ ks=>ks
@[simp] theorem PN.h_mk (h:Hd) (ks:PKs):(PN.mk h ks).h=h:=rfl
@[simp] theorem PN.ks_mk (h:Hd) (ks:PKs):(PN.mk h ks).ks=ks:=rfl
theorem PN.lt_of_mem {h:Hd} {ks:PKs} {k:ByteArray×PN} (hk:k∈ks):SizeOf.sizeOf k.2<SizeOf.sizeOf (PN.mk h ks):=by
  have h1:=List.sizeOf_lt_of_mem hk
  obtain⟨a,b⟩:=k
  simp only [Prod.mk.sizeOf_spec] at h1
  simp only [PN.mk.sizeOf_spec]
  omega
theorem PN.ind {p:PN→Prop} (h:∀ hd ks,(∀ k∈ks,p k.2)→p (.mk hd ks)) (n:PN):p n:=by
  match n with
  | .mk hd ks=>exact h hd ks fun k hk=>PN.ind h k.2
termination_by SizeOf.sizeOf n
decreasing_by exact PN.lt_of_mem hk
def hZ:Hd:=⟨0,0,0,0,false,[],⟨#[]⟩⟩
def pnZ:PN:=.mk hZ []
inductive cH (p:Hd→PKs→Prop):PN→Prop
  | mk {h:Hd} {ks:PKs} (h1:p h ks) (h2:∀ k∈ks,cH p k.2):cH p (.mk h ks)
theorem cH.here {p:Hd→PKs→Prop} {n:PN} (h:cH p n):p n.h n.ks:=by cases h;assumption
theorem cH.kid {p:Hd→PKs→Prop} {n:PN} (h:cH p n) {k:ByteArray×PN} (hk:k∈n.ks):cH p k.2:=by cases h with|mk h1 h2=>exact h2 k hk
def kT (ks:PKs) (s:ByteArray):Bool:=ks.any fun k=>decide (k.1=s)
def atN (ks:PKs) (s:ByteArray):Nat:=ks.findIdx fun k=>decide (k.1=s)
def gtN (ks:PKs) (s:ByteArray):Nat:=ks.findIdx fun k=>decide (s.toList<k.1.toList)
def cQ (ks:PKs) (s:ByteArray):Nat:=if kT ks s=true then atN ks s else gtN ks s
theorem atN_lt {ks:PKs} {s:ByteArray}:kT ks s=true↔atN ks s<ks.length:=by
  unfold kT atN;rw [List.findIdx_lt_length,List.any_eq_true]
theorem xA (ks:PKs) (s:ByteArray):cQ ks s≤ks.length:=by
  unfold cQ;split
  · exact List.findIdx_le_length
  · exact List.findIdx_le_length
theorem tD {ks:PKs} {s:ByteArray} (h:kT ks s=true):cQ ks s<ks.length:=by
  unfold cQ;rw [if_pos h];exact atN_lt.1 h
theorem at_eq {ks:PKs} {s:ByteArray} {i:Nat} {k:ByteArray×PN} (hi:ks[i]?=some k) (he:k.1=s) (hb:∀ j k',j<i→ks[j]?=some k'→¬k'.1=s):kT ks s=true∧atN ks s=i:=by
  have hlt:i<ks.length:=by
    rcases Nat.lt_or_ge i ks.length with h|h
    · exact h
    · rw [List.getElem?_eq_none h] at hi;cases hi
  have e:atN ks s=i:=by
    unfold atN
    rw [List.findIdx_eq hlt]
    refine⟨?_,fun j hj=>?_⟩
    · rw [List.getElem?_eq_getElem hlt] at hi;injection hi with hi;rw [hi];exact decide_eq_true he
    · have:=hb j (ks[j]'(by omega)) hj (List.getElem?_eq_getElem (by omega))
      exact decide_eq_false this
  exact⟨atN_lt.2 (by omega),e⟩
theorem at_none {ks:PKs} {s:ByteArray} (hb:∀ j k',j<ks.length→ks[j]?=some k'→¬k'.1=s):kT ks s=false:=by
  cases h:kT ks s
  · rfl
  · have:=atN_lt.1 h
    unfold kT at h
    rw [List.any_eq_true] at h
    obtain⟨k,hk,he⟩:=h
    obtain⟨j,hj,rfl⟩:=List.getElem_of_mem hk
    exact absurd (of_decide_eq_true he) (hb j _ hj (List.getElem?_eq_getElem hj))
theorem gt_drop {ks:PKs} {s:ByteArray} {i:Nat} {k:ByteArray×PN} (hi:ks[i]?=some k):i+gtN (ks.drop i) s=if s.toList<k.1.toList then i else (i+1)+gtN (ks.drop (i+1)) s:=by
  have hlt:i<ks.length:=by
    rcases Nat.lt_or_ge i ks.length with h|h
    · exact h
    · rw [List.getElem?_eq_none h] at hi;cases hi
  rw [List.getElem?_eq_getElem hlt] at hi;injection hi with hi
  rw [List.drop_eq_getElem_cons hlt,hi]
  unfold gtN
  rw [List.findIdx_cons]
  by_cases h:s.toList<k.1.toList
  · rw [if_pos h,decide_eq_true h];rfl
  · rw [if_neg h,decide_eq_false h]
    simp only [cond_false];omega
def eP:PN→List ByteArray→Option PN
  | n,[]=>some n
  | n,s :: l=>if n.h.kind=2∧kT n.ks s=true then (match n.ks[cQ n.ks s]? with|some k=>eP k.2 l|none=>none) else none
def pA (cut:Bool) (ks:PKs) (s:ByteArray):Int:=if cut=true then (if kT ks s=true then 0 else 5) else if fS s.toList=true then 0 else 4
def nF (cut:Bool) (x:PN) (ks:PKs) (s:ByteArray):PKs :=
  ks.take (cQ ks s) ++ (if cut=true then [] else [(s,x)]) ++ ks.drop (if kT ks s=true then cQ ks s+1 else cQ ks s)
def pF (cut:Bool) (x:PN):PN→List ByteArray→Int
  | _,[]=>7
  | n,[s]=>if n.h.kind=2 then pA cut n.ks s else 7
  | n,s :: t :: l=>if ¬n.h.kind=2 then 7 else if kT n.ks s=true then (match n.ks[cQ n.ks s]? with|some k=>pF cut x k.2 (t :: l)|none=>5) else 5
def pN (cut:Bool) (x:PN):PN→List ByteArray→PN
  | n,[]=>n
  | n,[s]=>.mk n.h (nF cut x n.ks s)
  | n,s :: t :: l=>match n.ks[cQ n.ks s]? with|some k=>.mk n.h (n.ks.set (cQ n.ks s) (k.1,pN cut x k.2 (t :: l)))|none=>n
def putP (cut:Bool) (x n:PN) (l:List ByteArray):PN:=if pF cut x n l=0 then pN cut x n l else pnZ
theorem editF_bd (cut:Bool) (ks:PKs) (s:ByteArray):0≤pA cut ks s∧pA cut ks s≤7:=by unfold pA;(repeat' split)<;>omega
theorem pF_bd (cut:Bool) (x:PN):∀ (l:List ByteArray) (n:PN),0≤pF cut x n l∧pF cut x n l≤7
  | [],n=>by simp [pF]
  | [s],n=>by
    simp only [pF]
    split
    · exact editF_bd _ _ _
    · omega
  | s :: t :: l,n=>by
    rw [pF]
    split
    · omega
    · split
      · split
        · exact pF_bd cut x (t :: l) _
        · omega
      · omega
def lA (h:Hd) (many:Bool) (upper root:Bool):Int :=
  if ¬(h.kind=1∨h.kind=2∨h.kind=3) then 3
  else if ¬((0≤h.mode∧h.mode≤4095)∧(0≤h.user∧h.user≤65535)∧(0≤h.group∧h.group≤65535)) then 1
  else if ¬fJ h.attrs=0 then fJ h.attrs
  else if 200<h.data.size then 1
  else if (h.kind=3∧(upper=false∨0<h.mode+h.user+h.group+h.attrs.length))∨(¬h.kind=1∧0<h.data.size)∨(¬h.kind=2∧(many=true∨h.opq=true))∨(h.opq=true∧(upper=false∨root=true)) then 3
  else 0
mutual
def cE (upper:Bool) (deep so:Nat):PN→Nat×Int
  | .mk h ks=>if so=60∨6<deep then (so,2) else if ¬lA h (decide (0<ks.length)) upper (decide (deep=0))=0 then (so,lA h (decide (0<ks.length)) upper (decide (deep=0))) else dQ upper deep (so+1) none ks
termination_by n=>SizeOf.sizeOf n
def dQ (upper:Bool) (deep so:Nat) (prev:Option ByteArray):PKs→Nat×Int
  | []=>(so,0)
  | (nm,n) :: ks=>if ¬fS nm.toList=true then (so,4) else if (∃ y,prev=some y∧¬y.toList<nm.toList) then (so,3) else if ¬(cE upper (deep+1) so n).2=0 then cE upper (deep+1) so n else dQ upper deep (cE upper (deep+1) so n).1 (some nm) ks
termination_by ks=>SizeOf.sizeOf ks
end
def dD (upper:Bool) (n:PN):Int:=if ¬n.h.kind=2 then 7 else (cE upper 0 0 n).2
end
section
def b8 (x:Int):UInt8:=UInt8.ofNat (x % 256).toNat
def b16 (x:Int):List UInt8:=[b8 (x / 256),b8 x]
def qS (s:ByteArray):List UInt8:=b8 (s.size:Int) :: s.toList
def vE (h:Hd):Int:=if h.opq=true then h.kind+8 else h.kind
def layH (h:Hd):List UInt8:=b8 (vE h) :: (b16 h.mode ++ b16 h.user ++ b16 h.group) ++ [b8 (h.attrs.length:Int)]
def nD (l:List PA):List UInt8:=l.flatMap fun a=>qS a.n ++ qS a.v
mutual
def qT:PN→List UInt8
  | .mk h ks=>layH h ++ nD h.attrs ++ (qS h.data ++ [b8 (ks.length:Int)]) ++ nG ks
termination_by n=>SizeOf.sizeOf n
def nG:PKs→List UInt8
  | []=>[]
  | (nm,n) :: ks=>qS nm ++ qT n ++ nG ks
termination_by ks=>SizeOf.sizeOf ks
end
theorem layK_app:∀ (l m:PKs),nG (l ++ m)=nG l ++ nG m
  | [],m=>by simp [nG]
  | (nm,n) :: l,m=>by rw [List.cons_append,nG,nG,layK_app l m];simp
theorem layA_app (l m:List PA):nD (l ++ m)=nD l ++ nD m:=by unfold nD;simp
theorem b8_nat (x:Int):((b8 x).toNat:Int)=x % 256:=by
  unfold b8
  rw [UInt8.toNat_ofNat']
  have h1:0≤x % 256:=Int.emod_nonneg _ (by omega)
  have h2:x % 256<256:=Int.emod_lt_of_pos _ (by omega)
  omega
theorem gE (s:ByteArray):(qS s).length=s.size+1:=by unfold qS;rw [List.length_cons,Lib.toList_data];rfl
theorem oH (h:Hd):(layH h).length=8:=by simp [layH,b16]
def fitP (h:Hd) (ks:PKs):Prop:=(1≤h.kind∧h.kind≤3)∧(0≤h.mode∧h.mode≤4095)∧(0≤h.user∧h.user≤65535)∧(0≤h.group∧h.group≤65535)∧(h.attrs.length≤4∧∀ a∈h.attrs,a.n.size≤14∧a.v.size≤20)∧h.data.size≤200∧ks.length≤60∧∀ k∈ks,k.1.size≤12
theorem class_len {s:ByteArray} (h:¬eV s=0):s.size≤14:=by
  unfold eV at h
  split at h
  · rename_i h1
    have h2:=h1.2
    unfold fS at h2
    simp only [Bool.and_eq_true,decide_eq_true_eq] at h2
    have h3:=h2.1.1.1.2
    rw [List.length_drop,show s.toList.length=s.size by rw [Lib.toList_data];rfl] at h3
    omega
  · exact absurd rfl h
theorem name_len {s:ByteArray} (h:fS s.toList=true):s.size≤12:=by
  unfold fS at h
  simp only [Bool.and_eq_true,decide_eq_true_eq] at h
  have h3:=h.1.1.1.2
  rw [show s.toList.length=s.size by rw [Lib.toList_data];rfl] at h3
  exact h3
theorem layA_len {l:List PA} (h:∀ a∈l,a.n.size≤14∧a.v.size≤20):(nD l).length≤36 * l.length:=by
  induction l with
  | nil=>simp [nD]
  | cons a l ih =>
    have h1:=h a (by simp)
    have h2:=ih fun b hb=>h b (by simp [hb])
    have e:nD (a :: l)=(qS a.n ++ qS a.v) ++ nD l:=by simp [nD]
    rw [e,List.length_append,List.length_append,gE,gE,List.length_cons];omega
theorem oneF_fit {h:Hd} {many upper root:Bool} (h0:lA h many upper root=0):(1≤h.kind∧h.kind≤3)∧(0≤h.mode∧h.mode≤4095)∧(0≤h.user∧h.user≤65535)∧(0≤h.group∧h.group≤65535)∧(h.attrs.length≤4∧∀ a∈h.attrs,a.n.size≤14∧a.v.size≤20)∧h.data.size≤200:=by
  unfold lA at h0
  split at h0
  · omega
  · rename_i h1
    split at h0
    · omega
    · rename_i h2
      split at h0
      · rename_i h3;exact absurd h0 h3
      · rename_i h3
        split at h0
        · omega
        · rename_i h4
          have h2:=Decidable.not_not.1 h2
          obtain⟨a1,_,a3⟩:=qZ (Decidable.not_not.1 h3)
          exact⟨by omega,h2.1,h2.2.1,h2.2.2,⟨a1,fun a ha=>⟨class_len (a3 a ha).1,(a3 a ha).2⟩⟩,by omega⟩
mutual
theorem countF_fit (upper:Bool):∀ (deep so:Nat) (n:PN),so≤60→(cE upper deep so n).2=0→cH fitP n∧so<(cE upper deep so n).1∧(cE upper deep so n).1≤60∧(qT n).length+13+400 * so≤400 * (cE upper deep so n).1
  | deep,so,.mk h ks,hs,h0=>by
    rw [cE] at h0 ⊢
    by_cases h1:so=60∨6<deep
    · rw [if_pos h1] at h0;simp at h0
    · rw [if_neg h1] at h0 ⊢
      by_cases h2:lA h (decide (0<ks.length)) upper (decide (deep=0))=0
      · rw [if_neg (not_not_intro h2)] at h0 ⊢
        obtain⟨b1,b2,b3,b4⟩:=countK_fit upper deep (so+1) none ks (by omega) h0
        obtain⟨a1,a2,a3,a4,a5,a6⟩:=oneF_fit h2
        refine⟨.mk ⟨a1,a2,a3,a4,a5,a6,by omega,fun k hk=>(b1 k hk).1⟩ fun k hk=>(b1 k hk).2,by omega,b3,?_⟩
        have:=layA_len a5.2
        rw [qT]
        simp only [List.length_append,List.length_cons,List.length_nil,gE,oH]
        omega
      · rw [if_pos h2] at h0;exact absurd h0 h2
theorem countK_fit (upper:Bool):∀ (deep so:Nat) (prev:Option ByteArray) (ks:PKs),so≤60→(dQ upper deep so prev ks).2=0→(∀ k∈ks,k.1.size≤12∧cH fitP k.2)∧so+ks.length≤(dQ upper deep so prev ks).1∧(dQ upper deep so prev ks).1≤60∧(nG ks).length+400 * so≤400 * (dQ upper deep so prev ks).1
  | deep,so,prev,[],hs,h0=>by rw [dQ,nG];simp;exact hs
  | deep,so,prev,(nm,n) :: ks,hs,h0=>by
    rw [dQ] at h0 ⊢
    by_cases h1:fS nm.toList=true
    · rw [if_neg (not_not_intro h1)] at h0 ⊢
      split at h0
      · simp at h0
      · rename_i h2
        rw [if_neg h2]
        by_cases h3:(cE upper (deep+1) so n).2=0
        · rw [if_neg (not_not_intro h3)] at h0 ⊢
          obtain⟨a1,a2,a3,a4⟩:=countF_fit upper (deep+1) so n hs h3
          obtain⟨b1,b2,b3,b4⟩:=countK_fit upper deep _ _ ks a3 h0
          have hn:=name_len h1
          refine⟨fun k hk=>?_,by simp only [List.length_cons];omega,b3,?_⟩
          · rcases List.mem_cons.1 hk with rfl|hk
            · exact⟨hn,a1⟩
            · exact b1 k hk
          · rw [nG,List.length_append,List.length_append,gE];omega
        · rw [if_pos h3] at h0;exact absurd h0 h3
    · rw [if_pos h1] at h0;simp at h0
end
theorem pQ {upper:Bool} {n:PN} (h:dD upper n=0):cH fitP n∧(qT n).length≤24000:=by
  unfold dD at h
  split at h
  · omega
  · obtain⟨h1,_,h3,h4⟩:=countF_fit upper 0 0 n (by omega) h
    exact⟨h1,by omega⟩
theorem layA_take {l:List PA} {k:Nat} {a:PA} (h:l[k]?=some a):nD (l.take (k+1))=nD (l.take k) ++ (qS a.n ++ qS a.v):=by
  rw [List.take_add_one,h,layA_app];simp [nD]
theorem layK_take {ks:PKs} {k:Nat} {e:ByteArray×PN} (h:ks[k]?=some e):nG (ks.take (k+1))=nG (ks.take k) ++ qS e.1 ++ qT e.2:=by
  obtain⟨a,b⟩:=e
  rw [List.take_add_one,h,layK_app];simp [nG]
theorem layA_le (l:List PA) (k:Nat):(nD (l.take k)).length≤(nD l).length:=by
  have:=layA_app (l.take k) (l.drop k)
  rw [List.take_append_drop] at this;rw [this,List.length_append];omega
theorem layK_le (ks:PKs) (k:Nat):(nG (ks.take k)).length≤(nG ks).length:=by
  have:=layK_app (ks.take k) (ks.drop k)
  rw [List.take_append_drop] at this;rw [this,List.length_append];omega
theorem layP_eq (h:Hd) (ks:PKs):qT (.mk h ks)=layH h ++ nD h.attrs ++ (qS h.data ++ [b8 (ks.length:Int)]) ++ nG ks:=by rw [qT]
end
section
structure DS where
  bs:List UInt8
  cut:Int
  off:Bool
  wr:Int
def lO (s:DS) (a n:Int):Int:=if s.off=true then 16 else if 0≤a∧0≤n∧a≤s.bs.length∧n≤s.bs.length - a then 0 else 1
def dN (s:DS) (m:Nat):Nat:=if 0≤s.cut∧s.cut<m then s.cut.toNat else m
def mO (s:DS) (m:Nat):Bool:=decide (0≤s.cut∧s.cut<m)
def dPut (s:DS) (a:Nat) (l:List UInt8):DS :=
  ⟨s.bs.take a ++ l.take (dN s l.length) ++ s.bs.drop (a+dN s l.length),if 0≤s.cut then s.cut - dN s l.length else s.cut,mO s l.length,s.wr+dN s l.length⟩
def cZ (s:DS) (a:Int) (l:List UInt8):Int:=if ¬lO s a l.length=0 then lO s a l.length else if mO s l.length=true then 16 else 0
def cD (s:DS) (a:Int) (l:List UInt8):DS:=if ¬lO s a l.length=0 then s else dPut s a.toNat l
theorem dFault_off {s:DS} {a n:Int} (h:s.off=true):lO s a n=16:=by rw [lO,if_pos h]
theorem dFault_bad {s:DS} {a n:Int} (h:s.off=false) (h2:¬(0≤a∧0≤n∧a≤s.bs.length∧n≤s.bs.length - a)):lO s a n=1:=by rw [lO,if_neg (by rw [h];simp),if_neg h2]
theorem dFault_ok {s:DS} {a n:Int} (h:s.off=false) (h2:0≤a∧0≤n∧a≤s.bs.length∧n≤s.bs.length - a):lO s a n=0:=by rw [lO,if_neg (by rw [h];simp),if_pos h2]
theorem dFault_zero {s:DS} {a n:Int} (h:lO s a n=0):s.off=false∧0≤a∧0≤n∧a≤s.bs.length∧n≤s.bs.length - a:=by
  unfold lO at h
  split at h
  · omega
  · rename_i ho
    split at h
    · rename_i h2;exact⟨by simpa using ho,h2⟩
    · omega
theorem dN_le (s:DS) (m:Nat):dN s m≤m:=by unfold dN;split<;>omega
theorem vS (s:DS) (a:Nat) (l:List UInt8) (h:a+l.length≤s.bs.length):(dPut s a l).bs.length=s.bs.length:=by
  have:=dN_le s l.length
  simp [dPut];omega
abbrev u8F (c:UInt8):List Value:=[.int .u8 (c.toNat:Int)]
theorem lK (c:UInt8):(u8F c).length=1:=rfl
theorem u8C_flat (l:List UInt8):u8C l=l.flatMap u8F:=map_flat (fun c:UInt8=>Value.int .u8 (c.toNat:Int)) l
theorem made_u8 (n:Nat):(madeCells (Value.int .u8 0).cells (n * 1)).toList=(List.replicate n (0:UInt8)).flatMap u8F:=by
  rw [←u8C_flat]
  apply List.ext_getElem?
  intro i
  simp only [madeCells,u8C,Array.getElem?_toList,List.map_replicate,List.getElem?_replicate]
  rcases Nat.lt_or_ge i n with h|h
  · simp [h,Value.cells,Nat.mod_one]
  · simp [h,Nat.not_lt.2 h]
theorem over' {α:Type} {f:α→List Value} {sz:Nat} (hf:∀ x,(f x).length=sz) {xs zs:List α} {rest:List Value} {p:Nat} (hp:p+zs.length≤xs.length):spl (xs.flatMap f ++ rest) (p * sz) (zs.flatMap f)=(xs.take p ++ zs ++ xs.drop (p+zs.length)).flatMap f ++ rest:=by
  have h1:=eU f hf xs
  have h2:=eU f hf zs
  have h3:p * sz+zs.length * sz≤xs.length * sz:=by rw [←Nat.add_mul];exact Nat.mul_le_mul_right sz hp
  rw [spl_app _ _ _ (by rw [h2,List.length_append,h1];omega),h2,List.take_append_of_le_length (by omega),List.drop_append_of_le_length (by omega),←Nat.add_mul,(vA hf xs p).1,(vA hf xs (p+zs.length)).2,List.flatMap_append,List.flatMap_append]
  simp [List.append_assoc]
theorem cut' {g c l sz:Nat} (h:l<c):pX (some ⟨g,0,none⟩) c l sz=some ⟨g,l * sz,none⟩:=by
  unfold pX
  rw [if_neg (by omega)]
  simp [iT]
end
section

@[ext] structure PR where
  i:Int
  o:Int
  c:Int
instance : DecidableEq PR := fun a b => decidable_of_iff (a.i = b.i ∧ a.o = b.o ∧ a.c = b.c) ⟨fun ⟨h1, h2, h3⟩ => PR.ext h1 h2 h3, fun h => by subst h; exact ⟨rfl, rfl, rfl⟩⟩

def fitsZ (f n:Int):Bool:=decide (0≤f) && decide (f≤65535) && decide (1≤n) && decide (n - 1≤65535 - f)
def meetsZ (a n b m:Int):Bool:=decide (a<b+m) && decide (b<a+n)
def okR (r:PR):Bool:=fitsZ r.i r.c && fitsZ r.o r.c
def pU (r s:PR):Bool:=meetsZ r.i r.c s.i s.c || meetsZ r.o r.c s.o s.c
def nR (seen:List PR):List PR→Int
  | []=>0
  | r :: l=>if okR r=false then 1 else if seen.any (pU r) then 3 else nR (seen ++ [r]) l
def dX (xs:List PR):Int:=if 4<xs.length then 2 else nR [] xs

def qY:List PR→Int→Option Int
  | [],_=>none
  | r :: l,x=>if r.i≤x∧x<r.i+r.c then some (r.o+(x - r.i)) else qY l x
def PR.swap (r:PR):PR:=⟨r.o,r.i,r.c⟩

def inR (r:PR) (x:Int):Prop:=r.i≤x∧x<r.i+r.c
def apart (r s:PR):Prop:=r.i+r.c≤s.i∨s.i+s.c≤r.i
def before (r s:PR):Prop:=r.i+r.c≤s.i
def bdR (r:PR):Prop:=0≤r.i∧1≤r.c∧r.i+r.c≤65536∧0≤r.o∧r.o+r.c≤65536
theorem okR_iff (r:PR):okR r=true↔bdR r:=by
  simp only [okR,fitsZ,bdR,Bool.and_eq_true,decide_eq_true_eq];omega

theorem look_some {l:List PR} {x y:Int} (h:qY l x=some y):∃ r∈l,inR r x∧y=r.o+(x - r.i):=by
  induction l with
  | nil=>cases h
  | cons r l ih =>
    rw [qY] at h
    by_cases hr:r.i≤x∧x<r.i+r.c
    · rw [if_pos hr] at h;injection h with h;exact⟨r,by simp,hr,h.symm⟩
    · rw [if_neg hr] at h
      obtain⟨s,hs,h2⟩:=ih h
      exact⟨s,by simp [hs],h2⟩
theorem apart_symm {r s:PR} (h:apart r s):apart s r:=by unfold apart at *;omega
theorem meets_apart {r s:PR} (h1:bdR r) (h2:bdR s):pU r s=false↔apart r s∧apart r.swap s.swap:=by
  simp only [pU,meetsZ,apart,PR.swap,Bool.or_eq_false_iff,Bool.and_eq_false_iff,decide_eq_false_iff_not];unfold bdR at *;omega
theorem mfault_zero:∀ (l seen:List PR),nR seen l=0→(∀ r∈l,bdR r)∧(∀ r∈l,∀ s∈seen,pU r s=false)∧l.Pairwise fun s r=>pU r s=false
  | [],seen,_=>⟨by simp,by simp,List.Pairwise.nil⟩
  | r :: l,seen,h=>by
    rw [nR] at h
    split at h
    · omega
    · rename_i hok
      split at h
      · omega
      · rename_i hany
        obtain⟨a,b,c⟩:=mfault_zero l _ h
        have hr:bdR r:=(okR_iff r).1 (by simpa using hok)
        refine⟨fun s hs=>?_,fun s hs t ht=>?_,?_⟩
        · rcases List.mem_cons.1 hs with rfl|hs
          · exact hr
          · exact a s hs
        · rcases List.mem_cons.1 hs with rfl|hs
          · simp at hany;exact hany t ht
          · exact b s hs t (by simp [ht])
        · rw [List.pairwise_cons]
          exact⟨fun s hs=>b s hs r (by simp),c⟩
theorem kS {xs:List PR} (h:dX xs=0):xs.length≤4∧(∀ r∈xs,bdR r)∧xs.Pairwise apart∧(xs.map PR.swap).Pairwise apart:=by
  unfold dX at h
  split at h
  · omega
  · obtain⟨a,_,c⟩:=mfault_zero xs [] h
    refine⟨by omega,a,?_,?_⟩
    · refine c.imp_of_mem fun {s r} hs hr h=>?_
      exact apart_symm ((meets_apart (a r hr) (a s hs)).1 h).1
    · rw [List.pairwise_map]
      refine c.imp_of_mem fun {s r} hs hr h=>?_
      exact apart_symm ((meets_apart (a r hr) (a s hs)).1 h).2
theorem swap_bd {r:PR} (h:bdR r):bdR r.swap:=by unfold bdR PR.swap at *;simp only [];omega

end
section
def be:Nat→Int→List UInt8
  | 0,_=>[]
  | k+1,n=>b8 (n / (256:Int) ^ k) :: be k n
theorem jC:∀ (k:Nat) (n:Int),(be k n).length=k
  | 0,_=>rfl
  | k+1,n=>by rw [be,List.length_cons,jC k n]
theorem shr_pow {n:Int} (k:Nat):n / (256:Int) ^ k / 256=n / (256:Int) ^ (k+1):=by
  have h:(0:Int)≤(256:Int) ^ k:=Int.le_of_lt (Int.pow_pos (by decide))
  rw [Int.ediv_ediv_of_nonneg h,Int.pow_succ]
theorem shr_nn {n:Int} (h:0≤n) (k:Nat):0≤n / (256:Int) ^ k:=Int.ediv_nonneg h (Int.le_of_lt (Int.pow_pos (by decide)))
def sF (k:Nat) (xs:List Int):List UInt8:=be 2 (xs.length:Int) ++ xs.flatMap (be k)
def wX (rs:List PR):List UInt8:=be 1 (rs.length:Int) ++ rs.flatMap fun r=>be 3 r.i ++ be 3 r.o ++ be 3 r.c
theorem flat_be (k:Nat) (xs:List Int):(xs.flatMap (be k)).length=k * xs.length:=by
  induction xs with
  | nil=>rfl
  | cons x xs ih=>rw [List.flatMap_cons,List.length_append,jC,ih,List.length_cons,Nat.mul_succ];omega
theorem tC (k:Nat) (xs:List Int):(sF k xs).length=2+k * xs.length:=by unfold sF;rw [List.length_append,jC,flat_be]
theorem rangesL_len (rs:List PR):(wX rs).length=1+9 * rs.length:=by
  unfold wX
  rw [List.length_append,jC]
  congr 1
  induction rs with
  | nil=>rfl
  | cons x xs ih=>rw [List.flatMap_cons,List.length_append,ih,List.length_cons];simp only [List.length_append,jC];omega
theorem fC {α β:Type} {f:α→List β} {l:List α} {j:Nat} {x:α} (h:l[j]?=some x):(l.take (j+1)).flatMap f=(l.take j).flatMap f ++ f x:=by
  obtain⟨hj,he⟩:=List.getElem?_eq_some_iff.1 h
  rw [List.take_add_one,h,List.flatMap_append];simp
def iF (size:Nat) (all:List UInt8) (i:Nat):List UInt8:=(all.drop (i * size)).take size
def toW (size:Nat) (all:List UInt8) (a:Int) (i:Nat):Int×List UInt8:=if i=0 then (a+1,(iF size all i).drop 1) else (a,iF size all i)
def fX (size:Nat) (all:List UInt8):List Int→Nat→DS→DS×Int
  | [],_,s=>(s,0)
  | a :: ps,i,s=>if all.length≤i * size then (s,0) else
    if ¬cZ s (toW size all a i).1 (toW size all a i).2=0 then (cD s (toW size all a i).1 (toW size all a i).2,cZ s (toW size all a i).1 (toW size all a i).2)
    else fX size all ps (i+1) (cD s (toW size all a i).1 (toW size all a i).2)
def allP (seq:Int) (t:List UInt8):List UInt8:=0 :: (be 4 seq ++ be 2 (t.length:Int) ++ t)
def dF (ps:List Int) (size:Nat) (seq:Int) (t:List UInt8) (s:DS):DS×Int :=
  if ¬cZ s (ps.headD 0) [0]=0 then (cD s (ps.headD 0) [0],cZ s (ps.headD 0) [0])
  else if ¬(fX size (allP seq t) ps 0 (cD s (ps.headD 0) [0])).2=0 then fX size (allP seq t) ps 0 (cD s (ps.headD 0) [0])
  else (cD (fX size (allP seq t) ps 0 (cD s (ps.headD 0) [0])).1 (ps.headD 0) [1],cZ (fX size (allP seq t) ps 0 (cD s (ps.headD 0) [0])).1 (ps.headD 0) [1])
def hBd (m W:Nat) (s:DS):Prop:=s.bs.length=m∧(0≤s.wr∧s.wr≤W)∧(-9223372036854775808≤s.cut∧s.cut≤9223372036854775807)
theorem hBd.mono {m W W':Nat} {s:DS} (h:hBd m W s) (hw:W≤W'):hBd m W' s:=⟨h.1,⟨h.2.1.1,by have:=h.2.1.2;omega⟩,h.2.2⟩
theorem hBd.write {m W:Nat} {s:DS} {a:Int} {l:List UInt8} {k:Nat} (h:hBd m W s) (hk:l.length≤k):hBd m (W+k) (cD s a l):=by
  unfold cD
  split
  · exact h.mono (by omega)
  · rename_i h0
    have h0:=dFault_zero (Decidable.not_not.1 h0)
    have h1:=dN_le s l.length
    obtain⟨e1,e2,e3⟩:=h
    refine⟨by rw [vS _ _ _ (by omega),e1],?_,?_⟩
    · show 0≤s.wr+(dN s l.length:Int)∧s.wr+(dN s l.length:Int)≤_
      omega
    · show -9223372036854775808≤(if 0≤s.cut then s.cut - (dN s l.length:Int) else s.cut)∧(if 0≤s.cut then s.cut - (dN s l.length:Int) else s.cut)≤_
      have:(dN s l.length:Int)≤s.cut∨s.cut<0:=by unfold dN;split<;>omega
      split<;>omega
theorem part_min {all:List UInt8} {i sz:Nat}:(all.drop i).take (min all.length (i+sz) - i)=(all.drop i).take sz:=by
  rcases Nat.le_total all.length (i+sz) with h|h
  · rw [Nat.min_eq_left h,List.take_of_length_le (by rw [List.length_drop];omega),List.take_of_length_le (by rw [List.length_drop];omega)]
  · rw [Nat.min_eq_right h,show i+sz - i=sz by omega]
theorem pL {size i:Nat} {all:List UInt8}:(iF size all i).length≤size:=by unfold iF;rw [List.length_take];omega
theorem toW_len {size i:Nat} {all:List UInt8} {a:Int}:(toW size all a i).2.length≤size:=by
  have:=pL (size:=size) (i:=i) (all:=all)
  unfold toW;split
  · simp only [List.length_drop];omega
  · exact this
theorem nZ {size:Nat} {all:List UInt8} {a:Int} {ps:List Int} {i:Nat} {s:DS} (h:all.length≤i * size):fX size all (a :: ps) i s=(s,0):=if_pos h
theorem oJ {size:Nat} {all:List UInt8} {a:Int} {ps:List Int} {i:Nat} {s:DS} (h:¬all.length≤i * size) (h2:¬cZ s (toW size all a i).1 (toW size all a i).2=0):fX size all (a :: ps) i s=(cD s (toW size all a i).1 (toW size all a i).2,cZ s (toW size all a i).1 (toW size all a i).2):=by
  rw [fX,if_neg h,if_pos h2]
theorem nL {size:Nat} {all:List UInt8} {a:Int} {ps:List Int} {i:Nat} {s:DS} (h:¬all.length≤i * size) (h2:cZ s (toW size all a i).1 (toW size all a i).2=0):fX size all (a :: ps) i s=fX size all ps (i+1) (cD s (toW size all a i).1 (toW size all a i).2):=by
  rw [fX,if_neg h,if_neg (not_not_intro h2)]
theorem allP_len (seq:Int) (t:List UInt8):(allP seq t).length=7+t.length:=by unfold allP;simp only [List.length_cons,List.length_append,jC];omega
end
section
structure ExternIs (P:Program) (f:FuncId) (e:Array Value→Sem Value):Prop where
  h:∀ args w,(callFunc f args).run P w=((e args).run P w).andThen fun v w'=>.ok (.value v) w'
structure PInf (P:Program) (T:TypeId):Prop where
  h:∃ te j,P.underlying T=some (.pointer te)∧P.info? te=some j
structure SzInf (P:Program) (T:TypeId):Prop where
  h:∃ j,P.info? T=some j∧j.size≠0
structure U8Inf (P:Program) (E:TypeId):Prop where
  h:∃ i,P.info? E=some i∧i.zero=some (.int .u8 0)∧i.size=1∧i.bytes=1
def OwnT (L:List Box) (g:Nat) (t:TypeId) (n:Nat):Prop:=∃ cs:List Value,cs.length=n∧⟨g,t,cs⟩∈L
theorem ownT_here {g n:Nat} {t:TypeId} {cs:List Value} {L:List Box} (h:cs.length=n):OwnT (⟨g,t,cs⟩ :: L) g t n:=⟨cs,h,by simp⟩
theorem u8C_byte (l:List UInt8):u8C l=Lib.byteCells l:=rfl
theorem u8C_str (s:ByteArray):u8C s.toList=Lib.strCells s:=by rw [Lib.strCells_eq,u8C_byte,Lib.toList_data]
theorem u8C_app (a b:List UInt8):u8C (a ++ b)=u8C a ++ u8C b:=by simp [u8C]
section
variable {P : Program} {B : Base} {N : Nat} {Q : Exit → Act → World → Prop} {k : List kC} {F : List (Nat × Value)} {V : aE} {L : List Box} {w : World}
variable {d : Option Tmp} {ty : TypeId} {pos : String} {af : Array Edge} {gd : Option (Nat × Bool)} {x y : Operand} {T T2 : TypeId} {ops : Array Oper} {rest : List Oper}
theorem exec_extern {f:FuncId} {e:Array Value→Sem Value} {args:List Operand} {ats:Array TypeId} {vs:List Value} {a:Act} (he:ExternIs P f e) (ha:Kn N F a) (hv:evL F args=some vs) :
    (execOp a.eval ⟨d,.call ⟨.value (.func f),args.toArray,ats⟩,ty,pos,af,gd⟩).run P w=((e vs.toArray).run P w).andThen fun v w'=>.ok (.value v) w':=by
  have h:=ha.evL hv
  simp [execOp,resolve,Deferred.ofValue,invoke,Act.eval,h,he.h]
theorem q_extern {f:FuncId} {e:Array Value→Sem Value} {args:List Operand} {ats:Array TypeId} {vs:List Value} {v:Value} (he:ExternIs P f e) (hv:evL F args=some vs) (hr:∀ w,(e vs.toArray).run P w=.ok v w):QP P B N V L ⟨d,.call ⟨.value (.func f),args.toArray,ats⟩,ty,pos,af,gd⟩ F v:=iD fun a w ha hs=>by
  rw [exec_extern he ha hv,hr];rfl
theorem q_pneq_same {t ty2:TypeId} {a:Addr} (hp:PInf P t) (hx:evF F x=some (.pointer (some a))) (hy:evF F y=some (.pointer (some a))):QP P B N V L ⟨d,.binOp .neq t x y ty2,ty,pos,af,gd⟩ F (.bool false):=by
  obtain⟨te,j,h1,h2⟩:=hp.h
  exact sU hx hy (fun w=>by cases y<;>simp [eqGuard]<;>(split<;>simp_all)) (fun w=>Lib.run_neq_ptr_same w a h1 h2)
theorem OwnT.shape {g n:Nat} {t:TypeId} (h:OwnT L g t n) (hs:St B V L w):w.shape? g=some (t,n):=by
  obtain⟨cs,hn,hm⟩:=h
  have ho:=(hs.own _ hm).1
  simp only [] at ho
  simp [World.shape?,ho,hn]
theorem q_toUnsafe {src dst t e:TypeId} {g n:Nat} (hs:bR P src (.pointer t)) (hd:bR P dst .unsafePointer) (hj:SzInf P t) (hx:evF F x=some (.pointer (some ⟨g,0,none⟩))) (ho:OwnT L g e n) (hn:Nat.blt 0 n=true):QP P B N V L ⟨d,.convert src dst x,ty,pos,af,gd⟩ F (.pointer (some ⟨g,0,none⟩)):=iD fun a w ha hst=>by
  obtain⟨j,h1,h2⟩:=hj.h
  have h:=Lib.run_to_unsafe (P:=P) w ⟨g,0,none⟩ hs.u hd.u h1 h2 (ho.shape hst) (by simpa [Nat.blt_eq] using hn)
  simp [execOp,ha.ev hx,h]
theorem q_fromUnsafe {src dst u e:TypeId} {g n:Nat} (hs:bR P src .unsafePointer) (hd:bR P dst (.pointer u)) (hj:SzInf P u) (hx:evF F x=some (.pointer (some ⟨g,0,none⟩))) (ho:OwnT L g e n) (hl:liesAt P P.depth e (n / P.cellsOf e) 0 u 1=true):QP P B N V L ⟨d,.convert src dst x,ty,pos,af,gd⟩ F (.pointer (some ⟨g,0,none⟩)):=iD fun a w ha hst=>by
  obtain⟨j,h1,h2⟩:=hj.h
  have h:=Lib.run_from_unsafe (P:=P) w ⟨g,0,none⟩ hs.u hd.u h1 (ho.shape hst) hl
  simp [execOp,ha.ev hx,h]
theorem q_slData {g n c:Nat} (hx:evF F x=some (.slice (some ⟨g,0,none⟩) n c)) (hc:0<c):QP P B N V L ⟨d,.call ⟨.builtin .unsafeSliceData,#[x],#[T]⟩,ty,pos,af,gd⟩ F (.pointer (some ⟨g,0,none⟩)):=iD fun a w ha hst=>by
  have h:=Lib.run_unsafeSliceData_row (P:=P) w #[T] ty ⟨g,0,none⟩ n c (by omega)
  simp [execOp,ha.ev hx,resolve,invoke,builtin,h]
theorem q_slData0 {n c:Nat} (hx:evF F x=some (.slice none n c)):QP P B N V L ⟨d,.call ⟨.builtin .unsafeSliceData,#[x],#[T]⟩,ty,pos,af,gd⟩ F (.pointer none):=iD fun a w ha hst=>by
  have h:=Lib.run_unsafeSliceData_nil (P:=P) w #[T] ty n c
  simp [execOp,ha.ev hx,resolve,invoke,builtin,h]
theorem q_ustr0 {p:Option Addr} (hx:evF F x=some (.pointer p)) (hy:evF F y=some (.int .i64 0)):QP P B N V L ⟨d,.call ⟨.builtin .unsafeString,#[x,y],#[T,T2]⟩,ty,pos,af,gd⟩ F (.string ⟨#[]⟩):=iD fun a w ha hst=>by
  have h:=Lib.run_unsafeString_none (P:=P) w T T2 ty p
  simp [execOp,ha.ev hx,ha.ev hy,resolve,invoke,builtin,h]
  rfl
theorem St.freeze {X Y:List Box} {g n:Nat} {E:TypeId} {cs:List Value} (hs:St B V (X ++ (⟨g,E,cs⟩ :: Y)) w):St B V (X ++ Y) (w.freeze ⟨g,0,none⟩ n):=by
  have hg:=hs.own ⟨g,E,cs⟩ (by simp)
  have hne:∀ b∈X ++ Y,b.g≠g:=by
    intro b hb e
    have hnd:=hs.nodup
    rw [List.map_append,List.map_cons,List.nodup_append] at hnd
    obtain⟨_,h2,h3⟩:=hnd
    rcases List.mem_append.1 hb with hb|hb
    · exact h3 b.g (List.mem_map_of_mem hb) g (by simp) e
    · exact(List.nodup_cons.1 h2).1 (List.mem_map.2 ⟨b,hb,e⟩)
  have hsub:(X ++ Y).Sublist (X ++ (⟨g,E,cs⟩ :: Y)):=List.Sublist.append (List.Sublist.refl X) (List.sublist_cons_self _ _)
  have hblk:∀ k,¬k=g→(w.freeze ⟨g,0,none⟩ n).heap[k]?=w.heap[k]?:=by
    intro k hk
    unfold World.freeze
    split
    · rfl
    · simp only [Array.getElem?_modify]
      rw [if_neg (by omega)]
  have hx:Exc [g] w (w.freeze ⟨g,0,none⟩ n):=by
    refine⟨?_,?_,?_,?_,fun k _ hn=>hblk k (by simpa using hn)⟩
    all_goals (unfold World.freeze;split)
    all_goals first|rfl|simp
  refine⟨hs.ext.trans hx (by intro y hy;simp at hy;subst hy;exact hg.2),fun p x hp=>?_,hs.old,hs.v0,fun b hb=>?_,List.Nodup.sublist (hsub.map Box.g) hs.nodup⟩
  · obtain⟨h1,h2⟩:=hs.view p x hp
    refine⟨?_,fun b hb=>h2 b (hsub.subset hb)⟩
    have hpg:¬p.block=g:=fun e=>h2 ⟨g,E,cs⟩ (by simp) e.symm
    rw [World.cell?_of_block (hblk _ hpg)];exact h1
  · have ho:=hs.own b (hsub.subset hb)
    exact⟨by rw [hblk _ (hne b hb)];exact ho.1,ho.2⟩
theorem gw_ustr {dr:iM} (hdr:dr.loud=true) {e g c:Nat} {us:List UInt8} {m:Int} {L1:List Box} {f:List Box→List Box} (hp:bR P T (.pointer e)) (hc:P.cellsOf e=1) (hx:evF F x=some (.pointer (some ⟨g,0,none⟩))) (hy:evF F y=some (.int .i64 m)) (hm:m=us.length) (hr:cX (some ⟨g,0,none⟩) us.length c e 1 (u8C us) L1) (hL:lT L L1 f) (h0:0<us.length) (hd:okD N d=true)
    (h:GoL P B N dr ops Q k rest (qQ F d (.string ⟨us.toArray⟩)) V (f [])):GoW P B N dr ops Q k ⟨d,.call ⟨.builtin .unsafeString,#[x,y],#[T,T2]⟩,ty,pos,af,gd⟩ rest F V L:=iI hdr fun a w ha hs=>by
  subst hm
  obtain⟨X,Y,hX,hf⟩:=hL.h
  rcases hr.2 with ⟨_,h,_⟩|⟨g',cs,he,rfl,h2,h3,h4,h5⟩
  · cases h
  obtain rfl:g=g':=by injection he with he;injection he
  subst hX
  have ho:=(hs.own ⟨g,e,cs⟩ (by simp)).1
  simp only [] at ho
  have hsh:w.shape? g=some (e,cs.length):=by simp [World.shape?,ho]
  have hcell:∀ j u,us[j]?=some u→w.cell? ((⟨g,0,none⟩:Addr).add j)=some (.int .u8 u.toNat):=by
    intro j u hj
    rw [iT,Nat.zero_add]
    have hu:(u8C us)[j]?=some (.int .u8 u.toNat):=by simp [u8C,hj]
    rw [←h5,List.getElem?_take] at hu
    split at hu
    · simp [World.cell?,ho,hu]
    · cases hu
  have h63:us.length≤9223372036854775807:=by unfold maxLen at h3;omega
  have hrun:=Lib.run_unsafeString_row (P:=P) w T T2 ty e hp.u hc g cs.length hsh us (by intro e;subst e;simp at h0) (by omega) h63 hcell
  refine jY (w':=w.freeze ⟨g,0,none⟩ us.length) (v:=.string ⟨us.toArray⟩) ?_ (fQ hdr h _ _ (ha.put hd _) (by rw [hf];exact hs.freeze))
  simp [execOp,ha.ev hx,ha.ev hy,resolve,invoke,builtin,hrun]
theorem gw_appends {dr:iM} (hdr:dr.loud=true) {E n c:Nat} {dd:Nat} {A:Option Addr} {s:ByteArray} {xs:List Value} {L1:List Box} (hu:bR P T (.slice E)) (hu2:bR P T2 .string) (hi:U8Inf P E) (hx:evF F x=some (.slice A n c)) (hy:evF F y=some (.string s))
    (hr:cX A n c E 1 xs L1) (hA:A=none∨0<c) {f:List Box→List Box} (hL:lT L L1 f) (h63:n+s.size≤1000000000) (hd:okD N (some dd)=true)
    (h:∀ A' c' L1',cX A' (n+s.size) c' E 1 (xs ++ u8C s.toList) L1'→(A'=none∨0<c')→GoL P B N dr ops Q k rest ((dd,.slice A' (n+s.size) c') :: F) V (f L1')):GoW P B N dr ops Q k ⟨some dd,.call ⟨.builtin .append,#[x,y],#[T,T2]⟩,ty,pos,af,gd⟩ rest F V L:=iI hdr fun a w ha hs=>by
  obtain⟨i,hinfo,hz,hi1,hi2⟩:=hi.h
  obtain⟨X,Y,hX,hf⟩:=hL.h
  have hown:=hr.owns hs (fun b hb=>by rw [hX];simp [hb])
  obtain⟨v',w',hrun,ho,hg,hnil⟩:=Lib.run_append_own_string (P:=P) w 0 T T2 ty E i hu.u hu2.u hinfo hz hi1 hi2 (.slice A n c) n xs hown s (by unfold maxLen;omega) (by omega) (Nat.zero_le _)
  have hxl:xs.length=n:=by simpa using hr.1
  have hat:(v'.ownBlock=(Value.slice A n c).ownBlock∨v'.ownBlock=some w.heap.size)∧(s.size=0→∃ A',v'=.slice A' (n+s.size) c∧A'=A):=by
    rcases hr.2 with ⟨_,rfl,rfl,rfl⟩|⟨g,cs,rfl,rfl,h2,h3,h4,h5⟩
    · by_cases h0:s.size=0
      · have e:=hnil.2 ⟨rfl,h0⟩
        subst e
        exact⟨.inl rfl,fun _=>⟨none,by rw [h0],rfl⟩⟩
      · have hr2:=run_append_nil_string (P:=P) w T T2 ty E i (.int .u8 0) hu.u hu2.u hinfo hz s (by omega) (by omega) (by rw [hi2];omega)
        rw [hr2] at hrun
        injection hrun with e1 e2
        subst e1
        exact⟨.inr rfl,fun h=>absurd h h0⟩
    · subst hX
      have hob:=(hs.own ⟨g,E,cs⟩ (by simp)).1
      simp only [] at hob
      by_cases hroom:n+s.size≤c
      · have hr2:=Lib.run_append_room_string (P:=P) w T T2 ty E i hu.u hu2.u hinfo hi1 g n c cs.toArray hob s hroom (by simp;omega)
        rw [hr2] at hrun
        injection hrun with e1 e2
        subst e1
        exact⟨.inl rfl,fun _=>⟨_,rfl,rfl⟩⟩
      · have holds:∀ j u,xs[j]?=some u→w.cell? ((⟨g,0,none⟩:Addr).add j)=some u:=by
          intro j u hj
          rw [iT,Nat.zero_add]
          rw [←h5,List.getElem?_take] at hj
          split at hj
          · simp [World.cell?,hob,hj]
          · cases hj
        have hr2:=Lib.run_append_grow_string (P:=P) w T T2 ty E i (.int .u8 0) hu.u hu2.u hinfo hz ⟨g,0,none⟩ n c xs (by rw [hi1];omega) holds s (by omega) (by omega) (by rw [hi2];exact growslice_fits (by omega) (by omega))
        rw [hr2] at hrun
        injection hrun with e1 e2
        subst e1
        exact⟨.inr rfl,fun h=>absurd h2 (by omega)⟩
  subst hX
  obtain⟨A',c',L1',rfl,hr',hs'⟩:=hs.grown hr hg ho hat.1
  refine jY (w':=w') (v:=.slice A' (n+s.size) c') ?_ (fQ hdr (h A' c' L1' (by rw [u8C_str];exact hr') ?_) _ w' (ha.put hd _) (by rw [hf];exact hs'))
  · have hrun':(Builtin.append_ #[T,T2] ty #[.slice A n c,.string s]).run P w=.ok (.slice A' (n+s.size) c') w':=hrun
    simp [execOp,ha.ev hx,ha.ev hy,resolve,invoke,builtin,hrun']
  · by_cases h0:s.size=0
    · obtain⟨A2,e1,e2⟩:=hat.2 h0
      injection e1 with e1 _ e3
      subst e1;subst e2;subst e3;exact hA
    · rcases hr'.2 with ⟨_,h1,_⟩|⟨_,_,_,_,h2,_⟩
      · exact .inl h1
      · exact .inr (by omega)
end
end
section
abbrev uP:=Value→aE→Prop
def getR (Rs:List uP) (j:Nat):uP:=Rs.getD j (fun _ _=>False)
def mD (l:List Oper) (j:Nat):Nat:=((l[j]?).bind (·.dst)).getD 0
def Deps (l:List Oper) (Rs:List uP) (V':aE):List Nat→(List (Nat×Value)→Prop)→List (Nat×Value)→Prop
  | [],X,F=>X F
  | j :: D,X,F=>∀ v,getR Rs j v V'→Deps l Rs V' D X ((mD l j,v) :: F)
def waitsB (o:Oper) (j:Nat):Bool:=o.after.any fun e=>Region.binds .any e && Nat.beq e.on j
def depsB (o:Oper) (D:List Nat) (i:Nat):Bool:=D.all fun j=>Nat.blt j i && waitsB o j
def wW (l:List Oper) (m N:Nat) (F0:List (Nat×Value)):Bool :=
  ((List.range l.length).all fun i=>match l[i]? with|some o=>o.after.all (fun e=>Nat.blt e.on i)|none=>false) &&
  ((List.range m).all fun i=>match (l[i]?).bind (·.dst) with|some d=>Nat.blt d N && (F0.all (fun p=>!Nat.beq p.1 d)) && ((List.range i).all fun j=>!Nat.beq (mD l j) d)|none=>false)
def usedB (l:List Oper) (m:Nat):Bool:=(List.range m).all fun i=>(List.range l.length).any fun j=>Nat.blt i j && (match l[j]? with|some o=>waitsB o i|none=>false)
theorem waitsB_spec {o:Oper} {j:Nat} (h:waitsB o j=true):∃ e∈o.after,Region.binds .any e=true∧e.on=j:=by
  unfold waitsB at h
  rw [Array.any_eq_true] at h
  obtain⟨i,hi,h⟩:=h
  simp only [Bool.and_eq_true] at h
  exact⟨o.after[i],Array.getElem_mem hi,h.1,Nat.eq_of_beq_eq_true h.2⟩
theorem wp_tmps {P:Program} {o:Oper} {a:Act} {w:World} {K:Act→World→Prop} {Q:Exit→Act→World→Prop} (h:o.wp P a w K Q):o.wp P a w (fun a' w'=>K a' w'∧∃ v,a'.tmps=(a.put o.dst v).tmps) Q:=by
  unfold Oper.wp at *
  generalize (execOp a.eval o).run P w=r at *
  cases r with
  | ok n w' =>
    cases n<;>simp only [Oper.upon] at h ⊢
    case value u=>exact⟨h,u,rfl⟩
    case skip=>exact⟨h,undef,rfl⟩
    case defer d=>exact⟨h,undef,by cases o.dst<;>rfl⟩
    case enter f args =>
      refine Calls.mono h fun e w'' he=>?_
      cases e with
      | returned u=>exact⟨he,u,rfl⟩
      | panicked c=>exact he
      | outgrown=>exact he
    case row row args=>exact Rows.mono h fun u w'' he=>⟨he,u,rfl⟩
  | halt x w' =>
    cases x<;>simp only [Oper.upon] at h ⊢
    case panic u=>exact h
theorem wp_thn {P:Program} {o:Oper} {a:Act} {w:World} {X K:Act→World→Prop} {Q:Exit→Act→World→Prop} {k:List kC} (h:o.wp P a w X (evalQ P Q (.thn K :: k))):o.wp P a w X (evalQ P Q k):=by
  unfold Oper.wp at *
  generalize (execOp a.eval o).run P w=r at *
  cases r with
  | ok n w' =>
    cases n<;>simp only [Oper.upon] at h ⊢
    case value u=>exact h
    case skip=>exact h
    case defer d=>exact h
    case enter f args =>
      refine Calls.mono h fun e w'' he=>?_
      cases e with
      | returned u=>exact he
      | panicked c=>exact he
      | outgrown=>exact he
    case row row args=>exact h
  | halt x w' =>
    cases x<;>simp only [Oper.upon] at h ⊢
    case panic u=>exact h
theorem Kn.cons {N:Nat} {F:List (Nat×Value)} {a:Act} {t:Nat} {v:Value} (h:Kn N F a) (h1:Kn N [(t,v)] a):Kn N ((t,v) :: F) a :=
  ⟨h.1,h.2.1,fun s u hs=>by
    rw [kD] at hs
    split at hs
    · rename_i e;subst e
      exact h1.2.2 t u (by rw [kD,if_pos rfl];exact hs)
    · exact h.2.2 s u hs⟩
theorem Kn.kept {N:Nat} {F:List (Nat×Value)} {a a':Act} {d:Nat} {v:Value} (h:Kn N F a) (hd:∀ p∈F,p.1≠d) (h0:a'.defers=[]) (ht:a'.tmps=(a.put (some d) v).tmps):Kn N F a':=by
  refine⟨h0,by rw [ht];simpa [Act.put] using h.2.1,fun t u hu=>?_⟩
  have hne:t≠d:=by
    intro e;subst e
    clear h h0 ht
    induction F with
    | nil=>simp [jM] at hu
    | cons p F ih =>
      obtain⟨k,x⟩:=p
      rw [kD] at hu
      split at hu
      · rename_i e;exact hd (k,x) (by simp) e
      · exact ih hu (fun q hq=>hd q (List.mem_cons_of_mem _ hq))
  have:=h.2.2 t u hu
  rw [ht]
  simpa [Act.put,Array.getElem?_setIfInBounds_ne (Ne.symm hne)] using this
theorem countP_lt {p q:Nat→Bool}:∀ {l:List Nat},(∀ x∈l,q x=true→p x=true)→(∃ x∈l,p x=true∧q x=false)→l.countP q<l.countP p
  | [],_,h=>by obtain⟨x,hx,_⟩:=h;cases hx
  | y :: l,h1,h2=>by
    have hle:l.countP q≤l.countP p:=List.countP_mono_left fun x hx hq=>h1 x (List.mem_cons_of_mem _ hx) hq
    rw [List.countP_cons,List.countP_cons]
    obtain⟨x,hx,hp,hq⟩:=h2
    rcases List.mem_cons.1 hx with rfl|hx
    · rw [if_pos hp,if_neg (by rw [hq];decide)];omega
    · have:=countP_lt (l:=l) (fun x hx hq=>h1 x (List.mem_cons_of_mem _ hx) hq) ⟨x,hx,hp,hq⟩
      by_cases hy:q y=true
      · rw [if_pos hy,if_pos (h1 y (by simp) hy)];omega
      · rw [if_neg hy];split<;>omega
section
variable {P : Program} {B : Base} {N : Nat} {Q : Exit → Act → World → Prop} {k : List kC} {F : List (Nat × Value)} {V : aE} {L : List Box}
def StepAt (P:Program) (B:Base) (N:Nat) (Q:Exit→Act→World→Prop) (k:List kC) (l:List Oper) (F0:List (Nat×Value)) (V:aE) (L:List Box) (Rs:List uP) (i:Nat) (R:uP):Prop :=
  ∃ o D,l[i]?=some o∧o.guard=none∧depsB o D i=true∧(∀ v V1 V2,VLe V1 V2→R v V1→R v V2) ∧
   ∀ V',VLe V V'→Deps l Rs V' D (fun F=>∀ K:Act→World→Prop,(∀ V'' v a w,VLe V' V''→R v V''→Kn N [(mD l i,v)] a→St B V'' L w→K a w)→GoW P B N .plain l.toArray Q (.thn K :: k) o [] F V' L) F0
def Steps (P:Program) (B:Base) (N:Nat) (Q:Exit→Act→World→Prop) (k:List kC) (l:List Oper) (F0:List (Nat×Value)) (V:aE) (L:List Box) (Rs:List uP):Prop:=∀ i,i<Rs.length→StepAt P B N Q k l F0 V L (Rs.take i) i (getR Rs i)
def Grow (P:Program) (B:Base) (N:Nat) (Q:Exit→Act→World→Prop) (k:List kC) (l:List Oper) (F0:List (Nat×Value)) (V:aE) (L:List Box) (Rs:List uP):Prop :=
  Steps P B N Q k l F0 V L Rs→∀ a w,Kn N F0 a→St B V L w→wpAnyH P .any l.toArray (evalQ P Q k) (fun _=>True) l.length (Array.replicate l.length false) a w
theorem gc_grow {id:Nat} {l:List Oper} (F0:List (Nat×Value)) (hm:P.follows .mixedOrders=true) (hF:∀ p∈F0,jM F p.1=some p.2) (h:Grow P B N Q k l F0 V L []):GoC P B N (.region id l.toArray true) Q k F V L:=fun a w ha hs =>
  wp_region_held (S:=fun _=>True) hm (h (fun i hi=>by simp at hi) a _ (ha.less hF) hs.drewn)
variable {l : List Oper} {F0 : List (Nat × Value)} {Rs : List uP}
theorem getR_app {R:uP} {i:Nat} (h:i<Rs.length):getR (Rs ++ [R]) i=getR Rs i:=by
  unfold getR
  rw [List.getD_eq_getElem?_getD,List.getD_eq_getElem?_getD,List.getElem?_append_left h]
theorem getR_last {R:uP}:getR (Rs ++ [R]) Rs.length=R:=by
  unfold getR
  rw [List.getD_eq_getElem?_getD,List.getElem?_append_right (Nat.le_refl _)];simp
theorem grow_gen {o:Oper} {R:uP} {n:Nat} (D:List Nat) (hn:Rs.length=n) (ho:l[n]?=some o) (hg:o.guard=none) (hD:depsB o D n=true) (hR:∀ v V1 V2,VLe V1 V2→R v V1→R v V2)
    (hs:∀ V',VLe V V'→Deps l Rs V' D (fun F=>∀ K:Act→World→Prop,(∀ V'' v a w,VLe V' V''→R v V''→Kn N [(mD l n,v)] a→St B V'' L w→K a w)→GoW P B N .plain l.toArray Q (.thn K :: k) o [] F V' L) F0)
    (h:Grow P B N Q k l F0 V L (Rs ++ [R])):Grow P B N Q k l F0 V L Rs:=fun hst=>h fun i hi=>by
  subst hn
  rw [List.length_append,List.length_singleton] at hi
  rcases Nat.lt_or_ge i Rs.length with h1|h1
  · rw [List.take_append_of_le_length (by omega),getR_app h1];exact hst i h1
  · obtain rfl:i=Rs.length:=by omega
    rw [List.take_append_of_le_length (by omega),List.take_length,getR_last]
    exact⟨o,D,ho,hg,hD,hR,hs⟩
theorem cA {o:Oper} {x:Value} {n:Nat} (D:List Nat) (hn:Rs.length=n) (ho:l[n]?=some o) (hg:o.guard=none) (hD:depsB o D n=true)
    (hs:∀ V',VLe V V'→Deps l Rs V' D (fun F=>∀ K:Act→World→Prop,(∀ V'' v a w,VLe V' V''→v=x→Kn N [(mD l n,v)] a→St B V'' L w→K a w)→GoW P B N .plain l.toArray Q (.thn K :: k) o [] F V' L) F0)
    (h:Grow P B N Q k l F0 V L (Rs ++ [fun v _=>v=x])):Grow P B N Q k l F0 V L Rs:=grow_gen D hn ho hg hD (fun _ _ _ _ h=>h) hs h
def newR (m:Nat) (cs:List Value):uP:=fun v V=>∃ g,v=.slice (some ⟨g,0,none⟩) m m∧aD V g 0 cs
theorem grow_new {o:Oper} {cs:List Value} {m n:Nat} (D:List Nat) (hn:Rs.length=n) (ho:l[n]?=some o) (hg:o.guard=none) (hD:depsB o D n=true)
    (hs:∀ V',VLe V V'→Deps l Rs V' D (fun F=>∀ K:Act→World→Prop,(∀ V'' v a w,VLe V' V''→newR m cs v V''→Kn N [(mD l n,v)] a→St B V'' L w→K a w)→GoW P B N .plain l.toArray Q (.thn K :: k) o [] F V' L) F0)
    (h:Grow P B N Q k l F0 V L (Rs ++ [newR m cs])):Grow P B N Q k l F0 V L Rs:=grow_gen D hn ho hg hD (fun _ _ _ hV ⟨g,h1,h2⟩=>⟨g,h1,h2.le hV⟩) hs h
theorem cL {K:Act→World→Prop} {R:uP} {d:Nat} {V' V'':aE} {v:Value} (hK:∀ V'' v a w,VLe V' V''→R v V''→Kn N [(d,v)] a→St B V'' L w→K a w) (hl:jM F d=some v) (hV:VLe V' V'') (hR:R v V''):AtQ P B N Q (.thn K :: k) .normal F V'' L:=fun a w ha hs=>hK V'' v a w hV hR (ha.less (by simpa using hl)) hs
def InvG (B:Base) (N:Nat) (l:List Oper) (F0:List (Nat×Value)) (V:aE) (L:List Box) (Rs:List uP) (fuel:Nat) (listed:Array Bool) (a:Act) (w:World):Prop :=
  listed.size=l.length∧(List.range l.length).countP (fun i=>!listed.getD i true)≤fuel∧(∀ i o,l[i]?=some o→listed.getD i true=true→∀ e∈o.after,Region.binds .any e=true→listed.getD e.on false=true)∧(∀ i,Rs.length≤i→i<l.length→listed.getD i true=false) ∧
  ∃ V',VLe V V'∧St B V' L w∧Kn N F0 a∧∀ i,i<Rs.length→listed.getD i true=true→∃ v,getR Rs i v V'∧Kn N [(mD l i,v)] a
theorem getD_tf {listed:Array Bool} {i:Nat} (h:i<listed.size) (b c:Bool):listed.getD i b=listed.getD i c:=by simp [Array.getD,h]
theorem qB {listed:Array Bool} {i j:Nat} {b:Bool} (h:i<listed.size):(listed.setIfInBounds i true).getD j b=if i=j then true else listed.getD j b:=by
  simp only [Array.getD_eq_getD_getElem?,Array.getElem?_setIfInBounds]
  by_cases e:i=j
  · subst e;simp [h]
  · simp [e]
theorem rM {m:Nat} (h:wW l m N F0=true) {i:Nat} {o:Oper} (ho:l[i]?=some o) {e:Edge} (he:e∈o.after):e.on<i:=by
  unfold wW at h
  simp only [Bool.and_eq_true,List.all_eq_true,List.mem_range] at h
  have hi:i<l.length:=by
    rcases Nat.lt_or_ge i l.length with h|h
    · exact h
    · rw [List.getElem?_eq_none h] at ho;cases ho
  have:=h.1 i hi
  rw [ho] at this
  simp only [Array.all_eq_true_iff_forall_mem] at this
  simpa [Nat.blt_eq] using this e he
theorem vO {m:Nat} (h:wW l m N F0=true) {i:Nat} (hi:i<m):(∃ o,l[i]?=some o∧o.dst=some (mD l i))∧mD l i<N∧(∀ p∈F0,p.1≠mD l i)∧∀ j,j<i→mD l j≠mD l i:=by
  unfold wW at h
  simp only [Bool.and_eq_true,List.all_eq_true,List.mem_range] at h
  have h2:=h.2 i hi
  cases ho:l[i]? with
  | none=>rw [ho] at h2;simp at h2
  | some o =>
    rw [ho] at h2
    cases hd:o.dst with
    | none=>simp [hd] at h2
    | some d =>
      have e:mD l i=d:=by unfold mD;rw [ho];simp [hd]
      rw [e]
      simp [hd,Nat.blt_eq] at h2
      refine⟨⟨o,rfl,hd⟩,h2.1.1,fun p hp e=>?_,fun j hj e=>?_⟩
      · have:=h2.1.2 p.1 p.2 hp;rw [e] at this;simp at this
      · have:=h2.2 j hj;rw [e] at this;simp at this
theorem deps_all {V':aE} {a:Act} {X:List (Nat×Value)→Prop}:∀ {D:List Nat} {F:List (Nat×Value)} {Rs:List uP},Kn N F a→(∀ j∈D,∃ v,getR Rs j v V'∧Kn N [(mD l j,v)] a)→Deps l Rs V' D X F→∃ F',Kn N F' a∧X F'
  | [],F,Rs,ha,_,h=>⟨F,ha,h⟩
  | j :: D,F,Rs,ha,hD,h=>by
    obtain⟨v,h1,h2⟩:=hD j (by simp)
    exact deps_all (ha.cons h2) (fun i hi=>hD i (List.mem_cons_of_mem _ hi)) (h v h1)
theorem grow_run (hB:wW l Rs.length N F0=true) (hle:Rs.length≤l.length) (hst:Steps P B N Q k l F0 V L Rs)
    (hlast:∀ i o,Rs.length≤i→l[i]?=some o→∀ listed:Array Bool,listed.size=l.length→(∀ i o,l[i]?=some o→listed.getD i true=true→∀ e∈o.after,Region.binds .any e=true→listed.getD e.on false=true)→(∀ e∈o.after,Region.binds .any e=true→listed.getD e.on false=true)→∀ j,j<Rs.length→listed.getD j true=true)
    (hfin:∀ fuel listed a w,InvG B N l F0 V L Rs fuel listed a w→(∀ i,i<Rs.length→listed.getD i true=true)→wpAnyH P .any l.toArray (evalQ P Q k) (fun _=>True) fuel listed a w) :
    ∀ fuel listed a w,InvG B N l F0 V L Rs fuel listed a w→wpAnyH P .any l.toArray (evalQ P Q k) (fun _=>True) fuel listed a w:=by
  intro fuel
  induction fuel with
  | zero =>
    intro listed a w hI
    refine hfin 0 listed a w hI fun i hi=>?_
    have h0:(List.range l.length).countP (fun i=>!listed.getD i true)=0:=by have:=hI.2.1;omega
    rw [List.countP_eq_zero] at h0
    have:=h0 i (List.mem_range.2 (by omega))
    simpa using this
  | succ fuel ih =>
    intro listed a w hI
    by_cases hall:∀ i,i<Rs.length→listed.getD i true=true
    · exact hfin _ _ _ _ hI hall
    have ⟨hsz,hcnt,hdc,htop,V',hV,hs,ha,hvals⟩:=hI
    refine⟨fun hr=>?_,fun i hi=>?_⟩
    · exfalso
      -- the least one that has not come up may come up
      have key:∀ n i,i<n→i<Rs.length→listed.getD i true=true:=by
        intro n
        induction n with
        | zero=>intro i hi;omega
        | succ n ihn =>
          intro i hi hir
          rcases Nat.lt_or_ge i n with h|h
          · exact ihn i h hir
          · obtain rfl:i=n:=by omega
            obtain⟨⟨o,ho,_⟩,_⟩:=vO hB hir
            cases hli:listed.getD i true with
            | true=>rfl
            | false =>
              exfalso
              have hmem:i∈Region.ready .any l.toArray listed:=by
                refine mem_ready.2 ⟨hli,o,by simpa using ho,fun e he hb=>?_⟩
                have hlt:=rM hB ho he
                have:=ihn e.on hlt (by omega)
                rw [getD_tf (by omega) false true];exact this
              rw [hr] at hmem;cases hmem
      exact hall fun i hi=>key (i+1) i (by omega) hi
    · obtain⟨hun,o,ho,haft⟩:=mem_ready.1 hi
      have ho:l[i]?=some o:=by simpa using ho
      have hil:i<l.length:=by
        rcases Nat.lt_or_ge i l.length with h|h
        · exact h
        · rw [List.getElem?_eq_none h] at ho;cases ho
      rcases Nat.lt_or_ge i Rs.length with him|him
      case inr=>exact absurd (hlast i o him ho listed hsz hdc haft) hall
      obtain⟨o',D,ho',hg,hD,hmono,hstep⟩:=hst i him
      obtain rfl:o=o':=by rw [ho] at ho';injection ho'
      obtain⟨⟨o2,ho2,hdst⟩,hdN,hd0,hdj⟩:=vO hB him
      obtain rfl:o=o2:=by rw [ho] at ho2;injection ho2
      have hDv:∀ j∈D,∃ v,getR (Rs.take i) j v V'∧Kn N [(mD l j,v)] a:=by
        intro j hj
        unfold depsB at hD
        rw [List.all_eq_true] at hD
        have:=hD j hj
        simp only [Bool.and_eq_true,Nat.blt_eq] at this
        obtain⟨e,he,hb,hon⟩:=waitsB_spec this.2
        have hl:=haft e he hb
        rw [hon,getD_tf (by omega) false true] at hl
        obtain⟨v,h1,h2⟩:=hvals j (by omega) hl
        refine⟨v,?_,h2⟩
        unfold getR at h1 ⊢
        rw [List.getD_eq_getElem?_getD] at h1 ⊢
        rw [List.getElem?_take_of_lt this.1];exact h1
      obtain⟨F',hF',hX⟩:=deps_all ha hDv (hstep V' hV)
      unfold wpOp
      simp only [show (l.toArray)[i]?=some o by simpa using ho]
      rw [if_pos (by simp [Region.wanted,hg])]
      refine .inl ?_
      have hgo:=gw_plain.1 (hX (fun a' w'=>(∃ V'' v,VLe V' V''∧getR Rs i v V''∧Kn N [(mD l i,v)] a'∧St B V'' L w')) (fun V'' v a' w' h1 h2 h3 h4=>⟨V'',v,h1,h2,h3,h4⟩)) a w hF' hs
      have h2:=wp_tmps hgo
      refine wp_thn (Oper.wp_mono (fun a' w' hK=>?_) h2)
      · obtain⟨hK,u,hu⟩:=hK
        unfold wpList at hK
        obtain⟨V'',v,h1,h2,h3,h4⟩:=hK
        rw [hdst] at hu
        refine⟨trivial,ih _ a' w' ⟨by simpa using hsz,?_,?_,?_,V'',hV.trans h1,h4,ha.kept hd0 h3.1 hu,?_⟩⟩
        · have:(List.range l.length).countP (fun j=>!(listed.setIfInBounds i true).getD j true)<(List.range l.length).countP (fun j=>!listed.getD j true):=by
            refine countP_lt (fun j hj h=>?_) ⟨i,List.mem_range.2 hil,by rw [hun];rfl,?_⟩
            · rw [qB (by omega)] at h
              split at h
              · simp at h
              · exact h
            · rw [qB (by omega),if_pos rfl];rfl
          omega
        · intro j oj hoj hlj e he hb
          rw [qB (by omega)]
          split
          · rfl
          · rw [qB (by omega)] at hlj
            split at hlj
            · rename_i e1;subst e1
              obtain rfl:o=oj:=by rw [ho] at hoj;injection hoj
              exact haft e he hb
            · exact hdc j oj hoj hlj e he hb
        · intro j hj hjl
          rw [qB (by omega),if_neg (by omega)]
          exact htop j hj hjl
        · intro j hj hlj
          rw [qB (by omega)] at hlj
          split at hlj
          · rename_i e;subst e;exact⟨v,h2,h3⟩
          · rename_i hne
            obtain⟨x,q1,q2⟩:=hvals j hj hlj
            obtain⟨_,_,_,_,_,hmj,_⟩:=hst j hj
            refine⟨x,hmj x _ _ h1 q1,q2.kept ?_ h3.1 hu⟩
            intro p hp
            simp at hp;subst hp
            rcases Nat.lt_or_ge j i with h|h
            · exact hdj j h
            · exact Ne.symm ((vO hB hj).2.2.2 i (by omega))
theorem inv_start {a:Act} {w:World} (hle:Rs.length≤l.length) (ha:Kn N F0 a) (hs:St B V L w):InvG B N l F0 V L Rs l.length (Array.replicate l.length false) a w:=by
  have h0:∀ i,i<l.length→(Array.replicate l.length false).getD i true=false:=by intro i hi;simp [Array.getD,hi]
  refine⟨by simp,?_,?_,fun i _ hi=>h0 i hi,V,VLe.refl V,hs,ha,?_⟩
  · have:=List.countP_le_length (p:=fun i=>!(Array.replicate l.length false).getD i true) (l:=List.range l.length)
    rw [List.length_range] at this;exact this
  · intro i o ho hl
    have hi:i<l.length:=by
      rcases Nat.lt_or_ge i l.length with h|h
      · exact h
      · rw [List.getElem?_eq_none h] at ho;cases ho
    rw [h0 i hi] at hl;cases hl
  · intro i hi hl
    rw [h0 i (by omega)] at hl;cases hl
theorem grow_last {o:Oper} {n:Nat} (D:List Nat) (hn:Rs.length=n) (hl:l.length=n+1) (ho:l[n]?=some o) (hg:o.guard=none) (hB:wW l n N F0=true) (hU:usedB l n=true) (hD:depsB o D n=true)
    (h:∀ V',VLe V V'→Deps l Rs V' D (fun F=>GoW P B N .plain l.toArray Q k o [] F V' L) F0):Grow P B N Q k l F0 V L Rs:=fun hst a w ha hs=>by
  subst hn
  have hused:∀ i,i<Rs.length→∃ j o,i<j∧j<l.length∧l[j]?=some o∧waitsB o i=true:=by
    intro i hi
    unfold usedB at hU
    rw [List.all_eq_true] at hU
    have:=hU i (List.mem_range.2 hi)
    rw [List.any_eq_true] at this
    obtain⟨j,hj,h⟩:=this
    simp only [Bool.and_eq_true,Nat.blt_eq,List.mem_range] at h hj
    cases hoj:l[j]? with
    | none=>rw [hoj] at h;simp at h
    | some oj=>rw [hoj] at h;exact⟨j,oj,h.1,hj,hoj,h.2⟩
  refine grow_run hB (by omega) hst (fun i oi hi hoi listed hsz hdc hready=>?_) (fun fuel listed a w hI hall=>?_) _ _ _ _ (inv_start (by omega) ha hs)
  · have hil:i<l.length:=by
      rcases Nat.lt_or_ge i l.length with h|h
      · exact h
      · rw [List.getElem?_eq_none h] at hoi;cases hoi
    obtain rfl:i=Rs.length:=by omega
    have key:∀ m j,Rs.length≤j+m→j<Rs.length→listed.getD j true=true:=by
      intro m
      induction m with
      | zero=>intro j h1 h2;omega
      | succ m ihm =>
        intro j h1 h2
        obtain⟨j',oj,hlt,hjl,hoj,hw⟩:=hused j h2
        obtain⟨e,he,hb,hon⟩:=waitsB_spec hw
        have hl2:listed.getD j false=true:=by
          rcases Nat.lt_or_ge j' Rs.length with hlj|hlj
          · rw [←hon];exact hdc j' oj hoj (ihm j' (by omega) hlj) e he hb
          · obtain rfl:j'=Rs.length:=by omega
            obtain rfl:oj=oi:=by rw [hoj] at hoi;injection hoi
            rw [←hon];exact hready e he hb
        rw [getD_tf (by omega) true false];exact hl2
    exact fun j hj=>key Rs.length j (by omega) hj
  · obtain⟨hsz,hcnt,_,htop,V',hV,hs,ha,hvals⟩:=hI
    have hun:=htop Rs.length (Nat.le_refl _) (by omega)
    have hmem:∀ i,i∈Region.ready .any l.toArray listed→i=Rs.length:=by
      intro i hi
      obtain⟨hun,o,ho,_⟩:=mem_ready.1 hi
      have hil:i<l.length:=by
        rcases Nat.lt_or_ge i l.length with h|h
        · exact h
        · rw [List.getElem?_toArray,List.getElem?_eq_none h] at ho;cases ho
      rcases Nat.lt_or_ge i Rs.length with h1|h1
      · rw [hall i h1] at hun;cases hun
      · omega
    have hrd:Rs.length∈Region.ready .any l.toArray listed:=by
      refine mem_ready.2 ⟨hun,o,by simpa using ho,fun e he hb=>?_⟩
      have:=hall e.on (rM hB ho he)
      rw [getD_tf (by have:=rM hB ho he;omega) false true];exact this
    cases fuel with
    | zero =>
      exfalso
      have h0:(List.range l.length).countP (fun i=>!listed.getD i true)=0:=by omega
      rw [List.countP_eq_zero] at h0
      have:=h0 Rs.length (List.mem_range.2 (by omega))
      rw [hun] at this;simp at this
    | succ fuel =>
      refine⟨fun hr=>(by rw [hr] at hrd;cases hrd),fun i hi=>?_⟩
      obtain rfl:=hmem i hi
      have hDv:∀ j∈D,∃ v,getR Rs j v V'∧Kn N [(mD l j,v)] a:=by
        intro j hj
        unfold depsB at hD
        rw [List.all_eq_true] at hD
        have:=hD j hj
        simp only [Bool.and_eq_true,Nat.blt_eq] at this
        exact hvals j (by omega) (hall j (by omega))
      obtain⟨F',hF',hX⟩:=deps_all ha hDv (h V' hV)
      unfold wpOp
      simp only [show (l.toArray)[Rs.length]?=some o by simpa using ho]
      rw [if_pos (by simp [Region.wanted,hg])]
      refine .inl (Oper.wp_mono (fun a' w' hK=>⟨trivial,?_⟩) (gw_plain.1 hX a w hF' hs))
      unfold wpList at hK
      refine wpAnyH_done ?_ hK fuel
      apply List.eq_nil_iff_forall_not_mem.2
      intro i hi
      obtain⟨hun,o,ho,_⟩:=mem_ready.1 hi
      have hil:i<l.length:=by
        rcases Nat.lt_or_ge i l.length with h|h
        · exact h
        · rw [List.getElem?_toArray,List.getElem?_eq_none h] at ho;cases ho
      rw [qB (by omega)] at hun
      split at hun
      · cases hun
      · rw [hall i (by omega)] at hun;cases hun
end
end
section
theorem wrap_b8 (a:Int):IntKind.wrap .u8 a=((b8 a).toNat:Int):=by
  rw [b8_nat];simp [IntKind.wrap,IntKind.bits,IntKind.signed,Int.bmod]
theorem oW (l:List UInt8):(⟨l.toArray⟩:ByteArray).toList=l:=by rw [Lib.toList_data]
theorem oZ (l:List UInt8):(⟨l.toArray⟩:ByteArray).size=l.length:=rfl
theorem ba_is (s:ByteArray):s=⟨s.toList.toArray⟩:=by rw [Lib.toList_data]
section
variable {P : Program} {B : Base} {N : Nat} {Q : Exit → Act → World → Prop} {k : List kC} {F : List (Nat × Value)} {V : aE} {L : List Box} {w : World}
variable {d : Option Tmp} {ty ty2 : TypeId} {pos : String} {af : Array Edge} {gd : Option (Nat × Bool)} {x y z : Operand} {T T2 : TypeId}
theorem lL {k0:IntKind} {s t:TypeId} {ds:TypeDesc} {a:Int} (hs:bR P s ds) (ht:bR P t (.int .u8)) (hx:evF F x=some (.int k0 a)):QP P B N V L ⟨d,.convert s t x,ty,pos,af,gd⟩ F (.int .u8 ((b8 a).toNat:Int)):=iD fun ac w ha _=>by
  have e:(Conv.intToInt .u8 a)=pure (.int .u8 ((b8 a).toNat:Int)):=by unfold Conv.intToInt;rw [wrap_b8]
  simp [execOp,ha.ev hx,convert,hs.h,ht.h,e]
theorem q_shr8 {k:IntKind} {t ty2:TypeId} {a:Int} (hx:evF F x=some (.int .i64 a)) (hy:evF F y=some (.int k 8)) (h:0≤a):QP P B N V L ⟨d,.binOp .shr t x y ty2,ty,pos,af,gd⟩ F (.int .i64 (a / 256)):=by
  refine sU hx hy (fun w=>by simp [eqGuard]) (fun w=>?_)
  have e:a.fdiv 256=a / 256:=Int.fdiv_eq_ediv_of_nonneg a (by decide)
  simp [binOp,Op.shift,IntKind.bits,e]
theorem ba_app (l m:List UInt8):(⟨l.toArray⟩:ByteArray) ++ ⟨m.toArray⟩=⟨(l ++ m).toArray⟩:=by
  apply ByteArray.ext;rw [ByteArray.data_append];simp
theorem gD {l m:List UInt8} (hx:evF F x=some (.string ⟨l.toArray⟩)) (hy:evF F y=some (.string ⟨m.toArray⟩)) (h:l.length+m.length≤1000000000):QP P B N V L ⟨d,.binOp .add T x y ty2,ty,pos,af,gd⟩ F (.string ⟨(l ++ m).toArray⟩):=by
  have:=uX (P:=P) (B:=B) (N:=N) (V:=V) (L:=L) (d:=d) (ty:=ty) (ty2:=ty2) (pos:=pos) (af:=af) (gd:=gd) (t:=T) hx hy (by rw [oZ,oZ];omega)
  rw [ba_app] at this;exact this
theorem q_sadds {l:List UInt8} {s:ByteArray} (hx:evF F x=some (.string ⟨l.toArray⟩)) (hy:evF F y=some (.string s)) (h:l.length+s.size≤1000000000):QP P B N V L ⟨d,.binOp .add T x y ty2,ty,pos,af,gd⟩ F (.string ⟨(l ++ s.toList).toArray⟩):=by
  rw [ba_is s] at hy
  exact gD hx hy (by rw [Lib.toList_data];exact h)
theorem src_u8 {g m:Nat} {us:List UInt8} (h:aD V g 0 (u8C us)) (hm:us.length=m):bU B V L 1 (some ⟨g,0,none⟩) m (u8C us):=nE ⟨by rw [wU];omega,fun _=>⟨g,0,rfl,h⟩⟩
theorem cU {E sz b o n m:Nat} (hu:bR P T (.array n E)) (hS:dI P E sz) (hn:Nat.ble 2 n=true) (hx:evF F x=some (.pointer (some ⟨b,o,none⟩))) (hi:evF F y=some (.int .i64 (m:Int))) (hk:m<n):QP P B N V L ⟨d,.indexAddr T x y,ty,pos,af,gd⟩ F (.pointer (some ⟨b,o+m * sz,none⟩)):=iD fun ac w ha hs=>by
  have h1:¬n≤m:=by omega
  have h2:=Nat.le_of_ble_eq_true hn
  simp [execOp,ha.ev hx,ha.ev hi,Instr.indexAt,Instr.sureAddr,asIntOf,hu.h,hS.h,hk,h1,iT]
structure BuildA (P:Program) (T:TypeId) (sz:Nat) (zs:List Value):Prop where
  h:(∃ n E,(∀ w,(underlying T).run P w=.ok (.array n E) w)∧∀ w,(sizeOf E).run P w=.ok sz w)∧∃ z,(∀ w,(zeroValue T).run P w=.ok z w)∧z.cells=zs.toArray
theorem run_buildA {sz:Nat} {zs us:List Value} {vs:List (Nat×Value)} (hb:BuildA P T sz zs) (hf:rH (fun i=>some (i * sz,sz)) zs vs=some us) (w:World):(Instr.build T vs.toArray).run P w=.ok (.agg us.toArray) w:=by
  obtain⟨⟨n,E,h1,h2⟩,z,h3,h4⟩:=hb.h
  have hfill:=qC _ _ _ _ hf
  unfold Instr.build
  simp only [Sem.run_bind,h3,Result.andThen_ok,h1,h2,h4]
  rw [hfill]
  rfl
theorem q_buildA {sz:Nat} {zs us:List Value} {ps:List (Nat×Operand)} {vs:List (Nat×Value)} (hb:BuildA P T sz zs) (hp:evP F ps=some vs) (hf:rH (fun i=>some (i * sz,sz)) zs vs=some us):QP P B N V L ⟨d,.build T ps.toArray,ty,pos,af,gd⟩ F (.agg us.toArray):=iD fun a w ha _=>by
  have h:=ha.evP hp
  have e:(ps.toArray.map fun (p:Nat×Operand)=>(p.1,a.eval p.2))=vs.toArray:=by rw [←h];simp
  have hr:=run_buildA hb hf w
  rw [←e] at hr
  simp only [execOp]
  have e2:(ps.toArray.map fun x=>match x with|(i,x)=>(i,a.eval x))=(ps.toArray.map fun (p:Nat×Operand)=>(p.1,a.eval p.2)):=rfl
  rw [e2,Sem.run_bind,hr]
  rfl
theorem fn_enterH {N:Nat} {f:FuncId} {fn:Func} {c:Code} {args:List Value} {Bs:List Box} {R:Value→aE→List Box→Prop} (hf:P.funcs[f]?=some fn) (hb:fn.body=some c) (hN:fn.ntmps=N) (hsz:Nat.ble args.length N=true)
    (h:∀ w,(∀ x∈iG Bs,x<w.heap.size)→GoC P ⟨V,w,iG Bs⟩ N c (bodyPost P fn (vF V w Bs R)) [] (argsF args 0) V Bs):FnB P f args V Bs R:=fun w hV=>by
  have hlt:∀ x∈iG Bs,x<w.heap.size:=fun x hx=>by
    unfold iG at hx
    obtain⟨b,hb,rfl⟩:=List.mem_map.1 hx
    exact hV.lt hb
  refine calls_of_wp hf hb (h w hlt _ w ⟨rfl,?_,fun t v hv=>?_⟩ hV)
  · have:=Nat.le_of_ble_eq_true hsz
    simp [hN];omega
  · obtain⟨_,h2⟩:=pK args 0 t v hv
    have hlt:t<args.length:=by
      rcases Nat.lt_or_ge t args.length with hl|hl
      · exact hl
      · rw [List.getElem?_eq_none (by omega)] at h2;cases h2
    rw [List.getElem?_eq_getElem (by omega)] at h2
    simp only [Nat.sub_zero] at h2
    injection h2 with h2
    simp [Array.getElem?_append,hlt,h2]
theorem St.retireN (hs:St B V L w) {L':List Box} {g:Nat} {cs:List Value} (h:gB L g cs L') (hfl:g∉B.fl):∃ V',VLe V V'∧aD V' g 0 cs∧St B V' L' w:=by
  obtain⟨⟨t,hm⟩,h2,h3⟩:=h.mem
  obtain⟨h4,h5⟩:=h3 hs.nodup
  have ho:=hs.own _ hm
  have hne:∀ p x,V p=some x→p.block≠g:=fun p x hp e=>(hs.view p x hp).2 _ hm e.symm
  refine⟨boxedV V w g,fun p x hp=>?_,fun j v hj=>?_,⟨hs.ext,fun p x hp=>?_,fun p x hp hb=>?_,fun p x hp=>?_,fun b hb=>hs.own b (h2 b hb),h4⟩⟩
  · rw [kO (hne p x hp)];exact hp
  · rw [wF (g:=g) (p:=⟨g,0+j,none⟩) rfl,Nat.zero_add,hs.cell ⟨t,hm⟩];exact hj
  · by_cases e:p.block=g
    · rw [wF e] at hp
      exact⟨hp,fun b hb=>by rw [e];exact h5 b hb⟩
    · rw [kO e] at hp
      exact⟨(hs.view p x hp).1,fun b hb=>(hs.view p x hp).2 b (h2 b hb)⟩
  · by_cases e:p.block=g
    · rcases ho.2 with h6|h6
      · simp only [] at h6
        omega
      · exact absurd h6 hfl
    · rw [kO e] at hp
      exact hs.old p x hp hb
  · rw [kO (hne p x (hs.v0 p x hp))];exact hs.v0 p x hp
theorem jE {dr:iM} {ops:Array Oper} {rest:List Oper} (hdr:dr.loud=true) (hfl:∀ x∈B.fl,x<B.w.heap.size) {E sz len:Nat} {z:Value} {zs us:List Value} {ps:List (Nat×Operand)} {vs:List (Nat×Value)} (hu:bR P T (.slice E)) (hS:dI P E sz) (hz':jD P E z)
    {zc:List Value} (hzc:z.cells=zc.toArray) (hzl:sz=zc.length) (hzs:repL len zc=zs) (hp:evP F ps=some vs) (hf:rH (fun i=>some (i * sz,sz)) zs vs=some us) (hlen:(Nat.ble (len * sz) 16777216 && !Nat.beq (len * sz) 0)=true) (hd:okD N d=true)
    (h:∀ g V',VLe V V'→aD V' g 0 us→GoL P B N dr ops Q k rest (qQ F d (.slice (some ⟨g,0,none⟩) len len)) V' L):GoW P B N dr ops Q k ⟨d,.buildSlice T len ps.toArray,ty,pos,af,gd⟩ rest F V L:=iI hdr fun a w ha hs=>by
  obtain⟨V',hV',hg,hs'⟩:=(hs.alloc E us).retireN (gB.here _ _ _ _) (fun hx=>by have:=hfl _ hx;have:=hs.ext.sz;omega)
  refine jY (w':=w.alloc (.cells us.toArray E)) (v:=.slice (some ⟨w.heap.size,0,none⟩) len len) ?_ (fQ hdr (h w.heap.size V' hV' hg) _ _ (ha.put hd _) hs')
  have hh:=ha.evP hp
  have e:(ps.toArray.map fun x=>match x with|(i,x)=>(i,a.eval x))=vs.toArray:=by rw [←hh];simp
  have hz:=hz'.h
  simp only [Bool.and_eq_true,Bool.not_eq_true'] at hlen
  have h1:=Nat.le_of_ble_eq_true hlen.1
  have h2:len * sz≠0:=fun e=>by rw [e] at hlen;simp at hlen
  have hfill:=qC _ _ _ _ hf
  simp only [execOp]
  rw [e]
  unfold Instr.buildSlice
  have e3:¬(2 ^ 24<len * sz):=by omega
  have h3:len≠0∧sz≠0:=⟨fun e=>h2 (by simp [e]),fun e=>h2 (by simp [e])⟩
  have hrep:(Array.range (len * sz)).map (fun i=>z.cells[i % z.cells.size]!)=zs.toArray:=by rw [hzc,hzl,rep_cells,hzs]
  simp [hu.h,hS.h,hz,e3,h3.1,h3.2,hrep,hfill]
  rw [if_neg h2]
  rfl
end
theorem cB {l:List Oper} {Rs:List uP} {V':aE} {D:List Nat} {X:List (Nat×Value)→Prop} {F:List (Nat×Value)} {j d:Nat} {x:Value} (hR:getR Rs j=fun v _=>v=x) (hd:mD l j=d) (h:Deps l Rs V' D X ((d,x) :: F)):Deps l Rs V' (j :: D) X F:=fun v hv=>by
  rw [hR] at hv;obtain rfl:v=x:=hv;rw [hd];exact h
theorem deps_new {l:List Oper} {Rs:List uP} {V':aE} {D:List Nat} {X:List (Nat×Value)→Prop} {F:List (Nat×Value)} {j d m:Nat} {cs:List Value} (hR:getR Rs j=newR m cs) (hd:mD l j=d) (h:∀ g,aD V' g 0 cs→Deps l Rs V' D X ((d,.slice (some ⟨g,0,none⟩) m m) :: F)):Deps l Rs V' (j :: D) X F:=fun v hv=>by
  rw [hR] at hv;obtain⟨g,rfl,hg⟩:=hv;rw [hd];exact h g hg
theorem bX {l:List Oper} {Rs:List uP} {V':aE} {X:List (Nat×Value)→Prop} {F:List (Nat×Value)} (h:X F):Deps l Rs V' [] X F:=h
end
section
section
variable {P : Program} {B : Base} {N : Nat} {Q : Exit → Act → World → Prop} {F : List (Nat × Value)} {V : aE} {L : List Box} {k : List kC} {ops : Array Oper} {rest : List Oper}
theorem gV {o:Oper} {j t:Nat} {want:Bool} (hg:o.guard=some (j,want)) (hj:(ops[j]?).bind (·.dst)=some t) (ht:okD N (some t)=true) (hb:jM F t=some (.bool want)):∀ a,Kn N F a→Region.wanted o (yielded ops a.tmps)=true:=fun a ha=>by simp [Region.wanted,hg,tU ha hj ht hb]
theorem iE {V0:aE} {Lk:List Box} {fuel:Nat} {listed:Array Bool} (i:Nat) {oi:Oper} {t:Nat} {v:Value} (hi:ops[i]?=some oi) (hP:pH Q) (hsel:Region.noSelect ops=true) (hf:Region.free .any ops listed i=true) (hr:(Region.ready .any ops listed).contains i=true)
    (hw:∀ a,Kn N F a→Region.wanted oi (yielded ops a.tmps)=true) (hdt:oi.dst=some t) (hd:okD N (some t)=true) (hV:VLe V0 V) (hk:Lk.Sublist L) (hq:QP P B N V0 Lk oi F v) (h:GoL P B N (.held V0 Lk fuel (listed.setIfInBounds i true)) ops Q k rest ((t,v) :: F) V L):GoL P B N (.held V0 Lk (fuel+1) listed) ops Q k rest F V L:=by
  have h':=fQ rfl h
  refine gl_mk rfl fun a w ha hs=>?_
  by_cases h0:VLe B.v V0
  · have hS:St B V0 Lk w:=(hs.sub hk).view_le hV h0
    refine⟨hS,wpAnyH_take (v:=v) hi hsel hf hr (fun c a w hq=>hP.evalQ k c a _ _ w hq) (.inl ⟨hw a ha,fun w' hw'=>hq a w' ha hw'⟩) hS ?_⟩
    rw [hdt]
    exact(h' _ w (ha.put hd v) hs).2
  · exact absurd (h' _ w (ha.put hd v) hs).1.v0 h0
theorem gh_allG {V0:aE} {Lk:List Box} {fuel:Nat} {listed:Array Bool} (l:List Nat) (hr:Region.ready .any ops listed=l) (hl:l≠[]) (h0:VLe B.v V0) (hV:VLe V0 V) (hk:Lk.Sublist L)
    (h:∀ i∈l,∃ oi,ops[i]?=some oi∧(∀ a,Kn N F a→Region.wanted oi (yielded ops a.tmps)=true)∧GoW P B N (.held V0 Lk fuel (listed.setIfInBounds i true)) ops Q k oi rest F V L):GoL P B N (.held V0 Lk (fuel+1) listed) ops Q k rest F V L:=by
  refine gl_mk rfl fun a w ha hs=>?_
  refine⟨(hs.sub hk).view_le hV h0,wpAnyH_all hr hl fun m hm=>?_⟩
  obtain⟨oi,hi,hg,hw⟩:=h m hm
  have hw:=gw_un rfl hw
  unfold wpOp
  simp only [hi]
  rw [if_pos (hg a ha)]
  exact .inl (hw a w ha hs)
theorem gh_oneG {V0:aE} {Lk:List Box} {fuel:Nat} {listed:Array Bool} {i:Nat} {oi:Oper} (hr:Region.ready .any ops listed=[i]) (hi:ops[i]?=some oi) (hw:∀ a,Kn N F a→Region.wanted oi (yielded ops a.tmps)=true) (h0:VLe B.v V0) (hV:VLe V0 V) (hk:Lk.Sublist L) (h:GoW P B N (.held V0 Lk fuel (listed.setIfInBounds i true)) ops Q k oi rest F V L):GoL P B N (.held V0 Lk (fuel+1) listed) ops Q k rest F V L :=
  gh_allG _ hr (by simp) h0 hV hk fun j hj=>by
    rw [List.mem_singleton.1 hj];exact⟨_,hi,hw,h⟩
end
inductive mT:List Box→List Box→List Box→Prop
  | one (b:Box) (L:List Box):mT (b :: L) [b] L
  | all (A L:List Box):mT (A ++ L) A L
  | last (A:List Box):mT A A []
  | next {L X R:List Box} (b:Box) (h:mT L X R):mT (b :: L) X (b :: R)
  | skip {L X R:List Box} (A:List Box) (h:mT L X R):mT (A ++ L) X (A ++ R)
theorem mT.perm {L X R:List Box} (h:mT L X R):L.Perm (X ++ R):=by
  induction h with
  | one b L=>exact List.Perm.refl _
  | all A L=>exact List.Perm.refl _
  | last A=>simp
  | next b h ih=>exact(List.Perm.cons b ih).trans (by simpa using (List.perm_middle (a:=b)).symm)
  | @skip L X R A h ih =>
    refine(List.Perm.append_left A ih).trans ?_
    rw [←List.append_assoc,←List.append_assoc]
    exact List.Perm.append_right R List.perm_append_comm
def SubP (L' L:List Box):Prop:=∃ R,L.Perm (L' ++ R)
theorem sp_nil {L:List Box}:SubP [] L:=⟨L,List.Perm.refl _⟩
theorem sp_app {X T L R:List Box} (h:mT L X R) (ht:SubP T R):SubP (X ++ T) L:=by
  obtain⟨Z,hZ⟩:=ht
  refine⟨Z,h.perm.trans ?_⟩
  rw [List.append_assoc]
  exact List.Perm.append_left X hZ
theorem sp_cons {b:Box} {T L R:List Box} (h:mT L [b] R) (ht:SubP T R):SubP (b :: T) L:=sp_app (X:=[b]) h ht
theorem sp_last {X L R:List Box} (h:mT L X R):SubP X L:=by have:=sp_app h (sp_nil (L:=R));simpa using this
section
variable {P : Program} {B : Base} {N : Nat} {Q : Exit → Act → World → Prop} {F : List (Nat × Value)} {V : aE} {L : List Box} {k : List kC}
theorem St.subP {w:World} {L':List Box} (hs:St B V L w) (h:SubP L' L):St B V L' w:=by
  obtain⟨R,hp⟩:=h
  have hm:∀ b∈L',b∈L:=fun b hb=>hp.mem_iff.2 (by simp [hb])
  refine⟨hs.ext,fun p x hx=>⟨(hs.view p x hx).1,fun b hb=>(hs.view p x hx).2 b (hm b hb)⟩,hs.old,hs.v0,fun b hb=>hs.own b (hm b hb),?_⟩
  have h1:=(hp.map Box.g).nodup_iff.1 hs.nodup
  rw [List.map_append] at h1
  exact(List.nodup_append.1 h1).1
theorem at_order {e:Exit} {L':List Box} (hL:SubP L' L) (h:AtQ P B N Q k e F V L'):AtQ P B N Q k e F V L:=fun a w ha hs=>h a w ha (hs.subP hL)
theorem eK {c:Code} (J:List (Nat×Value)→aE→List Box→Prop) (h1:GoC P B N c Q (.thn (fun a w=>∃ F V L,J F V L∧Kn N F a∧St B V L w) :: k) F V L) (h2:∀ F V L,J F V L→AtQ P B N Q k .normal F V L):GoC P B N c Q k F V L :=
  fun a w ha hs=>Code.wp_mono (fun e a w q=>by
    cases e with
    | normal=>obtain⟨F,V,L,hJ,ha,hs⟩:=q;exact h2 F V L hJ a w ha hs
    | exit i=>exact q
    | goto l=>exact q
    | ret=>exact q
    | panic ch=>exact q
    | outgrown=>exact q) (h1 a w ha hs)
theorem gc_meet2 {x c r:Code} (J:List (Nat×Value)→aE→List Box→Prop) (h1:GoC P B N x Q (.seq c :: .thn (fun a w=>∃ F V L,J F V L∧Kn N F a∧St B V L w) :: .seq r :: k) F V L) (h2:∀ F V L,J F V L→GoC P B N r Q k F V L):GoC P B N x Q (.seq (.seq c r) :: k) F V L :=
  fun a w ha hs=>Code.wp_mono (fun e a w q=>by
    cases e with
    | normal =>
      refine wp_seq (Code.wp_mono (fun e' a' w' q'=>?_) q)
      cases e' with
      | normal=>obtain⟨F,V,L,hJ,ha,hs⟩:=q';exact h2 F V L hJ a' w' ha hs
      | exit i=>exact q'
      | goto l=>exact q'
      | ret=>exact q'
      | panic ch=>exact q'
      | outgrown=>exact q'
    | exit i=>exact q
    | goto l=>exact q
    | ret=>exact q
    | panic ch=>exact q
    | outgrown=>exact q) (h1 a w ha hs)
theorem oA {x c:Code} (J:List (Nat×Value)→aE→List Box→Prop) (h1:GoC P B N x Q (.seq c :: .thn (fun a w=>∃ F V L,J F V L∧Kn N F a∧St B V L w) :: k) F V L) (h2:∀ F V L,J F V L→AtQ P B N Q k .normal F V L):GoC P B N x Q (.seq c :: k) F V L :=
  fun a w ha hs=>Code.wp_mono (fun e a w q=>by
    cases e with
    | normal =>
      refine Code.wp_mono (fun e' a' w' q'=>?_) q
      cases e' with
      | normal=>obtain⟨F,V,L,hJ,ha,hs⟩:=q';exact h2 F V L hJ a' w' ha hs
      | exit i=>exact q'
      | goto l=>exact q'
      | ret=>exact q'
      | panic ch=>exact q'
      | outgrown=>exact q'
    | exit i=>exact q
    | goto l=>exact q
    | ret=>exact q
    | panic ch=>exact q
    | outgrown=>exact q) (h1 a w ha hs)
theorem fP {J:List (Nat×Value)→aE→List Box→Prop} (F':List (Nat×Value)) {L':List Box} (hJ:J F' V L') (hF:∀ p∈F',jM F p.1=some p.2) (hL:SubP L' L) :
    AtQ P B N Q (.thn (fun a w=>∃ F V L,J F V L∧Kn N F a∧St B V L w) :: k) .normal F V L:=fun a w ha hs=>⟨F',V,L',hJ,ha.less hF,hs.subP hL⟩
theorem gc_order {c:Code} {L':List Box} (hL:SubP L' L) (h:GoC P B N c Q k F V L'):GoC P B N c Q k F V L:=fun a w ha hs=>h a w ha (hs.subP hL)
end
end
section
theorem bN {L:List Box} {g:Nat} {cs:List Value} (h:bF L g cs:=by first|((repeat (first|exact own_here|apply cG|apply eM));done)|fail):bF L g cs:=h
theorem fU {L L':List Box} {g i:Nat} {vs:List Value} (h:cF L g i vs L':=by first|((repeat (first|exact cF.here _ _ _ _ _ _ (Nat.le_of_ble_eq_true rfl)|apply cF.next|apply gS));done)|fail):cF L g i vs L':=h
theorem puts9 {L L':List Box} {g i:Nat} {vs:List Value} (h:cF L g i vs L':=by first|((repeat (first|exact cF.here _ _ _ _ _ _ (by assumption)|exact cF.here _ _ _ _ _ _ (by first|omega|(simp only [List.length_cons,List.length_nil];omega)|fail)|apply cF.next|apply gS));done)|fail):cF L g i vs L':=h
theorem bD {L L1:List Box} {f:List Box→List Box} (h:lT L L1 f:=by first|((repeat (first|exact repl_here|exact lG|exact repl_one|apply cT|apply repl_skip));done)|fail):lT L L1 f:=h
theorem vl9 {V V':aE} (h:VLe V V':=by first|((repeat (first|exact VLe.refl _|assumption|refine VLe.trans ?_ (by assumption)));done)|fail):VLe V V':=h
theorem cC {L L':List Box} (h:List.Sublist L L':=by first|((repeat (first|exact List.Sublist.refl _|exact List.nil_sublist _|refine List.Sublist.cons_cons _ ?_|refine List.Sublist.cons _ ?_|refine List.sublist_append_of_sublist_right ?_));done)|fail):List.Sublist L L':=h
theorem sl9 {L L':List Box} (h:List.Sublist L L':=by repeat (first|exact List.Sublist.refl _|refine List.Sublist.cons _ ?_|refine List.sublist_append_of_sublist_right ?_)):List.Sublist L L':=h
theorem slc9 {L L':List Box} (h:List.Sublist L L':=by repeat (first|exact List.Sublist.refl _|refine List.Sublist.cons_cons _ ?_|refine List.Sublist.cons _ ?_)):List.Sublist L L':=h
theorem bG {F G:List (Nat×Value)} (h:∀ p∈G,jM F p.1=some p.2:=by repeat (first|exact sub_nil|refine sub_cons (by exact rfl) ?_)):∀ p∈G,jM F p.1=some p.2:=h
theorem pk9 {A B C:List Box} (h:mT A B C:=by first|((repeat (first|exact mT.one _ _|exact mT.all _ _|exact mT.last _|apply mT.next|apply mT.skip));done)|fail):mT A B C:=h
theorem sp9 {X L:List Box} (h:SubP X L:=by repeat (first|exact sp_nil|exact sp_last pk9|refine sp_cons pk9 ?_|refine sp_app pk9 ?_)):SubP X L:=h
theorem cI {vs:List Value} (h:∀ u∈vs,jF u=true:=by first|exact gL rfl|exact ones_pr _|exact ones_pa _|exact ones_any (by assumption)|(simp [jF,spl, *];done)|fail):∀ u∈vs,jF u=true:=h
theorem lP {L L':List Box} {g i:Nat} {vs:List Value} (h:cF L g i vs L':=by first|((repeat (first|exact cF.whole _ _ _ _ _ rfl|apply cF.next|apply gS));done)|fail):cF L g i vs L':=h
def ctl9:List kC→Exit→Option (List kC×Exit)
  | .seq _ :: k,.ret=>some (k,.ret)
  | .seq _ :: k,.exit i=>some (k,.exit i)
  | .thn _ :: k,.ret=>some (k,.ret)
  | .thn _ :: k,.exit i=>some (k,.exit i)
  | .block _ :: k,.normal=>some (k,.normal)
  | .block _ :: k,.ret=>some (k,.ret)
  | .block i :: k,.exit j=>bif Nat.beq j i then some (k,.normal) else some (k,.exit j)
  | _,_=>none
section
variable {P : Program} {B : Base} {N : Nat} {Q : Exit → Act → World → Prop} {F : List (Nat × Value)} {V : aE} {L : List Box} {k : List kC} {ops : Array Oper} {rest : List Oper}
theorem xD {k k':List kC} {e e':Exit} (hc:ctl9 k e=some (k',e')) (h:AtQ P B N Q k' e' F V L):AtQ P B N Q k e F V L:=by
  unfold ctl9 at hc
  split at hc
  · cases hc;exact at_then_ret h
  · cases hc;exact at_then_exit h
  · cases hc;exact at_thn_ret h
  · cases hc;exact at_thn_exit h
  · cases hc;exact at_block_normal h
  · cases hc;exact at_block_ret h
  · rename_i i k j
    cases hb:Nat.beq j i
    · rw [hb] at hc;cases hc;exact at_block_miss hb h
    · rw [hb] at hc;cases hc
      obtain rfl:=Nat.eq_of_beq_eq_true hb
      exact at_block_hit h
  · cases hc
theorem aI {dr:iM} {v:Value} {t:Nat} {op:Op} {ty:TypeId} {pos:String} {af:Array Edge} {gd:Option (Nat×Bool)} (hq:QP P B N V L ⟨some t,op,ty,pos,af,gd⟩ F v) (h:GoL P B N dr ops Q k rest ((t,v) :: F) V L) (hd:okD N (some t)=true:=by rfl):GoW P B N dr ops Q k ⟨some t,op,ty,pos,af,gd⟩ rest F V L:=gw_q hd hq h
theorem gwg9 {dr:iM} {v:Value} {t:Nat} {op:Op} {ty:TypeId} {pos:String} {af:Array Edge} {gd:Option (Nat×Bool)} (h:GoL P B N dr ops Q k rest ((t,v) :: F) V L) (hq:QP P B N V L ⟨some t,op,ty,pos,af,gd⟩ F v:=by first|exact q_assign rfl|exact lY rfl|exact q_pick_t rfl rfl|exact q_pick_f rfl rfl|exact q_extract rfl rfl|exact jQ rfl|exact jT rfl|exact wI rfl|exact q_not_f rfl|exact q_not_p rfl|exact q_not_b rfl) (hd:okD N (some t)=true:=by rfl):GoW P B N dr ops Q k ⟨some t,op,ty,pos,af,gd⟩ rest F V L:=gw_q hd hq h
theorem gwb9 {dr:iM} {v:Value} {t:Nat} {op:Op} {ty:TypeId} {pos:String} {af:Array Edge} {gd:Option (Nat×Bool)} (h:GoL P B N dr ops Q k rest ((t,v) :: F) V L) (hq:QP P B N V L ⟨some t,op,ty,pos,af,gd⟩ F v:=by first|exact q_add rfl rfl (by omega)|exact q_addw rfl rfl|exact q_sub rfl rfl (by omega)|exact q_subw rfl rfl|exact q_mul rfl rfl (by omega)|exact q_lss rfl rfl|exact q_leq rfl rfl|exact q_gtr rfl rfl|exact q_geq rfl rfl|exact q_eql rfl rfl|exact q_neq rfl rfl) (hd:okD N (some t)=true:=by rfl):GoW P B N dr ops Q k ⟨some t,op,ty,pos,af,gd⟩ rest F V L:=gw_q hd hq h
theorem gO {V0:aE} {Lk:List Box} {fuel:Nat} {listed:Array Bool} (i:Nat) {oi:Oper} {t:Nat} {v:Value} (hi:ops[i]?=some oi) (hdt:oi.dst=some t) (hq:QP P B N V0 Lk oi F v) (h:GoL P B N (.held V0 Lk fuel (listed.setIfInBounds i true)) ops Q k rest ((t,v) :: F) V L)
    (hP:pH Q:=by exact cR) (hsel:Region.noSelect ops=true:=by kernel_rfl) (hf:Region.free .any ops listed i=true:=by kernel_rfl) (hr:(Region.ready .any ops listed).contains i=true:=by kernel_rfl) (hg:oi.guard=none:=by rfl) (hd:okD N (some t)=true:=by rfl) (hV:VLe V0 V:=by exact vl9) (hk:Lk.Sublist L:=by exact cC):GoL P B N (.held V0 Lk (fuel+1) listed) ops Q k rest F V L:=gh_take i hi hP hsel hf hr hg hdt hd hV hk hq h
theorem bM {V0:aE} {Lk:List Box} {fuel:Nat} {listed:Array Bool} {i:Nat} {oi:Oper} (hi:ops[i]?=some oi) (h:GoW P B N (.held V0 Lk fuel (listed.setIfInBounds i true)) ops Q k oi rest F V L) (hr:Region.ready .any ops listed=[i]:=by kernel_rfl) (hg:oi.guard=none:=by rfl) (h0:VLe B.v V0:=by exact vl9) (hV:VLe V0 V:=by exact vl9) (hk:Lk.Sublist L:=by exact cC):GoL P B N (.held V0 Lk (fuel+1) listed) ops Q k rest F V L:=gh_one hr hi hg h0 hV hk h
theorem iR {id:Nat} {l:List Oper} (ids:List Nat) (hid:ids.elem id=true) (h:GoL P B N .plain l.toArray Q k l F V L):GoC P B N (.region id l.toArray false) Q k F V L:=dW h
theorem qk_fieldAddr {d:Option Tmp} {v:Value} {ty:TypeId} {pos:String} {af:Array Edge} {gd:Option (Nat×Bool)} {T:TypeId} {x:Operand} {n:Nat} (h:QP P B N V L ⟨d,.fieldAddr T x n,ty,pos,af,gd⟩ F v):QP P B N V L ⟨d,.fieldAddr T x n,ty,pos,af,gd⟩ F v:=h
theorem qk_load {d:Option Tmp} {v:Value} {ty:TypeId} {pos:String} {af:Array Edge} {gd:Option (Nat×Bool)} {T:TypeId} {x:Operand} (h:QP P B N V L ⟨d,.load T x,ty,pos,af,gd⟩ F v):QP P B N V L ⟨d,.load T x,ty,pos,af,gd⟩ F v:=h
theorem qk_assign {d:Option Tmp} {v:Value} {ty:TypeId} {pos:String} {af:Array Edge} {gd:Option (Nat×Bool)} {x:Operand} (h:QP P B N V L ⟨d,.assign x,ty,pos,af,gd⟩ F v):QP P B N V L ⟨d,.assign x,ty,pos,af,gd⟩ F v:=h
theorem qk_move {d:Option Tmp} {v:Value} {ty:TypeId} {pos:String} {af:Array Edge} {gd:Option (Nat×Bool)} {x:Operand} (h:QP P B N V L ⟨d,.move x,ty,pos,af,gd⟩ F v):QP P B N V L ⟨d,.move x,ty,pos,af,gd⟩ F v:=h
theorem qk_extract {d:Option Tmp} {v:Value} {ty:TypeId} {pos:String} {af:Array Edge} {gd:Option (Nat×Bool)} {x:Operand} {n:Nat} (h:QP P B N V L ⟨d,.extract x n,ty,pos,af,gd⟩ F v):QP P B N V L ⟨d,.extract x n,ty,pos,af,gd⟩ F v:=h
theorem qk_call {d:Option Tmp} {v:Value} {ty:TypeId} {pos:String} {af:Array Edge} {gd:Option (Nat×Bool)} {c:Call} (h:QP P B N V L ⟨d,.call c,ty,pos,af,gd⟩ F v):QP P B N V L ⟨d,.call c,ty,pos,af,gd⟩ F v:=h
theorem qk_build {d:Option Tmp} {v:Value} {ty:TypeId} {pos:String} {af:Array Edge} {gd:Option (Nat×Bool)} {T:TypeId} {ps:Array (Nat×Operand)} (h:QP P B N V L ⟨d,.build T ps,ty,pos,af,gd⟩ F v):QP P B N V L ⟨d,.build T ps,ty,pos,af,gd⟩ F v:=h
theorem qk_pick {d:Option Tmp} {v:Value} {ty:TypeId} {pos:String} {af:Array Edge} {gd:Option (Nat×Bool)} {x y z:Operand} (h:QP P B N V L ⟨d,.pick x y z,ty,pos,af,gd⟩ F v):QP P B N V L ⟨d,.pick x y z,ty,pos,af,gd⟩ F v:=h
theorem qk_nilCheck {d:Option Tmp} {v:Value} {ty:TypeId} {pos:String} {af:Array Edge} {gd:Option (Nat×Bool)} {x:Operand} (h:QP P B N V L ⟨d,.nilCheck x,ty,pos,af,gd⟩ F v):QP P B N V L ⟨d,.nilCheck x,ty,pos,af,gd⟩ F v:=h
theorem qk_unOp {d:Option Tmp} {v:Value} {ty:TypeId} {pos:String} {af:Array Edge} {gd:Option (Nat×Bool)} {u:UnOp} {T:TypeId} {x:Operand} (h:QP P B N V L ⟨d,.unOp u T x,ty,pos,af,gd⟩ F v):QP P B N V L ⟨d,.unOp u T x,ty,pos,af,gd⟩ F v:=h
theorem tJ {d:Option Tmp} {v:Value} {ty:TypeId} {pos:String} {af:Array Edge} {gd:Option (Nat×Bool)} {T:TypeId} {x:Operand} (h:QP P B N V L ⟨d,.makeInterface T x,ty,pos,af,gd⟩ F v):QP P B N V L ⟨d,.makeInterface T x,ty,pos,af,gd⟩ F v:=h
theorem qk_makeFunc {d:Option Tmp} {v:Value} {ty:TypeId} {pos:String} {af:Array Edge} {gd:Option (Nat×Bool)} {f:Go.Fn} {x y:Array Operand} (h:QP P B N V L ⟨d,.makeFunc f x y,ty,pos,af,gd⟩ F v):QP P B N V L ⟨d,.makeFunc f x y,ty,pos,af,gd⟩ F v:=h
theorem qk_indexAddr {d:Option Tmp} {v:Value} {ty:TypeId} {pos:String} {af:Array Edge} {gd:Option (Nat×Bool)} {T:TypeId} {x y:Operand} (h:QP P B N V L ⟨d,.indexAddr T x y,ty,pos,af,gd⟩ F v):QP P B N V L ⟨d,.indexAddr T x y,ty,pos,af,gd⟩ F v:=h
theorem qP (b:BinOp) {d:Option Tmp} {v:Value} {ty:TypeId} {pos:String} {af:Array Edge} {gd:Option (Nat×Bool)} {T T2:TypeId} {x y:Operand} (h:QP P B N V L ⟨d,.binOp b T x y T2,ty,pos,af,gd⟩ F v):QP P B N V L ⟨d,.binOp b T x y T2,ty,pos,af,gd⟩ F v:=h
theorem no9 {p:Prop} (h:False:=by first|exact absurd rfl (by assumption)|omega):p:=h.elim
theorem gx9 {p q:Prop} (k:p) (h:p→q:=by intro kk;first|(refine xT ?_;first|exact cJ rfl kk|exact qO rfl rfl kk|exact lW rfl rfl rfl rfl rfl kk|exact qF rfl rfl rfl rfl rfl rfl rfl kk|exact lS rfl rfl rfl rfl rfl rfl kk)|(refine k_gc ?_;first|exact jO kk|exact lN kk|exact jR kk)|(refine xE ?_;first|exact jJ kk|exact xD rfl kk)):q:=h k
theorem gxb9 {p q:Prop} (k:p) (h:p→q:=by intro kk;first|(refine xT ?_;first|exact cJ rfl kk|exact qO rfl rfl kk|exact lW rfl rfl rfl rfl rfl kk|exact qF rfl rfl rfl rfl rfl rfl rfl kk|exact lS rfl rfl rfl rfl rfl rfl kk)|(refine k_gc ?_;first|exact jO kk|exact lN kk|exact jR kk|exact cS kk)|(refine xE ?_;first|exact jJ kk|exact xD rfl kk)):q:=h k
theorem nO {p q:Prop} (k:p) (h:p→q:=by intro kk;first|(refine xT ?_;first|exact cJ rfl kk|exact qO rfl rfl kk|exact lW rfl rfl rfl rfl rfl kk|exact qF rfl rfl rfl rfl rfl rfl rfl kk|exact lS rfl rfl rfl rfl rfl rfl kk)|(refine k_gc ?_;first|exact jO kk|exact lN kk|exact jR kk|exact mK rfl kk|exact mB rfl kk)|(refine xE ?_;first|exact jJ kk|exact xD rfl kk)):q:=h k
theorem gxcb9 {p q:Prop} (k:p) (h:p→q:=by intro kk;first|(refine xT ?_;first|exact cJ rfl kk|exact qO rfl rfl kk|exact lW rfl rfl rfl rfl rfl kk|exact qF rfl rfl rfl rfl rfl rfl rfl kk|exact lS rfl rfl rfl rfl rfl rfl kk)|(refine k_gc ?_;first|exact jO kk|exact lN kk|exact jR kk|exact mK rfl kk|exact mB rfl kk|exact cS kk)|(refine xE ?_;first|exact jJ kk|exact xD rfl kk)):q:=h k
theorem gxcbe9 {p q:Prop} (k:p) (h:p→q:=by intro kk;first|(refine xT ?_;first|exact cJ rfl kk|exact qO rfl rfl kk|exact lW rfl rfl rfl rfl rfl kk|exact qF rfl rfl rfl rfl rfl rfl rfl kk|exact lS rfl rfl rfl rfl rfl rfl kk)|(refine k_gc ?_;first|exact jO kk|exact lN kk|exact jR kk|exact mK rfl kk|exact mB rfl kk|exact cS kk|exact tS kk)|(refine xE ?_;first|exact jJ kk|exact xD rfl kk)):q:=h k
theorem gxce9 {p q:Prop} (k:p) (h:p→q:=by intro kk;first|(refine xT ?_;first|exact cJ rfl kk|exact qO rfl rfl kk|exact lW rfl rfl rfl rfl rfl kk|exact qF rfl rfl rfl rfl rfl rfl rfl kk|exact lS rfl rfl rfl rfl rfl rfl kk)|(refine k_gc ?_;first|exact jO kk|exact lN kk|exact jR kk|exact mK rfl kk|exact mB rfl kk|exact tS kk)|(refine xE ?_;first|exact jJ kk|exact xD rfl kk)):q:=h k
theorem bV {p q:Prop} (k:p) (h:p→q:=by intro kk;first|(refine xT ?_;first|exact cJ rfl kk|exact qO rfl rfl kk|exact lW rfl rfl rfl rfl rfl kk|exact qF rfl rfl rfl rfl rfl rfl rfl kk|exact lS rfl rfl rfl rfl rfl rfl kk)|(refine k_gc ?_;first|exact jO kk|exact lN kk|exact jR kk|exact mK rfl kk|exact mB rfl kk|exact dW kk)|(refine xE ?_;first|exact jJ kk|exact xD rfl kk)):q:=h k
theorem dL {p q:Prop} (k:p) (h:p→q:=by intro kk;first|(refine xT ?_;first|exact cJ rfl kk|exact qO rfl rfl kk|exact lW rfl rfl rfl rfl rfl kk|exact qF rfl rfl rfl rfl rfl rfl rfl kk|exact lS rfl rfl rfl rfl rfl rfl kk)|(refine k_gc ?_;first|exact jO kk|exact lN kk|exact jR kk|exact mK rfl kk|exact mB rfl kk|exact dW kk|exact cS kk)|(refine xE ?_;first|exact jJ kk|exact xD rfl kk)):q:=h k
theorem fG {p q:Prop} (k:p) (h:p→q:=by intro kk;first|(refine xT ?_;first|exact cJ rfl kk|exact qO rfl rfl kk|exact lW rfl rfl rfl rfl rfl kk|exact qF rfl rfl rfl rfl rfl rfl rfl kk|exact lS rfl rfl rfl rfl rfl rfl kk)|(refine k_gc ?_;first|exact jO kk|exact lN kk|exact jR kk|exact mK rfl kk|exact mB rfl kk|exact dW kk|exact cS kk|exact tS kk)|(refine xE ?_;first|exact jJ kk|exact xD rfl kk)):q:=h k
theorem mV {p q:Prop} (k:p) (h:p→q:=by intro kk;first|(refine xT ?_;first|exact cJ rfl kk|exact qO rfl rfl kk|exact lW rfl rfl rfl rfl rfl kk|exact qF rfl rfl rfl rfl rfl rfl rfl kk|exact lS rfl rfl rfl rfl rfl rfl kk)|(refine k_gc ?_;first|exact jO kk|exact lN kk|exact jR kk|exact mK rfl kk|exact mB rfl kk|exact dW kk|exact tS kk)|(refine xE ?_;first|exact jJ kk|exact xD rfl kk)):q:=h k
theorem gxe9 {p q:Prop} (k:p) (h:p→q:=by intro kk;first|(refine xT ?_;first|exact cJ rfl kk|exact qO rfl rfl kk|exact lW rfl rfl rfl rfl rfl kk|exact qF rfl rfl rfl rfl rfl rfl rfl kk|exact lS rfl rfl rfl rfl rfl rfl kk)|(refine k_gc ?_;first|exact jO kk|exact lN kk|exact jR kk|exact tS kk)|(refine xE ?_;first|exact jJ kk|exact xD rfl kk)):q:=h k
theorem bS {p q:Prop} (k:p) (h:p→q:=by intro kk;first|(refine xT ?_;first|exact cJ rfl kk|exact qO rfl rfl kk|exact lW rfl rfl rfl rfl rfl kk|exact qF rfl rfl rfl rfl rfl rfl rfl kk|exact lS rfl rfl rfl rfl rfl rfl kk)|(refine k_gc ?_;first|exact jO kk|exact lN kk|exact jR kk|exact dW kk)|(refine xE ?_;first|exact jJ kk|exact xD rfl kk)):q:=h k
theorem cM {p q:Prop} (k:p) (h:p→q:=by intro kk;first|(refine xT ?_;first|exact cJ rfl kk|exact qO rfl rfl kk|exact lW rfl rfl rfl rfl rfl kk|exact qF rfl rfl rfl rfl rfl rfl rfl kk|exact lS rfl rfl rfl rfl rfl rfl kk)|(refine k_gc ?_;first|exact jO kk|exact lN kk|exact jR kk|exact dW kk|exact cS kk)|(refine xE ?_;first|exact jJ kk|exact xD rfl kk)):q:=h k
theorem gxrbe9 {p q:Prop} (k:p) (h:p→q:=by intro kk;first|(refine xT ?_;first|exact cJ rfl kk|exact qO rfl rfl kk|exact lW rfl rfl rfl rfl rfl kk|exact qF rfl rfl rfl rfl rfl rfl rfl kk|exact lS rfl rfl rfl rfl rfl rfl kk)|(refine k_gc ?_;first|exact jO kk|exact lN kk|exact jR kk|exact dW kk|exact cS kk|exact tS kk)|(refine xE ?_;first|exact jJ kk|exact xD rfl kk)):q:=h k
theorem eT {p q:Prop} (k:p) (h:p→q:=by intro kk;first|(refine xT ?_;first|exact cJ rfl kk|exact qO rfl rfl kk|exact lW rfl rfl rfl rfl rfl kk|exact qF rfl rfl rfl rfl rfl rfl rfl kk|exact lS rfl rfl rfl rfl rfl rfl kk)|(refine k_gc ?_;first|exact jO kk|exact lN kk|exact jR kk|exact dW kk|exact tS kk)|(refine xE ?_;first|exact jJ kk|exact xD rfl kk)):q:=h k
theorem pu9 {dr:iM} {v:Value} {t:Nat} {op:Op} {ty:TypeId} {pos:String} {af:Array Edge} {gd:Option (Nat×Bool)} (h:GoL P B N dr ops Q k rest ((t,v) :: F) V L) (hq:QP P B N V L ⟨some t,op,ty,pos,af,gd⟩ F v:=by first|((with_reducible apply qk_fieldAddr);exact eF inferInstance rfl)|((with_reducible apply qk_load);first|exact aX inferInstance rfl bN (by exact rfl)|exact aX inferInstance rfl bN (by assumption)|exact cK inferInstance rfl (by assumption)|exact nJ inferInstance rfl bN (by exact rfl)|exact iA inferInstance rfl (by assumption) (by exact rfl)|exact gK inferInstance rfl bN (by exact rfl) (by exact rfl)|exact gK inferInstance rfl bN (by assumption) (by exact rfl))|((with_reducible apply qk_assign);exact q_assign rfl)|((with_reducible apply qk_move);exact lY rfl)|((with_reducible apply qk_extract);exact q_extract rfl rfl)|((with_reducible apply qk_call);first|exact q_len rfl inferInstance rfl|exact q_slen rfl inferInstance rfl)|((with_reducible apply qk_build);exact wD inferInstance rfl rfl)|((with_reducible apply qk_pick);first|exact q_pick_t rfl rfl|exact q_pick_f rfl rfl)|((with_reducible apply qk_nilCheck);first|exact jQ rfl|exact jT rfl)|((with_reducible apply qk_unOp);first|exact wI rfl|exact q_not_f rfl|exact q_not_p rfl|exact q_not_b rfl)|((with_reducible apply tJ);exact q_mkiface inferInstance rfl rfl)|((with_reducible apply qk_makeFunc);exact q_makeFunc rfl rfl)|((with_reducible apply qk_indexAddr);first|exact iN inferInstance inferInstance rfl rfl (by omega)|exact rQ inferInstance inferInstance rfl rfl (by omega)|exact dG inferInstance inferInstance rfl (by assumption) rfl (by omega)|exact vM inferInstance inferInstance rfl (by assumption) rfl (by omega))|((with_reducible apply qP .add);first|exact q_add rfl rfl (by omega)|exact q_addw rfl rfl)|((with_reducible apply qP .sub);first|exact q_sub rfl rfl (by omega)|exact q_subw rfl rfl)|((with_reducible apply qP .mul);exact q_mul rfl rfl (by omega))|((with_reducible apply qP .lss);first|exact q_lss rfl rfl|exact q_slss rfl rfl)|((with_reducible apply qP .leq);exact q_leq rfl rfl)|((with_reducible apply qP .gtr);exact q_gtr rfl rfl)|((with_reducible apply qP .geq);exact q_geq rfl rfl)|((with_reducible apply qP .eql);first|exact q_eql rfl rfl|exact q_seql rfl rfl)|((with_reducible apply qP .neq);first|exact q_eneq rfl|exact q_neq rfl rfl|exact q_sneq rfl rfl)|((with_reducible apply qP .rem);exact q_rem rfl rfl (by omega))|((with_reducible apply qP .quo);exact q_quo rfl rfl (by omega))) (hd:okD N (some t)=true:=by rfl):GoW P B N dr ops Q k ⟨some t,op,ty,pos,af,gd⟩ rest F V L:=gw_q hd hq h
theorem al9 {β:Type} {p:β→Prop} {q:Prop} (k:∀ g,p g) (h:(∀ g,p g)→q:=by intro kk;first|(refine k_alloc ?_;exact eN rfl inferInstance rfl kk)|(refine k_box ?_;exact gw_box rfl rfl rfl rfl kk)):q:=h k
theorem st9 {p q:Prop} (k:p) (h:p→q:=by intro kk;refine cY ?_;exact aP rfl inferInstance rfl rfl rfl rfl cI fU rfl kk):q:=h k
theorem gt9 {V0:aE} {Lk:List Box} {fuel:Nat} {listed:Array Bool} (i:Nat) {t:Nat} {op:Op} {ty:TypeId} {pos:String} {af:Array Edge} {v:Value} (h:GoL P B N (.held V0 Lk fuel (listed.setIfInBounds i true)) ops Q k rest ((t,v) :: F) V L) (hi:ops[i]?=some ⟨some t,op,ty,pos,af,none⟩:=by rfl) (hq:QP P B N V0 Lk ⟨some t,op,ty,pos,af,none⟩ F v:=by first|((with_reducible apply qk_fieldAddr);exact eF inferInstance rfl)|((with_reducible apply qk_load);first|exact aX inferInstance rfl bN (by exact rfl)|exact aX inferInstance rfl bN (by assumption)|exact cK inferInstance rfl (by assumption)|exact nJ inferInstance rfl bN (by exact rfl)|exact iA inferInstance rfl (by assumption) (by exact rfl)|exact gK inferInstance rfl bN (by exact rfl) (by exact rfl)|exact gK inferInstance rfl bN (by assumption) (by exact rfl))|((with_reducible apply qk_assign);exact q_assign rfl)|((with_reducible apply qk_move);exact lY rfl)|((with_reducible apply qk_extract);exact q_extract rfl rfl)|((with_reducible apply qk_call);first|exact q_len rfl inferInstance rfl|exact q_slen rfl inferInstance rfl)|((with_reducible apply qk_build);exact wD inferInstance rfl rfl)|((with_reducible apply qk_pick);first|exact q_pick_t rfl rfl|exact q_pick_f rfl rfl)|((with_reducible apply qk_nilCheck);first|exact jQ rfl|exact jT rfl)|((with_reducible apply qk_unOp);first|exact wI rfl|exact q_not_f rfl|exact q_not_p rfl|exact q_not_b rfl)|((with_reducible apply tJ);exact q_mkiface inferInstance rfl rfl)|((with_reducible apply qk_makeFunc);exact q_makeFunc rfl rfl)|((with_reducible apply qk_indexAddr);first|exact iN inferInstance inferInstance rfl rfl (by omega)|exact rQ inferInstance inferInstance rfl rfl (by omega)|exact dG inferInstance inferInstance rfl (by assumption) rfl (by omega)|exact vM inferInstance inferInstance rfl (by assumption) rfl (by omega))|((with_reducible apply qP .add);first|exact q_add rfl rfl (by omega)|exact q_addw rfl rfl)|((with_reducible apply qP .sub);first|exact q_sub rfl rfl (by omega)|exact q_subw rfl rfl)|((with_reducible apply qP .mul);exact q_mul rfl rfl (by omega))|((with_reducible apply qP .lss);first|exact q_lss rfl rfl|exact q_slss rfl rfl)|((with_reducible apply qP .leq);exact q_leq rfl rfl)|((with_reducible apply qP .gtr);exact q_gtr rfl rfl)|((with_reducible apply qP .geq);exact q_geq rfl rfl)|((with_reducible apply qP .eql);first|exact q_eql rfl rfl|exact q_seql rfl rfl)|((with_reducible apply qP .neq);first|exact q_eneq rfl|exact q_neq rfl rfl|exact q_sneq rfl rfl)|((with_reducible apply qP .rem);exact q_rem rfl rfl (by omega))|((with_reducible apply qP .quo);exact q_quo rfl rfl (by omega)))
    (hP:pH Q:=by exact cR) (hsel:Region.noSelect ops=true:=by kernel_rfl) (hf:Region.free .any ops listed i=true:=by kernel_rfl) (hr:(Region.ready .any ops listed).contains i=true:=by kernel_rfl) (hd:okD N (some t)=true:=by rfl) (hV:VLe V0 V:=by exact vl9) (hk:Lk.Sublist L:=by exact cC):GoL P B N (.held V0 Lk (fuel+1) listed) ops Q k rest F V L:=gh_take i hi hP hsel hf hr rfl rfl hd hV hk hq h
end
end
end Go.Proofs.YtejkmomfpidnbacGreat
