/- Walks and plain laws, part 12: what functions compute, proved once each (Fn, Open2, OpenT, Open3, OpenN, OpenB, OpenU, SealP, TopSealed). -/
import Derived.Test.YtejkmomfpidnbacGreatPart1
import Derived.Test.YtejkmomfpidnbacGreatPart11
import Derived.Test.YtejkmomfpidnbacGreatChecked
import Derived.Test.YtejkmomfpidnbacGreatPart3
import Derived.Test.YtejkmomfpidnbacGreatPart5
import Derived.Test.YtejkmomfpidnbacGreatPart8
set_option linter.unusedSimpArgs false
set_option linter.unusedVariables false
set_option maxRecDepth 100000
set_option maxHeartbeats 40000000
namespace Go.Proofs.YtejkmomfpidnbacGreat
open Go.RowKit
section

def oD (w:World):aE:=fun p=>w.cell? p
theorem fullV_in (w:World):VIn (oD w) w:=fun p x h=>h
theorem Fn.any {P:Program} {f:FuncId} {args:List Value} {w:World} {v:Value} (h:Fn P f args (oD w) fun u _=>u=v):Calls P f args.toArray w fun e w'=>e=.returned v∧Ext w w' :=
  (h w (fullV_in w)).mono fun e w' ⟨u,he,hx,_,_,_,_,hu⟩=>⟨by rw [he,hu],hx⟩
theorem jB.view {w:World} {A:Option Addr} {n:Nat} {xs:List Int} (h:jB w A n xs):eD (oD w) A n xs:=by
  refine⟨h.1,h.2.1,h.cells.1,fun hn=>?_⟩
  obtain⟨b,off,ha,hc⟩:=h.cells.2 hn
  exact⟨b,off,ha,hc⟩
end
section
open Go.ChangeShapes Go.WideShapes Go.ChangeAt Go.RowKit
open Go.Deep
section
variable {H : Type} {enc : TypeId × Value → H} {P : Program} {w : World} {base : Nat} {spare : Nat → Bool} {held : Bool}
theorem qX {α:Type} (f:α→List Value) (good:α→Prop) {t e:TypeId} {fuel:Nat} {v:Value} {x:DataW H×List MemPlace} (ht:P.underlying t=some (.slice e)) (hsz:0<P.cellsOf e)
    (hel:∀ (n:Nat) (cs:List Value) (y:DataW H×List MemPlace),n<fuel→cs.length=P.cellsOf e→DataW.trod enc P w base spare held n e cs=some y→∃ a:α,cs=f a∧good a)
    (h:DataW.trod enc P w base spare held fuel t [v]=some x):∃ A n c xs,v=.slice A n c∧n≤c∧fB (oD w) (P.cellsOf e) f A n xs∧∀ a∈xs,good a:=by
  rcases DataW.trod_slice ht h with ⟨hcs,_⟩|⟨a,len,cap,elems,rest,n,rfl,hcs,_,_,hl,hm,hlen,hat,_,_⟩
  · obtain rfl:v=.slice none 0 0:=by simpa using hcs
    exact⟨none,0,0,[],rfl,Nat.le_refl _,fB.nil,by simp⟩
  · obtain rfl:v=.slice (some a) len cap:=by simpa using hcs
    have key:∀ i,i<len→∃ z:α,(∀ j u,(f z)[j]?=some u→w.cell? ((a.add (i * P.cellsOf e)).add j)=some u)∧(f z).length=P.cellsOf e∧good z:=by
      intro i hi
      have:=hat i hi
      rw [List.getElem?_eq_getElem (by omega)] at this
      obtain⟨cs',h1,h2⟩:=Option.bind_eq_some_iff.1 this
      obtain⟨_,h3,h4⟩:=World.cells?_some h1
      obtain⟨z,rfl,hz⟩:=hel n cs' _ (Nat.lt_succ_self n) h3 h2
      refine⟨z,fun j u hj=>?_,h3,hz⟩
      have hjl:j<(f z).length:=by
        rcases Nat.lt_or_ge j (f z).length with h|h
        · exact h
        · rw [List.getElem?_eq_none h] at hj;cases hj
      rw [h4 j (by omega)];exact hj
    by_cases h0:len=0
    · subst h0
      exact⟨some a,0,cap,[],rfl,Nat.zero_le _,fB.nil,by simp⟩
    · obtain⟨z0,_,_,_⟩:=key 0 (by omega)
      haveI:Inhabited α:=⟨z0⟩
      obtain⟨Z,hZ⟩:=choose_lt (α:=α) (p:=fun i z=>(∀ j u,(f z)[j]?=some u→w.cell? ((a.add (i * P.cellsOf e)).add j)=some u)∧(f z).length=P.cellsOf e∧good z) (fun i hi=>key i hi)
      refine⟨some a,len,cap,(List.range len).map Z,rfl,hl,⟨by simp,Nat.le_trans hl hm,fun _=>?_⟩,?_⟩
      · obtain⟨b,off,spot⟩:=a
        have hspot:spot=none:=by
          obtain⟨h1,h2,_⟩:=hZ 0 (by omega)
          have:=h1 0 (f (Z 0))[0] (List.getElem?_eq_getElem (by omega))
          simpa [Addr.add] using World.cell?_spot this
        subst hspot
        refine⟨b,off,rfl,fun k z hk j u hj=>?_⟩
        have hkl:k<len:=by
          rcases Nat.lt_or_ge k len with h|h
          · exact h
          · rw [List.getElem?_eq_none (by simp;omega)] at hk;cases hk
        simp [hkl] at hk
        subst hk
        have:=(hZ k hkl).1 j u hj
        rw [iT,iT] at this
        exact this
      · intro z hz
        obtain⟨i,hi,rfl⟩:=List.mem_map.1 hz
        exact(hZ i (List.mem_range.1 hi)).2.2
theorem open_arg {t:TypeId} {v:Value} {d:DataW H} {p:List MemPlace} (h:DataW.Trod enc P w base spare held t v d p) (hv:v.cells=#[v]):∃ fuel x,DataW.trod enc P w base spare held fuel t [v]=some x:=by
  obtain⟨fuel,hf⟩:=h
  rw [hv] at hf
  exact⟨fuel,_,by simpa using hf⟩
end
end
section
open Go.ChangeShapes Go.WideShapes Go.ChangeAt Go.RowKit
open Go.Deep
section
variable {H : Type} {enc : TypeId × Value → H} {w : World} {base : Nat} {spare : Nat → Bool} {held : Bool}
def inI (x:Int):Prop:=-9223372036854775808≤x∧x≤9223372036854775807
def intsP (h:Hd) (_:PKs):Prop:=inI h.kind∧inI h.mode∧inI h.user∧inI h.group
theorem sQ {P:Program} {t:TypeId} {fs:Array Field} {fuel:Nat} {cs:List Value} {x:DataW H×List MemPlace} (hs:P.underlying t=some (.struct fs))
    (h:DataW.trod enc P w base spare held fuel t cs=some x):∃ n,fuel=n+1∧cs.length=P.cellsOf t∧iW enc P w base spare held fs cs∧∀ (j:Nat) (f:Field),fs[j]?=some f→∃ y,DataW.trod enc P w base spare held n f.type ((cs.drop f.offset).take (P.cellsOf f.type))=some y:=by
  obtain⟨xs,n,hn,_,hl,hxl,hg⟩:=DataW.trod_struct hs h
  have key:∀ (j:Nat) (f:Field),fs[j]?=some f→∃ y,DataW.trod enc P w base spare held n f.type ((cs.drop f.offset).take (P.cellsOf f.type))=some y:=fun j f hj=>by
    have hjl:j<xs.length:=by rw [hxl];exact(Array.getElem?_eq_some_iff.1 hj).1
    exact⟨xs[j],(hg j f hj).trans (List.getElem?_eq_getElem hjl)⟩
  exact⟨n,hn,hl,⟨n,key⟩,key⟩
theorem tattr_of_trod {n:Nat} {cs:List Value} {y:DataW H×List MemPlace} (h:DataW.trod enc Tryz.prog w base spare held n 222 cs=some y):∃ a:PA,cs=paC a∧a.n.size≤maxLen∧a.v.size≤maxLen:=by
  obtain⟨hl,hF⟩:=mW Tryz.underlying222 h
  match cs,hl.trans (show Tryz.prog.cellsOf 222=2 by kernel_rfl) with
  | [c0,c1],_ =>
    obtain⟨a,rfl,wa⟩:=hF.string 0 rfl Tryz.underlying9 (by kernel_rfl) rfl
    obtain⟨b,rfl,wb⟩:=hF.string 1 rfl Tryz.underlying9 (by kernel_rfl) rfl
    exact⟨⟨a,b⟩,rfl,wa,wb⟩
theorem tattr_cells:Tryz.prog.cellsOf 222=2:=by kernel_rfl
theorem kid_cells:Tryz.prog.cellsOf 104=9:=by kernel_rfl
theorem node_cells:Tryz.prog.cellsOf 50=8:=by kernel_rfl
theorem list8 {α:Type} {l:List α} (h:l.length=8):∃ a b c d e f g i,l=[a,b,c,d,e,f,g,i]:=by
  match l,h with
  | [a,b,c,d,e,f,g,i],_=>exact⟨a,b,c,d,e,f,g,i,rfl⟩
theorem list9 {α:Type} {l:List α} (h:l.length=9):∃ a b c d e f g i j,l=[a,b,c,d,e,f,g,i,j]:=by
  match l,h with
  | [a,b,c,d,e,f,g,i,j],_=>exact⟨a,b,c,d,e,f,g,i,j,rfl⟩
theorem node_of_trod:∀ (fuel:Nat) {cs:List Value} {y:DataW H×List MemPlace},DataW.trod enc Tryz.prog w base spare held fuel 50 cs=some y→∃ x:LN,cs=lnC x∧aT (oD w) x∧cH intsP x.n:=by
  intro fuel
  induction fuel using Nat.strongRecOn with
  | _ fuel ih =>
    intro cs y h
    obtain⟨m,rfl,hl,hF,hat⟩:=sQ Tryz.underlying50 h
    obtain⟨c0,c1,c2,c3,c4,c5,c6,c7,rfl⟩:=list8 (hl.trans node_cells)
    obtain⟨kind,rfl,w0⟩:=hF.int 0 rfl Tryz.underlying3 (by kernel_rfl) rfl
    obtain⟨mode,rfl,w1⟩:=hF.int 1 rfl Tryz.underlying3 (by kernel_rfl) rfl
    obtain⟨user,rfl,w2⟩:=hF.int 2 rfl Tryz.underlying3 (by kernel_rfl) rfl
    obtain⟨group,rfl,w3⟩:=hF.int 3 rfl Tryz.underlying3 (by kernel_rfl) rfl
    obtain⟨opq,rfl⟩:=hF.bool 4 rfl Tryz.underlying4 (by kernel_rfl) rfl
    obtain⟨y5,h5⟩:=hat 5 _ rfl
    obtain⟨data,rfl,w6⟩:=hF.string 6 rfl Tryz.underlying9 (by kernel_rfl) rfl
    obtain⟨y7,h7⟩:=hat 7 _ rfl
    replace h5:DataW.trod enc Tryz.prog w base spare held m 47 [c5]=some y5:=h5
    replace h7:DataW.trod enc Tryz.prog w base spare held m 48 [c7]=some y7:=h7
    obtain⟨A,na,ca,al,rfl,ga,hA,hAg⟩:=qX paC (fun a=>a.n.size≤maxLen∧a.v.size≤maxLen) Tryz.underlying47 (by rw [tattr_cells];omega) (fun m' cs y _ _ hy=>tattr_of_trod hy) h5
    obtain⟨K,nk,ck,es,rfl,gk,hK,hKg⟩:=qX lkC (fun e=>e.nm.size≤maxLen∧aT (oD w) e.x∧cH intsP e.x.n) Tryz.underlying48 (by rw [kid_cells];omega) (fun m' cs y hm' hcl hy=>by
      obtain⟨m2,rfl,hl2,hF2,hat2⟩:=sQ Tryz.underlying104 hy
      obtain⟨d0,d1,d2,d3,d4,d5,d6,d7,d8,rfl⟩:=list9 (hl2.trans kid_cells)
      obtain⟨nm,rfl,wn⟩:=hF2.string 0 rfl Tryz.underlying9 (by kernel_rfl) rfl
      obtain⟨y1,h1⟩:=hat2 1 _ rfl
      replace h1:DataW.trod enc Tryz.prog w base spare held m2 50 [d1,d2,d3,d4,d5,d6,d7,d8]=some y1:=h1
      obtain⟨x,hx,hN,hI⟩:=ih m2 (by omega) h1
      refine⟨⟨nm,x⟩,?_,wn,hN,hI⟩
      simp only [List.cons.injEq] at hx
      obtain⟨rfl,rfl,rfl,rfl,rfl,rfl,rfl,rfl,_⟩:=hx
      rfl) h7
    rw [tattr_cells] at hA
    rw [kid_cells] at hK
    refine⟨⟨⟨kind,mode,user,group,opq,al,data⟩,A,na,ca,K,nk,ck,es.map kz⟩,rfl,aT.of ⟨hA,hAg⟩ ga w6 gk ⟨hK,fun e he=>⟨(hKg e he).1,(hKg e he).2.1⟩⟩ rfl,.mk ⟨kF w0,kF w1,kF w2,kF w3⟩ fun k hk=>?_⟩
    obtain⟨e,he,rfl⟩:=List.mem_map.1 hk
    exact(hKg e he).2.2
end
end
section
open Go.ChangeShapes Go.WideShapes Go.ChangeAt Go.RowKit
open Go.Deep
section
variable {H : Type} {enc : TypeId × Value → H} {w : World} {base : Nat} {spare : Nat → Bool} {held : Bool}
theorem list3 {α:Type} {l:List α} (h:l.length=3):∃ a b c,l=[a,b,c]:=by
  match l,h with
  | [a,b,c],_=>exact⟨a,b,c,rfl⟩
theorem list2 {α:Type} {l:List α} (h:l.length=2):∃ a b,l=[a,b]:=by
  match l,h with
  | [a,b],_=>exact⟨a,b,rfl⟩
theorem range_of_trod {n:Nat} {cs:List Value} {y:DataW H×List MemPlace} (h:DataW.trod enc Tryz.prog w base spare held n 190 cs=some y):∃ r:PR,cs=prC r∧inR64 r:=by
  obtain⟨hl,hF⟩:=mW Tryz.underlying190 h
  obtain⟨c0,c1,c2,rfl⟩:=list3 (hl.trans (by kernel_rfl))
  obtain⟨a,rfl,wa⟩:=hF.int 0 rfl Tryz.underlying3 (by kernel_rfl) rfl
  obtain⟨b,rfl,wb⟩:=hF.int 1 rfl Tryz.underlying3 (by kernel_rfl) rfl
  obtain⟨c,rfl,wc⟩:=hF.int 2 rfl Tryz.underlying3 (by kernel_rfl) rfl
  exact⟨⟨a,b,c⟩,rfl,kF wa,kF wb,kF wc⟩
theorem range_cells:Tryz.prog.cellsOf 190=3:=by kernel_rfl
theorem maps_of_trod {fuel:Nat} {v:Value} {x:DataW H×List MemPlace} (h:DataW.trod enc Tryz.prog w base spare held fuel 22 [v]=some x):∃ A n c xs,v=.slice A n c∧n≤c∧MapV (oD w) A n xs:=by
  obtain⟨A,n,c,xs,h1,h2,h3,h4⟩:=qX prC inR64 Tryz.underlying22 (by rw [range_cells];omega) (fun m cs y _ _ hy=>range_of_trod hy) h
  rw [range_cells] at h3
  exact⟨A,n,c,xs,h1,h2,h3,h4⟩
end
end
section
open Go.ChangeShapes Go.WideShapes Go.ChangeAt Go.RowKit
open Go.Deep
section
variable {H : Type} {enc : TypeId × Value → H} {w : World} {base : Nat} {spare : Nat → Bool} {held : Bool}
theorem maps2_of_trod {fuel:Nat} {cs:List Value} {y:DataW H×List MemPlace} (h:DataW.trod enc Tryz.prog w base spare held fuel 24 cs=some y):∃ M:LM,cs=[.slice M.A M.n M.c,.slice M.B M.m M.e]∧rC (oD w) M:=by
  obtain⟨m,rfl,hl,hF,hat⟩:=sQ Tryz.underlying24 h
  obtain⟨c0,c1,rfl⟩:=list2 (hl.trans (by kernel_rfl))
  obtain⟨y0,h0⟩:=hat 0 _ rfl
  obtain⟨y1,h1⟩:=hat 1 _ rfl
  replace h0:DataW.trod enc Tryz.prog w base spare held m 22 [c0]=some y0:=h0
  replace h1:DataW.trod enc Tryz.prog w base spare held m 22 [c1]=some y1:=h1
  obtain⟨A,n,c,us,rfl,k1,m1⟩:=maps_of_trod h0
  obtain⟨B,m',e,gs,rfl,k2,m2⟩:=maps_of_trod h1
  exact⟨⟨A,n,c,us,B,m',e,gs⟩,rfl,m1,k1,m2,k2⟩
end
end
section
open Go.ChangeShapes Go.WideShapes Go.ChangeAt Go.RowKit
open Go.Deep
section
variable {H : Type} {enc : TypeId × Value → H} {w : World} {base : Nat} {spare : Nat → Bool} {held : Bool}
theorem list7 {α:Type} {l:List α} (h:l.length=7):∃ a b c d e f g,l=[a,b,c,d,e,f,g]:=by
  match l,h with
  | [a,b,c,d,e,f,g],_=>exact⟨a,b,c,d,e,f,g,rfl⟩
theorem list4b {α:Type} {l:List α} (h:l.length=4):∃ a b c d,l=[a,b,c,d]:=by
  match l,h with
  | [a,b,c,d],_=>exact⟨a,b,c,d,rfl⟩
theorem cred_of_trod {n:Nat} {cs:List Value} {y:DataW H×List MemPlace} (h:DataW.trod enc Tryz.prog w base spare held n 27 cs=some y):∃ (c:CR) (A:Option Addr) (n k:Nat),cs=[.int .i64 c.u,.int .i64 c.g,.slice A n k,.int .i64 c.d]∧eD (oD w) A n c.xs:=by
  obtain⟨hl,hF⟩:=mW Tryz.underlying27 h
  obtain⟨c0,c1,c2,c3,rfl⟩:=list4b (hl.trans (by kernel_rfl))
  obtain⟨a,rfl,_⟩:=hF.int 0 rfl Tryz.underlying3 (by kernel_rfl) rfl
  obtain⟨b,rfl,_⟩:=hF.int 1 rfl Tryz.underlying3 (by kernel_rfl) rfl
  obtain⟨A,n,c,xs,rfl,hI,_⟩:=hF.ints 2 rfl Tryz.underlying25 Tryz.underlying3 (by kernel_rfl) (by kernel_rfl) rfl
  obtain⟨d,rfl,_⟩:=hF.int 3 rfl Tryz.underlying3 (by kernel_rfl) rfl
  exact⟨⟨a,b,d,xs⟩,A,n,c,rfl,hI.view⟩
theorem config_of_trod {fuel:Nat} {cs:List Value} {y:DataW H×List MemPlace} (h:DataW.trod enc Tryz.prog w base spare held fuel 29 cs=some y):∃ x:CF,cs=cfC x∧CfV (oD w) x:=by
  obtain⟨m,rfl,hl,hF,hat⟩:=sQ Tryz.underlying29 h
  obtain⟨c0,c1,c2,c3,c4,c5,c6,c7,rfl⟩:=list8 (hl.trans (by kernel_rfl))
  obtain⟨y0,h0⟩:=hat 0 _ rfl
  obtain⟨y1,h1⟩:=hat 1 _ rfl
  replace h0:DataW.trod enc Tryz.prog w base spare held m 24 [c0,c1]=some y0:=h0
  replace h1:DataW.trod enc Tryz.prog w base spare held m 27 [c2,c3,c4,c5]=some y1:=h1
  obtain⟨M,e0,hM⟩:=maps2_of_trod h0
  obtain⟨c,A,n,k,e1,hI⟩:=cred_of_trod h1
  obtain⟨q,rfl,_⟩:=hF.int 2 rfl Tryz.underlying3 (by kernel_rfl) rfl
  obtain⟨B,m',e,lo,rfl,hL,_⟩:=hF.ints 3 rfl Tryz.underlying25 Tryz.underlying3 (by kernel_rfl) (by kernel_rfl) rfl
  simp only [List.cons.injEq,and_true] at e0 e1
  obtain⟨rfl,rfl⟩:=e0
  obtain⟨rfl,rfl,rfl,rfl⟩:=e1
  exact⟨⟨M,c,A,n,k,q,B,m',e,lo⟩,rfl,hM,hI,hL.view⟩
def clSz (c:CL):Prop:=c.path.size≤maxLen∧c.other.size≤maxLen∧c.name.size≤maxLen∧c.data.size≤maxLen
theorem call_of_trod {n:Nat} {cs:List Value} {y:DataW H×List MemPlace} (h:DataW.trod enc Tryz.prog w base spare held n 46 cs=some y):∃ c:CL,cs=clC c∧clSz c:=by
  obtain⟨hl,hF⟩:=mW Tryz.underlying46 h
  obtain⟨c0,c1,c2,c3,c4,c5,c6,rfl⟩:=list7 (hl.trans (by kernel_rfl))
  obtain⟨a0,rfl,_⟩:=hF.int 0 rfl Tryz.underlying3 (by kernel_rfl) rfl
  obtain⟨a1,rfl,w1⟩:=hF.string 1 rfl Tryz.underlying9 (by kernel_rfl) rfl
  obtain⟨a2,rfl,w2⟩:=hF.string 2 rfl Tryz.underlying9 (by kernel_rfl) rfl
  obtain⟨a3,rfl,w3⟩:=hF.string 3 rfl Tryz.underlying9 (by kernel_rfl) rfl
  obtain⟨a4,rfl,w4⟩:=hF.string 4 rfl Tryz.underlying9 (by kernel_rfl) rfl
  obtain⟨a5,rfl,_⟩:=hF.int 5 rfl Tryz.underlying3 (by kernel_rfl) rfl
  obtain⟨a6,rfl,_⟩:=hF.int 6 rfl Tryz.underlying3 (by kernel_rfl) rfl
  exact⟨⟨a0,a1,a2,a3,a4,a5,a6⟩,rfl,w1,w2,w3,w4⟩
end
end
section
open Go.ChangeShapes Go.WideShapes Go.ChangeAt Go.RowKit
open Go.Deep
section
variable {H : Type} {enc : TypeId × Value → H} {w : World} {base : Nat} {spare : Nat → Bool} {held : Bool}
theorem list26 {α:Type} {l:List α} (h:l.length=26):∃ a b l7 l8 k8 z,l=a :: b :: (l7 ++ (l8 ++ (k8 ++ [z])))∧l7.length=7∧l8.length=8∧k8.length=8:=by
  match l,h with
  | [a0,a1,a2,a3,a4,a5,a6,a7,a8,a9,b0,b1,b2,b3,b4,b5,b6,b7,b8,b9,c0,c1,c2,c3,c4,c5],_=>exact⟨a0,a1,[a2,a3,a4,a5,a6,a7,a8],[a9,b0,b1,b2,b3,b4,b5,b6],[b7,b8,b9,c0,c1,c2,c3,c4],c5,rfl,rfl,rfl,rfl⟩
theorem turn_of_trod {fuel:Nat} {cs:List Value} {y:DataW H×List MemPlace} (h:DataW.trod enc Tryz.prog w base spare held fuel 70 cs=some y):∃ t:TU,cs=tuC t∧CfV (oD w) t.x∧aT (oD w) t.n:=by
  obtain⟨m,rfl,hl,hF,hat⟩:=sQ Tryz.underlying70 h
  obtain⟨a,b,l7,l8,k8,z,rfl,g7,g8,g9⟩:=list26 (hl.trans (by kernel_rfl))
  obtain⟨y2,h2⟩:=hat 2 _ rfl
  obtain⟨y3,h3⟩:=hat 3 _ rfl
  obtain⟨y4,h4⟩:=hat 4 _ rfl
  obtain⟨c0,c1,c2,c3,c4,c5,c6,rfl⟩:=list7 g7
  obtain⟨d0,d1,d2,d3,d4,d5,d6,d7,rfl⟩:=list8 g8
  obtain⟨e0,e1,e2,e3,e4,e5,e6,e7,rfl⟩:=list8 g9
  replace h2:DataW.trod enc Tryz.prog w base spare held m 46 [c0,c1,c2,c3,c4,c5,c6]=some y2:=h2
  replace h3:DataW.trod enc Tryz.prog w base spare held m 29 [d0,d1,d2,d3,d4,d5,d6,d7]=some y3:=h3
  replace h4:DataW.trod enc Tryz.prog w base spare held m 50 [e0,e1,e2,e3,e4,e5,e6,e7]=some y4:=h4
  obtain⟨c,hc,_⟩:=call_of_trod h2
  obtain⟨x,hx,hX⟩:=config_of_trod h3
  obtain⟨n,hn,hN,_⟩:=node_of_trod m h4
  obtain⟨kind,rfl,_⟩:=hF.int 0 rfl Tryz.underlying3 (by kernel_rfl) rfl
  obtain⟨who,rfl,_⟩:=hF.int 1 rfl Tryz.underlying3 (by kernel_rfl) rfl
  obtain⟨cut,rfl,_⟩:=hF.int 5 rfl Tryz.underlying3 (by kernel_rfl) rfl
  exact⟨⟨kind,who,c,x,n,cut⟩,by rw [hc,hx,hn],hX,hN⟩
theorem turn_cells:Tryz.prog.cellsOf 70=26:=by kernel_rfl
theorem turns_arg {r:Reach} {b0:Nat} {v:Value} {d:DataW H} {p:List MemPlace} (hv:Value.okWide Tryz.prog w r b0 61 v) (h:DataW.Trod enc Tryz.prog w base spare held 61 v d p):∃ A n c ts,v=.slice A n c∧n≤c∧yK (oD w) A n ts:=by
  obtain⟨A,n,c,rfl⟩:=okWide_slice Tryz.underlying61 hv
  obtain⟨fuel,x,hf⟩:=open_arg h rfl
  obtain⟨A,n,c,ts,h1,h2,h3,h4⟩:=qX tuC (fun t=>CfV (oD w) t.x∧aT (oD w) t.n) Tryz.underlying61 (by rw [turn_cells];omega) (fun m cs y _ _ hy=>turn_of_trod hy) hf
  rw [turn_cells] at h3
  exact⟨A,n,c,ts,h1,h2,h3,h4⟩
end
end
section
def gR (c:CT):List Bool:=c.lo.map Option.isSome
def sealN (c:CT) (t:TP):PN:=if t.kind=3 then t.n else pZ c t.who
structure SealR (c:CT) (t:TP) (r:CO):Prop where
  k3:t.kind=3∨t.kind=4→∃ k:Nat,r.n=k∧k<5∧c.lo[k]?=some none∧r.c.lo=c.lo.set k (some (sealN c t))
  k5:t.kind=5→∃ k:Nat,t.who=k∧k<5∧r.c.lo=c.lo.set k none
  kz:¬(t.kind=3∨t.kind=4∨t.kind=5)→r.c.lo=c.lo
theorem xH {room:Int} {c:CT} {n:PN} (h5:c.lo.length=5) (h:(eC room c n).f=0):∃ k:Nat,(eC room c n).n=k∧k<5∧c.lo[k]?=some none∧(eC room c n).c.lo=c.lo.set k (some n):=by
  obtain⟨h1,_,h2,h3⟩:=(jN room c n).2.2.2 h
  rw [h3]
  have:=mF c.lo
  exact⟨aW c.lo,rfl,by omega,pJ (by omega),rfl⟩
theorem seal_ok {room:Int} {c:CT} {t:TP} (h5:c.lo.length=5) (h:(kM room c t).1.f=0):SealR c t (kM room c t).1:=by
  by_cases k0:t.kind=0
  · rw [didC_0 k0]
    refine⟨fun h=>by omega,fun h=>by omega,fun _=>?_⟩
    unfold doC
    split
    · rfl
    · split<;>rfl
  by_cases k1:t.kind=1
  · rw [didC_1 k1] at h ⊢
    obtain⟨_,_,_,ls,_,_,h5⟩:=(wV room c t.x).2.2.2 h
    rw [h5]
    exact⟨fun h=>by omega,fun h=>by omega,fun _=>rfl⟩
  by_cases k2:t.kind=2
  · rw [didC_2 k2]
    refine⟨fun h=>by omega,fun h=>by omega,fun _=>?_⟩
    unfold lE
    dsimp only
    split<;>rfl
  by_cases k3:t.kind=3
  · rw [didC_3 k3] at h ⊢
    refine⟨fun _=>?_,fun h=>by omega,fun h=>by omega⟩
    unfold sealN
    rw [if_pos k3]
    exact xH h5 h
  by_cases k4:t.kind=4
  · rw [didC_4 k4] at h ⊢
    refine⟨fun _=>?_,fun h=>by omega,fun h=>by omega⟩
    unfold sealN pZ
    rw [if_neg k3]
    unfold uM at h ⊢
    cases hb:qE c t.who with
    | none=>rw [hb] at h;exact absurd h (by dsimp only;decide)
    | some x=>rw [hb] at h;exact xH h5 h
  by_cases k5:t.kind=5
  · rw [didC_5 k5] at h ⊢
    refine⟨fun h=>by omega,fun _=>?_,fun h=>by omega⟩
    unfold iB at h ⊢
    cases hb:loAtC c t.who with
    | none=>rw [hb] at h;exact absurd h (by dsimp only;decide)
    | some x =>
      obtain⟨k,hk,hk5,hx⟩:=loAtC_some hb
      rw [hb] at h
      dsimp only at h ⊢
      split
      · rename_i hh;rw [if_pos hh] at h;exact absurd h (by dsimp only;decide)
      · exact⟨k,hk,hk5,by dsimp only;rw [hk,Int.toNat_natCast]⟩
  · rw [didC_6 (by omega)]
    exact⟨fun h=>by omega,fun h=>by omega,fun _=>rfl⟩
theorem thereL_set {c c':CT} {k:Nat} {o:Option PN} (h:c'.lo=c.lo.set k o):gR c'=(gR c).set k o.isSome:=by
  unfold gR;rw [h,List.map_set]
theorem thereL_at {c:CT} {k:Nat} {o:Option PN} (h:c.lo[k]?=some o):(gR c)[k]?=some o.isSome:=by
  unfold gR;rw [List.getElem?_map,h];rfl
def Was (c:CT) (ws:List LN):Prop:=ws.length=5∧∀ (k:Nat) (x:PN),c.lo[k]?=some (some x)→∃ w,ws[k]?=some w∧w.n=x
theorem Was.same {c c':CT} {ws:List LN} (h:Was c ws) (e:c'.lo=c.lo):Was c' ws:=⟨h.1,fun k x hx=>h.2 k x (e▸hx)⟩
theorem Was.drop {c c':CT} {ws:List LN} (h:Was c ws) {k:Nat} (e:c'.lo=c.lo.set k none):Was c' ws:=⟨h.1,fun j x hx=>by
  rw [e,List.getElem?_set] at hx
  split at hx
  · split at hx<;>cases hx
  · exact h.2 j x hx⟩
theorem Was.add {c c':CT} {ws:List LN} (h:Was c ws) {k:Nat} (hk:k<5) {y:PN} {w:LN} (e:c'.lo=c.lo.set k (some y)) (hw:w.n=y):Was c' (ws.set k w):=⟨by rw [List.length_set];exact h.1,fun j x hx=>by
  rw [e,List.getElem?_set] at hx
  by_cases hkj:k=j
  · rw [if_pos hkj] at hx
    split at hx
    · injection hx with hx;injection hx with hx
      subst hkj
      exact⟨w,by rw [List.getElem?_set_self (by rw [h.1];exact hk)],by rw [hw,hx]⟩
    · cases hx
  · rw [if_neg hkj] at hx
    obtain⟨w2,h1,h2⟩:=h.2 j x hx
    exact⟨w2,by rw [List.getElem?_set_ne hkj];exact h1,h2⟩⟩
end
section
abbrev boL (l:List Bool):List Value:=l.map .bool
theorem splB {l:List Bool} {i:Nat} {x:Bool}:spl (boL l) (0+i * 1) [.bool x]=boL (l.set i x):=by
  rw [setL,show 0+i * 1=i by omega]
  exact(List.map_set).symm
theorem atB {l:List Bool} {i:Nat} {x:Bool} (h:l[i]?=some x):(boL l)[0+i * 1]?=some (.bool x):=by
  rw [show 0+i * 1=i by omega,List.getElem?_map,h];rfl
theorem lnC_len (x:LN):(lnC x).length=8:=rfl
theorem splN {l:List LN} {i:Nat} (x:LN) (h:i<l.length):spl (l.flatMap lnC) (0+i * 8) (lnC x)=(l.set i x).flatMap lnC:=by
  have:=row_set (rest:=[]) lnC_len h x
  rw [List.append_nil,List.append_nil] at this;exact this
theorem partN {l:List LN} {i:Nat} {x:LN} (h:l[i]?=some x):((l.flatMap lnC).drop (0+i * 8)).take 8=lnC x:=by
  have:=row_part (rest:=[]) lnC_len h
  rw [List.append_nil] at this;exact this
theorem lenN (l:List LN):(l.flatMap lnC).length=l.length * 8:=eU lnC lnC_len l
theorem und_b5:bR Tryz.prog 77 (.array 5 4):=⟨Tryz.underlying77⟩
theorem und_n5:bR Tryz.prog 76 (.array 5 50):=⟨Tryz.underlying76⟩
theorem flatNA_cts (a:HA) (n:Int):xX a n=pZ (ctA a) n:=flat_ct a n
theorem lowNA_at {a:HA} {k:Nat} {x:PN} (hk:k<5) (h:(ctA a).lo[k]?=some (some x)):lowNA a (k:Int)=x:=by
  have e:(ctA a).lo[k]?=(a.lo[k]?).map (Option.map LA.n):=List.getElem?_map
  unfold lowNA iO
  rw [if_pos (by omega),Int.toNat_natCast]
  cases ho:a.lo[k]? with
  | none=>rw [e,ho] at h;cases h
  | some o =>
    rw [e,ho] at h
    cases o with
    | none=>cases h
    | some l=>injection h with h;injection h
theorem lowFA_at {m:Nat} {a:HA} {s:DS} {k:Nat} {o:Option PN} (ha:a.off=false) (hs:pV s m) (hk:k<5) (h:(ctA a).lo[k]?=some o):kY a s (k:Int)=if o.isSome=true then 0 else 5:=by
  have e:(ctA a).lo[k]?=(a.lo[k]?).map (Option.map LA.n):=List.getElem?_map
  have e2:iO a (k:Int)=(a.lo[k]?).join:=by unfold iO;rw [if_pos (by omega),Int.toNat_natCast]
  rw [lowFA_live ha hs,e2]
  cases ho:a.lo[k]? with
  | none=>rw [e,ho] at h;cases h
  | some o2 =>
    rw [e,ho] at h
    injection h with h
    rw [←h]
    cases o2<;>rfl
section
variable {P : Program} {B : Base} {N : Nat} {Q : Exit → Act → World → Prop} {k : List kC} {F : List (Nat × Value)} {V : aE} {L : List Box} {ops : Array Oper} {rest : List Oper}
theorem wL {o:Oper} {j t:Nat} {want b:Bool} (hg:o.guard=some (j,want)) (hj:(ops[j]?).bind (·.dst)=some t) (ht:okD N (some t)=true) (hb:jM F t=some (.bool b)) (hne:(b == want)=false):∀ a,Kn N F a→Region.wanted o (yielded ops a.tmps)=false:=fun a ha=>by
  simp [Region.wanted,hg,tU ha hj ht hb];simpa using hne
theorem tK {V0:aE} {Lk:List Box} {fuel:Nat} {listed:Array Bool} (i:Nat) {oi:Oper} {t:Nat} (hi:ops[i]?=some oi) (hP:pH Q) (hsel:Region.noSelect ops=true) (hf:Region.free .any ops listed i=true) (hr:(Region.ready .any ops listed).contains i=true)
    (hw:∀ a,Kn N F a→Region.wanted oi (yielded ops a.tmps)=false) (hdt:oi.dst=some t) (hd:okD N (some t)=true) (hV:VLe V0 V) (hk:Lk.Sublist L) (h:GoL P B N (.held V0 Lk fuel (listed.setIfInBounds i true)) ops Q k rest ((t,undef) :: F) V L):GoL P B N (.held V0 Lk (fuel+1) listed) ops Q k rest F V L:=by
  have h':=fQ rfl h
  refine gl_mk rfl fun a w ha hs=>?_
  by_cases h0:VLe B.v V0
  · have hS:St B V0 Lk w:=(hs.sub hk).view_le hV h0
    refine⟨hS,wpAnyH_take (v:=undef) hi hsel hf hr (fun c a w hq=>hP.evalQ k c a _ _ w hq) (.inr ⟨hw a ha,rfl⟩) hS ?_⟩
    rw [hdt]
    exact(h' _ w (ha.put hd undef) hs).2
  · exact absurd (h' _ w (ha.put hd undef) hs).1.v0 h0
end
attribute [local irreducible] AtQ GoC GoL GoW QO QP Fn RV bF aD VLe bU bA
attribute [local irreducible] FnB fE gJ DoR eY
theorem TopSealed_c (V:aE) (b:Int) (A:Option Addr) (n c:Nat) (ts:List TU) (h:yK V A n ts):Fn Tryz.prog 6 [.int .i64 b,.slice A n c] V fun v _=>v=.bool true:=by
  have hmx:=h.1.max
  have hl:=h.1.1
  by_cases hb:200≤b∧b≤500
  · obtain⟨m,rfl⟩:=Int.eq_ofNat_of_zero_le (show 0≤b by omega)
    have hLT:=fun V9 (h9:VLe V V9)=>LightTurns_c V9 A n c ts (h.le h9) 20
    have hFr:=fun V9=>Fresh_h V9 m (by omega)
    obtain⟨hi0,hp0⟩:=fresh_inv (b:=m) (by omega)
    (refine aN Tryz.func6 rfl Tryz.ntmps6 rfl ?_;intro w0)
    repeat' (first|(refine aG ?_;first|(refine aC ?_;(first|(refine aS rfl ⟨Tryz.call23⟩ rfl rfl (hLT _ vl9) ?_;rintro v V1 hV1 ⟨b1,rfl,hb1⟩)|(refine aM rfl ⟨Tryz.call24⟩ rfl eL rfl (hFr _) ?_;rintro v V2 B2 hV2 ⟨d,p,rfl,hB2⟩;simp only [List.append_nil])))|(refine al9 ?_;intro γ)|refine pu9 ?_)|refine bV ?_|(refine aJ rfl rfl rfl ?_ ?_<;>intro hq<;>try exact no9)|(refine bY rfl ?_ ?_<;>intro hq))
    · (refine aR Tryz.results6 (aB rfl) ?_)
      rfl
    have hb1t:=hb1 (notf hq)
    have hV02:VLe V V2:=vl9
    clear hLT hFr hb1
    rename_i γ8
    revert γ
    intro γ9
    refine cS ?_
    refine bZ (fun F V' L' m'=>∃ (i:Nat) (a:HA) (s:DS) (Bs:List Box) (ws:List LN),VLe V2 V'∧(⟨γ9,77,boL (gR (ctA a))⟩ :: ⟨γ8,76,ws.flatMap lnC⟩ :: Bs:List Box)=L'∧(∀ w∈ws,aT V' w)∧Was (ctA a) ws∧eY V' p d (m * 64) a s Bs∧fI (1+i) (m * 64) a s∧Pw (m * 64) a s∧i≤n∧m'=n - i∧F=[(1,.slice A n c),(6,.pointer (some ⟨p,0,none⟩)),(8,.pointer (some ⟨γ8,0,none⟩)),(9,.pointer (some ⟨γ9,0,none⟩)),(10,.int .i64 i)]) (m:=n) ⟨0,a0,_,B2,[lnZ,lnZ,lnZ,lnZ,lnZ],vl9,rfl,fun w hw=>by simp only [List.mem_cons,List.not_mem_nil,or_false,or_self] at hw;rw [hw];exact aT.zero,⟨rfl,fun k x hx=>by rcases k with _|_|_|_|_|k<;>simp [a0,ctA] at hx⟩,hB2,hi0,⟨rfl,hp0⟩,Nat.zero_le _,rfl,rfl⟩ bG rfl sl9 ?_
    clear hB2 hi0 hp0
    rintro F V' L' m' ⟨i,a,s,Bs,ws,hV',rfl,hws,hwas,hB,hi,hp,hin,rfl,rfl⟩
    by_cases hlt:i<n
    · obtain⟨bb,off,t,hA,hy,hc⟩:=((h.1.le hV02).le hV').at_ hlt
      have htm:=List.mem_of_getElem? hy
      obtain⟨hxv,hnv⟩:=h.2 t htm
      have hcl:=(hb1t.2 t htm).ok
      subst hA
      have hw:=hi.wf hp.off
      obtain⟨l5,b5⟩:=hw.c5
      have hFl:=fun V9 (h9:VLe V' V9)=>(hB.le h9).flat hi (by omega) t.who
      have hDi:=fun V9 (h9:VLe V' V9)=>did_c (hB.le h9) hi (by omega) (by omega) (by omega) t ((hxv.le hV02).le (hV'.trans h9)) ((hnv.le hV02).le (hV'.trans h9)) hcl
      have hin':=did_inv hi t.p
      obtain⟨q1,q2,q3,q4,q5⟩:=did_pw hi (by omega) hp t.p
      have hNf:=fun (h0:¬iZ a s t.who=0)=>flat_live hp.off hp.live h0
      rw [flatNA_cts] at hFl
      have hm64:((m * 64:Nat):Int) / 64 - 200=(m:Int) - 200:=by omega
      rw [hm64] at q2 q3 q4 q5
      have hok:=fun h9=>seal_ok (room:=(m:Int) - 200) (t:=t.p) l5 h9
      have hsame:=fun h9=>didC_same (room:=(m:Int) - 200) (c:=ctA a) (t:=t.p) h9
      rw [q3,q4] at hDi
      generalize gN a s t.p=ra at *
      generalize (kM ((m:Int) - 200) (ctA a) t.p).1=o at *
      have g0:=gM (j:=0) hc rfl
      have g1:=gM (j:=1) hc rfl
      have g17:=lZ hc 17 8 (ys:=lnC t.n) rfl
      have hws5:=hwas.1
      repeat' (first|(refine aG ?_;refine pu9 ?_)|refine bS ?_|(refine aA rfl ?_ ?_<;>intro hq<;>try exact no9))
      refine cS ?_
      repeat' (first|(refine aG ?_;first|(refine dA ?_;refine aI (cK one_3 rfl g0) ?_)|(refine al9 ?_;intro γ)|refine pu9 ?_)|refine bS ?_|fail)
      revert γ
      intro γ11
      refine eK (fun F V3 L'=>∃ (xw:LN),((t.kind=3∨t.kind=4)→xw.n=sealN (ctA a) t.p)∧aT V3 xw∧VLe V' V3∧(⟨γ11,50,lnC xw⟩ :: ⟨γ9,77,boL (gR (ctA a))⟩ :: ⟨γ8,76,ws.flatMap lnC⟩ :: Bs:List Box)=L'∧F=[(1,.slice (some ⟨bb,off,none⟩) n c),(6,.pointer (some ⟨p,0,none⟩)),(8,.pointer (some ⟨γ8,0,none⟩)),(9,.pointer (some ⟨γ9,0,none⟩)),(10,.int .i64 i),(11,.pointer (some ⟨γ11,0,none⟩))]) ?_ ?_
      · refine cS ?_
        by_cases k3:t.kind=3
        · have hs3:sealN (ctA a) t.p=t.n.n:=if_pos k3
          repeat' (first|(refine aG ?_;first|(refine dA ?_;refine aI (iA agg_50 rfl g17 (by exact rfl)) ?_)|refine st9 ?_|refine pu9 ?_)|refine bS ?_|(refine aA rfl ?_ ?_<;>intro hq<;>try exact no9))
          all_goals exact dO _ ⟨t.n,fun _=>hs3.symm,(hnv.le hV02).le hV',vl9,rfl,rfl⟩ bG sl9
        by_cases k4:t.kind=4
        · have hs4:sealN (ctA a) t.p=pZ (ctA a) t.who:=if_neg k3
          repeat' (first|(refine aG ?_;first|(refine aC ?_;(refine aM rfl ⟨Tryz.call26⟩ rfl bD rfl (hFl _ vl9) ?_;rintro v V3 B3 hV3 ⟨(⟨hnf,rfl⟩|⟨_,y,rfl,hyN,hyn⟩),rfl⟩))|(refine dA ?_;refine aI (cK one_3 rfl g1) ?_)|refine st9 ?_|refine pu9 ?_)|refine bS ?_|(refine aA rfl ?_ ?_<;>intro hq<;>try exact no9))
          · exact dO _ ⟨lnZ,fun _=>by rw [hs4,hNf hnf];rfl,aT.zero,vl9,rfl,rfl⟩ bG sl9
          · exact dO _ ⟨y,fun _=>by rw [hs4];exact hyn,hyN.le vl9,vl9,rfl,rfl⟩ bG sl9
        repeat' (first|(refine aG ?_;refine pu9 ?_)|refine bS ?_|(refine aA rfl ?_ ?_<;>intro hq<;>try exact no9))
        all_goals exact dO _ ⟨lnZ,fun h9=>by omega,aT.zero,vl9,rfl,rfl⟩ bG sl9
      rintro F V3 L' ⟨xw,hxw,hxwN,hV3,rfl,rfl⟩
      repeat' (first|(refine aG ?_;first|(refine aC ?_;(refine aM rfl ⟨Tryz.call27⟩ rfl (cT (cT (cT lG))) rfl (hDi _ vl9) ?_;rintro v V4 B4 hV4 ⟨A4,n4,c4,rfl,hS4,hB4⟩))|(refine dA ?_;refine aI (iA agg_70 rfl (hc.le vl9) (by exact rfl)) ?_)|refine st9 ?_|(refine al9 ?_;intro γ)|refine pu9 ?_)|refine gx9 ?_|refine dW (id:=17) ?_)
      have hV4':VLe V' V4:=vl9
      have hV34:VLe V3 V4:=vl9
      have g04:=eZ hV4' g0
      have g14:=eZ hV4' g1
      have hws4:∀ w∈ws,aT V4 w:=fun w hw=>(hws w hw).le hV4'
      have htl:(gR (ctA a)).length=5:=by unfold gR;rw [List.length_map];exact l5
      first
        | refine oA (fun F V' L'=>∃ (ws':List LN) (th:List Bool),V4=V'∧(∀ w∈ws',aT V4 w)∧((o.f=0∧t.kind=5∧ws'=ws∧th=gR (ctA a))∨(¬(o.f=0∧t.kind=5)∧Was o.c ws'∧th=gR o.c))∧(⟨γ9,77,boL th⟩ :: ⟨γ8,76,ws'.flatMap lnC⟩ :: B4:List Box)=L'∧F=[(1,.slice (some ⟨bb,off,none⟩) n c),(6,.pointer (some ⟨p,0,none⟩)),(8,.pointer (some ⟨γ8,0,none⟩)),(9,.pointer (some ⟨γ9,0,none⟩)),(10,.int .i64 i),(11,.pointer (some ⟨γ11,0,none⟩)),(12,.int .i64 o.f)]) ?_ ?_
        | refine gc_meet2 (fun F V' L'=>∃ (ws':List LN) (th:List Bool),V4=V'∧(∀ w∈ws',aT V4 w)∧((o.f=0∧t.kind=5∧ws'=ws∧th=gR (ctA a))∨(¬(o.f=0∧t.kind=5)∧Was o.c ws'∧th=gR o.c))∧(⟨γ9,77,boL th⟩ :: ⟨γ8,76,ws'.flatMap lnC⟩ :: B4:List Box)=L'∧F=[(1,.slice (some ⟨bb,off,none⟩) n c),(6,.pointer (some ⟨p,0,none⟩)),(8,.pointer (some ⟨γ8,0,none⟩)),(9,.pointer (some ⟨γ9,0,none⟩)),(10,.int .i64 i),(11,.pointer (some ⟨γ11,0,none⟩)),(12,.int .i64 o.f)]) ?_ ?_
      · by_cases hk34:o.f=0∧(t.kind=3∨t.kind=4)
        · obtain⟨hf0,hkk⟩:=hk34
          obtain⟨k,e1,e2,e3,e4⟩:=(hok hf0).k3 hkk
          have e9:o.n.toNat=k:=by omega
          have htk:(boL (gR (ctA a)))[0+o.n.toNat * 1]?=some (.bool false):=by rw [e9];exact atB (thereL_at e3)
          repeat' (first|(refine aG ?_;first|(refine bH ?_;(first|refine aI (dM und_n5 siz_50 rfl rfl rfl (by omega) (by omega)) ?_|refine aI (dM und_b5 siz_4 rfl rfl rfl (by omega) (by omega)) ?_))|(refine dA ?_;(first|refine aI (aX one_4 rfl (cG (cG own_here)) htk) ?_|refine aI (cK one_3 rfl g04) ?_))|(refine cY ?_;(first|refine aP rfl siz_4 rfl rfl rfl rfl (by exact gL rfl) (cF.next _ _ _ _ _ _ (cF.next _ _ _ _ _ _ (cF.hereE splB (by rw [List.length_map];simp only [List.length_cons,List.length_nil];omega)))) rfl ?_|refine aP rfl siz_50 rfl rfl rfl rfl (by exact gL rfl) (cF.next _ _ _ _ _ _ (cF.next _ _ _ _ _ _ (cF.next _ _ _ _ _ _ (cF.hereE (splN xw (by omega)) (by rw [lenN];simp only [List.length_cons,List.length_nil];omega))))) rfl ?_))|refine pu9 ?_)|refine bV ?_|(refine aJ rfl rfl rfl ?_ ?_<;>intro hq<;>try exact no9)|(refine aA rfl ?_ ?_<;>intro hq<;>try exact no9))
          all_goals first
            | exact no9
            | exact dO (L':=⟨γ9,77,boL ((gR (ctA a)).set o.n.toNat true)⟩ :: ⟨γ8,76,(ws.set o.n.toNat xw).flatMap lnC⟩ :: B4) _ ⟨ws.set o.n.toNat xw,(gR (ctA a)).set o.n.toNat true,rfl,fun w hw=>by
                rcases List.mem_or_eq_of_mem_set hw with hw|hw
                · exact hws4 w hw
                · rw [hw];exact hxwN.le hV34,.inr ⟨by omega,by rw [e9];exact hwas.add e2 e4 (hxw hkk),by rw [e9];exact(thereL_set e4).symm⟩,rfl,rfl⟩ bG sl9
        · by_cases hk5:o.f=0∧t.kind=5
          · repeat' (first|(refine aG ?_;first|(refine dA ?_;refine aI (cK one_3 rfl g04) ?_)|refine pu9 ?_)|refine bS ?_|(refine aJ rfl rfl rfl ?_ ?_<;>intro hq<;>try exact no9)|(refine aA rfl ?_ ?_<;>intro hq<;>try exact no9))
            all_goals first
              | exact no9
              | exact dO _ ⟨ws,_,rfl,hws4,.inl ⟨hk5.1,hk5.2,rfl,rfl⟩,rfl,rfl⟩ bG sl9
          · have hlo:o.c.lo=(ctA a).lo:=by
              by_cases hf0:o.f=0
              · exact(hok hf0).kz (show ¬(t.kind=3∨t.kind=4∨t.kind=5) by omega)
              · rw [(hsame hf0).1]
            have hth:gR (ctA a)=gR o.c:=by unfold gR;rw [hlo]
            repeat' (first|(refine aG ?_;first|(refine dA ?_;refine aI (cK one_3 rfl g04) ?_)|refine pu9 ?_)|refine bV ?_|(refine aJ rfl rfl rfl ?_ ?_<;>intro hq<;>try exact no9)|(refine aA rfl ?_ ?_<;>intro hq<;>try exact no9))
            all_goals first
              | exact no9
              | exact dO _ ⟨ws,_,rfl,hws4,.inr ⟨hk5,hwas.same hlo,hth⟩,rfl,rfl⟩ bG sl9
      rintro F V5 L' ⟨ws',th,rfl,hws',hcase,rfl,rfl⟩
      repeat' (first|refine gx9 ?_|fail)
      first
        | refine oA (fun F V' L'=>∃ (ws':List LN),V4=V'∧(∀ w∈ws',aT V4 w)∧Was o.c ws'∧(⟨γ9,77,boL (gR o.c)⟩ :: ⟨γ8,76,ws'.flatMap lnC⟩ :: B4:List Box)=L'∧F=[(1,.slice (some ⟨bb,off,none⟩) n c),(6,.pointer (some ⟨p,0,none⟩)),(8,.pointer (some ⟨γ8,0,none⟩)),(9,.pointer (some ⟨γ9,0,none⟩)),(10,.int .i64 i)]) ?_ ?_
        | refine gc_meet2 (fun F V' L'=>∃ (ws':List LN),V4=V'∧(∀ w∈ws',aT V4 w)∧Was o.c ws'∧(⟨γ9,77,boL (gR o.c)⟩ :: ⟨γ8,76,ws'.flatMap lnC⟩ :: B4:List Box)=L'∧F=[(1,.slice (some ⟨bb,off,none⟩) n c),(6,.pointer (some ⟨p,0,none⟩)),(8,.pointer (some ⟨γ8,0,none⟩)),(9,.pointer (some ⟨γ9,0,none⟩)),(10,.int .i64 i)]) ?_ ?_
      · rcases hcase with ⟨hf0,hk5,rfl,rfl⟩|⟨hk5,hw2,rfl⟩
        · obtain⟨k,e1,e2,e3⟩:=(hok hf0).k5 hk5
          have e1:t.who=(k:Int):=e1
          have e9:t.who.toNat=k:=by omega
          repeat' (first|(refine aG ?_;first|(refine bH ?_;refine aI (dM und_b5 siz_4 rfl rfl rfl (by omega) (by omega)) ?_)|(refine dA ?_;(first|refine aI (cK one_3 rfl g14) ?_|refine aI (cK one_3 rfl g04) ?_))|(refine cY ?_;refine aP rfl siz_4 rfl rfl rfl rfl (by exact gL rfl) (cF.hereE splB (by rw [List.length_map];simp only [List.length_cons,List.length_nil];omega)) rfl ?_)|refine pu9 ?_)|refine bS ?_|(refine aJ rfl rfl rfl ?_ ?_<;>intro hq<;>try exact no9)|(refine aA rfl ?_ ?_<;>intro hq<;>try exact no9))
          all_goals first
            | exact no9
            | exact dO (L':=⟨γ9,77,boL ((gR (ctA a)).set t.who.toNat false)⟩ :: ⟨γ8,76,ws'.flatMap lnC⟩ :: B4) _ ⟨ws',rfl,hws',hwas.drop e3,by rw [e9,thereL_set e3];rfl,rfl⟩ bG sl9
        · repeat' (first|(refine aG ?_;first|(refine dA ?_;refine aI (cK one_3 rfl g04) ?_)|refine pu9 ?_)|refine bV ?_|(refine aJ rfl rfl rfl ?_ ?_<;>intro hq<;>try exact no9)|(refine aA rfl ?_ ?_<;>intro hq<;>try exact no9))
          all_goals first
            | exact no9
            | exact dO _ ⟨ws',rfl,hws',hw2,rfl,rfl⟩ bG sl9
      rintro F V5 L' ⟨ws2,rfl,hws2,hwas2,rfl,rfl⟩
      repeat' (first|(refine aG ?_;refine pu9 ?_)|refine bS ?_|fail)
      refine cS ?_
      refine bZ (fun F V6 L' m'=>∃ (k:Nat),VLe V4 V6∧(⟨γ9,77,boL (gR o.c)⟩ :: ⟨γ8,76,ws2.flatMap lnC⟩ :: B4:List Box)=L'∧k≤5∧m'=5 - k∧F=[(1,.slice (some ⟨bb,off,none⟩) n c),(6,.pointer (some ⟨p,0,none⟩)),(8,.pointer (some ⟨γ8,0,none⟩)),(9,.pointer (some ⟨γ9,0,none⟩)),(10,.int .i64 i),(15,.int .i64 k)]) (m:=5) ⟨0,vl9,rfl,by omega,rfl,rfl⟩ bG rfl sl9 ?_
      rintro F V6 L' m' ⟨k,hV6,rfl,hk5,rfl,rfl⟩
      have hwf4:=hin'.wf q1.off
      obtain⟨c5,_⟩:=hwf4.c5
      rw [q2] at c5
      by_cases hk:k<5
      · obtain⟨ox,hox⟩:∃ x,o.c.lo[k]?=some x:=⟨_,List.getElem?_eq_getElem (by omega)⟩
        have htk:=atB (thereL_at hox)
        have hLw:=fun V9 (h9:VLe V4 V9)=>(hB4.le h9).lower hin' (by omega) (k:Int)
        have hlf:=lowFA_at (o:=ox) q1.off q1.live hk (by rw [q2];exact hox)
        cases ox with
        | none =>
          have htk:(boL (gR o.c))[0+k * 1]?=some (.bool false):=htk
          rw [show kY ra.1.a ra.1.s (k:Int)=5 from hlf] at hLw
          repeat' (first|(refine aG ?_;first|(refine aC ?_;(refine aM rfl ⟨Tryz.call28⟩ rfl (cT (cT lG)) rfl (hLw _ vl9) ?_;rintro v V7 B7 hV7 ⟨(⟨_,rfl⟩|⟨hx0,_⟩),rfl⟩;rotate_left;cases hx0))|refine st9 ?_|(refine al9 ?_;intro γ)|refine pu9 ?_)|refine cM ?_|(refine aA rfl ?_ ?_<;>intro hq<;>try exact no9))
          refine bT (id:=29) _ mixed (List.Sublist.cons_cons _ (List.Sublist.cons_cons _ (List.Sublist.cons_cons _ (List.nil_sublist _)))) ?_;refine gt9 0 ?_;refine gO 1 rfl rfl (oV rfl) ?_;refine gt9 2 ?_;refine gO 3 rfl rfl (cU und_b5 siz_4 rfl rfl rfl hk) ?_;refine gO 4 rfl rfl (aX one_4 rfl (cG own_here) htk) ?_;refine gO 5 rfl rfl (vT und_4 rfl rfl) ?_;refine gt9 6 ?_;refine iE 7 rfl cR (by kernel_rfl) (by kernel_rfl) (by kernel_rfl) (gV rfl rfl rfl rfl) rfl rfl vl9 cC (lY rfl) ?_;refine iE 8 rfl cR (by kernel_rfl) (by kernel_rfl) (by kernel_rfl) (gV rfl rfl rfl rfl) rfl rfl vl9 cC (cU und_b5 siz_4 rfl rfl rfl hk) ?_;refine iE 9 rfl cR (by kernel_rfl) (by kernel_rfl) (by kernel_rfl) (gV rfl rfl rfl rfl) rfl rfl vl9 cC (aX one_4 rfl (cG own_here) htk) ?_;refine iE 10 rfl cR (by kernel_rfl) (by kernel_rfl) (by kernel_rfl) (gV rfl rfl rfl rfl) rfl rfl vl9 cC (lY rfl) ?_;refine tK 11 rfl cR (by kernel_rfl) (by kernel_rfl) (by kernel_rfl) (wL rfl rfl rfl rfl rfl) rfl rfl vl9 cC ?_;refine tK 12 rfl cR (by kernel_rfl) (by kernel_rfl) (by kernel_rfl) (wL rfl rfl rfl rfl rfl) rfl rfl vl9 cC ?_;refine tK 13 rfl cR (by kernel_rfl) (by kernel_rfl) (by kernel_rfl) (wL rfl rfl rfl rfl rfl) rfl rfl vl9 cC ?_;refine tK 14 rfl cR (by kernel_rfl) (by kernel_rfl) (by kernel_rfl) (wL rfl rfl rfl rfl rfl) rfl rfl vl9 cC ?_;refine tK 15 rfl cR (by kernel_rfl) (by kernel_rfl) (by kernel_rfl) (wL rfl rfl rfl rfl rfl) rfl rfl vl9 cC ?_;refine tK 16 rfl cR (by kernel_rfl) (by kernel_rfl) (by kernel_rfl) (wL rfl rfl rfl rfl rfl) rfl rfl vl9 cC ?_;refine iE 17 rfl cR (by kernel_rfl) (by kernel_rfl) (by kernel_rfl) (gV rfl rfl rfl rfl) rfl rfl vl9 cC (q_pick_f rfl rfl) ?_;refine gt9 18 ?_;refine bC (by kernel_rfl) vl9 vl9 cC ?_
          all_goals
            repeat' (first|(refine aG ?_;refine pu9 ?_)|refine bV ?_|fail)
          all_goals first
            | exact no9
            | refine aY _ (5 - (k+1)) ⟨k+1,vl9,rfl,by omega,rfl,rfl⟩ (by omega) bG sl9
        | some x =>
          obtain⟨w,hw1,hw2⟩:=hwas2.2 k x hox
          have hwN:=hws2 w (List.mem_of_getElem? hw1)
          have htk:(boL (gR o.c))[0+k * 1]?=some (.bool true):=htk
          rw [show kY ra.1.a ra.1.s (k:Int)=0 from hlf] at hLw
          have hlN:lowNA ra.1.a (k:Int)=x:=lowNA_at hk (by rw [q2];exact hox)
          rw [hlN] at hLw
          have hpt:=partN hw1
          have hSN:=fun V9 y (hy9:aT V9 y) (hw9:aT V9 w) (hyx:y.n=x)=>(by
            have h9:=SameNode_c V9 y hy9 w hw9
            rw [pM.2 (hyx.trans hw2.symm)] at h9;exact h9:Fn Tryz.prog 29 [lnV y,lnV w] V9 fun v _=>v=.bool true)
          repeat' (first|(refine aG ?_;first|(refine aC ?_;(refine aM rfl ⟨Tryz.call28⟩ rfl (cT (cT lG)) rfl (hLw _ vl9) ?_;rintro v V7 B7 hV7 ⟨(⟨hx0,_⟩|⟨_,y,rfl,hyN,hyn⟩),rfl⟩;exact absurd rfl hx0))|refine st9 ?_|(refine al9 ?_;intro γ)|refine pu9 ?_)|refine cM ?_|(refine aA rfl ?_ ?_<;>intro hq<;>try exact no9))
          refine bT (id:=29) _ mixed (List.Sublist.cons_cons _ (List.Sublist.cons_cons _ (List.Sublist.cons_cons _ (List.nil_sublist _)))) ?_;refine gt9 0 ?_;refine gO 1 rfl rfl (oV rfl) ?_;refine gt9 2 ?_;refine gO 3 rfl rfl (cU und_b5 siz_4 rfl rfl rfl hk) ?_;refine gO 4 rfl rfl (aX one_4 rfl (cG own_here) htk) ?_;refine gO 5 rfl rfl (vT und_4 rfl rfl) ?_;refine gt9 6 ?_;refine iE 7 rfl cR (by kernel_rfl) (by kernel_rfl) (by kernel_rfl) (gV rfl rfl rfl rfl) rfl rfl vl9 cC (lY rfl) ?_;refine iE 8 rfl cR (by kernel_rfl) (by kernel_rfl) (by kernel_rfl) (gV rfl rfl rfl rfl) rfl rfl vl9 cC (cU und_b5 siz_4 rfl rfl rfl hk) ?_;refine iE 9 rfl cR (by kernel_rfl) (by kernel_rfl) (by kernel_rfl) (gV rfl rfl rfl rfl) rfl rfl vl9 cC (aX one_4 rfl (cG own_here) htk) ?_;refine iE 10 rfl cR (by kernel_rfl) (by kernel_rfl) (by kernel_rfl) (gV rfl rfl rfl rfl) rfl rfl vl9 cC (lY rfl) ?_;refine iE 11 rfl cR (by kernel_rfl) (by kernel_rfl) (by kernel_rfl) (gV rfl rfl rfl rfl) rfl rfl vl9 cC (nJ agg_50 rfl bN (by exact rfl)) ?_;refine iE 12 rfl cR (by kernel_rfl) (by kernel_rfl) (by kernel_rfl) (gV rfl rfl rfl rfl) rfl rfl vl9 cC (lY rfl) ?_;refine iE 13 rfl cR (by kernel_rfl) (by kernel_rfl) (by kernel_rfl) (gV rfl rfl rfl rfl) rfl rfl vl9 cC (cU und_n5 siz_50 rfl rfl rfl hk) ?_;refine iE 14 rfl cR (by kernel_rfl) (by kernel_rfl) (by kernel_rfl) (gV rfl rfl rfl rfl) rfl rfl vl9 cC (gK agg_50 rfl (cG (cG own_here)) hpt rfl) ?_;refine gh_oneG (i:=15) (by kernel_rfl) rfl (gV rfl rfl rfl rfl) vl9 vl9 cC ?_;refine aO rfl (aK ⟨Tryz.call29⟩ rfl (hSN _ y (hyN.le vl9) (hwN.le vl9) hyn)) ?_;refine iE 16 rfl cR (by kernel_rfl) (by kernel_rfl) (by kernel_rfl) (gV rfl rfl rfl rfl) rfl rfl vl9 cC (wI rfl) ?_;refine iE 17 rfl cR (by kernel_rfl) (by kernel_rfl) (by kernel_rfl) (gV rfl rfl rfl rfl) rfl rfl vl9 cC (q_pick_t rfl rfl) ?_;refine gt9 18 ?_;refine bC (by kernel_rfl) vl9 vl9 cC ?_
          all_goals
            repeat' (first|(refine aG ?_;refine pu9 ?_)|refine bV ?_|fail)
          all_goals first
            | exact no9
            | refine aY _ (5 - (k+1)) ⟨k+1,vl9,rfl,by omega,rfl,rfl⟩ (by omega) bG sl9
      · repeat' (first|(refine aG ?_;refine pu9 ?_)|refine eT ?_|(refine aA rfl ?_ ?_<;>intro hq<;>try exact no9))
        all_goals refine aY _ (n - (i+1)) ⟨i+1,ra.1.a,ra.1.s,B4,ws2,vl9,by rw [q2],fun w hw=>(hws2 w hw).le hV6,by rw [q2];exact hwas2,hB4.le hV6,by rw [show 1+(i+1)=1+i+1 by omega];exact hin',q1,by omega,rfl,rfl⟩ (by omega) bG sl9
    · repeat' (first|(refine aG ?_;refine pu9 ?_)|refine eT ?_|(refine aA rfl ?_ ?_<;>intro hq<;>try exact no9))
      all_goals
        (refine aR Tryz.results6 (aB rfl) ?_)
        rfl
  · (refine aN Tryz.func6 rfl Tryz.ntmps6 rfl ?_;intro w0)
    repeat' (first|(refine aG ?_;refine pu9 ?_)|refine bV ?_|(refine aJ rfl rfl rfl ?_ ?_<;>intro hq<;>try exact no9))
    all_goals
      (refine aR Tryz.results6 (aB rfl) ?_)
      rfl
end
end Go.Proofs.YtejkmomfpidnbacGreat
