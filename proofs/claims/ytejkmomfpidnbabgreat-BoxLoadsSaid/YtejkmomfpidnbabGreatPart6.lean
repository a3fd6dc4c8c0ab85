/- Walks and plain laws, part 6: what functions compute, proved once each (FlatT, FlatS, IdmapP, IdmapE, IdmapE2, IdmapE3, CopyP, CopyE, CopyE2, IdmapT, ComesP, ComesQ, LayE, LayE2, BoxP, PathE3, Whole). -/
import Derived.Test.YtejkmomfpidnbabGreatPart5
import Derived.Test.YtejkmomfpidnbabGreatPart1
import Derived.Test.YtejkmomfpidnbabGreatPart2
import Derived.Test.YtejkmomfpidnbabGreatPart4
import Derived.Test.YtejkmomfpidnbabGreatPart3
set_option linter.unusedSimpArgs false
set_option linter.unusedVariables false
set_option maxRecDepth 100000
set_option maxHeartbeats 40000000
namespace Go.Proofs.YtejkmomfpidnbabGreat
open Go.RowKit
section
def gI:Hd→Int→Hd:=fun h _=>h
theorem names_step {r:List PF} {x:ByteArray} (h:(dK r x).length≠0):x∈dM r:=by
  have h1:r.filterMap (lX x)≠[]:=fun e=>h (by unfold dK;rw [e];rfl)
  obtain⟨g,hg⟩:=List.exists_mem_of_ne_nil _ h1
  obtain⟨f,hf,hk⟩:=List.mem_filterMap.1 hg
  unfold lX at hk
  split at hk
  · cases h2:fH f.1.ks x with
    | none=>rw [h2] at hk;cases hk
    | some m=>exact List.mem_flatMap.2 ⟨f,hf,List.mem_map.2 ⟨_,jY h2,rfl⟩⟩
  · cases hk
theorem listP_is {r:List PF} {x:ByteArray}:x∈jM r↔(dK r x).length≠0:=by
  rw [qQ];exact⟨fun h=>h.2,fun h=>⟨names_step h,h⟩⟩
theorem dirs_app:∀ (K X:List PF),((∀ f∈K,f.1.h.kind=2∧f.1.h.opq=false)∧dI (K ++ X)=K ++ dI X)∨(∀ X,dI (K ++ X)=dI K)
  | [],X=>.inl ⟨by simp,rfl⟩
  | f :: K,X=>by
    by_cases hk:f.1.h.kind=2
    · cases ho:f.1.h.opq
      · rcases dirs_app K X with ⟨h1,h2⟩|h
        · refine .inl ⟨?_,?_⟩
          · intro g hg
            rcases List.mem_cons.1 hg with rfl|hg
            · exact⟨hk,ho⟩
            · exact h1 g hg
          · rw [List.cons_append,dI,if_pos hk,ho,if_neg (by decide),h2];rfl
        · refine .inr fun X=>?_
          rw [List.cons_append,dI,dI,if_pos hk,if_pos hk,ho,if_neg (by decide),if_neg (by decide),h X]
      · refine .inr fun X=>?_
        rw [List.cons_append,dI,dI,if_pos hk,if_pos hk,ho,if_pos rfl,if_pos rfl]
    · refine .inr fun X=>?_
      rw [List.cons_append,dI,dI,if_neg hk,if_neg hk]
theorem dirs_idem:∀ X:List PF,dI (dI X)=dI X
  | []=>rfl
  | f :: X=>by
    have:=dirs_idem X
    rw [dI]
    split
    · rename_i hk
      split
      · rename_i ho;rw [dI,if_pos hk,if_pos ho]
      · rename_i ho;rw [dI,if_pos hk,if_neg ho,this]
    · rfl
theorem dirs_head {X:List PF} {f:PF} {t:List PF} (h:dI X=f :: t):f.1.h.kind=2∧∃ X',X=f :: X':=by
  cases X with
  | nil=>cases h
  | cons g X =>
    rw [dI] at h
    split at h
    · rename_i hk
      split at h
      · injection h with h1 h2;subst h1;exact⟨hk,_,rfl⟩
      · injection h with h1 h2;subst h1;exact⟨hk,_,rfl⟩
    · cases h
theorem nX {f:PF} (h:f.1.h.kind=1) (X:List PF):dF (f :: X)=[f]:=by rw [dF,if_pos h]
theorem kO {f:PF} (h:¬f.1.h.kind=1) (X:List PF):dF (f :: X)=dI (f :: X):=by rw [dF,if_neg h]
theorem vW {X:List PF} {f:PF} {t:List PF} (h:dF X=f :: t):(f.1.h.kind=1∧t=[]∨f.1.h.kind=2)∧∃ X',X=f :: X':=by
  cases X with
  | nil=>cases h
  | cons g X =>
    by_cases hk:g.1.h.kind=1
    · rw [nX hk] at h;injection h with h1 h2;subst h1;exact⟨.inl ⟨hk,h2.symm⟩,_,rfl⟩
    · rw [kO hk] at h
      obtain⟨h1,h2⟩:=dirs_head h
      exact⟨.inr h1,h2⟩
theorem shown_idem (X:List PF):dF (dF X)=dF X:=by
  cases X with
  | nil=>rfl
  | cons g X =>
    by_cases hk:g.1.h.kind=1
    · rw [nX hk,nX hk]
    · rw [kO hk]
      have:=dirs_idem (g :: X)
      cases h:dI (g :: X) with
      | nil=>rfl
      | cons f t =>
        have h1:=(dirs_head h).1
        rw [kO (by omega),←h,this]
theorem shown_self {f:PF} (hk:f.1.h.kind=1∨f.1.h.kind=2) (ho:f.1.h.opq=false):dF [f]=[f]:=by
  rcases hk with hk|hk
  · exact nX hk _
  · rw [kO (by omega),dI,if_pos hk,ho,if_neg (by decide)];rfl
inductive Rel (d:Nat):List PF→List PF→Prop
  | same (r:List PF):Rel d r r
  | flat {P D:List PF} (h1:∀ f∈P,f.1.h.kind=2∧f.1.h.opq=false) (h2:dF D=D) (h3:D≠[]) (h4:P≠[]→∃ f t,D=f :: t∧f.1.h.kind=2):Rel d (P ++ D) (P ++ [(fM gI d D,0)])
theorem Rel.nil {d:Nat} {r r2:List PF} (h:Rel d r r2):r.length≠0↔r2.length≠0:=by
  cases h with
  | same=>exact Iff.rfl
  | flat h1 h2 h3 h4 =>
    have:=List.length_pos_iff.2 h3
    simp only [List.length_append,List.length_singleton];omega
theorem flat_h {d:Nat} {f:PF} {t:List PF} (h:Deep d f.1):(fM gI d (f :: t)).h={ f.1.h with opq:=false }:=by
  cases d with
  | zero=>exact h.zero.elim
  | succ d=>rfl
def GX (d:Nat) (X:List PF):List PF:=if dF X=[] then [] else [(fM gI d (dF X),0)]
theorem Rel.shown {d:Nat} (K X:List PF) (hX:∀ f∈X,Deep d f.1):Rel d (dF (K ++ X)) (dF (K ++ GX d X)):=by
  have hF:∀ f t,dF X=f :: t→(fM gI d (dF X)).h={ f.1.h with opq:=false }:=fun f t e=>by
    rw [e];refine flat_h (hX f ?_)
    exact iJ (by rw [e];simp)
  cases K with
  | nil =>
    rw [List.nil_append,List.nil_append];unfold GX
    cases hs:dF X with
    | nil=>rw [if_pos rfl];exact .same _
    | cons f t =>
      rw [if_neg (by simp)]
      have hf:=hF f t hs
      have hk:=(vW hs).1
      rw [hs] at hf
      rw [shown_self (by show (fM gI d (f :: t)).h.kind=1∨(fM gI d (f :: t)).h.kind=2;rw [hf];show f.1.h.kind=1∨f.1.h.kind=2;omega) (by show (fM gI d (f :: t)).h.opq=false;rw [hf])]
      have:=Rel.flat (d:=d) (P:=[]) (D:=f :: t) (by simp) (by rw [←hs];exact shown_idem X) (by simp) (by simp)
      simpa using this
  | cons k K =>
    rw [List.cons_append,List.cons_append]
    by_cases hk:k.1.h.kind=1
    · rw [nX hk,nX hk];exact .same _
    · rw [kO hk,kO hk,←List.cons_append,←List.cons_append]
      rcases dirs_app (k :: K) X with ⟨h1,h2⟩|h
      · rcases dirs_app (k :: K) (GX d X) with ⟨_,h3⟩|h'
        · rw [h2,h3]
          cases hd:dI X with
          | nil =>
            have:dI (GX d X)=[]:=by
              unfold GX
              cases hs:dF X with
              | nil=>rfl
              | cons f t =>
                rw [if_neg (by simp),←hs]
                have hf:=hF f t hs
                obtain⟨hk2,X',rfl⟩:=vW hs
                have:¬f.1.h.kind=2:=fun e=>by
                  rw [dI,if_pos e] at hd
                  split at hd<;>cases hd
                rw [dI,if_neg (by show ¬(fM gI d (dF (f :: X'))).h.kind=2;rw [hf];exact this)]
            rw [this];exact .same _
          | cons f t =>
            obtain⟨hfk,X',rfl⟩:=dirs_head hd
            have hs:dF (f :: X')=f :: t:=by rw [kO (by omega),hd]
            have hf:=hF f t hs
            have:GX d (f :: X')=[(fM gI d (f :: t),0)]:=by unfold GX;rw [hs,if_neg (by simp)]
            rw [hs] at hf
            rw [this]
            have h5:dI [(fM gI d (f :: t),(0:Int))]=[(fM gI d (f :: t),0)]:=by
              rw [dI,if_pos (by show (fM gI d (f :: t)).h.kind=2;rw [hf];exact hfk),if_neg (by show ¬(fM gI d (f :: t)).h.opq=true;rw [hf];simp)];rfl
            rw [h5]
            exact .flat h1 (by rw [←hs];exact shown_idem _) (by simp) fun _=>⟨f,t,rfl,hfk⟩
        · have e1:=h' X;have e2:=h' (GX d X)
          rw [e1,e2];exact .same _
      · rw [h X,h (GX d X)];exact .same _
theorem lookK_map {α:Type} {p:ByteArray→PN} {s:ByteArray}:∀ l:List ByteArray,fH (l.map fun nm=>(nm,p nm)) s=if s∈l then some (p s) else none
  | []=>rfl
  | a :: l=>by
    rw [List.map_cons,fH]
    by_cases h:a=s
    · subst h;simp
    · rw [if_neg h,lookK_map (α:=α) l]
      have:s∈a :: l↔s∈l:=by simp [show ¬s=a from fun e=>h e.symm]
      by_cases hs:s∈l
      · rw [if_pos hs,if_pos (this.2 hs)]
      · rw [if_neg hs,if_neg (fun h=>hs (this.1 h))]
theorem flat_kid {d:Nat} {D:List PF} (h2:dF D=D) (h3:D≠[]) (s:ByteArray):[((fM gI (d+1) D,0):PF)].filterMap (lX s)=GX d (D.filterMap (lX s)):=by
  obtain⟨f,t,rfl⟩:∃ f t,D=f :: t:=List.exists_cons_of_ne_nil h3
  have hs:dK (f :: t) s=dF ((f :: t).filterMap (lX s)):=rfl
  unfold GX
  rw [←hs]
  have hmem:s∈jM (f :: t)↔¬dK (f :: t) s=[]:=by rw [listP_is];simp
  obtain⟨hk,_⟩:=vW h2
  have e1:lX s (fM gI (d+1) (f :: t),0)=if f.1.h.kind=2 then (if s∈jM (f :: t) then some (fM gI d (dK (f :: t) s),0) else none) else none:=by
    unfold lX
    show (if f.1.h.kind=2 then (fH ((jM (f :: t)).map fun nm=>(nm,fM gI d (dK (f :: t) nm))) s).map (fun x=>(x,(0:Int))) else none)=_
    rw [lookK_map (α:=Unit) (p:=fun nm=>fM gI d (dK (f :: t) nm))]
    split
    · split<;>rfl
    · rfl
  rw [List.filterMap_cons,e1,List.filterMap_nil]
  rcases hk with ⟨hk,rfl⟩|hk
  · have:dK [f] s=[]:=by
      rw [hs,List.filterMap_cons,List.filterMap_nil]
      unfold lX
      rw [if_neg (by omega)];rfl
    rw [if_neg (by omega),this,if_pos rfl]
  · rw [if_pos hk]
    by_cases hm:dK (f :: t) s=[]
    · rw [if_neg (fun h=>hmem.1 h hm),if_pos hm]
    · rw [if_pos (hmem.2 hm),if_neg hm]
theorem kids_deep {d:Nat} {r:List PF} {s:ByteArray} (h:∀ f∈r,Deep (d+1) f.1):∀ f∈r.filterMap (lX s),Deep d f.1:=fun f hf=>by
  obtain⟨g,hg,hgf⟩:=List.mem_filterMap.1 hf
  unfold lX at hgf
  split at hgf
  · cases h2:fH g.1.ks s with
    | none=>rw [h2] at hgf;cases hgf
    | some x=>rw [h2] at hgf;cases hgf;exact(h g hg).kid _ (jY h2)
  · cases hgf
theorem Rel.step {d:Nat} {r r2:List PF} (h:Rel (d+1) r r2) (hd:∀ f∈r,Deep (d+1) f.1) (s:ByteArray):Rel d (dK r s) (dK r2 s):=by
  cases h with
  | same=>exact .same _
  | @flat P D h1 h2 h3 h4 =>
    unfold dK
    rw [List.filterMap_append,List.filterMap_append,flat_kid h2 h3]
    exact Rel.shown _ _ (kids_deep fun f hf=>hd f (by simp [hf]))
theorem Rel.head {d:Nat} {f f2:PF} {t t2:List PF} (h:Rel d (f :: t) (f2 :: t2)) (hd:Deep d f.1):({ f2.1.h with opq:=false }:Hd)={ f.1.h with opq:=false }:=by
  generalize he:f :: t=r at h
  generalize he2:f2 :: t2=r2 at h
  cases h with
  | same =>
    rw [←he2] at he;injection he with h1 h2;rw [h1]
  | @flat P D h1 h2 h3 h4 =>
    cases P with
    | nil =>
      rw [List.nil_append] at he he2
      injection he2 with h5 h6
      subst he
      rw [h5]
      show ({ (fM gI d (f :: t)).h with opq:=false }:Hd)=_
      rw [flat_h hd]
    | cons p P =>
      rw [List.cons_append] at he he2
      injection he with h5 h6
      injection he2 with h7 h8
      rw [h5,h7]
theorem roots_deep {d:Nat} {l:List PN} (h:∀ x∈l,Deep d x):∀ f∈lT l,Deep d f.1:=fun f hf=>h _ (sI (iJ hf))
end
section
open Go.RowKit
end
section

@[ext] structure PR where
  i:Int
  o:Int
  c:Int
instance : DecidableEq PR := fun a b => decidable_of_iff (a.i = b.i ∧ a.o = b.o ∧ a.c = b.c) ⟨fun ⟨h1, h2, h3⟩ => PR.ext h1 h2 h3, fun h => by subst h; exact ⟨rfl, rfl, rfl⟩⟩

def fitsZ (f n:Int):Bool:=decide (0≤f) && decide (f≤65535) && decide (1≤n) && decide (n - 1≤65535 - f)
def meetsZ (a n b m:Int):Bool:=decide (a<b+m) && decide (b<a+n)
def okR (r:PR):Bool:=fitsZ r.i r.c && fitsZ r.o r.c
def mZ (r s:PR):Bool:=meetsZ r.i r.c s.i s.c || meetsZ r.o r.c s.o s.c
def jW (seen:List PR):List PR→Int
  | []=>0
  | r :: l=>if okR r=false then 1 else if seen.any (mZ r) then 3 else jW (seen ++ [r]) l
def cE (xs:List PR):Int:=if 4<xs.length then 2 else jW [] xs

def kU:List PR→Int→Option Int
  | [],_=>none
  | r :: l,x=>if r.i≤x∧x<r.i+r.c then some (r.o+(x - r.i)) else kU l x
def PR.swap (r:PR):PR:=⟨r.o,r.i,r.c⟩

def inR (r:PR) (x:Int):Prop:=r.i≤x∧x<r.i+r.c
def apart (r s:PR):Prop:=r.i+r.c≤s.i∨s.i+s.c≤r.i
def before (r s:PR):Prop:=r.i+r.c≤s.i
def bdR (r:PR):Prop:=0≤r.i∧1≤r.c∧r.i+r.c≤65536∧0≤r.o∧r.o+r.c≤65536
theorem okR_iff (r:PR):okR r=true↔bdR r:=by
  simp only [okR,fitsZ,bdR,Bool.and_eq_true,decide_eq_true_eq];omega

theorem look_some {l:List PR} {x y:Int} (h:kU l x=some y):∃ r∈l,inR r x∧y=r.o+(x - r.i):=by
  induction l with
  | nil=>cases h
  | cons r l ih =>
    rw [kU] at h
    by_cases hr:r.i≤x∧x<r.i+r.c
    · rw [if_pos hr] at h;injection h with h;exact⟨r,by simp,hr,h.symm⟩
    · rw [if_neg hr] at h
      obtain⟨s,hs,h2⟩:=ih h
      exact⟨s,by simp [hs],h2⟩
theorem apart_symm {r s:PR} (h:apart r s):apart s r:=by unfold apart at *;omega
theorem meets_apart {r s:PR} (h1:bdR r) (h2:bdR s):mZ r s=false↔apart r s∧apart r.swap s.swap:=by
  simp only [mZ,meetsZ,apart,PR.swap,Bool.or_eq_false_iff,Bool.and_eq_false_iff,decide_eq_false_iff_not];unfold bdR at *;omega
theorem mfault_zero:∀ (l seen:List PR),jW seen l=0→(∀ r∈l,bdR r)∧(∀ r∈l,∀ s∈seen,mZ r s=false)∧l.Pairwise fun s r=>mZ r s=false
  | [],seen,_=>⟨by simp,by simp,List.Pairwise.nil⟩
  | r :: l,seen,h=>by
    rw [jW] at h
    split at h
    · omega
    · rename_i hok
      split at h
      · omega
      · rename_i hany
        obtain⟨a,b,c⟩:=mfault_zero l _ h
        have hr:bdR r:=(okR_iff r).1 (by simpa using hok)
        refine⟨fun s hs=>?_,fun s hs t ht=>?_,?_⟩
        · rcases List.mem_cons.1 hs with rfl|hs
          · exact hr
          · exact a s hs
        · rcases List.mem_cons.1 hs with rfl|hs
          · simp at hany;exact hany t ht
          · exact b s hs t (by simp [ht])
        · rw [List.pairwise_cons]
          exact⟨fun s hs=>b s hs r (by simp),c⟩
theorem mF {xs:List PR} (h:cE xs=0):xs.length≤4∧(∀ r∈xs,bdR r)∧xs.Pairwise apart∧(xs.map PR.swap).Pairwise apart:=by
  unfold cE at h
  split at h
  · omega
  · obtain⟨a,_,c⟩:=mfault_zero xs [] h
    refine⟨by omega,a,?_,?_⟩
    · refine c.imp_of_mem fun {s r} hs hr h=>?_
      exact apart_symm ((meets_apart (a r hr) (a s hs)).1 h).1
    · rw [List.pairwise_map]
      refine c.imp_of_mem fun {s r} hs hr h=>?_
      exact apart_symm ((meets_apart (a r hr) (a s hs)).1 h).2
theorem swap_bd {r:PR} (h:bdR r):bdR r.swap:=by unfold bdR PR.swap at *;simp only [];omega

end
section
abbrev prC (r:PR):List Value:=[.int .i64 r.i,.int .i64 r.o,.int .i64 r.c]
def inR64 (r:PR):Prop:=(-9223372036854775808≤r.i∧r.i≤9223372036854775807)∧(-9223372036854775808≤r.o∧r.o≤9223372036854775807)∧(-9223372036854775808≤r.c∧r.c≤9223372036854775807)
def sD (V:aD) (A:Option Addr) (n:Nat) (xs:List PR):Prop:=eP V 3 prC A n xs∧∀ r∈xs,inR64 r
theorem sD.le {V V':aD} {A:Option Addr} {n:Nat} {xs:List PR} (h:sD V A n xs) (hv:VLe V V'):sD V' A n xs:=⟨h.1.le hv,h.2⟩
theorem pr_len (r:PR):(prC r).length=3:=rfl
theorem sD.at_ {V:aD} {A:Option Addr} {n:Nat} {xs:List PR} (h:sD V A n xs) {k:Nat} (hk:k<n):∃ b off r,A=some ⟨b,off,none⟩∧xs[k]?=some r∧aG V b (off+k * 3) [.int .i64 r.i,.int .i64 r.o,.int .i64 r.c]∧V ⟨b,off+k * 3+0,none⟩=some (.int .i64 r.i)∧V ⟨b,off+k * 3+1,none⟩=some (.int .i64 r.o)∧V ⟨b,off+k * 3+2,none⟩=some (.int .i64 r.c)∧inR64 r:=by
  obtain⟨b,off,r,ha,hx,hc⟩:=h.1.at_ hk
  exact⟨b,off,r,ha,hx,hc,hc 0 _ rfl,hc 1 _ rfl,hc 2 _ rfl,h.2 r (List.mem_of_getElem? hx)⟩
theorem mfault_head {r:PR} {l seen:List PR}:jW seen (r :: l)=if okR r=false then 1 else if seen.any (mZ r) then 3 else jW (seen ++ [r]) l:=rfl
theorem bdR_of {r:PR} (h:okR r=true):bdR r:=(okR_iff r).1 h
theorem qL {α:Type} {xs:List α} {k:Nat} {x:α} (h:xs[k]?=some x):xs.take (k+1)=xs.take k ++ [x]:=by rw [List.take_add_one,h];rfl
theorem okR_of {r:PR} (h1:0≤r.i∧r.i≤65535∧1≤r.c∧r.c - 1≤65535 - r.i) (h2:0≤r.o∧r.o≤65535∧1≤r.c∧r.c - 1≤65535 - r.o):okR r=true:=by
  rw [okR_iff];unfold bdR;omega
theorem okR_not {r:PR} (h:¬((0≤r.i∧r.i≤65535∧1≤r.c∧r.c - 1≤65535 - r.i)∧(0≤r.o∧r.o≤65535∧1≤r.c∧r.c - 1≤65535 - r.o))):okR r=false:=by
  cases hb:okR r
  · rfl
  · rw [okR_iff] at hb;unfold bdR at hb;omega
theorem meetR_iff (r s:PR):mZ r s=true↔(r.i<s.i+s.c∧s.i<r.i+r.c)∨(r.o<s.o+s.c∧s.o<r.o+r.c):=by
  simp [mZ,meetsZ]
theorem any_snoc {xs:List PR} {j:Nat} {r s:PR} (h:xs[j]?=some s) (h1:(xs.take j).any (mZ r)=false) (h2:mZ r s=false):(xs.take (j+1)).any (mZ r)=false:=by
  rw [qL h,List.any_append,h1];simp [h2]
theorem any_hit {xs:List PR} {j k:Nat} {r s:PR} (h:xs[j]?=some s) (hj:j<k) (h2:mZ r s=true):(xs.take k).any (mZ r)=true:=by
  rw [List.any_eq_true]
  exact⟨s,List.mem_of_getElem? (i:=j) (by rw [List.getElem?_take,if_pos hj];exact h),h2⟩
attribute [local irreducible] AtQ GoC GoL GoW QO QP Fn RV bL aG VLe bR bK
theorem fits_c (V:aD) (f n:Int) (hn:n≤9223372036854775807):Fn Tryz.prog 136 [.int .i64 f,.int .i64 n] V fun v _=>v=.bool (decide (0≤f∧f≤65535∧1≤n∧n - 1≤65535 - f)):=by
  (refine aI Tryz.func136 rfl Tryz.ntmps136 rfl ?_;intro w0)
  repeat' (first|(refine aE ?_;refine pu9 ?_)|refine eE ?_|(refine aJ rfl rfl rfl ?_ ?_<;>intro hq<;>try exact no9)|(refine bS rfl rfl rfl ?_ ?_<;>intro hq)|(refine aA rfl ?_ ?_<;>intro hq<;>try exact no9)|(refine bM rfl ?_ ?_<;>intro hq))
  all_goals (refine aM Tryz.results136 (aB rfl) ?_)
  all_goals first|rfl|(refine congrArg Value.bool ?_;first|exact(decide_eq_true (by omega)).symm|exact(decide_eq_false (by omega)).symm|exact decide_eq_decide.2 (by omega))
theorem meets_c (V:aD) (a n b m:Int) (h1:0≤b+m∧b+m≤9223372036854775807) (h2:0≤a+n∧a+n≤9223372036854775807):Fn Tryz.prog 137 [.int .i64 a,.int .i64 n,.int .i64 b,.int .i64 m] V fun v _=>v=.bool (decide (a<b+m∧b<a+n)):=by
  (refine aI Tryz.func137 rfl Tryz.ntmps137 rfl ?_;intro w0)
  repeat' (first|(refine aE ?_;refine pu9 ?_)|refine eE ?_|(refine aJ rfl rfl rfl ?_ ?_<;>intro hq<;>try exact no9)|(refine bS rfl rfl rfl ?_ ?_<;>intro hq)|(refine aA rfl ?_ ?_<;>intro hq<;>try exact no9)|(refine bM rfl ?_ ?_<;>intro hq))
  all_goals (refine aM Tryz.results137 (aB rfl) ?_)
  all_goals first|rfl|(refine congrArg Value.bool ?_;first|exact(decide_eq_true (by omega)).symm|exact(decide_eq_false (by omega)).symm|exact decide_eq_decide.2 (by omega))
theorem span_c (V:aD) (f n:Int):Fn Tryz.prog 130 [.int .i64 f,.int .i64 n] V fun v _=>v=.tuple #[.int .i64 (if 0≤f∧f≤65535∧1≤n∧n - 1≤65535 - f then f else 0),.int .i64 (if 0≤f∧f≤65535∧1≤n∧n - 1≤65535 - f then f+n - 1 else 0),.bool (decide (0≤f∧f≤65535∧1≤n∧n - 1≤65535 - f))]:=by
  (refine aI Tryz.func130 rfl Tryz.ntmps130 rfl ?_;intro w0)
  repeat' (first|(refine aE ?_;refine pu9 ?_)|refine cX ?_|(refine aJ rfl rfl rfl ?_ ?_<;>intro hq<;>try exact no9)|(refine aA rfl ?_ ?_<;>intro hq<;>try exact no9))
  all_goals (refine fV Tryz.results130 (aB rfl) (aB rfl) (aB rfl) ?_)
  all_goals first
    | (rw [if_pos (by omega),if_pos (by omega),decide_eq_true (by omega)];done)
    | (rw [if_neg (by omega),if_neg (by omega),decide_eq_false (by omega)];done)
theorem common_c (V:aD) (a n b m:Int) (h1:0≤b+m∧b+m≤9223372036854775807) (h2:0≤a+n∧a+n≤9223372036854775807):Fn Tryz.prog 131 [.int .i64 a,.int .i64 n,.int .i64 b,.int .i64 m] V fun v _=>v=.bool (decide (a<b+m∧b<a+n)):=by
  (refine aI Tryz.func131 rfl Tryz.ntmps131 rfl ?_;intro w0)
  repeat' (first|(refine aE ?_;refine pu9 ?_)|refine cC ?_|(refine aJ rfl rfl rfl ?_ ?_<;>intro hq<;>try exact no9))
  all_goals (refine aM Tryz.results131 (aB rfl) ?_)
  all_goals first|rfl|(refine congrArg Value.bool ?_;first|exact(decide_eq_true (by omega)).symm|exact(decide_eq_false (by omega)).symm|exact decide_eq_decide.2 (by omega))
theorem ToHost1_c (V:aD) (r:PR):Fn Tryz.prog 141 [.agg (prC r).toArray] V fun v _=>v=.tuple #[.int .i64 r.i,.int .i64 r.o]:=by
  (refine aI Tryz.func141 rfl Tryz.ntmps141 rfl ?_;intro w0)
  repeat' (first|(refine aE ?_;first|(refine al9 ?_;intro γ)|refine pu9 ?_)|refine cC ?_|refine bQ (id:=1) mixed (by kernel_rfl) ?_)
  all_goals (refine bB Tryz.results141 (aB rfl) (aB rfl) ?_)
  all_goals rfl
theorem FromHost1_c (V:aD) (r:PR):Fn Tryz.prog 255 [.agg (prC r).toArray] V fun v _=>v=.tuple #[.int .i64 r.o,.int .i64 r.i]:=by
  (refine aI Tryz.func255 rfl Tryz.ntmps255 rfl ?_;intro w0)
  repeat' (first|(refine aE ?_;first|(refine al9 ?_;intro γ)|refine pu9 ?_)|refine cC ?_|refine bQ (id:=1) mixed (by kernel_rfl) ?_)
  all_goals (refine bB Tryz.results255 (aB rfl) (aB rfl) ?_)
  all_goals rfl
end
section
attribute [local irreducible] AtQ GoC GoL GoW QO QP Fn RV bL aG VLe bR bK
theorem uF (xs:List PR):0≤cE xs∧cE xs≤3:=by
  have h:∀ (l seen:List PR),0≤jW seen l∧jW seen l≤3:=by
    intro l
    induction l with
    | nil=>intro seen;simp [jW]
    | cons r l ih =>
      intro seen
      rw [jW]
      (repeat' split)<;>first|omega|exact ih _
  unfold cE
  split
  · omega
  · exact h _ _
theorem xO (V:aD) (A:Option Addr) (n c:Nat) (xs:List PR) (h:sD V A n xs) (hcap:n≤c):Fn Tryz.prog 62 [.slice A n c] V fun v _=>v=bK (cE xs):=by
  have hm:=h.1.max
  have hl:=h.1.1
  (refine aI Tryz.func62 rfl Tryz.ntmps62 rfl ?_;intro w0)
  repeat' (first|(refine aE ?_;refine pu9 ?_)|refine bY ?_|(refine aA rfl ?_ ?_<;>intro hq<;>try exact no9))
  all_goals try ((refine aM Tryz.results62 (aB rfl) ?_);refine cQ 2 (by unfold cE;rw [if_pos (by omega)]))
  have hr:cE xs=jW [] xs:=by unfold cE;rw [if_neg (by omega)]
  rw [hr]
  refine bN (fun F V' L' m=>∃ k:Nat,k≤n∧m=n - k∧V=V'∧L'=[]∧jW [] xs=jW (xs.take k) (xs.drop k)∧(∀ r∈xs.take k,bdR r)∧F=[(0,.slice A n c),(11,.slice A n c),(12,.int .i64 n),(13,.int .i64 k)]) (m:=n) ⟨0,Nat.zero_le _,by omega,rfl,rfl,by simp,by simp,rfl⟩ bH rfl sl9 ?_
  rintro F V' L' m ⟨k,hk,rfl,rfl,rfl,hg,hb,rfl⟩
  by_cases hlt:k<n
  · obtain⟨bb,off,r,rfl,hx,hc,c0,c1,c2,hr64⟩:=h.at_ hlt
    unfold inR64 at hr64
    rw [hg,jO hx,mfault_head]
    repeat' (first|(refine aE ?_;first|(refine aC ?_;refine aP rfl (aK ⟨Tryz.call136⟩ rfl (fits_c _ _ _ (by omega))) ?_)|(refine eG ?_;(first|refine aO (cT und_22 siz_197 rfl rfl (by omega)) ?_|refine aO (eR und_22 siz_197 rfl rfl (by omega)) ?_))|refine st9 ?_|(refine al9 ?_;intro γ)|refine pu9 ?_)|refine dG ?_|(refine aJ rfl rfl rfl ?_ ?_<;>intro hq<;>try exact no9)|(refine aA rfl ?_ ?_<;>intro hq<;>try exact no9))
    all_goals try ((refine aM Tryz.results62 (aB rfl) ?_);exact cQ 1 (by rw [if_pos (okR_not (by omega))]))
    · have hok:okR r=true:=okR_of (by omega) (by omega)
      have hbr:=bdR_of hok
      have hbr':=hbr
      unfold bdR at hbr
      rw [if_neg (by simp [hok])]
      refine bN (fun F V' L' m=>∃ j:Nat,j≤k∧m=k - j∧V=V'∧L'=[⟨γ,_,prC r⟩]∧(xs.take j).any (mZ r)=false∧F=[(0,.slice (some ⟨bb,off,none⟩) n c),(4,.pointer (some ⟨γ,0,none⟩)),(11,.slice (some ⟨bb,off,none⟩) n c),(12,.int .i64 n),(13,.int .i64 k),(35,.slice (some ⟨bb,off,none⟩) k c),(36,.int .i64 k),(37,.int .i64 j)]) (m:=k) ⟨0,Nat.zero_le _,by omega,rfl,rfl,by simp,rfl⟩ bH rfl sl9 ?_
      rintro F V' L' m ⟨j,hj,rfl,rfl,rfl,ha,rfl⟩
      by_cases hjk:j<k
      · obtain⟨bb',off',s,he,hy,hd,d0,d1,d2,hs64⟩:=h.at_ (k:=j) (by omega)
        cases he
        have hbs:bdR s:=hb s (List.mem_of_getElem? (i:=j) (by rw [List.getElem?_take,if_pos hjk];exact hy))
        unfold bdR at hbs
        have hmi:=meetR_iff r s
        repeat' (first|(refine aE ?_;first|(refine aC ?_;refine aP rfl (aK ⟨Tryz.call137⟩ rfl (meets_c _ _ _ _ _ (by omega) (by omega))) ?_)|refine st9 ?_|(refine al9 ?_;intro γ)|refine pu9 ?_)|refine dG ?_|(refine aJ rfl rfl rfl ?_ ?_<;>intro hq<;>try exact no9)|(refine aA rfl ?_ ?_<;>intro hq<;>try exact no9))
        all_goals try ((refine aM Tryz.results62 (aB rfl) ?_);exact cQ 3 (by rw [if_pos (any_hit hy hjk (hmi.2 (by omega)))]))
        · refine aX _ (k - (j+1)) ⟨j+1,by omega,rfl,rfl,rfl,any_snoc hy ha ?_,rfl⟩ (by omega) bH sl9
          cases hmb:mZ r s
          · rfl
          · rw [hmi] at hmb;omega
      · have hjk:j=k:=by omega
        subst hjk
        repeat' (first|(refine aE ?_;refine pu9 ?_)|refine dT ?_|(refine aA rfl ?_ ?_<;>intro hq<;>try exact no9))
        refine aX _ (n - (j+1)) ⟨j+1,by omega,rfl,rfl,rfl,?_,?_,rfl⟩ (by omega) bH sl9
        · rw [ha,if_neg (by simp),qL hx]
        · rw [qL hx]
          intro s hs
          rcases List.mem_append.1 hs with hs|hs
          · exact hb s hs
          · simp at hs;subst hs;exact hbr'
  · repeat' (first|(refine aE ?_;refine pu9 ?_)|refine dT ?_|(refine aA rfl ?_ ?_<;>intro hq<;>try exact no9))
    (refine aM Tryz.results62 (aB rfl) ?_)
    rw [hg,List.drop_eq_nil_of_le (by omega)]
    exact xJ rfl
theorem mL (V:aD) (A:Option Addr) (n c:Nat) (xs:List PR) (h:sD V A n xs):Fn Tryz.prog 58 [.slice A n c] V fun v _=>v=.int .i64 (cE xs):=by
  have hm:=h.1.max
  have hl:=h.1.1
  (refine aI Tryz.func58 rfl Tryz.ntmps58 rfl ?_;intro w0)
  repeat' (first|(refine aE ?_;refine pu9 ?_)|refine bY ?_|(refine aA rfl ?_ ?_<;>intro hq<;>try exact no9))
  all_goals try ((refine aM Tryz.results58 (aB rfl) ?_);rw [show cE xs=2 by unfold cE;rw [if_pos (by omega)]])
  have hr:cE xs=jW [] xs:=by unfold cE;rw [if_neg (by omega)]
  rw [hr]
  refine bN (fun F V' L' m=>∃ k:Nat,k≤n∧m=n - k∧V=V'∧L'=[]∧jW [] xs=jW (xs.take k) (xs.drop k)∧(∀ r∈xs.take k,bdR r)∧F=[(0,.slice A n c),(3,.int .i64 k)]) (m:=n) ⟨0,Nat.zero_le _,by omega,rfl,rfl,by simp,by simp,rfl⟩ bH rfl sl9 ?_
  rintro F V' L' m ⟨k,hk,rfl,rfl,rfl,hg,hb,rfl⟩
  by_cases hlt:k<n
  · obtain⟨bb,off,r,rfl,hx,hc,c0,c1,c2,hr64⟩:=h.at_ hlt
    unfold inR64 at hr64
    rw [hg,jO hx,mfault_head]
    repeat' (first|(refine aE ?_;first|(refine aC ?_;refine aP rfl (aK ⟨Tryz.call130⟩ rfl (span_c _ _ _)) ?_)|refine pu9 ?_)|refine dG ?_|(refine aJ rfl rfl rfl ?_ ?_<;>intro hq<;>try exact no9)|(refine aA rfl ?_ ?_<;>intro hq<;>try exact no9)|refine bQ (id:=6) mixed (by kernel_rfl) ?_|refine bQ (id:=7) mixed (by kernel_rfl) ?_)
    all_goals try ((refine aM Tryz.results58 (aB rfl) ?_);rw [if_pos (okR_not (by omega))])
    · have hok:okR r=true:=okR_of (by omega) (by omega)
      have hbr:=bdR_of hok
      have hbr':=hbr
      unfold bdR at hbr
      rw [if_neg (by simp [hok])]
      refine bN (fun F V' L' m=>∃ j:Nat,j≤k∧m=k - j∧V=V'∧L'=[]∧(xs.take j).any (mZ r)=false∧F=[(0,.slice (some ⟨bb,off,none⟩) n c),(3,.int .i64 k),(10,.int .i64 j)]) (m:=k) ⟨0,Nat.zero_le _,by omega,rfl,rfl,by simp,rfl⟩ bH rfl sl9 ?_
      rintro F V' L' m ⟨j,hj,rfl,rfl,rfl,ha,rfl⟩
      by_cases hjk:j<k
      · obtain⟨bb',off',s,he,hy,hd,d0,d1,d2,hs64⟩:=h.at_ (k:=j) (by omega)
        cases he
        have hbs:bdR s:=hb s (List.mem_of_getElem? (i:=j) (by rw [List.getElem?_take,if_pos hjk];exact hy))
        unfold bdR at hbs
        have hmi:=meetR_iff r s
        repeat' (first|(refine aE ?_;first|(refine aC ?_;refine aP rfl (aK ⟨Tryz.call131⟩ rfl (common_c _ _ _ _ _ (by omega) (by omega))) ?_)|refine pu9 ?_)|refine dG ?_|(refine aJ rfl rfl rfl ?_ ?_<;>intro hq<;>try exact no9)|(refine aA rfl ?_ ?_<;>intro hq<;>try exact no9)|refine bQ (id:=13) mixed (by kernel_rfl) ?_)
        all_goals try ((refine aM Tryz.results58 (aB rfl) ?_);rw [if_pos (any_hit hy hjk (hmi.2 (by omega)))])
        · refine aX _ (k - (j+1)) ⟨j+1,by omega,rfl,rfl,rfl,any_snoc hy ha ?_,rfl⟩ (by omega) bH sl9
          cases hmb:mZ r s
          · rfl
          · rw [hmi] at hmb;omega
      · have hjk:j=k:=by omega
        subst hjk
        repeat' (first|(refine aE ?_;refine pu9 ?_)|refine dT ?_|(refine aA rfl ?_ ?_<;>intro hq<;>try exact no9))
        refine aX _ (n - (j+1)) ⟨j+1,by omega,rfl,rfl,rfl,?_,?_,rfl⟩ (by omega) bH sl9
        · rw [ha,if_neg (by simp),qL hx]
        · rw [qL hx]
          intro s hs
          rcases List.mem_append.1 hs with hs|hs
          · exact hb s hs
          · simp at hs;subst hs;exact hbr'
  · repeat' (first|(refine aE ?_;refine pu9 ?_)|refine dT ?_|(refine aA rfl ?_ ?_<;>intro hq<;>try exact no9))
    (refine aM Tryz.results58 (aB rfl) ?_)
    rw [hg,List.drop_eq_nil_of_le (by omega)]
    rfl
end
section
def qC (o:Option Int):Value:=.tuple #[.int .i64 (o.getD 0),.bool o.isSome]
def eS (xs:List PR) (x:Int):Option Int:=if cE xs=0 then kU xs x else none
def kE (xs:List PR) (x:Int):Option Int:=if cE xs=0 then kU (xs.map PR.swap) x else none
theorem look_hit {r:PR} {l:List PR} {x:Int} (h:r.i≤x∧x<r.i+r.c):kU (r :: l) x=some (r.o+(x - r.i)):=by rw [kU,if_pos h]
theorem look_miss {r:PR} {l:List PR} {x:Int} (h:¬(r.i≤x∧x<r.i+r.c)):kU (r :: l) x=kU l x:=by rw [kU,if_neg h]
theorem vC {o:Option Int} {y z:Int} (h:o=some y) (e:z=y):Value.tuple #[.int .i64 z,.bool true]=qC o:=by subst h e;rfl
theorem rU {o:Option Int} (h:o=none):Value.tuple #[.int .i64 0,.bool false]=qC o:=by subst h;rfl
attribute [local irreducible] AtQ GoC GoL GoW QO QP Fn RV bL aG VLe bR bK
theorem outside_c (V:aD) (A:Option Addr) (n c:Nat) (xs:List PR) (h:sD V A n xs) (hb:∀ r∈xs,bdR r) (x:Int):Fn Tryz.prog 223 [.slice A n c,.int .i64 x] V fun v _=>v=qC (kU xs x):=by
  have hm:=h.1.max
  have hl:=h.1.1
  (refine aI Tryz.func223 rfl Tryz.ntmps223 rfl ?_;intro w0)
  repeat' (first|(refine aE ?_;refine pu9 ?_)|refine bY ?_|fail)
  refine bN (fun F V' L' m=>∃ k:Nat,k≤n∧m=n - k∧V=V'∧L'=[]∧kU xs x=kU (xs.drop k) x∧F=[(0,.slice A n c),(1,.int .i64 x),(6,.int .i64 k)]) (m:=n) ⟨0,Nat.zero_le _,by omega,rfl,rfl,by simp,rfl⟩ bH rfl sl9 ?_
  rintro F V' L' m ⟨k,hk,rfl,rfl,rfl,hg,rfl⟩
  by_cases hlt:k<n
  · obtain⟨bb,off,r,rfl,hx,hc,c0,c1,c2,hr64⟩:=h.at_ hlt
    have hbr:=hb r (List.mem_of_getElem? hx)
    unfold bdR at hbr
    have e1:(0≤r.i∧r.i≤65535∧1≤r.c∧r.c - 1≤65535 - r.i)=True:=eq_true (by omega)
    have hsp:=span_c V r.i r.c
    simp only [e1,if_true,decide_true] at hsp
    rw [hg,jO hx]
    repeat' (first|(refine aE ?_;first|(refine aC ?_;refine aP rfl (aK ⟨Tryz.call130⟩ rfl (hsp)) ?_)|refine pu9 ?_)|refine dG ?_|(refine aJ rfl rfl rfl ?_ ?_<;>intro hq<;>try exact no9)|(refine aA rfl ?_ ?_<;>intro hq<;>try exact no9)|refine bQ (id:=4) mixed (by kernel_rfl) ?_)
    all_goals try ((refine bB Tryz.results223 (aB rfl) (aB rfl) ?_);exact vC (look_hit (by omega)) (by omega))
    all_goals
      refine aX _ (n - (k+1)) ⟨k+1,by omega,rfl,rfl,rfl,?_,rfl⟩ (by omega) bH sl9
      rw [look_miss (by omega)]
  · repeat' (first|(refine aE ?_;refine pu9 ?_)|refine dT ?_|(refine aA rfl ?_ ?_<;>intro hq<;>try exact no9))
    (refine bB Tryz.results223 (aB rfl) (aB rfl) ?_)
    rw [hg,List.drop_eq_nil_of_le (by omega)]
    exact rU rfl
theorem inside_c (V:aD) (A:Option Addr) (n c:Nat) (xs:List PR) (h:sD V A n xs) (hb:∀ r∈xs,bdR r) (x:Int):Fn Tryz.prog 222 [.slice A n c,.int .i64 x] V fun v _=>v=qC (kU (xs.map PR.swap) x):=by
  have hm:=h.1.max
  have hl:=h.1.1
  (refine aI Tryz.func222 rfl Tryz.ntmps222 rfl ?_;intro w0)
  repeat' (first|(refine aE ?_;refine pu9 ?_)|refine bY ?_|fail)
  refine bN (fun F V' L' m=>∃ k:Nat,k≤n∧m=n - k∧V=V'∧L'=[]∧kU (xs.map PR.swap) x=kU ((xs.drop k).map PR.swap) x∧F=[(0,.slice A n c),(1,.int .i64 x),(6,.int .i64 k)]) (m:=n) ⟨0,Nat.zero_le _,by omega,rfl,rfl,by simp,rfl⟩ bH rfl sl9 ?_
  rintro F V' L' m ⟨k,hk,rfl,rfl,rfl,hg,rfl⟩
  by_cases hlt:k<n
  · obtain⟨bb,off,r,rfl,hx,hc,c0,c1,c2,hr64⟩:=h.at_ hlt
    have hbr:=hb r (List.mem_of_getElem? hx)
    unfold bdR at hbr
    have e1:(0≤r.o∧r.o≤65535∧1≤r.c∧r.c - 1≤65535 - r.o)=True:=eq_true (by omega)
    have hsp:=span_c V r.o r.c
    simp only [e1,if_true,decide_true] at hsp
    rw [hg,jO hx,List.map_cons]
    repeat' (first|(refine aE ?_;first|(refine aC ?_;refine aP rfl (aK ⟨Tryz.call130⟩ rfl (hsp)) ?_)|refine pu9 ?_)|refine dG ?_|(refine aJ rfl rfl rfl ?_ ?_<;>intro hq<;>try exact no9)|(refine aA rfl ?_ ?_<;>intro hq<;>try exact no9)|refine bQ (id:=4) mixed (by kernel_rfl) ?_)
    all_goals try ((refine bB Tryz.results222 (aB rfl) (aB rfl) ?_);exact vC (look_hit (by simp only [PR.swap];omega)) (by simp only [PR.swap]))
    all_goals
      refine aX _ (n - (k+1)) ⟨k+1,by omega,rfl,rfl,rfl,?_,rfl⟩ (by omega) bH sl9
      rw [look_miss (by simp only [PR.swap];omega)]
  · repeat' (first|(refine aE ?_;refine pu9 ?_)|refine dT ?_|(refine aA rfl ?_ ?_<;>intro hq<;>try exact no9))
    (refine bB Tryz.results222 (aB rfl) (aB rfl) ?_)
    rw [hg,List.drop_eq_nil_of_le (by omega)]
    exact rU rfl
theorem qF (V:aD) (A:Option Addr) (n c:Nat) (xs:List PR) (h:sD V A n xs) (x:Int):Fn Tryz.prog 135 [.slice A n c,.int .i64 x] V fun v _=>v=qC (eS xs x):=by
  have hbd:=uF xs
  (refine aI Tryz.func135 rfl Tryz.ntmps135 rfl ?_;intro w0)
  by_cases h0:cE xs=0
  · repeat' (first|(refine aE ?_;first|(refine aC ?_;(first|refine aP rfl (aK ⟨Tryz.call58⟩ rfl (mL _ _ _ _ xs h)) ?_|refine aP rfl (aK ⟨Tryz.call223⟩ rfl (outside_c _ _ _ _ xs h (mF h0).2.1 x)) ?_))|refine pu9 ?_)|refine eE ?_|(refine aJ rfl rfl rfl ?_ ?_<;>intro hq<;>try exact no9)|(refine bS rfl rfl rfl ?_ ?_<;>intro hq)|(refine aA rfl ?_ ?_<;>intro hq<;>try exact no9)|(refine bM rfl ?_ ?_<;>intro hq))
    all_goals (refine bB Tryz.results135 (aB rfl) (aB rfl) ?_)
    all_goals (rw [eS,if_pos h0];rfl)
  · repeat' (first|(refine aE ?_;first|(refine aC ?_;refine aP rfl (aK ⟨Tryz.call58⟩ rfl (mL _ _ _ _ xs h)) ?_)|refine pu9 ?_)|refine eE ?_|(refine aJ rfl rfl rfl ?_ ?_<;>intro hq<;>try exact no9)|(refine bS rfl rfl rfl ?_ ?_<;>intro hq)|(refine aA rfl ?_ ?_<;>intro hq<;>try exact no9)|(refine bM rfl ?_ ?_<;>intro hq))
    all_goals (refine bB Tryz.results135 (aB rfl) (aB rfl) ?_)
    all_goals (rw [eS,if_neg h0];rfl)
theorem fI (V:aD) (A:Option Addr) (n c:Nat) (xs:List PR) (h:sD V A n xs) (x:Int):Fn Tryz.prog 134 [.slice A n c,.int .i64 x] V fun v _=>v=qC (kE xs x):=by
  have hbd:=uF xs
  (refine aI Tryz.func134 rfl Tryz.ntmps134 rfl ?_;intro w0)
  by_cases h0:cE xs=0
  · repeat' (first|(refine aE ?_;first|(refine aC ?_;(first|refine aP rfl (aK ⟨Tryz.call58⟩ rfl (mL _ _ _ _ xs h)) ?_|refine aP rfl (aK ⟨Tryz.call222⟩ rfl (inside_c _ _ _ _ xs h (mF h0).2.1 x)) ?_))|refine pu9 ?_)|refine eE ?_|(refine aJ rfl rfl rfl ?_ ?_<;>intro hq<;>try exact no9)|(refine bS rfl rfl rfl ?_ ?_<;>intro hq)|(refine aA rfl ?_ ?_<;>intro hq<;>try exact no9)|(refine bM rfl ?_ ?_<;>intro hq))
    all_goals (refine bB Tryz.results134 (aB rfl) (aB rfl) ?_)
    all_goals (rw [kE,if_pos h0];rfl)
  · repeat' (first|(refine aE ?_;first|(refine aC ?_;refine aP rfl (aK ⟨Tryz.call58⟩ rfl (mL _ _ _ _ xs h)) ?_)|refine pu9 ?_)|refine eE ?_|(refine aJ rfl rfl rfl ?_ ?_<;>intro hq<;>try exact no9)|(refine bS rfl rfl rfl ?_ ?_<;>intro hq)|(refine aA rfl ?_ ?_<;>intro hq<;>try exact no9)|(refine bM rfl ?_ ?_<;>intro hq))
    all_goals (refine bB Tryz.results134 (aB rfl) (aB rfl) ?_)
    all_goals (rw [kE,if_neg h0];rfl)
theorem through_c (V:aD) (A:Option Addr) (n c:Nat) (xs:List PR) (h:sD V A n xs) (hcap:n≤c) (x:Int) (f:FuncId) (g:PR→PR) (he:jV Tryz.prog f) (hg1:∀ r,(g r).c=r.c) (hg2:∀ r,bdR r→bdR (g r))
    (hs:∀ V r,Fn Tryz.prog f [.agg (prC r).toArray] V fun v _=>v=.tuple #[.int .i64 (g r).i,.int .i64 (g r).o]) :
    Fn Tryz.prog 140 [.slice A n c,.int .i64 x,.func (.func f) #[] #[]] V fun v _=>v=qC (if cE xs=0 then kU (xs.map g) x else none):=by
  have hm:=h.1.max
  have hl:=h.1.1
  (refine aI Tryz.func140 rfl Tryz.ntmps140 rfl ?_;intro w0)
  by_cases h0:cE xs=0
  · rw [if_pos h0]
    have hb:=(mF h0).2.1
    repeat' (first|(refine aE ?_;first|(refine aC ?_;refine aP rfl (aK ⟨Tryz.call62⟩ rfl (xO _ _ _ _ xs h hcap)) ?_)|refine pu9 ?_)|refine bY ?_|(refine aA rfl ?_ ?_<;>intro hq<;>try exact no9))
    refine bN (fun F V' L' m=>∃ k:Nat,k≤n∧m=n - k∧V=V'∧L'=[]∧kU (xs.map g) x=kU ((xs.drop k).map g) x∧F=[(1,.int .i64 x),(2,.func (.func f) #[] #[]),(15,.slice A n c),(16,.int .i64 n),(17,.int .i64 k)]) (m:=n) ⟨0,Nat.zero_le _,by omega,rfl,rfl,by simp,rfl⟩ bH rfl sl9 ?_
    rintro F V' L' m ⟨k,hk,rfl,rfl,rfl,hg,rfl⟩
    by_cases hlt:k<n
    · obtain⟨bb,off,r,rfl,hx,hc,c0,c1,c2,hr64⟩:=h.at_ hlt
      have hbr:=hb r (List.mem_of_getElem? hx)
      have hbg:=hg2 r hbr
      have hgc:=hg1 r
      unfold bdR at hbr hbg
      rw [hg,jO hx,List.map_cons]
      repeat' (first|(refine aE ?_;first|(refine aC ?_;refine aP rfl (iY he rfl rfl (hs _ r)) ?_)|refine st9 ?_|(refine al9 ?_;intro γ)|refine pu9 ?_)|refine dG ?_|(refine aJ rfl rfl rfl ?_ ?_<;>intro hq<;>try exact no9)|(refine aA rfl ?_ ?_<;>intro hq<;>try exact no9))
      all_goals try ((refine bB Tryz.results140 (aB rfl) (aB rfl) ?_);exact vC (look_hit (by omega)) (by omega))
      all_goals
        refine aX _ (n - (k+1)) ⟨k+1,by omega,rfl,rfl,rfl,?_,rfl⟩ (by omega) bH sl9
        rw [look_miss (by omega)]
    · repeat' (first|(refine aE ?_;refine pu9 ?_)|refine dT ?_|(refine aA rfl ?_ ?_<;>intro hq<;>try exact no9))
      (refine bB Tryz.results140 (aB rfl) (aB rfl) ?_)
      rw [hg,List.drop_eq_nil_of_le (by omega)]
      exact rU rfl
  · rw [if_neg h0]
    repeat' (first|(refine aE ?_;first|(refine aC ?_;refine aP rfl (aK ⟨Tryz.call62⟩ rfl (xO _ _ _ _ xs h hcap)) ?_)|refine pu9 ?_)|refine cC ?_|(refine aA rfl ?_ ?_<;>intro hq<;>try exact no9))
    all_goals (refine bB Tryz.results140 (aB rfl) (aB rfl) ?_)
    all_goals exact rU rfl
theorem lJ (V:aD) (A:Option Addr) (n c:Nat) (xs:List PR) (h:sD V A n xs) (hcap:n≤c) (x:Int):Fn Tryz.prog 66 [.slice A n c,.int .i64 x] V fun v _=>v=qC (eS xs x):=by
  have ht:=through_c V A n c xs h hcap x 141 (fun r=>r) ⟨Tryz.call141⟩ (fun _=>rfl) (fun _ hr=>hr) (fun V r=>ToHost1_c V r)
  rw [show (xs.map fun r=>r)=xs by simp] at ht
  (refine aI Tryz.func66 rfl Tryz.ntmps66 rfl ?_;intro w0)
  repeat' (first|(refine aE ?_;first|(refine aC ?_;refine aP rfl (aK ⟨Tryz.call140⟩ rfl (ht)) ?_)|refine pu9 ?_)|refine eE ?_|(refine aJ rfl rfl rfl ?_ ?_<;>intro hq<;>try exact no9)|(refine bS rfl rfl rfl ?_ ?_<;>intro hq)|(refine aA rfl ?_ ?_<;>intro hq<;>try exact no9)|(refine bM rfl ?_ ?_<;>intro hq))
  all_goals (refine bB Tryz.results66 (aB rfl) (aB rfl) ?_)
  all_goals rfl
theorem kJ (V:aD) (A:Option Addr) (n c:Nat) (xs:List PR) (h:sD V A n xs) (hcap:n≤c) (x:Int):Fn Tryz.prog 206 [.slice A n c,.int .i64 x] V fun v _=>v=qC (kE xs x):=by
  have ht:=through_c V A n c xs h hcap x 255 PR.swap ⟨Tryz.call255⟩ (fun _=>rfl) (fun _ hr=>swap_bd hr) (fun V r=>FromHost1_c V r)
  (refine aI Tryz.func206 rfl Tryz.ntmps206 rfl ?_;intro w0)
  repeat' (first|(refine aE ?_;first|(refine aC ?_;refine aP rfl (aK ⟨Tryz.call140⟩ rfl (ht)) ?_)|refine pu9 ?_)|refine eE ?_|(refine aJ rfl rfl rfl ?_ ?_<;>intro hq<;>try exact no9)|(refine bS rfl rfl rfl ?_ ?_<;>intro hq)|(refine aA rfl ?_ ?_<;>intro hq<;>try exact no9)|(refine bM rfl ?_ ?_<;>intro hq))
  all_goals (refine bB Tryz.results206 (aB rfl) (aB rfl) ?_)
  all_goals rfl
end
section
def hz (out:Bool) (m:List PR) (x:Int):Option Int:=if out=true then eS m x else kE m x
def cS (out:Bool) (us gs:List PR) (n:PN):Option PN :=
  match hz out us n.h.user,hz out gs n.h.group with
  | some u,some g=>some (.mk { n.h with user:=u,group:=g } n.ks)
  | _,_=>none
theorem mD {out:Bool} {us gs:List PR} {n:PN} {u g:Int} (h1:hz out us n.h.user=some u) (h2:hz out gs n.h.group=some g):cS out us gs n=some (.mk { n.h with user:=u,group:=g } n.ks):=by unfold cS;rw [h1,h2]
theorem qU {out:Bool} {us gs:List PR} {n:PN} (h1:hz out us n.h.user=none):cS out us gs n=none:=by unfold cS;rw [h1]
theorem qH {out:Bool} {us gs:List PR} {n:PN} (h1:hz out gs n.h.group=none):cS out us gs n=none:=by unfold cS;rw [h1];cases hz out us n.h.user<;>rfl
def movF (r:Option PN):Int:=if r.isSome=true then 0 else 11
def nD (n:PN):PN:=.mk { n.h with opq:=false } []
def nA (l:List PN) (us gs:List PR) (ss:List ByteArray) (u:PN):PN×Int :=
  match cR l ss with
  | []=>(u,0)
  | f :: _=>if f.2=0 then (u,0) else match cS true us gs (nD f.1) with
    | none=>(pnZ,11)
    | some x=>if pF false x u ss=0 then (pN false x u ss,0) else (pnZ,pF false x u ss)
def upK (l:List PN) (us gs:List PR) (ss:List ByteArray) (u0:PN):Nat→PN×Int
  | 0=>(u0,0)
  | i+1=>if (upK l us gs ss u0 i).2=0 then nA l us gs (ss.take (i+1)) (upK l us gs ss u0 i).1 else upK l us gs ss u0 i
theorem upK_stop {l:List PN} {us gs:List PR} {ss:List ByteArray} {u0:PN} {i:Nat} (h:¬(upK l us gs ss u0 i).2=0):∀ d,upK l us gs ss u0 (i+d)=upK l us gs ss u0 i
  | 0=>rfl
  | d+1=>by
    have:=upK_stop h d
    rw [←Nat.add_assoc,upK,this,if_neg h]
theorem upK_on {l:List PN} {us gs:List PR} {ss:List ByteArray} {u0:PN} {i:Nat} (h:(upK l us gs ss u0 i).2=0):upK l us gs ss u0 (i+1)=nA l us gs (ss.take (i+1)) (upK l us gs ss u0 i).1:=by rw [upK,if_pos h]
def upP (l:List PN) (us gs:List PR) (ss:List ByteArray):PN×Int :=
  if cR l ss=[] then (pnZ,5) else upK l us gs ss (l.headD pnZ) ss.length
theorem upOne_bd (l:List PN) (us gs:List PR) (ss:List ByteArray) (u:PN):0≤(nA l us gs ss u).2∧(nA l us gs ss u).2≤11:=by
  unfold nA
  split
  · simp
  · split
    · simp
    · split
      · simp
      · rename_i x _
        have:=pF_bd false x ss u
        split
        · simp
        · simp only [];omega
theorem upK_bd (l:List PN) (us gs:List PR) (ss:List ByteArray) (u0:PN):∀ i,0≤(upK l us gs ss u0 i).2∧(upK l us gs ss u0 i).2≤11
  | 0=>by simp [upK]
  | i+1=>by
    rw [upK];split
    · exact upOne_bd _ _ _ _ _
    · exact upK_bd l us gs ss u0 i
theorem upP_bd (l:List PN) (us gs:List PR) (ss:List ByteArray):0≤(upP l us gs ss).2∧(upP l us gs ss).2≤11:=by
  unfold upP;split
  · simp
  · exact upK_bd _ _ _ _ _ _
def fB (b:Nat) (h:Hd) (ks:PKs):Prop:=h.attrs.length≤1000∧ks.length≤b
theorem jF {b c:Nat} (h:b≤c) {hd:Hd} {ks:PKs} (k:fB b hd ks):fB c hd ks:=⟨k.1,Nat.le_trans k.2 h⟩
theorem kR {b:Nat} (h:b≤50000) {hd:Hd} {ks:PKs} (k:fB b hd ks):midP hd ks:=⟨by have:=k.1;omega,Nat.le_trans k.2 h⟩
theorem edit_bound {b:Nat} {x:PN} {hd:Hd} {ks:PKs} {s:ByteArray} (hn:fB b hd ks) (hk:∀ k∈ks,cB (fB (b+1)) k.2) (hx:cB (fB (b+1)) x):cB (fB (b+1)) (.mk hd (lZ false x ks s)):=by
  refine .mk ⟨hn.1,?_⟩ fun k hk2=>?_
  · have:=wU (cut:=false) (x:=x) (ks:=ks) (s:=s)
    have:=hn.2
    omega
  · rcases nR hk2 with h|h
    · exact hk k h
    · rw [h];exact hx
theorem tD {b:Nat} {x:PN} (hx:cB (fB b) x):∀ {l:List ByteArray} {n:PN},pF false x n l=0→cB (fB b) n→cB (fB (b+1)) (pN false x n l)
  | [],n,h,_=>by simp [pF] at h
  | [s],n,_,hm=>by
    rw [pN]
    exact edit_bound hm.here (fun k hk=>(hm.kid hk).imp fun _ _=>jF (by omega)) (hx.imp fun _ _=>jF (by omega))
  | s :: t :: l,n,h,hm=>by
    obtain⟨hk,m,hm2,h3⟩:=pF_cons.1 h
    rw [pN_cons hm2]
    exact edit_bound hm.here (fun k hk=>(hm.kid hk).imp fun _ _=>jF (by omega)) (tD hx h3 (hm.kid (jY hm2)))
end
section
structure LM where
  A:Option Addr
  n:Nat
  c:Nat
  us:List PR
  B:Option Addr
  m:Nat
  e:Nat
  gs:List PR
abbrev lmV (M:LM):Value:=.agg #[.slice M.A M.n M.c,.slice M.B M.m M.e]
def nC (V:aD) (M:LM):Prop:=sD V M.A M.n M.us∧M.n≤M.c∧sD V M.B M.m M.gs∧M.m≤M.e
theorem nC.le {V V':aD} (hv:VLe V V') {M:LM} (h:nC V M):nC V' M:=⟨⟨h.1.1.le hv,h.1.2⟩,h.2.1,⟨h.2.2.1.1.le hv,h.2.2.1.2⟩,h.2.2.2⟩
def MovR (r:Option PN) (ev:Value) (v:Value) (V':aD):Prop:=∃ y:LN,v=.tuple #[lnV y,ev]∧aT V' y∧y.n=r.getD pnZ
theorem MovR.none {V:aD} {r:Option PN} {ev:Value} (h:r=.none):MovR r ev (.tuple #[lnV lnZ,ev]) V:=⟨lnZ,rfl,aT.zero,by rw [h];rfl⟩
theorem rO {V:aD} {x:LN} {u g:Int} (h:aT V x):aT V { x with h:={ x.h with user:=u,group:=g } }:=by
  obtain⟨h1,h2,h3,h4,es,h5,h6⟩:=h.inv
  exact aT.of (es:=es) h1 h2 h3 h4 h5 h6
attribute [local irreducible] AtQ GoC GoL GoW QO QP Fn RV bL aG VLe bR bK
theorem qE (V:aD) (M:LM) (hM:nC V M) (x:LN) (hx:aT V x) (hsm:cB eA x.n):Fn Tryz.prog 57 [lmV M,lnV x] V (MovR (cS true M.us M.gs x.n) (bK (movF (cS true M.us M.gs x.n)))):=by
  cases h1:eS M.us x.h.user with
  | none =>
    have hm:=qU (out:=true) (us:=M.us) (gs:=M.gs) (n:=x.n) h1
    have c1:=fun V' (hV:VLe V V')=>(by have h:=lJ V' M.A M.n M.c M.us (hM.le hV).1 hM.2.1 x.h.user;rw [h1] at h;exact h:Fn Tryz.prog 66 [.slice M.A M.n M.c,.int .i64 x.h.user] V' fun v _=>v=.tuple #[.int .i64 0,.bool false])
    have c2:=fun V' (hV:VLe V V')=>lJ V' M.B M.m M.e M.gs (hM.le hV).2.2.1 hM.2.2.2 x.h.group
    rw [hm]
    (refine aI Tryz.func57 rfl Tryz.ntmps57 rfl ?_;intro w0)
    repeat' (first|(refine aE ?_;first|(refine aC ?_;(first|refine aP rfl (aK ⟨Tryz.call66⟩ rfl (c1 _ vl9)) ?_|refine aP rfl (aK ⟨Tryz.call66⟩ rfl (c2 _ vl9)) ?_|(refine aS rfl ⟨Tryz.call54⟩ rfl rfl (Own_v _ x (hx.le vl9) hsm) ?_;rintro v V2 hV2 ⟨y,rfl,hyn,hyN⟩)))|refine st9 ?_|(refine al9 ?_;intro γ)|refine pu9 ?_)|refine cX ?_|fail)
    all_goals (refine bB Tryz.results57 (aW agg_70 rfl bA (by exact rfl)) (aB rfl) ?_)
    all_goals exact(by rw [←cU (e:=11) (by decide)];exact MovR.none rfl)
  | some u =>
    have c1:=fun V' (hV:VLe V V')=>(by have h:=lJ V' M.A M.n M.c M.us (hM.le hV).1 hM.2.1 x.h.user;rw [h1] at h;exact h:Fn Tryz.prog 66 [.slice M.A M.n M.c,.int .i64 x.h.user] V' fun v _=>v=.tuple #[.int .i64 u,.bool true])
    cases h2:eS M.gs x.h.group with
    | none =>
      have hm:=qH (out:=true) (us:=M.us) (gs:=M.gs) (n:=x.n) h2
      have c2:=fun V' (hV:VLe V V')=>(by have h:=lJ V' M.B M.m M.e M.gs (hM.le hV).2.2.1 hM.2.2.2 x.h.group;rw [h2] at h;exact h:Fn Tryz.prog 66 [.slice M.B M.m M.e,.int .i64 x.h.group] V' fun v _=>v=.tuple #[.int .i64 0,.bool false])
      rw [hm]
      (refine aI Tryz.func57 rfl Tryz.ntmps57 rfl ?_;intro w0)
      repeat' (first|(refine aE ?_;first|(refine aC ?_;(first|refine aP rfl (aK ⟨Tryz.call66⟩ rfl (c1 _ vl9)) ?_|refine aP rfl (aK ⟨Tryz.call66⟩ rfl (c2 _ vl9)) ?_|(refine aS rfl ⟨Tryz.call54⟩ rfl rfl (Own_v _ x (hx.le vl9) hsm) ?_;rintro v V2 hV2 ⟨y,rfl,hyn,hyN⟩)))|refine st9 ?_|(refine al9 ?_;intro γ)|refine pu9 ?_)|refine cX ?_|fail)
      all_goals (refine bB Tryz.results57 (aW agg_70 rfl bA (by exact rfl)) (aB rfl) ?_)
      all_goals exact(by rw [←cU (e:=11) (by decide)];exact MovR.none rfl)
    | some g =>
      have hm:=mD (out:=true) (us:=M.us) (gs:=M.gs) (n:=x.n) h1 h2
      have c2:=fun V' (hV:VLe V V')=>(by have h:=lJ V' M.B M.m M.e M.gs (hM.le hV).2.2.1 hM.2.2.2 x.h.group;rw [h2] at h;exact h:Fn Tryz.prog 66 [.slice M.B M.m M.e,.int .i64 x.h.group] V' fun v _=>v=.tuple #[.int .i64 g,.bool true])
      rw [hm]
      (refine aI Tryz.func57 rfl Tryz.ntmps57 rfl ?_;intro w0)
      repeat' (first|(refine aE ?_;first|(refine aC ?_;(first|refine aP rfl (aK ⟨Tryz.call66⟩ rfl (c1 _ vl9)) ?_|refine aP rfl (aK ⟨Tryz.call66⟩ rfl (c2 _ vl9)) ?_|(refine aS rfl ⟨Tryz.call54⟩ rfl rfl (Own_v _ x (hx.le vl9) hsm) ?_;rintro v V2 hV2 ⟨y,rfl,hyn,hyN⟩)))|refine st9 ?_|(refine al9 ?_;intro γ)|refine pu9 ?_)|refine cX ?_|fail)
      all_goals (refine bB Tryz.results57 (aW agg_70 rfl bA (by exact rfl)) (aB rfl) ?_)
      all_goals exact⟨{ y with h:={ y.h with user:=u,group:=g } },by rw [show movF (some _)=0 from rfl,cH];rfl,rO (hyN.le vl9),by show PN.mk { y.h with user:=u,group:=g } y.ks=_;rw [show y.h=x.h from congrArg PN.h hyn,show y.ks=x.ks from congrArg PN.ks hyn];rfl⟩
theorem Moved1_c (V:aD) (M:LM) (hM:nC V M) (x:LN) (hx:aT V x):Fn Tryz.prog 61 [lmV M,lnV x,.bool true] V (MovR (cS true M.us M.gs x.n) (.bool (cS true M.us M.gs x.n).isSome)):=by
  cases h1:eS M.us x.h.user with
  | none =>
    have hm:=qU (out:=true) (us:=M.us) (gs:=M.gs) (n:=x.n) h1
    have c1:=fun V' (hV:VLe V V')=>(by have h:=qF V' M.A M.n M.c M.us (hM.le hV).1 x.h.user;rw [h1] at h;exact h:Fn Tryz.prog 135 [.slice M.A M.n M.c,.int .i64 x.h.user] V' fun v _=>v=.tuple #[.int .i64 0,.bool false])
    have c2:=fun V' (hV:VLe V V')=>qF V' M.B M.m M.e M.gs (hM.le hV).2.2.1 x.h.group
    rw [hm]
    (refine aI Tryz.func61 rfl Tryz.ntmps61 rfl ?_;intro w0)
    repeat' (first|(refine aE ?_;first|(refine aC ?_;(first|refine aP rfl (aK ⟨Tryz.call135⟩ rfl (c1 _ vl9)) ?_|refine aP rfl (aK ⟨Tryz.call135⟩ rfl (c2 _ vl9)) ?_|refine aP rfl (aK ⟨Tryz.call134⟩ rfl (fI _ M.A M.n M.c M.us (hM.le vl9).1 x.h.user)) ?_|refine aP rfl (aK ⟨Tryz.call134⟩ rfl (fI _ M.B M.m M.e M.gs (hM.le vl9).2.2.1 x.h.group)) ?_))|refine st9 ?_|(refine al9 ?_;intro γ)|refine pu9 ?_)|refine cX ?_|fail)
    all_goals (refine bB Tryz.results61 (aW agg_70 rfl bA (by exact rfl)) (aB rfl) ?_)
    all_goals exact MovR.none rfl
  | some u =>
    have c1:=fun V' (hV:VLe V V')=>(by have h:=qF V' M.A M.n M.c M.us (hM.le hV).1 x.h.user;rw [h1] at h;exact h:Fn Tryz.prog 135 [.slice M.A M.n M.c,.int .i64 x.h.user] V' fun v _=>v=.tuple #[.int .i64 u,.bool true])
    cases h2:eS M.gs x.h.group with
    | none =>
      have hm:=qH (out:=true) (us:=M.us) (gs:=M.gs) (n:=x.n) h2
      have c2:=fun V' (hV:VLe V V')=>(by have h:=qF V' M.B M.m M.e M.gs (hM.le hV).2.2.1 x.h.group;rw [h2] at h;exact h:Fn Tryz.prog 135 [.slice M.B M.m M.e,.int .i64 x.h.group] V' fun v _=>v=.tuple #[.int .i64 0,.bool false])
      rw [hm]
      (refine aI Tryz.func61 rfl Tryz.ntmps61 rfl ?_;intro w0)
      repeat' (first|(refine aE ?_;first|(refine aC ?_;(first|refine aP rfl (aK ⟨Tryz.call135⟩ rfl (c1 _ vl9)) ?_|refine aP rfl (aK ⟨Tryz.call135⟩ rfl (c2 _ vl9)) ?_|refine aP rfl (aK ⟨Tryz.call134⟩ rfl (fI _ M.A M.n M.c M.us (hM.le vl9).1 x.h.user)) ?_|refine aP rfl (aK ⟨Tryz.call134⟩ rfl (fI _ M.B M.m M.e M.gs (hM.le vl9).2.2.1 x.h.group)) ?_))|refine st9 ?_|(refine al9 ?_;intro γ)|refine pu9 ?_)|refine cX ?_|fail)
      all_goals (refine bB Tryz.results61 (aW agg_70 rfl bA (by exact rfl)) (aB rfl) ?_)
      all_goals exact MovR.none rfl
    | some g =>
      have hm:=mD (out:=true) (us:=M.us) (gs:=M.gs) (n:=x.n) h1 h2
      have c2:=fun V' (hV:VLe V V')=>(by have h:=qF V' M.B M.m M.e M.gs (hM.le hV).2.2.1 x.h.group;rw [h2] at h;exact h:Fn Tryz.prog 135 [.slice M.B M.m M.e,.int .i64 x.h.group] V' fun v _=>v=.tuple #[.int .i64 g,.bool true])
      rw [hm]
      (refine aI Tryz.func61 rfl Tryz.ntmps61 rfl ?_;intro w0)
      repeat' (first|(refine aE ?_;first|(refine aC ?_;(first|refine aP rfl (aK ⟨Tryz.call135⟩ rfl (c1 _ vl9)) ?_|refine aP rfl (aK ⟨Tryz.call135⟩ rfl (c2 _ vl9)) ?_|refine aP rfl (aK ⟨Tryz.call134⟩ rfl (fI _ M.A M.n M.c M.us (hM.le vl9).1 x.h.user)) ?_|refine aP rfl (aK ⟨Tryz.call134⟩ rfl (fI _ M.B M.m M.e M.gs (hM.le vl9).2.2.1 x.h.group)) ?_))|refine st9 ?_|(refine al9 ?_;intro γ)|refine pu9 ?_)|refine cX ?_|fail)
      all_goals (refine bB Tryz.results61 (aW agg_70 rfl bA (by exact rfl)) (aB rfl) ?_)
      all_goals exact⟨{ x with h:={ x.h with user:=u,group:=g } },rfl,rO (hx.le vl9),rfl⟩
def seenV (upper:Bool) (us gs:List PR) (h:Hd):Value:=.agg #[.bool (decide (h.kind=2)),.int .i64 h.mode,.int .i64 (if upper=true then (kE us h.user).getD 65534 else if (eS us h.user).isSome=true then h.user else 65534),.int .i64 (if upper=true then (kE gs h.group).getD 65534 else if (eS gs h.group).isSome=true then h.group else 65534),.bool (if upper=true then (kE us h.user).isSome && (kE gs h.group).isSome else (eS us h.user).isSome && (eS gs h.group).isSome)]
theorem Seen_c (V:aD) (M:LM) (hM:nC V M) (x:LN) (hx:aT V x) (upper:Bool):Fn Tryz.prog 260 [lmV M,lnV x,.bool upper] V fun v _=>v=seenV upper M.us M.gs x.h:=by
  cases upper with
  | true =>
    have c1:=fun V' (hV:VLe V V')=>kJ V' M.A M.n M.c M.us (hM.le hV).1 hM.2.1 x.h.user
    have c2:=fun V' (hV:VLe V V')=>kJ V' M.B M.m M.e M.gs (hM.le hV).2.2.1 hM.2.2.2 x.h.group
    unfold seenV
    generalize kE M.us x.h.user=o1 at *
    generalize kE M.gs x.h.group=o2 at *
    unfold qC at c1 c2
    rcases o1 with _|u<;>rcases o2 with _|g
    all_goals
      (refine aI Tryz.func260 rfl Tryz.ntmps260 rfl ?_;intro w0)
      repeat' (first|(refine aE ?_;first|(refine aC ?_;(first|refine aP rfl (aK ⟨Tryz.call206⟩ rfl (c1 _ vl9)) ?_|refine aP rfl (aK ⟨Tryz.call206⟩ rfl (c2 _ vl9)) ?_))|refine st9 ?_|(refine al9 ?_;intro γ)|refine pu9 ?_)|refine cX ?_|fail)
      all_goals first
        | (exact absurd hq (by decide))
        | ((refine aM Tryz.results260 (aW agg_212 rfl bA (by exact rfl)) ?_);rfl)
  | false =>
    have c1:=fun V' (hV:VLe V V')=>lJ V' M.A M.n M.c M.us (hM.le hV).1 hM.2.1 x.h.user
    have c2:=fun V' (hV:VLe V V')=>lJ V' M.B M.m M.e M.gs (hM.le hV).2.2.1 hM.2.2.2 x.h.group
    unfold seenV
    generalize eS M.us x.h.user=o1 at *
    generalize eS M.gs x.h.group=o2 at *
    unfold qC at c1 c2
    rcases o1 with _|u<;>rcases o2 with _|g
    all_goals
      (refine aI Tryz.func260 rfl Tryz.ntmps260 rfl ?_;intro w0)
      repeat' (first|(refine aE ?_;first|(refine aC ?_;(first|refine aP rfl (aK ⟨Tryz.call66⟩ rfl (c1 _ vl9)) ?_|refine aP rfl (aK ⟨Tryz.call66⟩ rfl (c2 _ vl9)) ?_))|refine st9 ?_|(refine al9 ?_;intro γ)|refine pu9 ?_)|refine cX ?_|fail)
      all_goals first
        | (exact absurd hq (by decide))
        | ((refine aM Tryz.results260 (aW agg_212 rfl bA (by exact rfl)) ?_);rfl)
end
section
def PutY (p:PN) (v:Value) (V':aD):Prop:=∃ z:LN,v=.tuple #[lnV z,bK 0]∧aT V' z∧z.n=p
theorem pR.y {cut:Bool} {x n:PN} {l:List ByteArray} (h:pF cut x n l=0) {v:Value} {V':aD} (k:pR cut x n l v V'):PutY (pN cut x n l) v V':=by
  obtain⟨z,h1,h2,h3⟩:=k
  rw [h] at h1;rw [show xL cut x n l=pN cut x n l from if_pos h] at h3
  exact⟨z,h1,h2,h3⟩
def UpR (r:PN×Int) (ev:Value) (v:Value) (V':aD):Prop:=∃ y:LN,v=.tuple #[lnV y,ev]∧aT V' y∧y.n=r.1
theorem UpR.zero {V:aD} {r:PN×Int} {ev:Value} (h:r.1=pnZ):UpR r ev (.tuple #[lnV lnZ,ev]) V:=⟨lnZ,rfl,aT.zero,h.symm⟩
abbrev bareL (y:LN):LN:=⟨{ y.h with opq:=false },y.A,y.na,y.ca,none,0,0,[]⟩
theorem bare_node {V:aD} {y:LN} (h:aT V y):aT V (bareL y):=by
  obtain⟨h1,h2,h3,h4,es,h5,h6⟩:=h.inv
  exact aT.of (es:=[]) h1 h2 h3 (Nat.le_refl _) dV.nil rfl
theorem bare_n {y:LN} {n:PN} (h:y.n=n):(bareL y).n=nD n:=by rw [←h];rfl
theorem pO {h:Hd} {ks:PKs} (k:gA h ks):fB 80 h ks:=by
  obtain⟨h1,_,h3,_⟩:=k
  refine⟨?_,h3⟩
  unfold nF at h1
  simp at h1
  omega
theorem sW {p:Hd→PKs→Prop} {n:PN} (h:∀ hd ks,p hd ks→p { hd with opq:=false } []) (hn:cB p n):cB p (nD n):=.mk (h _ _ hn.here) (by simp)
theorem qJ {p:Hd→PKs→Prop} {out:Bool} {us gs:List PR} {n m:PN} (h:∀ (hd:Hd) ks u g,p hd ks→p { hd with user:=u,group:=g } ks) (hm:cS out us gs n=some m) (hn:cB p n):cB p m:=by
  unfold cS at hm
  split at hm
  · cases hm
    exact .mk (h _ _ _ _ hn.here) fun k hk=>hn.kid hk
  · cases hm
theorem walk_head {l:List PN} {ss:List ByteArray} {f:PF} {t:List PF} (h:cR l ss=f :: t):0<l.length:=by
  have:=mN l ss
  rw [h] at this;simp at this;omega
theorem oT {l:List PN} {us gs:List PR} {ss:List ByteArray} {u:PN} (h:cR l ss=[]):nA l us gs ss u=(u,0):=by unfold nA;rw [h]
theorem qI {l:List PN} {us gs:List PR} {ss:List ByteArray} {u:PN} {f:PF} {t:List PF} (h:cR l ss=f :: t) (h0:f.2=0):nA l us gs ss u=(u,0):=by unfold nA;rw [h];exact if_pos h0
theorem tF {l:List PN} {us gs:List PR} {ss:List ByteArray} {u:PN} {f:PF} {t:List PF} (h:cR l ss=f :: t) (h0:¬f.2=0) (h1:cS true us gs (nD f.1)=none):nA l us gs ss u=(pnZ,11):=by unfold nA;rw [h];simp only [if_neg h0,h1]
theorem qP {l:List PN} {us gs:List PR} {ss:List ByteArray} {u x:PN} {f:PF} {t:List PF} (h:cR l ss=f :: t) (h0:¬f.2=0) (h1:cS true us gs (nD f.1)=some x) (h2:pF false x u ss=0):nA l us gs ss u=(pN false x u ss,0):=by unfold nA;rw [h];simp only [if_neg h0,h1,if_pos h2]
theorem qB {l:List PN} {us gs:List PR} {ss:List ByteArray} {u x:PN} {f:PF} {t:List PF} (h:cR l ss=f :: t) (h0:¬f.2=0) (h1:cS true us gs (nD f.1)=some x) (h2:¬pF false x u ss=0):nA l us gs ss u=(pnZ,pF false x u ss):=by unfold nA;rw [h];simp only [if_neg h0,h1,if_neg h2]
theorem up_end {l:List PN} {us gs:List PR} {ss:List ByteArray} {f:PF} {t:List PF} {u0:PN} {r:PN×Int} {k m:Nat} (h:cR l ss=f :: t) (hu:l.headD pnZ=u0) (hk:(upK l us gs ss u0 k).2=0) (hr:nA l us gs (ss.take (k+1)) (upK l us gs ss u0 k).1=r) (hn:¬r.2=0) (hm:ss.length=m) (hkm:k<m):upP l us gs ss=r:=by
  unfold upP
  rw [if_neg (by rw [h];simp),hu,hm]
  have h1:upK l us gs ss u0 (k+1)=r:=by rw [upK_on hk,hr]
  have h2:=upK_stop (i:=k+1) (l:=l) (us:=us) (gs:=gs) (ss:=ss) (u0:=u0) (by rw [h1];exact hn) (m - (k+1))
  rw [show k+1+(m - (k+1))=m by omega,h1] at h2
  exact h2
theorem strs_take {V:aD} {A:Option Addr} {n k:Nat} {xs:List ByteArray} (h:cL V A n xs) (hk:k≤n):cL V A k (xs.take k):=⟨h.1.take hk,fun x hx=>h.2 x (List.mem_of_mem_take hx)⟩
attribute [local irreducible] AtQ GoC GoL GoW QO QP Fn RV bL aG VLe bR bK
theorem Up_c (V:aD) (A:Option Addr) (n c:Nat) (xs:List LN) (h:dR V A n xs) (hn:n≤1000) (hli:∀ x∈xs,cB gA x.n) (M:LM) (hM:nC V M) (B:Option Addr) (m e:Nat) (ss:List ByteArray) (hs:cL V B m ss) (hme:m≤e) (hm:m≤100) :
    Fn Tryz.prog 152 [.slice A n c,lmV M,.slice B m e] V (UpR (upP (xs.map LN.n) M.us M.gs ss) (bK (upP (xs.map LN.n) M.us M.gs ss).2)):=by
  have hl:=h.1.1
  have sl:=hs.1.1
  have hsm:∀ x∈xs,cB eA x.n:=fun x hx=>(hli x hx).imp fun _ _=>tE
  have hall:=fun ss=>iE (p:=gA) (l:=xs.map LN.n) (fun x hx=>by obtain⟨y,hy,rfl⟩:=List.mem_map.1 hx;exact hli y hy) ss
  have hL:=fun V' (hV:VLe V V')=>LookM_c V' A n c xs (h.le hV) hn hsm B m e ss (hs.le hV)
  have hb:=upP_bd (xs.map LN.n) M.us M.gs ss
  (refine aI Tryz.func152 rfl Tryz.ntmps152 rfl ?_;intro w0)
  rcases hw:cR (xs.map LN.n) ss with _|⟨f0,t0⟩
  · have hup:upP (xs.map LN.n) M.us M.gs ss=(pnZ,5):=by unfold upP;rw [if_pos hw]
    rw [hw] at hL
    repeat' (first|(refine aE ?_;first|(refine aC ?_;(refine aS rfl ⟨Tryz.call232⟩ rfl rfl (hL _ vl9) ?_;rintro v V1 hV1 (⟨_,rfl⟩|⟨_,_,_,hx,_⟩);rotate_left;cases hx))|refine st9 ?_|(refine al9 ?_;intro γ)|refine pu9 ?_)|refine cX ?_|fail)
    all_goals (refine bB Tryz.results152 (aW agg_70 rfl bA (by exact rfl)) (aB rfl) ?_)
    rw [hup,cU (by decide)];exact UpR.zero rfl
  · have hx0:=walk_head hw
    rw [List.length_map] at hx0
    obtain⟨x0,xt,rfl⟩:∃ x0 xt,xs=x0 :: xt:=by
      cases xs with
      | nil=>simp at hx0
      | cons x t=>exact⟨x,t,rfl⟩
    have hu0:((x0 :: xt).map LN.n).headD pnZ=x0.n:=rfl
    rw [hw] at hL
    obtain⟨b0,o0,x0',hA0,hx0',hc0,hN0⟩:=h.at_ (k:=0) (by rw [←hl];simp)
    obtain rfl:x0=x0':=by simpa using hx0'
    have hO:=fun V' (hV:VLe V V')=>Own_v V' x0 (hN0.le hV) (hsm x0 (by simp))
    repeat' (first|(refine aE ?_;first|(refine aC ?_;(first|(refine aS rfl ⟨Tryz.call232⟩ rfl rfl (hL _ vl9) ?_;rintro v V1 hV1 (⟨hx,_⟩|⟨f,t,y,_,rfl,hyN,hyn⟩);cases hx;have hc1:=hc0.le hV1;clear hL)|(refine aS rfl ⟨Tryz.call54⟩ rfl rfl (hO _ vl9) ?_;rintro v V2 hV2 ⟨y0,rfl,hy0n,hy0N⟩)))|(refine cG ?_;refine aO (bF (k:=0) und_30 siz_70 rfl hA0 rfl (by omega)) ?_)|refine st9 ?_|(refine al9 ?_;intro γ)|refine pu9 ?_)|refine dG ?_|fail)
    rename_i g4 g6 lf g8
    have hz:cR ((x0 :: xt).map LN.n) ss=f0 :: t0:=hw
    generalize hxs:(x0 :: xt).map LN.n=ps at *
    refine bN (fun F V' L' m'=>∃ (k:Nat) (u:LN),VLe V2 V'∧[⟨γ,70,lnC u⟩,⟨g6,70,lnC lnZ⟩,⟨g4,24,[.slice M.A M.n M.c,.slice M.B M.m M.e]⟩]=L'∧k≤m∧aT V' u∧u.n=(upK ps M.us M.gs ss x0.n k).1∧(upK ps M.us M.gs ss x0.n k).2=0∧cB (fB (80+k)) u.n∧m'=m - k∧F=[(0,.slice A n c),(2,.slice B m e),(4,.pointer (some ⟨g4,0,none⟩)),(6,.pointer (some ⟨g6,0,none⟩)),(11,.pointer (some ⟨γ,0,none⟩)),(12,.int .i64 ((k+1:Nat):Int))]) (m:=m) ⟨0,y0,vl9,rfl,Nat.zero_le _,hy0N.le vl9,by rw [hy0n];rfl,rfl,by rw [hy0n];exact(hli x0 (by simp)).imp fun _ _=>pO,by omega,rfl⟩ bH rfl (List.Sublist.cons_cons _ (List.Sublist.cons _ (List.Sublist.refl _))) ?_
    have hV02:VLe V V2:=by first|exact vl9|exact hV1.trans hV2
    clear hO
    rintro F V' L' m' ⟨k,u,hV',rfl,hkm,huN,hun,hu2,hub,rfl,rfl⟩
    have hVV:VLe V V':=hV02.trans hV'
    by_cases hlt:k<m
    · have hstr:=strs_take (hs.le hVV) (k:=k+1) (by omega)
      have hL2:=LookM_c V' A n c (x0 :: xt) (h.le hVV) hn hsm B (k+1) e (ss.take (k+1)) hstr
      rw [hxs] at hL2
      have hon:=upK_on (l:=ps) (us:=M.us) (gs:=M.gs) (ss:=ss) (u0:=x0.n) hu2
      rw [←hun] at hon
      have hend:=fun (r:PN×Int) (hr:nA ps M.us M.gs (ss.take (k+1)) u.n=r) (hn0:¬r.2=0)=>up_end (us:=M.us) (gs:=M.gs) hw hu0 hu2 (by rw [←hun];exact hr) hn0 sl hlt
      rcases hwk:cR ps (ss.take (k+1)) with _|⟨f1,t1⟩
      · rw [hwk] at hL2
        rw [oT hwk] at hon
        repeat' (first|(refine aE ?_;first|(refine aC ?_;(refine aS rfl ⟨Tryz.call232⟩ rfl rfl (hL2) ?_;rintro v V3 hV3 (⟨_,rfl⟩|⟨_,_,_,hx,_⟩);rotate_left;cases hx))|(refine eG ?_;(first|refine aO (cT (h:=k+1) und_47 siz_9 rfl rfl (by omega)) ?_|refine aO (cT und_47 siz_9 rfl rfl (by omega)) ?_|refine aO (eR und_47 siz_9 rfl rfl (by omega)) ?_))|refine st9 ?_|(refine al9 ?_;intro γ)|refine pu9 ?_)|refine eE ?_|(refine aA rfl ?_ ?_<;>intro hq<;>try exact no9))
        refine aX _ (m - (k+1)) ⟨k+1,u,vl9,rfl,by omega,huN.le vl9,by rw [hon],by rw [hon],hub.imp fun _ _=>jF (by omega),rfl,rfl⟩ (by omega) bH (List.Sublist.cons _ (List.Sublist.refl _))
      · have hlf:=hall (ss.take (k+1)) f1 (by rw [hwk];simp)
        rw [hwk] at hL2
        by_cases hf0:f1.2=0
        · rw [qI hwk hf0] at hon
          repeat' (first|(refine aE ?_;first|(refine aC ?_;(refine aS rfl ⟨Tryz.call232⟩ rfl rfl (hL2) ?_;rintro v V3 hV3 (⟨hx,_⟩|⟨f2,t2,y2,hx2,rfl,hy2N,hy2n⟩);cases hx;cases hx2))|(refine eG ?_;(first|refine aO (cT (h:=k+1) und_47 siz_9 rfl rfl (by omega)) ?_|refine aO (cT und_47 siz_9 rfl rfl (by omega)) ?_|refine aO (eR und_47 siz_9 rfl rfl (by omega)) ?_))|refine st9 ?_|(refine al9 ?_;intro γ)|refine pu9 ?_)|refine nG ?_|(refine aA rfl ?_ ?_<;>intro hq<;>try exact no9))
          all_goals first
            | (exfalso;exact hq hf0)
            | skip
          refine aX _ (m - (k+1)) ⟨k+1,u,vl9,rfl,by omega,huN.le vl9,by rw [hon],by rw [hon],hub.imp fun _ _=>jF (by omega),rfl,rfl⟩ (by omega) bH (List.Sublist.cons _ (List.Sublist.refl _))
        · have hlb:cB gA (nD f1.1):=sW (fun hd ks hh=>⟨hh.1,hh.2.1,by simp,by simp⟩) hlf
          have hsb:cB eA (nD f1.1):=hlb.imp fun _ _=>tE
          have hOut:=fun V9 (y2:LN) hN (hn2:y2.n=f1.1) hM9=>qE V9 M hM9 (bareL y2) (bare_node hN) (by rw [bare_n hn2];exact hsb)
          cases hmv:cS true M.us M.gs (nD f1.1) with
          | none =>
            have hr:=hend _ (tF hwk hf0 hmv) (by simp)
            repeat' (first|(refine aE ?_;first|(refine aC ?_;(first|(refine aS rfl ⟨Tryz.call232⟩ rfl rfl (hL2) ?_;rintro v V3 hV3 (⟨hx,_⟩|⟨f2,t2,y2,hx2,rfl,hy2N,hy2n⟩);cases hx;cases hx2;have hOu:=hOut V3 y2 hy2N hy2n (hM.le (hVV.trans hV3));rw [bare_n hy2n,hmv] at hOu)|(refine aS rfl ⟨Tryz.call57⟩ rfl rfl (hOu) ?_;rintro v V4 hV4 ⟨y3,rfl,hy3N,hy3n⟩)))|(refine eG ?_;(first|refine aO (cT (h:=k+1) und_47 siz_9 rfl rfl (by omega)) ?_|refine aO (cT und_47 siz_9 rfl rfl (by omega)) ?_|refine aO (eR und_47 siz_9 rfl rfl (by omega)) ?_))|refine st9 ?_|(refine al9 ?_;intro γ)|refine pu9 ?_)|refine dG ?_|(refine aA rfl ?_ ?_<;>intro hq<;>try exact no9))
            all_goals first
              | (exfalso;exact hf0 hq)
              | skip
            all_goals
              (refine bB Tryz.results152 (aW agg_70 rfl bA (by exact rfl)) (aB rfl) ?_)
              rw [hr];exact UpR.zero rfl
          | some p =>
            have hlp:cB gA p:=qJ (fun hd ks u g hh=>hh) hmv hlb
            have hsp:cB eA p:=hlp.imp fun _ _=>tE
            have hbp:cB (fB (80+k)) p:=hlp.imp fun _ _ hh=>jF (by omega) (pO hh)
            have hmu:cB midP u.n:=hub.imp fun _ _=>kR (by omega)
            repeat' (first|(refine aE ?_;first|(refine aC ?_;(first|(refine aS rfl ⟨Tryz.call232⟩ rfl rfl (hL2) ?_;rintro v V3 hV3 (⟨hx,_⟩|⟨f2,t2,y2,hx2,rfl,hy2N,hy2n⟩);cases hx;cases hx2;have hOu:=hOut V3 y2 hy2N hy2n (hM.le (hVV.trans hV3));rw [bare_n hy2n,hmv] at hOu)|(refine aS rfl ⟨Tryz.call57⟩ rfl rfl (hOu) ?_;rintro v V4 hV4 ⟨y3,rfl,hy3N,hy3n⟩)))|(refine eG ?_;(first|refine aO (cT (h:=k+1) und_47 siz_9 rfl rfl (by omega)) ?_|refine aO (cT und_47 siz_9 rfl rfl (by omega)) ?_|refine aO (eR und_47 siz_9 rfl rfl (by omega)) ?_))|refine st9 ?_|(refine al9 ?_;intro γ)|refine pu9 ?_)|refine dG ?_|(refine aA rfl ?_ ?_<;>intro hq<;>try exact no9))
            all_goals first
              | (exfalso;exact hf0 hq)
              | (exfalso;exact absurd hq (by decide))
              | (exfalso;exact hq rfl)
              | skip
            replace hy3n:y3.n=p:=hy3n
            have hP:=Put_c V4 u (huN.le vl9) hmu B (k+1) e (ss.take (k+1)) (hstr.le vl9) (by omega) y3 hy3N (by rw [hy3n];exact hsp)
            rw [hy3n] at hP
            by_cases p1:pF false p u.n (ss.take (k+1))=0
            · rw [qP hwk hf0 hmv p1] at hon
              replace hP:=hP.mono fun v V' _ hh=>pR.y p1 hh
              refine bX (id:=15) _ mixed (List.Sublist.cons_cons _ (List.Sublist.cons_cons _ (List.Sublist.cons _ (List.Sublist.refl _)))) ?_;refine gt9 1 ?_;refine gt9 2 ?_;refine fL 3 rfl rfl (cT (h:=k+1) und_47 siz_9 rfl rfl (by omega)) ?_;refine gt9 4 ?_;refine aZ (i:=0) rfl ?_;refine aO (nP agg_70 rfl bA (by exact rfl)) ?_;refine aZ (i:=5) rfl ?_;(refine aS rfl ⟨Tryz.call159⟩ rfl rfl (hP) ?_;rintro v V5 hV5 ⟨y4,rfl,hy4N,hy4n⟩);refine gt9 6 ?_;refine gt9 7 ?_;refine gt9 8 ?_;refine aZ (i:=9) rfl ?_;refine aR rfl siz_70 rfl rfl rfl rfl bJ dP rfl ?_;refine gt9 10 ?_;refine aY (by kernel_rfl) vl9 vl9 bP ?_
              repeat' (first|(refine aE ?_;refine pu9 ?_)|refine cX ?_|fail)
              all_goals first
                | (exfalso;exact absurd rfl hq)
                | skip
              refine aX _ (m - (k+1)) ⟨k+1,y4,vl9,rfl,by omega,hy4N,by rw [hon];exact hy4n,by rw [hon],by rw [hy4n];exact tD hbp p1 hub,rfl,rfl⟩ (by omega) bH (List.Sublist.cons _ (List.Sublist.cons _ (List.Sublist.refl _)))
            · have hr:=hend _ (qB hwk hf0 hmv p1) p1
              refine bX (id:=15) _ mixed (List.Sublist.cons_cons _ (List.Sublist.cons_cons _ (List.Sublist.cons _ (List.Sublist.refl _)))) ?_;refine gt9 1 ?_;refine gt9 2 ?_;refine fL 3 rfl rfl (cT (h:=k+1) und_47 siz_9 rfl rfl (by omega)) ?_;refine gt9 4 ?_;refine aZ (i:=0) rfl ?_;refine aO (nP agg_70 rfl bA (by exact rfl)) ?_;refine aZ (i:=5) rfl ?_;(refine aS rfl ⟨Tryz.call159⟩ rfl rfl (hP) ?_;rintro v V5 hV5 ⟨y4,rfl,hy4N,hy4n⟩);refine gt9 6 ?_;refine gt9 7 ?_;refine gt9 8 ?_;refine aZ (i:=9) rfl ?_;refine aR rfl siz_70 rfl rfl rfl rfl bJ dP rfl ?_;refine gt9 10 ?_;refine aY (by kernel_rfl) vl9 vl9 bP ?_
              repeat' (first|(refine aE ?_;first|refine st9 ?_|refine pu9 ?_)|refine cC ?_|(refine aA rfl ?_ ?_<;>intro hq<;>try exact no9))
              all_goals first
                | (exfalso;exact hq p1)
                | skip
              all_goals
                (refine bB Tryz.results152 (aW agg_70 rfl bA (by exact rfl)) (aB rfl) ?_)
                rw [hr];exact UpR.zero rfl
    · obtain rfl:k=m:=by omega
      have hup:upP ps M.us M.gs ss=upK ps M.us M.gs ss x0.n k:=by unfold upP;rw [if_neg (by rw [hw];simp),hu0,sl]
      repeat' (first|(refine aE ?_;first|refine st9 ?_|refine pu9 ?_)|refine dT ?_|(refine aA rfl ?_ ?_<;>intro hq<;>try exact no9))
      all_goals (refine bB Tryz.results152 (aW agg_70 rfl bA (by exact rfl)) (aB rfl) ?_)
      all_goals exact⟨u,by rw [hup,hu2,cH];rfl,huN,by rw [hup];exact hun⟩
end
section
open Go.RowKit
end
section
def gP (us gs:List PR):Hd→Int→Hd:=fun h lay=>if 0<lay then h else ((cS false us gs (.mk h [])).getD pnZ).h
theorem gP_low {us gs:List PR} {h:Hd} {lay:Int} (hl:0<lay):gP us gs h lay=h:=if_pos hl
theorem gP_up {us gs:List PR} {h:Hd}:gP us gs h 0=((cS false us gs (.mk h [])).getD pnZ).h:=if_neg (by omega)
theorem moved_inv {us gs:List PR} {n x:PN} (h:cS true us gs n=some x):∃ u g,x=.mk { n.h with user:=u,group:=g } n.ks∧hz true us n.h.user=some u∧hz true gs n.h.group=some g:=by
  unfold cS at h
  cases h1:hz true us n.h.user with
  | none=>rw [h1] at h;cases h
  | some u =>
    cases h2:hz true gs n.h.group with
    | none=>rw [h1,h2] at h;cases h
    | some g=>rw [h1,h2] at h;cases h;exact⟨u,g,rfl,rfl,rfl⟩
theorem vP {u:PN} {l:List PN} (h:u.h.kind=2):lT (u :: l)=(u,0) :: (if u.h.opq=true then [] else dI (jS 1 l)):=by
  unfold lT
  rw [jS,kO (by show ¬u.h.kind=1;omega),dI,if_pos (by exact h)]
  split
  · rfl
  · rfl
theorem shown_lay {X:List PF} (h:∀ f∈X,0≤f.2):∀ f∈dF X,0≤f.2:=fun f hf=>h f (iJ hf)
theorem step_lay {r:List PF} {s:ByteArray} (h:∀ f∈r,0≤f.2):∀ f∈dK r s,0≤f.2:=fun f hf=>by
  obtain⟨g,hg,hgf⟩:=List.mem_filterMap.1 (iJ hf)
  unfold lX at hgf
  split at hgf
  · cases h2:fH g.1.ks s with
    | none=>rw [h2] at hgf;cases hgf
    | some x=>rw [h2] at hgf;cases hgf;exact h g hg
  · cases hgf
theorem lay_ge0:∀ (l:List PN) (i:Int),0≤i→∀ f∈jS i l,0≤f.2
  | [],_,_,_,h=>by cases h
  | n :: l,i,hi,f,h=>by
    rw [jS] at h
    rcases List.mem_cons.1 h with rfl|h
    · exact hi
    · exact lay_ge0 l (i+1) (by omega) f h
theorem walk_lay (l:List PN) (ss:List ByteArray):∀ f∈cR l ss,0≤f.2:=by
  have key:∀ (ss:List ByteArray) (a:List PF),(∀ f∈a,0≤f.2)→∀ f∈ss.foldl dK a,0≤f.2:=fun ss=>by
    induction ss with
    | nil=>intro a ha;exact ha
    | cons s ss ih=>intro a ha;exact ih _ (step_lay ha)
  exact key ss _ (shown_lay (lay_ge0 l 0 (Int.le_refl _)))
end
section
def nmP (h:Hd) (ks:PKs):Prop:=∀ k∈ks,eV k.1.toList=true
theorem names_ok {u:Bool}:∀ (n:PN) (d so:Nat),so≤60→(bU u d so n).2=0→cB nmP n:=by
  refine PN.ind (p:=fun n=>∀ (d so:Nat),so≤60→(bU u d so n).2=0→cB nmP n) ?_
  intro h ks ih d so hs hc
  obtain⟨⟨h1,_⟩,_,h3⟩:=tY.1 hc
  obtain⟨_,h4⟩:=vE (by omega) h3
  exact .mk (fun k hk=>(h4 k hk).2.1) fun k hk=>by
    obtain⟨so',hs',hc'⟩:=(h4 k hk).2.2
    exact ih k hk (d+1) so' hs' hc'
theorem tree_names {u:Bool} {n:PN} (h:cP u n=0):cB nmP n:=names_ok n 0 0 (by omega) (sT.1 h).2
end
section
attribute [local irreducible] AtQ GoC GoL GoW QO QP Fn RV bL aG VLe bR bK
theorem two_c (V:aD) (n:Int) (hn:0≤n):Fn Tryz.prog 249 [.int .i64 n] V fun v _=>v=.string ⟨(b16 n).toArray⟩:=by
  (refine aI Tryz.func249 rfl Tryz.ntmps249 rfl ?_;intro w0)
  repeat' (first|(refine aE ?_;first|(refine cN ?_;(first|refine aO (q_shr8 rfl rfl hn) ?_|refine aO (q_shr rfl rfl (by omega)) ?_))|(refine eK ?_;(first|refine aO (iH (us:=b16 n) und_145 und_5 und_9 rfl (cY bA rfl)) ?_|refine aO (fD und_3 und_5 rfl) ?_))|(refine cF ?_;(refine aN rfl und_145 siz_5 zec_5 rfl rfl rfl rfl rfl rfl rfl ?_;intro γ))|refine pu9 ?_)|refine cC ?_|fail)
  all_goals (refine aM Tryz.results249 (aB rfl) ?_)
  all_goals rfl
theorem yD (V:aD) (s:ByteArray) (hs:s.size≤100000000):Fn Tryz.prog 250 [.string s] V fun v _=>v=.string ⟨(jL s).toArray⟩:=by
  (refine aI Tryz.func250 rfl Tryz.ntmps250 rfl ?_;intro w0)
  repeat' (first|(refine aE ?_;first|(refine eK ?_;(first|refine aO (iH (us:=[b8 (s.size:Int)]) und_145 und_5 und_9 rfl (cY bA rfl)) ?_|refine aO (fD und_3 und_5 rfl) ?_))|(refine cF ?_;(refine aN rfl und_145 siz_5 zec_5 rfl rfl rfl rfl rfl rfl rfl ?_;intro γ))|(refine cN ?_;(first|refine aO (q_sadds rfl rfl (by simp;omega)) ?_|refine aO (sL rfl rfl (by first|omega|(simp only [ByteArray.size_append,ByteArray.size_extract];omega)|fail)) ?_))|refine pu9 ?_)|refine cC ?_|fail)
  all_goals (refine aM Tryz.results250 (aB rfl) ?_)
  all_goals rfl

theorem flag_t {h:Hd} (ho:h.opq=true):oP h=h.kind+8:=if_pos ho
theorem flag_f {h:Hd} (ho:h.opq=false):oP h=h.kind:=by unfold oP;rw [if_neg (by rw [ho];decide)]
theorem lay_c (V:aD) (x:LN) (hx:aT V x) (p:Nat):∀ (V1:aD),VLe V V1→cB uO x.n→∀ (l:List UInt8) (Bs:List Box),vS p l Bs→l.length+(kM x.n).length≤100000→FnB Tryz.prog 198 [.pointer (some ⟨p,0,none⟩),lnV x] V1 Bs fun v _ Bs'=>v=.tuple #[]∧vS p (l ++ kM x.n) Bs':=by
  refine aT.ind (C:=fun x=>∀ (V1:aD),VLe V V1→cB uO x.n→∀ (l:List UInt8) (Bs:List Box),vS p l Bs→l.length+(kM x.n).length≤100000→FnB Tryz.prog 198 [.pointer (some ⟨p,0,none⟩),lnV x] V1 Bs fun v _ Bs'=>v=.tuple #[]∧vS p (l ++ kM x.n) Bs') ?_ hx
  intro x es ha hca hd hck hk hks ih V1 hV1 hfit l Bs hB hlen
  have hl:=hk.len
  have hm:=hk.max
  have hz:x.ks.length=x.nk:=by rw [hks,List.length_map,hl]
  obtain⟨f1,f2,f3,f4,f5,f6,f7,f8⟩:=hfit.here
  simp only [LN.n,PN.h_mk,PN.ks_mk] at f1 f2 f3 f4 f5 f6 f7 f8
  have hal:=ha.1.1
  have hP:kM x.n=oX x.h ++ iF x.h.attrs ++ (jL x.h.data ++ [b8 (x.ks.length:Int)]) ++ jE x.ks:=wR x.h x.ks
  have hPl:=congrArg List.length hP
  simp only [List.length_append,List.length_cons,List.length_nil,dX,fS] at hPl
  have hA0:=layA_le x.h.attrs
  have hK0:=layK_le x.ks
  (refine fn_enterH Tryz.func198 rfl Tryz.ntmps198 rfl ?_;intro w0 hfl0)
  repeat' (first|(refine aE ?_;first|(refine al9 ?_;intro γ)|refine pu9 ?_)|refine cC ?_|(refine bM rfl ?_ ?_<;>intro hq))
  all_goals
    have hflag:=(by first|exact flag_t hq|exact flag_f hq)
    refine gc_grow ([(0,.pointer (some ⟨p,0,none⟩)),(3,.pointer (some ⟨γ,0,none⟩)),(4,.int .i64 (oP x.h))]) mixed (by repeat (first|exact List.forall_mem_nil _|refine List.forall_mem_cons.2 ⟨?_,?_⟩|exact rfl|(rw [hflag];exact rfl))) ?_;(apply bZ (n:=0) [] rfl rfl rfl (by kernel_rfl);(focus (intro V' hV;refine bT ?_;intro K hK;refine aO (jT rfl) ?_;refine cI rfl ?_;exact cK hK rfl (VLe.refl _) rfl));(try dsimp only [List.cons_append,List.nil_append]));(apply bZ (n:=1) [] rfl rfl rfl (by kernel_rfl);(focus (intro V' hV;refine bT ?_;intro K hK;refine aO (jT rfl) ?_;refine cI rfl ?_;exact cK hK rfl (VLe.refl _) rfl));(try dsimp only [List.cons_append,List.nil_append]));(apply bZ (n:=2) [1] rfl rfl rfl (by kernel_rfl);(focus (intro V' hV;refine cA (j:=1) (d:=16) rfl rfl ?_;refine bT ?_;intro K hK;(first|refine aO (fD und_3 und_5 rfl) ?_|refine aO (iH (us:=[_]) und_145 und_5 und_9 rfl (uZ (by assumption) rfl)) ?_);refine cI rfl ?_;exact cK hK rfl (VLe.refl _) rfl));(try dsimp only [List.cons_append,List.nil_append]));(apply grow_new (n:=3) [2] rfl rfl rfl (by kernel_rfl);(focus (intro V' hV;refine cA (j:=2) (d:=17) rfl rfl ?_;refine bT ?_;intro K hK;(refine oR rfl hfl0 und_145 siz_5 zec_5 rfl rfl rfl rfl rfl rfl rfl ?_;intro γ V2 hV2 hg2);refine cI rfl ?_;exact cK hK rfl hV2 ⟨_,rfl,hg2⟩));(try dsimp only [List.cons_append,List.nil_append]));(apply bZ (n:=4) [3] rfl rfl rfl (by kernel_rfl);(focus (intro V' hV;refine deps_new (j:=3) (d:=18) rfl rfl ?_;intro g3 hg3;refine bT ?_;intro K hK;(first|refine aO (fD und_3 und_5 rfl) ?_|refine aO (iH (us:=[_]) und_145 und_5 und_9 rfl (uZ (by assumption) rfl)) ?_);refine cI rfl ?_;exact cK hK rfl (VLe.refl _) rfl));(try dsimp only [List.cons_append,List.nil_append]));(apply bZ (n:=5) [] rfl rfl rfl (by kernel_rfl);(focus (intro V' hV;refine bT ?_;intro K hK;refine aO (dQ fld_70_1 rfl) ?_;refine cI rfl ?_;exact cK hK rfl (VLe.refl _) rfl));(try dsimp only [List.cons_append,List.nil_append]));(apply bZ (n:=6) [5] rfl rfl rfl (by kernel_rfl);(focus (intro V' hV;refine cA (j:=5) (d:=20) rfl rfl ?_;refine bT ?_;intro K hK;(first|refine aO (bC one_3 rfl bA (by exact rfl)) ?_|refine aO (bC one_3 rfl bA (by assumption)) ?_|refine aO (cD one_3 rfl (by assumption)) ?_);refine cI rfl ?_;exact cK hK rfl (VLe.refl _) rfl));(try dsimp only [List.cons_append,List.nil_append]));(apply bZ (n:=7) [6] rfl rfl rfl (by kernel_rfl);(focus (intro V' hV;refine cA (j:=6) (d:=21) rfl rfl ?_;refine bT ?_;intro K hK;refine aP rfl (aK ⟨Tryz.call249⟩ rfl (two_c _ _ (by omega))) ?_;refine cI rfl ?_;exact cK hK rfl (VLe.refl _) rfl));(try dsimp only [List.cons_append,List.nil_append]));(apply bZ (n:=8) [4,7] rfl rfl rfl (by kernel_rfl);(focus (intro V' hV;refine cA (j:=4) (d:=19) rfl rfl ?_;refine cA (j:=7) (d:=22) rfl rfl ?_;refine bT ?_;intro K hK;(first|refine aO (jA rfl rfl (by simp [b16])) ?_|refine aO (sL rfl rfl (by first|omega|(simp only [ByteArray.size_append,ByteArray.size_extract];omega)|fail)) ?_);refine cI rfl ?_;exact cK hK rfl (VLe.refl _) rfl));(try dsimp only [List.cons_append,List.nil_append]));(apply bZ (n:=9) [] rfl rfl rfl (by kernel_rfl);(focus (intro V' hV;refine bT ?_;intro K hK;refine aO (dQ fld_70_2 rfl) ?_;refine cI rfl ?_;exact cK hK rfl (VLe.refl _) rfl));(try dsimp only [List.cons_append,List.nil_append]));(apply bZ (n:=10) [9] rfl rfl rfl (by kernel_rfl);(focus (intro V' hV;refine cA (j:=9) (d:=24) rfl rfl ?_;refine bT ?_;intro K hK;(first|refine aO (bC one_3 rfl bA (by exact rfl)) ?_|refine aO (bC one_3 rfl bA (by assumption)) ?_|refine aO (cD one_3 rfl (by assumption)) ?_);refine cI rfl ?_;exact cK hK rfl (VLe.refl _) rfl));(try dsimp only [List.cons_append,List.nil_append]));(apply bZ (n:=11) [10] rfl rfl rfl (by kernel_rfl);(focus (intro V' hV;refine cA (j:=10) (d:=25) rfl rfl ?_;refine bT ?_;intro K hK;refine aP rfl (aK ⟨Tryz.call249⟩ rfl (two_c _ _ (by omega))) ?_;refine cI rfl ?_;exact cK hK rfl (VLe.refl _) rfl));(try dsimp only [List.cons_append,List.nil_append]));(apply bZ (n:=12) [8,11] rfl rfl rfl (by kernel_rfl);(focus (intro V' hV;refine cA (j:=8) (d:=23) rfl rfl ?_;refine cA (j:=11) (d:=26) rfl rfl ?_;refine bT ?_;intro K hK;(first|refine aO (jA rfl rfl (by simp [b16])) ?_|refine aO (sL rfl rfl (by first|omega|(simp only [ByteArray.size_append,ByteArray.size_extract];omega)|fail)) ?_);refine cI rfl ?_;exact cK hK rfl (VLe.refl _) rfl));(try dsimp only [List.cons_append,List.nil_append]));(apply bZ (n:=13) [] rfl rfl rfl (by kernel_rfl);(focus (intro V' hV;refine bT ?_;intro K hK;refine aO (dQ fld_70_3 rfl) ?_;refine cI rfl ?_;exact cK hK rfl (VLe.refl _) rfl));(try dsimp only [List.cons_append,List.nil_append]));(apply bZ (n:=14) [13] rfl rfl rfl (by kernel_rfl);(focus (intro V' hV;refine cA (j:=13) (d:=28) rfl rfl ?_;refine bT ?_;intro K hK;(first|refine aO (bC one_3 rfl bA (by exact rfl)) ?_|refine aO (bC one_3 rfl bA (by assumption)) ?_|refine aO (cD one_3 rfl (by assumption)) ?_);refine cI rfl ?_;exact cK hK rfl (VLe.refl _) rfl));(try dsimp only [List.cons_append,List.nil_append]));(apply bZ (n:=15) [14] rfl rfl rfl (by kernel_rfl);(focus (intro V' hV;refine cA (j:=14) (d:=29) rfl rfl ?_;refine bT ?_;intro K hK;refine aP rfl (aK ⟨Tryz.call249⟩ rfl (two_c _ _ (by omega))) ?_;refine cI rfl ?_;exact cK hK rfl (VLe.refl _) rfl));(try dsimp only [List.cons_append,List.nil_append]));(apply bZ (n:=16) [12,15] rfl rfl rfl (by kernel_rfl);(focus (intro V' hV;refine cA (j:=12) (d:=27) rfl rfl ?_;refine cA (j:=15) (d:=30) rfl rfl ?_;refine bT ?_;intro K hK;(first|refine aO (jA rfl rfl (by simp [b16])) ?_|refine aO (sL rfl rfl (by first|omega|(simp only [ByteArray.size_append,ByteArray.size_extract];omega)|fail)) ?_);refine cI rfl ?_;exact cK hK rfl (VLe.refl _) rfl));(try dsimp only [List.cons_append,List.nil_append]));(apply bZ (n:=17) [] rfl rfl rfl (by kernel_rfl);(focus (intro V' hV;refine bT ?_;intro K hK;refine aO (dQ fld_70_5 rfl) ?_;refine cI rfl ?_;exact cK hK rfl (VLe.refl _) rfl));(try dsimp only [List.cons_append,List.nil_append]));(apply bZ (n:=18) [17] rfl rfl rfl (by kernel_rfl);(focus (intro V' hV;refine cA (j:=17) (d:=32) rfl rfl ?_;refine bT ?_;intro K hK;(first|refine aO (bC one_67 rfl bA (by exact rfl)) ?_|refine aO (bC one_67 rfl bA (by assumption)) ?_|refine aO (cD one_67 rfl (by assumption)) ?_);refine cI rfl ?_;exact cK hK rfl (VLe.refl _) rfl));(try dsimp only [List.cons_append,List.nil_append]));(apply bZ (n:=19) [18] rfl rfl rfl (by kernel_rfl);(focus (intro V' hV;refine cA (j:=18) (d:=33) rfl rfl ?_;refine bT ?_;intro K hK;refine aO (q_len rfl und_67 rfl) ?_;refine cI rfl ?_;exact cK hK rfl (VLe.refl _) rfl));(try dsimp only [List.cons_append,List.nil_append]));(apply bZ (n:=20) [19] rfl rfl rfl (by kernel_rfl);(focus (intro V' hV;refine cA (j:=19) (d:=34) rfl rfl ?_;refine bT ?_;intro K hK;(first|refine aO (fD und_3 und_5 rfl) ?_|refine aO (iH (us:=[_]) und_145 und_5 und_9 rfl (uZ (by assumption) rfl)) ?_);refine cI rfl ?_;exact cK hK rfl (VLe.refl _) rfl));(try dsimp only [List.cons_append,List.nil_append]));(apply grow_new (n:=21) [20] rfl rfl rfl (by kernel_rfl);(focus (intro V' hV;refine cA (j:=20) (d:=35) rfl rfl ?_;refine bT ?_;intro K hK;(refine oR rfl hfl0 und_145 siz_5 zec_5 rfl rfl rfl rfl rfl rfl rfl ?_;intro γ V2 hV2 hg2);refine cI rfl ?_;exact cK hK rfl hV2 ⟨_,rfl,hg2⟩));(try dsimp only [List.cons_append,List.nil_append]));(apply bZ (n:=22) [21] rfl rfl rfl (by kernel_rfl);(focus (intro V' hV;refine deps_new (j:=21) (d:=36) rfl rfl ?_;intro g21 hg21;refine bT ?_;intro K hK;(first|refine aO (fD und_3 und_5 rfl) ?_|refine aO (iH (us:=[_]) und_145 und_5 und_9 rfl (uZ (by assumption) rfl)) ?_);refine cI rfl ?_;exact cK hK rfl (VLe.refl _) rfl));(try dsimp only [List.cons_append,List.nil_append]));(apply bZ (n:=23) [16,22] rfl rfl rfl (by kernel_rfl);(focus (intro V' hV;refine cA (j:=16) (d:=31) rfl rfl ?_;refine cA (j:=22) (d:=37) rfl rfl ?_;refine bT ?_;intro K hK;(first|refine aO (jA rfl rfl (by simp [b16])) ?_|refine aO (sL rfl rfl (by first|omega|(simp only [ByteArray.size_append,ByteArray.size_extract];omega)|fail)) ?_);refine cI rfl ?_;exact cK hK rfl (VLe.refl _) rfl));(try dsimp only [List.cons_append,List.nil_append]));refine grow_last (n:=24) [0,23] rfl rfl rfl rfl (by kernel_rfl) (by kernel_rfl) (by kernel_rfl) ?_;intro VG hVG;refine cA (j:=0) (d:=15) rfl rfl ?_;refine cA (j:=23) (d:=38) rfl rfl ?_;refine bT ?_
    repeat' (first|(refine aE ?_;first|(refine aC ?_;(refine aL rfl ⟨Tryz.call248⟩ rfl aV rfl (iR _ p l Bs hB _ (by rw [gU];simp [b16];omega)) ?_;rintro v V2 B2 hV2 ⟨rfl,hB2⟩;rw [mA] at hB2))|refine pu9 ?_)|refine bY ?_|fail)
    refine bN (fun F V' L' m=>∃ (k:Nat) (Bk:List Box),VLe V1 V'∧(⟨γ,70,lnC x⟩ :: Bk:List Box)=L'∧vS p (l ++ (oX x.h ++ iF (x.h.attrs.take k))) Bk∧k≤x.na∧m=x.na - k∧F=[(0,.pointer (some ⟨p,0,none⟩)),(3,.pointer (some ⟨γ,0,none⟩)),(41,.slice x.A x.na x.ca),(42,.int .i64 x.na),(43,.int .i64 k)]) (m:=x.na) ⟨0,B2,vl9,rfl,?_,by omega,rfl,rfl⟩ bH rfl sl9 ?_
    · rw [←hal] at hB2
      have e:([b8 (oP x.h)] ++ b16 x.h.mode ++ b16 x.h.user ++ b16 x.h.group ++ [b8 (x.h.attrs.length:Int)]:List UInt8)=oX x.h ++ iF (x.h.attrs.take 0):=by simp [oX,iF]
      rw [←e];exact hB2
    rintro F V' L' m ⟨k,Bk,hV',rfl,hBk,hkn,rfl,rfl⟩
    by_cases hlt:k<x.na
    · obtain⟨b1,o1,a,hA1,ha1,hc1,_⟩:=(ha.le (hV1.trans hV')).at_ hlt
      have hfa:=f5.2 a (List.mem_of_getElem? ha1)
      have hA2:=hA0 (k+1)
      have hA3:=layA_take ha1
      have hA4:=congrArg List.length hA3
      simp only [List.length_append,dX] at hA4
      repeat' (first|(refine aE ?_;first|refine st9 ?_|(refine al9 ?_;intro γ)|refine pu9 ?_)|refine bY ?_|(refine aA rfl ?_ ?_<;>intro hq<;>try exact no9))
      refine bX (id:=8) _ mixed (List.Sublist.cons_cons _ (List.Sublist.cons_cons _ (List.nil_sublist _))) ?_;refine gt9 0 ?_;refine gt9 1 ?_;refine gt9 2 ?_;refine gt9 4 ?_;refine gt9 5 ?_;refine aZ (i:=3) rfl ?_;refine aP rfl (aK ⟨Tryz.call250⟩ rfl (yD _ a.n (by omega))) ?_;refine aZ (i:=6) rfl ?_;refine aP rfl (aK ⟨Tryz.call250⟩ rfl (yD _ a.v (by omega))) ?_;refine fL 7 rfl rfl (jA rfl rfl (by simp only [dX];omega)) ?_;refine aZ (i:=8) rfl ?_;(refine aL rfl ⟨Tryz.call248⟩ rfl aV rfl (iR _ p _ Bk hBk _ (by rw [gU];simp only [List.length_append,dX,fS];omega)) ?_;rintro v V3 B3 hV3 ⟨rfl,hB3⟩;rw [mA] at hB3);refine aY (by kernel_rfl) vl9 vl9 bP ?_
      all_goals
        repeat' (first|(refine aE ?_;refine pu9 ?_)|refine cC ?_|fail)
      all_goals
        refine aX _ (x.na - (k+1)) ⟨k+1,B3,vl9,rfl,?_,by omega,rfl,rfl⟩ (by omega) bH sl9
        rw [hA3,←List.append_assoc (oX x.h),←List.append_assoc l]
        exact hB3
    · obtain rfl:k=x.na:=by omega
      rw [←hal,List.take_length] at hBk
      repeat' (first|(refine aE ?_;refine pu9 ?_)|refine dT ?_|(refine aA rfl ?_ ?_<;>intro hq<;>try exact no9))
      refine bX (id:=10) _ mixed (List.Sublist.cons_cons _ (List.nil_sublist _)) ?_;refine gt9 0 ?_;refine gt9 1 ?_;refine gt9 2 ?_;refine gt9 4 ?_;refine gt9 5 ?_;refine gt9 6 ?_;refine fL 7 rfl rfl (fD und_3 und_5 rfl) ?_;(refine dL (i:=3) (j:=8) (by kernel_rfl) rfl rfl rfl rfl vl9 vl9 bP ?_ ?_<;>first|(refine aP rfl (aK ⟨Tryz.call250⟩ rfl (yD _ x.h.data (by omega))) ?_;refine aZ (i:=8) rfl ?_;(refine aN rfl und_145 siz_5 zec_5 rfl rfl rfl rfl rfl rfl rfl ?_;intro γ);refine aZ (i:=9) rfl ?_;refine aO (iH (us:=[b8 (x.nk:Int)]) und_145 und_5 und_9 rfl (cY bA rfl)) ?_;refine fL 10 rfl rfl (jA rfl rfl (by simp only [dX,List.length_cons,List.length_nil];omega)) ?_;refine aZ (i:=11) rfl ?_;(refine aL rfl ⟨Tryz.call248⟩ rfl aV rfl (iR _ p _ Bk hBk _ (by rw [gU];simp only [List.length_append,dX,fS,List.length_cons,List.length_nil];omega)) ?_;rintro v V3 B3 hV3 ⟨rfl,hB3⟩;rw [mA] at hB3);refine aY (by kernel_rfl) vl9 vl9 bP ?_)|((refine aN rfl und_145 siz_5 zec_5 rfl rfl rfl rfl rfl rfl rfl ?_;intro γ);(refine dL (i:=3) (j:=9) (by kernel_rfl) rfl rfl rfl rfl vl9 vl9 bP ?_ ?_<;>first|(refine aP rfl (aK ⟨Tryz.call250⟩ rfl (yD _ x.h.data (by omega))) ?_;refine aZ (i:=9) rfl ?_;refine aO (iH (us:=[b8 (x.nk:Int)]) und_145 und_5 und_9 rfl (cY bA rfl)) ?_;refine fL 10 rfl rfl (jA rfl rfl (by simp only [dX,List.length_cons,List.length_nil];omega)) ?_;refine aZ (i:=11) rfl ?_;(refine aL rfl ⟨Tryz.call248⟩ rfl aV rfl (iR _ p _ Bk hBk _ (by rw [gU];simp only [List.length_append,dX,fS,List.length_cons,List.length_nil];omega)) ?_;rintro v V3 B3 hV3 ⟨rfl,hB3⟩;rw [mA] at hB3);refine aY (by kernel_rfl) vl9 vl9 bP ?_)|(refine aO (iH (us:=[b8 (x.nk:Int)]) und_145 und_5 und_9 rfl (cY bA rfl)) ?_;refine aZ (i:=3) rfl ?_;refine aP rfl (aK ⟨Tryz.call250⟩ rfl (yD _ x.h.data (by omega))) ?_;refine fL 10 rfl rfl (jA rfl rfl (by simp only [dX,List.length_cons,List.length_nil];omega)) ?_;refine aZ (i:=11) rfl ?_;(refine aL rfl ⟨Tryz.call248⟩ rfl aV rfl (iR _ p _ Bk hBk _ (by rw [gU];simp only [List.length_append,dX,fS,List.length_cons,List.length_nil];omega)) ?_;rintro v V3 B3 hV3 ⟨rfl,hB3⟩;rw [mA] at hB3);refine aY (by kernel_rfl) vl9 vl9 bP ?_))))
      all_goals
        repeat' (first|(refine aE ?_;refine pu9 ?_)|refine bY ?_|fail)
      all_goals
        refine bN (fun F V' L' m=>∃ (k:Nat) (Bk:List Box),VLe V1 V'∧Bk=L'∧vS p (l ++ (oX x.h ++ iF x.h.attrs ++ (jL x.h.data ++ [b8 (x.ks.length:Int)]) ++ jE (x.ks.take k))) Bk∧k≤x.nk∧m=x.nk - k∧F=[(0,.pointer (some ⟨p,0,none⟩)),(70,.slice x.K x.nk x.ck),(71,.int .i64 x.nk),(72,.int .i64 k)]) (m:=x.nk) ⟨0,B3,vl9,rfl,?_,by omega,rfl,rfl⟩ bH rfl sl9 ?_
        · rw [List.take_zero,jE,List.append_nil,hz,←List.append_assoc l];exact hB3
        rintro F V' L' m ⟨k,Bk,hV',rfl,hBk,hkn,rfl,rfl⟩
        by_cases hlt:k<x.nk
        · obtain⟨b1,o1,e,hK1,he,hem,hc,c0,c1,hms,hne⟩:=(hk.le (hV1.trans hV')).at_ hlt
          have hke:=pA hks he
          have hfk:=f8 _ (List.mem_of_getElem? hke)
          simp only [] at hfk
          have hK2:=hK0 (k+1)
          have hK3:=layK_take hke
          have hK4:=congrArg List.length hK3
          simp only [List.length_append,dX] at hK4
          repeat' (first|(refine aE ?_;first|(refine aC ?_;(first|refine aP rfl (aK ⟨Tryz.call250⟩ rfl (yD _ e.nm (by omega))) ?_|(refine aL rfl ⟨Tryz.call248⟩ rfl aV rfl (iR _ p _ Bk hBk _ (by rw [gU];simp only [List.length_append,dX,fS,List.length_cons,List.length_nil];omega)) ?_;rintro v V4 B4 hV4 ⟨rfl,hB4⟩;rw [mA] at hB4)|(refine aL rfl ⟨Tryz.call198⟩ rfl aV rfl (ih e hem _ (hV1.trans (hV'.trans hV4)) (hfit.kid (List.mem_of_getElem? hke)) _ B4 hB4 (by simp only [List.length_append,dX,fS,List.length_cons,List.length_nil];omega)) ?_;rintro v V5 B5 hV5 ⟨rfl,hB5⟩)))|refine st9 ?_|(refine al9 ?_;intro γ)|refine pu9 ?_)|refine bY ?_|(refine aA rfl ?_ ?_<;>intro hq<;>try exact no9))
          refine aX _ (x.nk - (k+1)) ⟨k+1,B5,vl9,rfl,?_,by omega,rfl,rfl⟩ (by omega) bH sl9
          rw [hK3]
          simp only [List.append_assoc] at hB5 ⊢
          exact hB5
        · obtain rfl:k=x.nk:=by omega
          rw [List.take_of_length_le (by omega),←hP] at hBk
          repeat' (first|(refine aE ?_;refine pu9 ?_)|refine dT ?_|(refine aA rfl ?_ ?_<;>intro hq<;>try exact no9))
          (first|refine kZ Tryz.results198  (List.Sublist.refl _) ?_|refine lN Tryz.results198 (List.Sublist.refl _) ?_)
          exact⟨rfl,hBk⟩
end
section
def fG (n:PN):List UInt8:=if cP true n=0 then kM n else []
theorem bytesP_len (n:PN):(fG n).length≤24000:=by
  unfold fG;split
  · rename_i h;exact(kP h).2
  · simp
def dS (n:PN):Int:=(((fG n).length:Int)+63) / 64
attribute [local irreducible] AtQ GoC GoL GoW QO QP Fn RV bL aG VLe bR bK
theorem Bytes_tc (V:aD) (x:LN) (hx:aT V x):Fn Tryz.prog 92 [lnV x] V fun v _=>v=.tuple #[.string ⟨(fG x.n).toArray⟩,bK (cP true x.n)]:=by
  have hC:=xN V x hx true
  have hft:cP true x.n=0→cB uO x.n∧(kM x.n).length≤24000:=kP
  (refine aI Tryz.func92 rfl Tryz.ntmps92 rfl ?_;intro w0)
  repeat' (first|(refine aE ?_;first|(refine aC ?_;(first|refine aP rfl (aK ⟨Tryz.call65⟩ rfl (hC)) ?_|(refine aL rfl ⟨Tryz.call198⟩ rfl aV rfl (lay_c V x hx _ _ (VLe.refl _) (hft (Decidable.not_not.1 hq)).1 [] _ vS.nil (by have:=(hft (Decidable.not_not.1 hq)).2;simp;omega)) ?_;rintro v V2 B2 hV2 ⟨rfl,hB2⟩)|(refine aL rfl ⟨Tryz.call199⟩ rfl aV rfl (BString_c _ _ _ B2 hB2 (by have:=(hft (Decidable.not_not.1 hq)).2;simp;omega)) ?_;rintro v V3 B3 hV3 rfl)))|(refine al9 ?_;intro γ)|refine pu9 ?_)|refine cC ?_|(refine aA rfl ?_ ?_<;>intro hq<;>try exact no9))
  · (refine bB Tryz.results92 (aB rfl) (aB rfl) ?_)
    unfold fG;rw [if_neg hq]
  · (refine bB Tryz.results92 (aB rfl) (aB rfl) ?_)
    have hq:=Decidable.not_not.1 hq
    unfold fG;rw [if_pos hq,hq,cH];rfl
theorem TSize_c (V:aD) (x:LN) (hx:aT V x):Fn Tryz.prog 173 [lnV x] V fun v _=>v=.int .i64 ((fG x.n).length:Int):=by
  have hB:=Bytes_tc V x hx
  (refine aI Tryz.func173 rfl Tryz.ntmps173 rfl ?_;intro w0)
  repeat' (first|(refine aE ?_;first|(refine aC ?_;refine aP rfl (aK ⟨Tryz.call92⟩ rfl (hB)) ?_)|(refine al9 ?_;intro γ)|refine pu9 ?_)|refine cC ?_|fail)
  all_goals (refine aM Tryz.results173 (aB rfl) ?_)
  all_goals rfl
theorem QBlocks_c (V:aD) (x:LN) (hx:aT V x):Fn Tryz.prog 77 [lnV x] V fun v _=>v=.int .i64 (dS x.n):=by
  have hB:=TSize_c V x hx
  have hl:=bytesP_len x.n
  (refine aI Tryz.func77 rfl Tryz.ntmps77 rfl ?_;intro w0)
  repeat' (first|(refine aE ?_;first|(refine aC ?_;refine aP rfl (aK ⟨Tryz.call173⟩ rfl (hB)) ?_)|(refine al9 ?_;intro γ)|refine pu9 ?_)|refine cC ?_|fail)
  all_goals (refine aM Tryz.results77 (aB rfl) ?_)
  all_goals (unfold dS;refine congrArg _ ?_;omega)
end
section
structure BX where
  us:List PR
  gs:List PR
  c:CR
  q:Int
  ls:List PN
def sS (up:Bool) (us gs:List PR) (h:Hd):TH:=⟨decide (h.kind=2),h.mode,(if up=true then (kE us h.user).getD 65534 else if (eS us h.user).isSome=true then h.user else 65534),(if up=true then (kE gs h.group).getD 65534 else if (eS gs h.group).isSome=true then h.group else 65534),(if up=true then (kE us h.user).isSome && (kE gs h.group).isSome else (eS us h.user).isSome && (eS gs h.group).isSome)⟩
structure SP where
  is:Bool
  n:PN
  lay:Int
  th:TH
  par:TH
def fQ (b:BX) (ss:List ByteArray) (par:TH):SP :=
  match cR b.ls ss with
  | []=>⟨false,pnZ,0,sS true b.us b.gs hZ,par⟩
  | f :: _=>⟨true,f.1,f.2,sS (decide (f.2=0)) b.us b.gs f.1.h,par⟩
def eU (b:BX) (ss:List ByteArray):Nat→SP×Int
  | 0=>(fQ b [] thZ,0)
  | k+1=>if ¬(eU b ss k).2=0 then eU b ss k
    else if ¬(eU b ss k).1.n.h.kind=2 then ((eU b ss k).1,7)
    else if nH b.c (eU b ss k).1.th 1=false then ((eU b ss k).1,9)
    else if (fQ b (ss.take (k+1)) (eU b ss k).1.th).is=false∧k+1<ss.length then ((eU b ss k).1,5)
    else (fQ b (ss.take (k+1)) (eU b ss k).1.th,0)
def dE (b:BX) (ss:List ByteArray):SP×Int:=eU b ss ss.length
theorem spotK_stop {b:BX} {ss:List ByteArray} {k:Nat} (h:¬(eU b ss k).2=0):∀ d,eU b ss (k+d)=eU b ss k
  | 0=>rfl
  | d+1=>by
    have:=spotK_stop h d
    rw [←Nat.add_assoc,eU,this,if_pos h]
theorem tJ (b:BX) (ss:List ByteArray):∀ k,0≤(eU b ss k).2∧(eU b ss k).2≤9
  | 0=>by simp [eU]
  | k+1=>by
    have:=tJ b ss k
    rw [eU]
    (repeat' split)<;>first|exact this|(simp only [];omega)|simp
def cZ (b:BX) (l:List UInt8):Int:=if ¬dY l=0 then dY l else if ¬(dE b (aU l)).2=0 then (dE b (aU l)).2 else if (dE b (aU l)).1.is=false then 5 else 0
def bG (b:BX) (l:List UInt8):SP:=(dE b (aU l)).1
def jB (b:BX) (u:PN):BX×Int:=if ¬cP true u=0 then (b,cP true u) else if b.q<dS u then (b,12) else ({ b with ls:=u :: b.ls.tail },0)
def gY (b:BX) (ss:List ByteArray) (f:Hd→Hd):BX×Int :=
  if ¬(upP b.ls b.us b.gs ss).2=0 then (b,(upP b.ls b.us b.gs ss).2)
  else if ss=[] then jB b (.mk (f (upP b.ls b.us b.gs ss).1.h) (upP b.ls b.us b.gs ss).1.ks)
  else if ¬pF false (.mk (f ((eI (upP b.ls b.us b.gs ss).1 ss).getD pnZ).h) ((eI (upP b.ls b.us b.gs ss).1 ss).getD pnZ).ks) (upP b.ls b.us b.gs ss).1 ss=0 then (b,pF false (.mk (f ((eI (upP b.ls b.us b.gs ss).1 ss).getD pnZ).h) ((eI (upP b.ls b.us b.gs ss).1 ss).getD pnZ).ks) (upP b.ls b.us b.gs ss).1 ss)
  else jB b (pN false (.mk (f ((eI (upP b.ls b.us b.gs ss).1 ss).getD pnZ).h) ((eI (upP b.ls b.us b.gs ss).1 ss).getD pnZ).ks) (upP b.ls b.us b.gs ss).1 ss)
end
section
theorem ba_get9 (s:ByteArray) (i:Nat):s[i]?=s.toList[i]?:=by
  rw [Lib.toList_data]
  by_cases h:i<s.size
  · rw [getElem?_pos s i h,List.getElem?_eq_getElem (by exact h)];rfl
  · rw [getElem?_neg s i h,List.getElem?_eq_none (by simpa using h)]
theorem u8_47 {b:UInt8}:(b.toNat:Int)=47↔b=47:=by
  constructor
  · intro h;exact UInt8.toNat_inj.1 (by have:(47:UInt8).toNat=47:=rfl;omega)
  · rintro rfl;rfl
theorem ba_inj9 {l m:List UInt8}:(⟨l.toArray⟩:ByteArray)=⟨m.toArray⟩↔l=m:=by
  constructor
  · intro h;have:=congrArg ByteArray.toList h;rwa [mA,mA] at this
  · rintro rfl;rfl
section
variable {P : Program} {B : Base} {N : Nat} {F : List (Nat × Value)} {V : aD} {L : List Box}
variable {d : Option Tmp} {ty : TypeId} {pos : String} {af : Array Edge} {gd : Option (Nat × Bool)} {t : TypeId} {x : Operand}
theorem q_sslice_ld {lo:Operand} {l:List UInt8} {i:Nat} (hu:bV P t .string) (hx:evF F x=some (.string ⟨l.toArray⟩)) (hl:evF F lo=some (.int .i64 (i:Int))) (h2:i≤l.length):QP P B N V L ⟨d,.slice t x (some lo) none none,ty,pos,af,gd⟩ F (.string ⟨(l.drop i).toArray⟩):=by
  have:=iN (P:=P) (B:=B) (N:=N) (V:=V) (L:=L) (d:=d) (ty:=ty) (pos:=pos) (af:=af) (gd:=gd) hu hx hl (by rw [gU];exact h2)
  rw [ex_drop9] at this;exact this
end
def lE (l:List UInt8) (er:Value) (v:Value) (V':aD):Prop:=∃ (A:Option Addr) (n c:Nat),v=.tuple #[.slice A n c,er]∧cL V' A n (aU l)∧n≤c
theorem pathF_root:dY [47]=0:=by unfold dY;rw [if_pos rfl]
theorem pathN_root:aU [47]=[]:=by unfold aU;rw [if_neg (fun h=>h.2 rfl)]
theorem pathF_bad {l:List UInt8} (h0:¬l=[47]) (h:l=[]∨¬l.head?=some 47∨79<l.length):dY l=4:=by unfold dY;rw [if_neg h0,if_pos h]
theorem pathF_name {r:List UInt8} (h0:¬r=[]) (h2:r.length≤78) (h:wG (parts r)=false):dY (47 :: r)=4:=by
  unfold dY;rw [if_neg (by simpa using h0),if_neg (by simp;omega),if_pos (by show ¬wG (parts r)=true;rw [h];decide)]
theorem pathF_many {r:List UInt8} (h0:¬r=[]) (h2:r.length≤78) (h:wG (parts r)=true) (h6:6<(parts r).length):dY (47 :: r)=2:=by
  unfold dY;rw [if_neg (by simpa using h0),if_neg (by simp;omega),if_neg (by show ¬¬wG (parts r)=true;rw [h];decide)];exact if_pos h6
theorem pathF_ok {r:List UInt8} (h0:¬r=[]) (h2:r.length≤78) (h:wG (parts r)=true) (h6:¬6<(parts r).length):dY (47 :: r)=0:=by
  unfold dY;rw [if_neg (by simpa using h0),if_neg (by simp;omega),if_neg (by show ¬¬wG (parts r)=true;rw [h];decide)];exact if_neg h6
theorem pathN_no {l:List UInt8} (h:¬dY l=0):aU l=[]:=by unfold aU;rw [if_neg (fun hh=>h hh.1)]
theorem pathN_ok {r:List UInt8} (h0:¬r=[]) (h:dY (47 :: r)=0):aU (47 :: r)=baL (parts r):=by unfold aU;rw [if_pos ⟨h,by simpa using h0⟩];rfl
theorem wP (l:List UInt8):0≤dY l∧dY l≤7:=by unfold dY;(repeat' split)<;>omega
theorem allN_no {ps qs:List (List UInt8)} {p:List UInt8} (h:eV p=false):wG (ps ++ p :: qs)=false:=by
  unfold wG;rw [List.all_append,List.all_cons,h];simp
theorem yK {ps:List (List UInt8)} {p:List UInt8} (h1:wG ps=true) (h:eV p=true):wG (ps ++ [p])=true:=by
  unfold wG at *;rw [List.all_append,h1];simp [h]
theorem baL_snoc {ps:List (List UInt8)} {p:List UInt8}:(baL (ps ++ [p])).flatMap strC=(baL ps).flatMap strC ++ [.string ⟨p.toArray⟩]:=by
  unfold baL;simp
theorem lE.err {l:List UInt8} {V:aD} {er:Value} (h:¬dY l=0):lE l er (.tuple #[.slice none 0 0,er]) V:=⟨none,0,0,rfl,by rw [pathN_no h];exact cL.nil,Nat.le_refl _⟩
theorem lE.root {V:aD} {er:Value}:lE [47] er (.tuple #[.slice none 0 0,er]) V:=⟨none,0,0,rfl,by rw [pathN_root];exact cL.nil,Nat.le_refl _⟩
theorem lE.ok {r:List UInt8} {V:aD} {er:Value} {A:Option Addr} {n c:Nat} {ps:List (List UInt8)} (h0:¬r=[]) (h2:r.length≤78) (hp:parts r=ps) (h:wG ps=true) (h6:¬6<ps.length) (hc:eL V 1 A n ((baL ps).flatMap strC)) (hl:ps.length=n) (hnc:n≤c):lE (47 :: r) er (.tuple #[.slice A n c,er]) V:=by
  subst hp
  refine⟨A,n,c,rfl,?_,hnc⟩
  rw [pathN_ok h0 (pathF_ok h0 h2 h h6)]
  refine⟨eP.of_cells hc (fun _=>rfl) (by unfold baL;rw [List.length_map];exact hl) (by unfold maxLen;omega),fun s hs=>?_⟩
  obtain⟨p,hp,rfl⟩:=List.mem_map.1 hs
  have:=name_size (s:=⟨p.toArray⟩) (by rw [mA];exact List.all_eq_true.1 h p hp)
  unfold maxLen;omega
attribute [local irreducible] AtQ GoC GoL GoW QO QP Fn RV bL aG VLe bR bK
theorem xF (V:aD) (l:List UInt8) (hl:l.length≤1000000):Fn Tryz.prog 145 [.string ⟨l.toArray⟩] V (lE l (bK (dY l))):=by
  have hsz:=gU l
  by_cases hroot:l=[47]
  · subst hroot
    (refine aI Tryz.func145 rfl Tryz.ntmps145 rfl ?_;intro w0)
    repeat' (first|(refine aE ?_;refine pu9 ?_)|refine cX ?_|fail)
    all_goals first
      | (exfalso;exact hq rfl)
      | ((refine bB Tryz.results145 (aB rfl) (aB rfl) ?_);rw [pathF_root,cH];exact lE.root)
  by_cases hbad:l=[]∨¬l.head?=some 47∨79<l.length
  · have hf:=pathF_bad hroot hbad
    cases l with
    | nil =>
      (refine aI Tryz.func145 rfl Tryz.ntmps145 rfl ?_;intro w0)
      repeat' (first|(refine aE ?_;refine pu9 ?_)|refine cX ?_|fail)
      all_goals first
        | ((refine bB Tryz.results145 (aB rfl) (aB rfl) ?_);rw [hf,cU (by decide)];exact lE.err (by omega))
        | (exfalso;first|exact hq rfl|exact hroot (ba_inj9.1 hq))
    | cons a r =>
      have hc:(⟨(a :: r).toArray⟩:ByteArray)[((0:Int)).toNat]?=some a:=by rw [ba_get9,mA];rfl
      have hb:¬a=47∨79<(a :: r).length:=by
        rcases hbad with h|h|h
        · cases h
        · left;rintro rfl;exact h rfl
        · exact .inr h
      (refine aI Tryz.func145 rfl Tryz.ntmps145 rfl ?_;intro w0)
      repeat' (first|(refine aE ?_;first|(refine jQ ?_;refine aO (gH und_9 rfl rfl (by omega) (by assumption)) ?_)|refine pu9 ?_)|refine cX ?_|(refine aJ rfl rfl rfl ?_ ?_<;>intro hq<;>try exact no9)|(refine aA rfl ?_ ?_<;>intro hq<;>try exact no9))
      all_goals first
        | ((refine bB Tryz.results145 (aB rfl) (aB rfl) ?_);rw [hf,cU (by decide)];exact lE.err (by omega))
        | (exfalso;exact hroot ((ba_inj9 (m:=[47])).1 hq))
        | (exfalso;rename_i hb1;have hb3:a=47:=u8_47.1 (by omega);rcases hb with hb|hb;exact hb hb3;rw [hsz] at hq;omega)
  obtain⟨r,rfl⟩:∃ r,l=47 :: r:=by
    cases l with
    | nil=>exact absurd (.inl rfl) hbad
    | cons a r =>
      refine⟨r,?_⟩
      by_cases ha:a=47
      · rw [ha]
      · exact absurd (.inr (.inl (by simpa using ha))) hbad
  have hr0:¬r=[]:=fun e=>hroot (by rw [e])
  have hr78:r.length≤78:=by
    refine Nat.not_lt.1 fun h=>hbad (.inr (.inr ?_));simp only [List.length_cons];omega
  have hc:(⟨(47 :: r).toArray⟩:ByteArray)[((0:Int)).toNat]?=some 47:=by rw [ba_get9,mA];rfl
  (refine aI Tryz.func145 rfl Tryz.ntmps145 rfl ?_;intro w0)
  repeat' (first|(refine aE ?_;first|(refine jQ ?_;refine aO (gH und_9 rfl rfl (by omega) (by assumption)) ?_)|(refine eG ?_;(first|refine aO (q_sslice_ld (i:=1) und_9 rfl rfl (by simp)) ?_|refine aO (iN und_9 rfl rfl (by omega)) ?_|refine aO (fP und_9 rfl rfl (by omega)) ?_))|refine pu9 ?_)|refine bY ?_|(refine aA rfl ?_ ?_<;>intro hq<;>try exact no9))
  · exfalso;exact hroot ((ba_inj9 (m:=[47])).1 hq)
  all_goals first
    | (exfalso;rw [hsz] at hq;simp only [List.length_cons] at hq;omega)
    | exact no9
    | skip
  refine bN (fun F V' L' m=>∃ (u:List UInt8) (ps:List (List UInt8)) (A:Option Addr) (n c:Nat) (LA:List Box),V=V'∧LA=L'∧cO A n c 9 1 ((baL ps).flatMap strC) LA∧ps.length=n∧parts r=ps ++ parts u∧wG ps=true∧n+u.length≤78∧m=u.length∧F=[(4,.slice A n c),(5,.string ⟨u.toArray⟩)]) (m:=r.length) ⟨r,[],none,0,0,[],rfl,rfl,cO.nil,rfl,rfl,rfl,by omega,rfl,rfl⟩ bH rfl sl9 ?_
  rintro F V' L' m ⟨u,ps,A,n,c,LA,rfl,rfl,hr,hn,hps,hall,hnu,rfl,rfl⟩
  have hcut:=SCut_c V u (by omega)
  unfold cutL at hcut
  by_cases h0:0≤Lib.indexByte u 47
  · obtain⟨g1,g2,g3⟩:=index_at h0
    rw [if_pos h0] at hcut
    have hpu:parts u=u.take (Lib.indexByte u 47).toNat :: parts (u.drop ((Lib.indexByte u 47).toNat+1)):=by
      conv=>lhs;rw [g2]
      exact parts_at g1
    rw [hpu] at hps
    have hN:=Name_c V ⟨(u.take (Lib.indexByte u 47).toNat).toArray⟩ (by rw [gU,List.length_take];omega)
    rw [mA] at hN
    have hdl:(u.drop ((Lib.indexByte u 47).toNat+1)).length<u.length:=by rw [List.length_drop];omega
    generalize u.take (Lib.indexByte u 47).toNat=one at *
    generalize u.drop ((Lib.indexByte u 47).toNat+1)=more at *
    repeat' (first|(refine aE ?_;first|(refine aC ?_;(first|refine aP rfl (aK ⟨Tryz.call229⟩ rfl (hcut)) ?_|refine aP rfl (aK ⟨Tryz.call225⟩ rfl (hN)) ?_|(refine aQ rfl und_47 inf_9 rfl rfl rfl hr aV (cY bA rfl) bJ (by omega) rfl rfl ?_;intro A2 c2 L2 hr2)))|(refine cF ?_;(refine aN rfl und_47 siz_9 zec_9 rfl rfl rfl rfl rfl rfl rfl ?_;intro γ))|refine pu9 ?_)|refine dG ?_|(refine bM rfl ?_ ?_<;>intro hq))
    · (refine bB Tryz.results145 (aB rfl) (aB rfl) ?_)
      have hf:=pathF_name hr0 hr78 (by rw [hps];exact allN_no (pnot_t hq))
      rw [hf,cU (by decide)];exact lE.err (by omega)
    · refine aX _ more.length ⟨more,ps ++ [one],A2,n+1,c2,L2,rfl,rfl,by rw [baL_snoc];exact hr2,by simp [hn],by rw [hps];simp,yK hall (pnot_f hq),by omega,rfl,rfl⟩ hdl bH sl9
  · rw [if_neg h0] at hcut
    have hpu:parts u=[u]:=parts_no (index_no (by omega))
    rw [hpu] at hps
    have hN:=Name_c V ⟨u.toArray⟩ (by rw [gU];omega)
    rw [mA] at hN
    repeat' (first|(refine aE ?_;first|(refine aC ?_;(first|refine aP rfl (aK ⟨Tryz.call229⟩ rfl (hcut)) ?_|refine aP rfl (aK ⟨Tryz.call225⟩ rfl (hN)) ?_|(refine aQ rfl und_47 inf_9 rfl rfl rfl hr aV (cY bA rfl) bJ (by omega) rfl rfl ?_;intro A2 c2 L2 hr2;have hcap:=hr2.cap)))|(refine cF ?_;(refine aN rfl und_47 siz_9 zec_9 rfl rfl rfl rfl rfl rfl rfl ?_;intro γ))|refine pu9 ?_)|refine eE ?_|(refine aA rfl ?_ ?_<;>intro hq<;>try exact no9)|(refine bM rfl ?_ ?_<;>intro hq))
    · (refine bB Tryz.results145 (aB rfl) (aB rfl) ?_)
      have hf:=pathF_name hr0 hr78 (by rw [hps];exact allN_no (pnot_t hq))
      rw [hf,cU (by decide)];exact lE.err (by omega)
    · (refine bB Tryz.results145 (aB rfl) (aB rfl) ?_)
      rename_i hnm
      have hf:=pathF_many hr0 hr78 (by rw [hps];exact yK hall (pnot_f hnm)) (by rw [hps];simp;omega)
      rw [hf,cU (by decide)];exact lE.err (by omega)
    · rename_i hnm
      refine fF hr2 aV ?_
      intro V2 hV2 hc2
      (refine bB Tryz.results145 (aB rfl) (aB rfl) ?_)
      have h6:¬6<(ps ++ [u]).length:=by simp;omega
      have hall2:=yK hall (pnot_f hnm)
      rw [pathF_ok hr0 hr78 (by rw [hps];exact hall2) (by rw [hps];exact h6),cH]
      exact lE.ok hr0 hr78 hps hall2 h6 (by rw [baL_snoc];exact hc2) (by simp [hn]) hcap
end
section
theorem spl_get:∀ (vs cs:List Value) (i j:Nat),i+vs.length≤cs.length→(spl cs i vs)[j]?=if i≤j∧j<i+vs.length then vs[j - i]? else cs[j]?
  | [],cs,i,j,_=>by
    rw [if_neg (by simp)];rfl
  | v :: vs,cs,i,j,h=>by
    rw [List.length_cons] at h
    rw [spl,spl_get vs (cs.set i v) (i+1) j (by rw [List.length_set];omega),List.length_cons]
    by_cases h1:i+1≤j∧j<i+1+vs.length
    · rw [if_pos h1,if_pos (by omega),show j - i=(j - (i+1))+1 by omega,List.getElem?_cons_succ]
    · rw [if_neg h1]
      by_cases h2:j=i
      · subst h2
        rw [if_pos (by omega),Nat.sub_self,List.getElem?_cons_zero,List.getElem?_set_self (by omega)]
      · rw [if_neg (by omega),List.getElem?_set_ne (by omega)]
theorem mJ {cs vs:List Value} (h:vs.length=cs.length):spl cs 0 vs=vs:=by
  apply List.ext_getElem?
  intro j
  rw [spl_get vs cs 0 j (by omega)]
  by_cases h1:j<vs.length
  · rw [if_pos (by omega)];rfl
  · rw [if_neg (by omega),List.getElem?_eq_none (by omega),List.getElem?_eq_none (by omega)]
theorem fC.whole (g:Nat) (t:TypeId) (cs:List Value) (L:List Box) (vs:List Value) (h:vs.length=cs.length):fC (⟨g,t,cs⟩ :: L) g 0 vs (⟨g,t,vs⟩ :: L):=by
  have:=fC.here g t cs L 0 vs (by omega)
  rwa [mJ h] at this
end
end Go.Proofs.YtejkmomfpidnbabGreat
