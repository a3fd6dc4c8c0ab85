/- Walks and plain laws, part 2: what functions compute, proved once each (Auto, Ty, ErrE, PermP, CredQ, CredE, CredE2, PermE, El, Ops4, Eqs, AttrP, Name, NameE, AttrT, AttrE). -/
import Derived.KernelRfl
import Derived.Test.YtejkmomfpidnbabGreatPart1
import Derived.Test.YtejkmomfpidnbabGreatProg
import Derived.Test.YtejkmomfpidnbabGreatChecked
import Derived.Laws.StructEq
set_option linter.unusedSimpArgs false
set_option linter.unusedVariables false
set_option maxRecDepth 100000
set_option maxHeartbeats 40000000
namespace Go.Proofs.YtejkmomfpidnbabGreat
open Go.RowKit
section
theorem bA {L:List Box} {g:Nat} {cs:List Value} (h:bL L g cs:=by first|((repeat (first|exact vY|apply gG|apply own_skip));done)|fail):bL L g cs:=h
theorem dP {L L':List Box} {g i:Nat} {vs:List Value} (h:fC L g i vs L':=by first|((repeat (first|exact fC.here _ _ _ _ _ _ (Nat.le_of_ble_eq_true rfl)|apply fC.next|apply rQ));done)|fail):fC L g i vs L':=h
theorem puts9 {L L':List Box} {g i:Nat} {vs:List Value} (h:fC L g i vs L':=by first|((repeat (first|exact fC.here _ _ _ _ _ _ (by assumption)|exact fC.here _ _ _ _ _ _ (by first|omega|(simp only [List.length_cons,List.length_nil];omega)|fail)|apply fC.next|apply rQ));done)|fail):fC L g i vs L':=h
theorem aV {L L1:List Box} {f:List Box→List Box} (h:mY L L1 f:=by first|((repeat (first|exact repl_here|exact repl_all|exact repl_one|apply xY|apply repl_skip));done)|fail):mY L L1 f:=h
theorem vl9 {V V':aD} (h:VLe V V':=by first|((repeat (first|exact VLe.refl _|assumption|refine VLe.trans ?_ (by assumption)));done)|fail):VLe V V':=h
theorem bP {L L':List Box} (h:List.Sublist L L':=by first|((repeat (first|exact List.Sublist.refl _|exact List.nil_sublist _|refine List.Sublist.cons_cons _ ?_|refine List.Sublist.cons _ ?_|refine List.sublist_append_of_sublist_right ?_));done)|fail):List.Sublist L L':=h
theorem sl9 {L L':List Box} (h:List.Sublist L L':=by repeat (first|exact List.Sublist.refl _|refine List.Sublist.cons _ ?_|refine List.sublist_append_of_sublist_right ?_)):List.Sublist L L':=h
theorem wE {L L':List Box} (h:List.Sublist L L':=by repeat (first|exact List.Sublist.refl _|refine List.Sublist.cons_cons _ ?_|refine List.Sublist.cons _ ?_)):List.Sublist L L':=h
theorem bH {F G:List (Nat×Value)} (h:∀ p∈G,iM F p.1=some p.2:=by repeat (first|exact sub_nil|refine sub_cons (by exact rfl) ?_)):∀ p∈G,iM F p.1=some p.2:=h
theorem pk9 {A B C:List Box} (h:lH A B C:=by first|((repeat (first|exact lH.one _ _|exact lH.all _ _|exact lH.last _|apply lH.next|apply lH.skip));done)|fail):lH A B C:=h
theorem sp9 {X L:List Box} (h:SubP X L:=by repeat (first|exact sp_nil|exact sp_last pk9|refine sp_cons pk9 ?_|refine sp_app pk9 ?_)):SubP X L:=h
theorem bJ {vs:List Value} (h:∀ u∈vs,gQ u=true:=by first|exact ones_of rfl|exact ones_pr _|exact ones_pa _|exact ones_any (by assumption)|(simp [gQ,spl, *];done)|fail):∀ u∈vs,gQ u=true:=h
theorem kH {L L':List Box} {g i:Nat} {vs:List Value} (h:fC L g i vs L':=by first|((repeat (first|exact fC.whole _ _ _ _ _ rfl|apply fC.next|apply rQ));done)|fail):fC L g i vs L':=h
def ctl9:List jI→Exit→Option (List jI×Exit)
  | .seq _ :: k,.ret=>some (k,.ret)
  | .seq _ :: k,.exit i=>some (k,.exit i)
  | .thn _ :: k,.ret=>some (k,.ret)
  | .thn _ :: k,.exit i=>some (k,.exit i)
  | .block _ :: k,.normal=>some (k,.normal)
  | .block _ :: k,.ret=>some (k,.ret)
  | .block i :: k,.exit j=>bif Nat.beq j i then some (k,.normal) else some (k,.exit j)
  | _,_=>none
section
variable {P : Program} {B : Base} {N : Nat} {Q : Exit → Act → World → Prop} {F : List (Nat × Value)} {V : aD} {L : List Box} {k : List jI} {ops : Array Oper} {rest : List Oper}
theorem uP {k k':List jI} {e e':Exit} (hc:ctl9 k e=some (k',e')) (h:AtQ P B N Q k' e' F V L):AtQ P B N Q k e F V L:=by
  unfold ctl9 at hc
  split at hc
  · cases hc;exact at_then_ret h
  · cases hc;exact at_then_exit h
  · cases hc;exact at_thn_ret h
  · cases hc;exact at_thn_exit h
  · cases hc;exact at_block_normal h
  · cases hc;exact at_block_ret h
  · rename_i i k j
    cases hb:Nat.beq j i
    · rw [hb] at hc;cases hc;exact at_block_miss hb h
    · rw [hb] at hc;cases hc
      obtain rfl:=Nat.eq_of_beq_eq_true hb
      exact at_block_hit h
  · cases hc
theorem aO {dr:gO} {v:Value} {t:Nat} {op:Op} {ty:TypeId} {pos:String} {af:Array Edge} {gd:Option (Nat×Bool)} (hq:QP P B N V L ⟨some t,op,ty,pos,af,gd⟩ F v) (h:GoL P B N dr ops Q k rest ((t,v) :: F) V L) (hd:okD N (some t)=true:=by rfl):GoW P B N dr ops Q k ⟨some t,op,ty,pos,af,gd⟩ rest F V L:=gw_q hd hq h
theorem gwg9 {dr:gO} {v:Value} {t:Nat} {op:Op} {ty:TypeId} {pos:String} {af:Array Edge} {gd:Option (Nat×Bool)} (h:GoL P B N dr ops Q k rest ((t,v) :: F) V L) (hq:QP P B N V L ⟨some t,op,ty,pos,af,gd⟩ F v:=by first|exact q_assign rfl|exact jT rfl|exact q_pick_t rfl rfl|exact q_pick_f rfl rfl|exact q_extract rfl rfl|exact gE rfl|exact iK rfl|exact xH rfl|exact xM rfl|exact wH rfl|exact wT rfl) (hd:okD N (some t)=true:=by rfl):GoW P B N dr ops Q k ⟨some t,op,ty,pos,af,gd⟩ rest F V L:=gw_q hd hq h
theorem gwb9 {dr:gO} {v:Value} {t:Nat} {op:Op} {ty:TypeId} {pos:String} {af:Array Edge} {gd:Option (Nat×Bool)} (h:GoL P B N dr ops Q k rest ((t,v) :: F) V L) (hq:QP P B N V L ⟨some t,op,ty,pos,af,gd⟩ F v:=by first|exact q_add rfl rfl (by omega)|exact q_addw rfl rfl|exact q_sub rfl rfl (by omega)|exact q_subw rfl rfl|exact q_mul rfl rfl (by omega)|exact q_lss rfl rfl|exact q_leq rfl rfl|exact q_gtr rfl rfl|exact q_geq rfl rfl|exact q_eql rfl rfl|exact q_neq rfl rfl) (hd:okD N (some t)=true:=by rfl):GoW P B N dr ops Q k ⟨some t,op,ty,pos,af,gd⟩ rest F V L:=gw_q hd hq h
theorem fL {V0:aD} {Lk:List Box} {fuel:Nat} {listed:Array Bool} (i:Nat) {oi:Oper} {t:Nat} {v:Value} (hi:ops[i]?=some oi) (hdt:oi.dst=some t) (hq:QP P B N V0 Lk oi F v) (h:GoL P B N (.held V0 Lk fuel (listed.setIfInBounds i true)) ops Q k rest ((t,v) :: F) V L)
    (hP:oZ Q:=by exact eQ) (hsel:Region.noSelect ops=true:=by kernel_rfl) (hf:Region.free .any ops listed i=true:=by kernel_rfl) (hr:(Region.ready .any ops listed).contains i=true:=by kernel_rfl) (hg:oi.guard=none:=by rfl) (hd:okD N (some t)=true:=by rfl) (hV:VLe V0 V:=by exact vl9) (hk:Lk.Sublist L:=by exact bP):GoL P B N (.held V0 Lk (fuel+1) listed) ops Q k rest F V L:=gh_take i hi hP hsel hf hr hg hdt hd hV hk hq h
theorem aZ {V0:aD} {Lk:List Box} {fuel:Nat} {listed:Array Bool} {i:Nat} {oi:Oper} (hi:ops[i]?=some oi) (h:GoW P B N (.held V0 Lk fuel (listed.setIfInBounds i true)) ops Q k oi rest F V L) (hr:Region.ready .any ops listed=[i]:=by kernel_rfl) (hg:oi.guard=none:=by rfl) (h0:VLe B.v V0:=by exact vl9) (hV:VLe V0 V:=by exact vl9) (hk:Lk.Sublist L:=by exact bP):GoL P B N (.held V0 Lk (fuel+1) listed) ops Q k rest F V L:=gh_one hr hi hg h0 hV hk h
theorem fE {id:Nat} {l:List Oper} (ids:List Nat) (hid:ids.elem id=true) (h:GoL P B N .plain l.toArray Q k l F V L):GoC P B N (.region id l.toArray false) Q k F V L:=cW h
theorem xU {d:Option Tmp} {v:Value} {ty:TypeId} {pos:String} {af:Array Edge} {gd:Option (Nat×Bool)} {T:TypeId} {x:Operand} {n:Nat} (h:QP P B N V L ⟨d,.fieldAddr T x n,ty,pos,af,gd⟩ F v):QP P B N V L ⟨d,.fieldAddr T x n,ty,pos,af,gd⟩ F v:=h
theorem qk_load {d:Option Tmp} {v:Value} {ty:TypeId} {pos:String} {af:Array Edge} {gd:Option (Nat×Bool)} {T:TypeId} {x:Operand} (h:QP P B N V L ⟨d,.load T x,ty,pos,af,gd⟩ F v):QP P B N V L ⟨d,.load T x,ty,pos,af,gd⟩ F v:=h
theorem qk_assign {d:Option Tmp} {v:Value} {ty:TypeId} {pos:String} {af:Array Edge} {gd:Option (Nat×Bool)} {x:Operand} (h:QP P B N V L ⟨d,.assign x,ty,pos,af,gd⟩ F v):QP P B N V L ⟨d,.assign x,ty,pos,af,gd⟩ F v:=h
theorem qk_move {d:Option Tmp} {v:Value} {ty:TypeId} {pos:String} {af:Array Edge} {gd:Option (Nat×Bool)} {x:Operand} (h:QP P B N V L ⟨d,.move x,ty,pos,af,gd⟩ F v):QP P B N V L ⟨d,.move x,ty,pos,af,gd⟩ F v:=h
theorem qk_extract {d:Option Tmp} {v:Value} {ty:TypeId} {pos:String} {af:Array Edge} {gd:Option (Nat×Bool)} {x:Operand} {n:Nat} (h:QP P B N V L ⟨d,.extract x n,ty,pos,af,gd⟩ F v):QP P B N V L ⟨d,.extract x n,ty,pos,af,gd⟩ F v:=h
theorem qk_call {d:Option Tmp} {v:Value} {ty:TypeId} {pos:String} {af:Array Edge} {gd:Option (Nat×Bool)} {c:Call} (h:QP P B N V L ⟨d,.call c,ty,pos,af,gd⟩ F v):QP P B N V L ⟨d,.call c,ty,pos,af,gd⟩ F v:=h
theorem qk_build {d:Option Tmp} {v:Value} {ty:TypeId} {pos:String} {af:Array Edge} {gd:Option (Nat×Bool)} {T:TypeId} {ps:Array (Nat×Operand)} (h:QP P B N V L ⟨d,.build T ps,ty,pos,af,gd⟩ F v):QP P B N V L ⟨d,.build T ps,ty,pos,af,gd⟩ F v:=h
theorem qk_pick {d:Option Tmp} {v:Value} {ty:TypeId} {pos:String} {af:Array Edge} {gd:Option (Nat×Bool)} {x y z:Operand} (h:QP P B N V L ⟨d,.pick x y z,ty,pos,af,gd⟩ F v):QP P B N V L ⟨d,.pick x y z,ty,pos,af,gd⟩ F v:=h
theorem qk_nilCheck {d:Option Tmp} {v:Value} {ty:TypeId} {pos:String} {af:Array Edge} {gd:Option (Nat×Bool)} {x:Operand} (h:QP P B N V L ⟨d,.nilCheck x,ty,pos,af,gd⟩ F v):QP P B N V L ⟨d,.nilCheck x,ty,pos,af,gd⟩ F v:=h
theorem qk_unOp {d:Option Tmp} {v:Value} {ty:TypeId} {pos:String} {af:Array Edge} {gd:Option (Nat×Bool)} {u:UnOp} {T:TypeId} {x:Operand} (h:QP P B N V L ⟨d,.unOp u T x,ty,pos,af,gd⟩ F v):QP P B N V L ⟨d,.unOp u T x,ty,pos,af,gd⟩ F v:=h
theorem qR {d:Option Tmp} {v:Value} {ty:TypeId} {pos:String} {af:Array Edge} {gd:Option (Nat×Bool)} {T:TypeId} {x:Operand} (h:QP P B N V L ⟨d,.makeInterface T x,ty,pos,af,gd⟩ F v):QP P B N V L ⟨d,.makeInterface T x,ty,pos,af,gd⟩ F v:=h
theorem qk_makeFunc {d:Option Tmp} {v:Value} {ty:TypeId} {pos:String} {af:Array Edge} {gd:Option (Nat×Bool)} {f:Go.Fn} {x y:Array Operand} (h:QP P B N V L ⟨d,.makeFunc f x y,ty,pos,af,gd⟩ F v):QP P B N V L ⟨d,.makeFunc f x y,ty,pos,af,gd⟩ F v:=h
theorem wI {d:Option Tmp} {v:Value} {ty:TypeId} {pos:String} {af:Array Edge} {gd:Option (Nat×Bool)} {T:TypeId} {x y:Operand} (h:QP P B N V L ⟨d,.indexAddr T x y,ty,pos,af,gd⟩ F v):QP P B N V L ⟨d,.indexAddr T x y,ty,pos,af,gd⟩ F v:=h
theorem oW (b:BinOp) {d:Option Tmp} {v:Value} {ty:TypeId} {pos:String} {af:Array Edge} {gd:Option (Nat×Bool)} {T T2:TypeId} {x y:Operand} (h:QP P B N V L ⟨d,.binOp b T x y T2,ty,pos,af,gd⟩ F v):QP P B N V L ⟨d,.binOp b T x y T2,ty,pos,af,gd⟩ F v:=h
theorem no9 {p:Prop} (h:False:=by first|exact absurd rfl (by assumption)|omega):p:=h.elim
theorem gx9 {p q:Prop} (k:p) (h:p→q:=by intro kk;first|(refine wB ?_;first|exact cI rfl kk|exact pE rfl rfl kk|exact lG rfl rfl rfl rfl rfl kk|exact pL rfl rfl rfl rfl rfl rfl rfl kk|exact lV rfl rfl rfl rfl rfl rfl kk)|(refine xQ ?_;first|exact iW kk|exact lC kk|exact iZ kk)|(refine uN ?_;first|exact iA kk|exact uP rfl kk)):q:=h k
theorem gxb9 {p q:Prop} (k:p) (h:p→q:=by intro kk;first|(refine wB ?_;first|exact cI rfl kk|exact pE rfl rfl kk|exact lG rfl rfl rfl rfl rfl kk|exact pL rfl rfl rfl rfl rfl rfl rfl kk|exact lV rfl rfl rfl rfl rfl rfl kk)|(refine xQ ?_;first|exact iW kk|exact lC kk|exact iZ kk|exact kC kk)|(refine uN ?_;first|exact iA kk|exact uP rfl kk)):q:=h k
theorem jR {p q:Prop} (k:p) (h:p→q:=by intro kk;first|(refine wB ?_;first|exact cI rfl kk|exact pE rfl rfl kk|exact lG rfl rfl rfl rfl rfl kk|exact pL rfl rfl rfl rfl rfl rfl rfl kk|exact lV rfl rfl rfl rfl rfl rfl kk)|(refine xQ ?_;first|exact iW kk|exact lC kk|exact iZ kk|exact mI rfl kk|exact mK rfl kk)|(refine uN ?_;first|exact iA kk|exact uP rfl kk)):q:=h k
theorem gxcbe9 {p q:Prop} (k:p) (h:p→q:=by intro kk;first|(refine wB ?_;first|exact cI rfl kk|exact pE rfl rfl kk|exact lG rfl rfl rfl rfl rfl kk|exact pL rfl rfl rfl rfl rfl rfl rfl kk|exact lV rfl rfl rfl rfl rfl rfl kk)|(refine xQ ?_;first|exact iW kk|exact lC kk|exact iZ kk|exact mI rfl kk|exact mK rfl kk|exact kC kk|exact rM kk)|(refine uN ?_;first|exact iA kk|exact uP rfl kk)):q:=h k
theorem gxce9 {p q:Prop} (k:p) (h:p→q:=by intro kk;first|(refine wB ?_;first|exact cI rfl kk|exact pE rfl rfl kk|exact lG rfl rfl rfl rfl rfl kk|exact pL rfl rfl rfl rfl rfl rfl rfl kk|exact lV rfl rfl rfl rfl rfl rfl kk)|(refine xQ ?_;first|exact iW kk|exact lC kk|exact iZ kk|exact mI rfl kk|exact mK rfl kk|exact rM kk)|(refine uN ?_;first|exact iA kk|exact uP rfl kk)):q:=h k
theorem cX {p q:Prop} (k:p) (h:p→q:=by intro kk;first|(refine wB ?_;first|exact cI rfl kk|exact pE rfl rfl kk|exact lG rfl rfl rfl rfl rfl kk|exact pL rfl rfl rfl rfl rfl rfl rfl kk|exact lV rfl rfl rfl rfl rfl rfl kk)|(refine xQ ?_;first|exact iW kk|exact lC kk|exact iZ kk|exact mI rfl kk|exact mK rfl kk|exact cW kk)|(refine uN ?_;first|exact iA kk|exact uP rfl kk)):q:=h k
theorem dG {p q:Prop} (k:p) (h:p→q:=by intro kk;first|(refine wB ?_;first|exact cI rfl kk|exact pE rfl rfl kk|exact lG rfl rfl rfl rfl rfl kk|exact pL rfl rfl rfl rfl rfl rfl rfl kk|exact lV rfl rfl rfl rfl rfl rfl kk)|(refine xQ ?_;first|exact iW kk|exact lC kk|exact iZ kk|exact mI rfl kk|exact mK rfl kk|exact cW kk|exact kC kk)|(refine uN ?_;first|exact iA kk|exact uP rfl kk)):q:=h k
theorem eE {p q:Prop} (k:p) (h:p→q:=by intro kk;first|(refine wB ?_;first|exact cI rfl kk|exact pE rfl rfl kk|exact lG rfl rfl rfl rfl rfl kk|exact pL rfl rfl rfl rfl rfl rfl rfl kk|exact lV rfl rfl rfl rfl rfl rfl kk)|(refine xQ ?_;first|exact iW kk|exact lC kk|exact iZ kk|exact mI rfl kk|exact mK rfl kk|exact cW kk|exact kC kk|exact rM kk)|(refine uN ?_;first|exact iA kk|exact uP rfl kk)):q:=h k
theorem iX {p q:Prop} (k:p) (h:p→q:=by intro kk;first|(refine wB ?_;first|exact cI rfl kk|exact pE rfl rfl kk|exact lG rfl rfl rfl rfl rfl kk|exact pL rfl rfl rfl rfl rfl rfl rfl kk|exact lV rfl rfl rfl rfl rfl rfl kk)|(refine xQ ?_;first|exact iW kk|exact lC kk|exact iZ kk|exact mI rfl kk|exact mK rfl kk|exact cW kk|exact rM kk)|(refine uN ?_;first|exact iA kk|exact uP rfl kk)):q:=h k
theorem gxe9 {p q:Prop} (k:p) (h:p→q:=by intro kk;first|(refine wB ?_;first|exact cI rfl kk|exact pE rfl rfl kk|exact lG rfl rfl rfl rfl rfl kk|exact pL rfl rfl rfl rfl rfl rfl rfl kk|exact lV rfl rfl rfl rfl rfl rfl kk)|(refine xQ ?_;first|exact iW kk|exact lC kk|exact iZ kk|exact rM kk)|(refine uN ?_;first|exact iA kk|exact uP rfl kk)):q:=h k
theorem cC {p q:Prop} (k:p) (h:p→q:=by intro kk;first|(refine wB ?_;first|exact cI rfl kk|exact pE rfl rfl kk|exact lG rfl rfl rfl rfl rfl kk|exact pL rfl rfl rfl rfl rfl rfl rfl kk|exact lV rfl rfl rfl rfl rfl rfl kk)|(refine xQ ?_;first|exact iW kk|exact lC kk|exact iZ kk|exact cW kk)|(refine uN ?_;first|exact iA kk|exact uP rfl kk)):q:=h k
theorem bY {p q:Prop} (k:p) (h:p→q:=by intro kk;first|(refine wB ?_;first|exact cI rfl kk|exact pE rfl rfl kk|exact lG rfl rfl rfl rfl rfl kk|exact pL rfl rfl rfl rfl rfl rfl rfl kk|exact lV rfl rfl rfl rfl rfl rfl kk)|(refine xQ ?_;first|exact iW kk|exact lC kk|exact iZ kk|exact cW kk|exact kC kk)|(refine uN ?_;first|exact iA kk|exact uP rfl kk)):q:=h k
theorem nG {p q:Prop} (k:p) (h:p→q:=by intro kk;first|(refine wB ?_;first|exact cI rfl kk|exact pE rfl rfl kk|exact lG rfl rfl rfl rfl rfl kk|exact pL rfl rfl rfl rfl rfl rfl rfl kk|exact lV rfl rfl rfl rfl rfl rfl kk)|(refine xQ ?_;first|exact iW kk|exact lC kk|exact iZ kk|exact cW kk|exact kC kk|exact rM kk)|(refine uN ?_;first|exact iA kk|exact uP rfl kk)):q:=h k
theorem dT {p q:Prop} (k:p) (h:p→q:=by intro kk;first|(refine wB ?_;first|exact cI rfl kk|exact pE rfl rfl kk|exact lG rfl rfl rfl rfl rfl kk|exact pL rfl rfl rfl rfl rfl rfl rfl kk|exact lV rfl rfl rfl rfl rfl rfl kk)|(refine xQ ?_;first|exact iW kk|exact lC kk|exact iZ kk|exact cW kk|exact rM kk)|(refine uN ?_;first|exact iA kk|exact uP rfl kk)):q:=h k
theorem pu9 {dr:gO} {v:Value} {t:Nat} {op:Op} {ty:TypeId} {pos:String} {af:Array Edge} {gd:Option (Nat×Bool)} (h:GoL P B N dr ops Q k rest ((t,v) :: F) V L) (hq:QP P B N V L ⟨some t,op,ty,pos,af,gd⟩ F v:=by first|((with_reducible apply xU);exact dQ inferInstance rfl)|((with_reducible apply qk_load);first|exact bC inferInstance rfl bA (by exact rfl)|exact bC inferInstance rfl bA (by assumption)|exact cD inferInstance rfl (by assumption)|exact nP inferInstance rfl bA (by exact rfl)|exact uI inferInstance rfl (by assumption) (by exact rfl)|exact mH inferInstance rfl bA (by exact rfl) (by exact rfl)|exact mH inferInstance rfl bA (by assumption) (by exact rfl))|((with_reducible apply qk_assign);exact q_assign rfl)|((with_reducible apply qk_move);exact jT rfl)|((with_reducible apply qk_extract);exact q_extract rfl rfl)|((with_reducible apply qk_call);first|exact q_len rfl inferInstance rfl|exact q_slen rfl inferInstance rfl)|((with_reducible apply qk_build);exact q_build inferInstance rfl rfl)|((with_reducible apply qk_pick);first|exact q_pick_t rfl rfl|exact q_pick_f rfl rfl)|((with_reducible apply qk_nilCheck);first|exact gE rfl|exact iK rfl)|((with_reducible apply qk_unOp);first|exact xH rfl|exact xM rfl|exact wH rfl|exact wT rfl)|((with_reducible apply qR);exact q_mkiface inferInstance rfl rfl)|((with_reducible apply qk_makeFunc);exact q_makeFunc rfl rfl)|((with_reducible apply wI);first|exact eZ inferInstance inferInstance rfl rfl (by omega)|exact pT inferInstance inferInstance rfl rfl (by omega)|exact bF inferInstance inferInstance rfl (by assumption) rfl (by omega)|exact oN inferInstance inferInstance rfl (by assumption) rfl (by omega))|((with_reducible apply oW .add);first|exact q_add rfl rfl (by omega)|exact q_addw rfl rfl)|((with_reducible apply oW .sub);first|exact q_sub rfl rfl (by omega)|exact q_subw rfl rfl)|((with_reducible apply oW .mul);exact q_mul rfl rfl (by omega))|((with_reducible apply oW .lss);first|exact q_lss rfl rfl|exact q_slss rfl rfl)|((with_reducible apply oW .leq);exact q_leq rfl rfl)|((with_reducible apply oW .gtr);exact q_gtr rfl rfl)|((with_reducible apply oW .geq);exact q_geq rfl rfl)|((with_reducible apply oW .eql);first|exact q_eql rfl rfl|exact q_seql rfl rfl)|((with_reducible apply oW .neq);first|exact q_eneq rfl|exact q_neq rfl rfl|exact q_sneq rfl rfl)|((with_reducible apply oW .rem);exact q_rem rfl rfl (by omega))|((with_reducible apply oW .quo);exact q_quo rfl rfl (by omega))) (hd:okD N (some t)=true:=by rfl):GoW P B N dr ops Q k ⟨some t,op,ty,pos,af,gd⟩ rest F V L:=gw_q hd hq h
theorem al9 {β:Type} {p:β→Prop} {q:Prop} (k:∀ g,p g) (h:(∀ g,p g)→q:=by intro kk;first|(refine k_alloc ?_;exact cV rfl inferInstance rfl kk)|(refine k_box ?_;exact gw_box rfl rfl rfl rfl kk)):q:=h k
theorem st9 {p q:Prop} (k:p) (h:p→q:=by intro kk;refine eF ?_;exact aR rfl inferInstance rfl rfl rfl rfl bJ dP rfl kk):q:=h k
theorem gt9 {V0:aD} {Lk:List Box} {fuel:Nat} {listed:Array Bool} (i:Nat) {t:Nat} {op:Op} {ty:TypeId} {pos:String} {af:Array Edge} {v:Value} (h:GoL P B N (.held V0 Lk fuel (listed.setIfInBounds i true)) ops Q k rest ((t,v) :: F) V L) (hi:ops[i]?=some ⟨some t,op,ty,pos,af,none⟩:=by rfl) (hq:QP P B N V0 Lk ⟨some t,op,ty,pos,af,none⟩ F v:=by first|((with_reducible apply xU);exact dQ inferInstance rfl)|((with_reducible apply qk_load);first|exact bC inferInstance rfl bA (by exact rfl)|exact bC inferInstance rfl bA (by assumption)|exact cD inferInstance rfl (by assumption)|exact nP inferInstance rfl bA (by exact rfl)|exact uI inferInstance rfl (by assumption) (by exact rfl)|exact mH inferInstance rfl bA (by exact rfl) (by exact rfl)|exact mH inferInstance rfl bA (by assumption) (by exact rfl))|((with_reducible apply qk_assign);exact q_assign rfl)|((with_reducible apply qk_move);exact jT rfl)|((with_reducible apply qk_extract);exact q_extract rfl rfl)|((with_reducible apply qk_call);first|exact q_len rfl inferInstance rfl|exact q_slen rfl inferInstance rfl)|((with_reducible apply qk_build);exact q_build inferInstance rfl rfl)|((with_reducible apply qk_pick);first|exact q_pick_t rfl rfl|exact q_pick_f rfl rfl)|((with_reducible apply qk_nilCheck);first|exact gE rfl|exact iK rfl)|((with_reducible apply qk_unOp);first|exact xH rfl|exact xM rfl|exact wH rfl|exact wT rfl)|((with_reducible apply qR);exact q_mkiface inferInstance rfl rfl)|((with_reducible apply qk_makeFunc);exact q_makeFunc rfl rfl)|((with_reducible apply wI);first|exact eZ inferInstance inferInstance rfl rfl (by omega)|exact pT inferInstance inferInstance rfl rfl (by omega)|exact bF inferInstance inferInstance rfl (by assumption) rfl (by omega)|exact oN inferInstance inferInstance rfl (by assumption) rfl (by omega))|((with_reducible apply oW .add);first|exact q_add rfl rfl (by omega)|exact q_addw rfl rfl)|((with_reducible apply oW .sub);first|exact q_sub rfl rfl (by omega)|exact q_subw rfl rfl)|((with_reducible apply oW .mul);exact q_mul rfl rfl (by omega))|((with_reducible apply oW .lss);first|exact q_lss rfl rfl|exact q_slss rfl rfl)|((with_reducible apply oW .leq);exact q_leq rfl rfl)|((with_reducible apply oW .gtr);exact q_gtr rfl rfl)|((with_reducible apply oW .geq);exact q_geq rfl rfl)|((with_reducible apply oW .eql);first|exact q_eql rfl rfl|exact q_seql rfl rfl)|((with_reducible apply oW .neq);first|exact q_eneq rfl|exact q_neq rfl rfl|exact q_sneq rfl rfl)|((with_reducible apply oW .rem);exact q_rem rfl rfl (by omega))|((with_reducible apply oW .quo);exact q_quo rfl rfl (by omega)))
    (hP:oZ Q:=by exact eQ) (hsel:Region.noSelect ops=true:=by kernel_rfl) (hf:Region.free .any ops listed i=true:=by kernel_rfl) (hr:(Region.ready .any ops listed).contains i=true:=by kernel_rfl) (hd:okD N (some t)=true:=by rfl) (hV:VLe V0 V:=by exact vl9) (hk:Lk.Sublist L:=by exact bP):GoL P B N (.held V0 Lk (fuel+1) listed) ops Q k rest F V L:=gh_take i hi hP hsel hf hr rfl rfl hd hV hk hq h
end
end
section
theorem mixed:Tryz.prog.follows .mixedOrders=true:=by kernel_rfl
instance fld_24_0 : bW Tryz.prog 24 0 0 := ⟨fun a w => by kernel_rfl⟩
instance fld_24_1 : bW Tryz.prog 24 1 1 := ⟨fun a w => by kernel_rfl⟩
instance fld_27_0 : bW Tryz.prog 27 0 0 := ⟨fun a w => by kernel_rfl⟩
instance fld_27_1 : bW Tryz.prog 27 1 1 := ⟨fun a w => by kernel_rfl⟩
instance fld_27_2 : bW Tryz.prog 27 2 2 := ⟨fun a w => by kernel_rfl⟩
instance fld_27_3 : bW Tryz.prog 27 3 3 := ⟨fun a w => by kernel_rfl⟩
instance fld_29_0 : bW Tryz.prog 29 0 0 := ⟨fun a w => by kernel_rfl⟩
instance fld_29_1 : bW Tryz.prog 29 1 2 := ⟨fun a w => by kernel_rfl⟩
instance fld_29_2 : bW Tryz.prog 29 2 6 := ⟨fun a w => by kernel_rfl⟩
instance fld_29_3 : bW Tryz.prog 29 3 7 := ⟨fun a w => by kernel_rfl⟩
instance fld_49_6 : bW Tryz.prog 49 6 6 := ⟨fun a w => by kernel_rfl⟩
instance fld_53_0 : bW Tryz.prog 53 0 0 := ⟨fun a w => by kernel_rfl⟩
instance fld_53_1 : bW Tryz.prog 53 1 1 := ⟨fun a w => by kernel_rfl⟩
instance fld_53_2 : bW Tryz.prog 53 2 2 := ⟨fun a w => by kernel_rfl⟩
instance fld_53_3 : bW Tryz.prog 53 3 3 := ⟨fun a w => by kernel_rfl⟩
instance fld_53_4 : bW Tryz.prog 53 4 4 := ⟨fun a w => by kernel_rfl⟩
instance fld_53_5 : bW Tryz.prog 53 5 5 := ⟨fun a w => by kernel_rfl⟩
instance fld_53_6 : bW Tryz.prog 53 6 6 := ⟨fun a w => by kernel_rfl⟩
instance fld_70_0 : bW Tryz.prog 70 0 0 := ⟨fun a w => by kernel_rfl⟩
instance fld_70_1 : bW Tryz.prog 70 1 1 := ⟨fun a w => by kernel_rfl⟩
instance fld_70_2 : bW Tryz.prog 70 2 2 := ⟨fun a w => by kernel_rfl⟩
instance fld_70_3 : bW Tryz.prog 70 3 3 := ⟨fun a w => by kernel_rfl⟩
instance fld_70_4 : bW Tryz.prog 70 4 4 := ⟨fun a w => by kernel_rfl⟩
instance fld_70_5 : bW Tryz.prog 70 5 5 := ⟨fun a w => by kernel_rfl⟩
instance fld_70_6 : bW Tryz.prog 70 6 6 := ⟨fun a w => by kernel_rfl⟩
instance fld_70_7 : bW Tryz.prog 70 7 7 := ⟨fun a w => by kernel_rfl⟩
instance fld_113_0 : bW Tryz.prog 113 0 0 := ⟨fun a w => by kernel_rfl⟩
instance fld_113_1 : bW Tryz.prog 113 1 2 := ⟨fun a w => by kernel_rfl⟩
instance fld_113_2 : bW Tryz.prog 113 2 6 := ⟨fun a w => by kernel_rfl⟩
instance fld_113_3 : bW Tryz.prog 113 3 7 := ⟨fun a w => by kernel_rfl⟩
instance fld_130_0 : bW Tryz.prog 130 0 0 := ⟨fun a w => by kernel_rfl⟩
instance fld_130_1 : bW Tryz.prog 130 1 2 := ⟨fun a w => by kernel_rfl⟩
instance fld_130_3 : bW Tryz.prog 130 3 7 := ⟨fun a w => by kernel_rfl⟩
instance fld_153_0 : bW Tryz.prog 153 0 0 := ⟨fun a w => by kernel_rfl⟩
instance fld_153_1 : bW Tryz.prog 153 1 1 := ⟨fun a w => by kernel_rfl⟩
instance fld_153_2 : bW Tryz.prog 153 2 2 := ⟨fun a w => by kernel_rfl⟩
instance fld_156_0 : bW Tryz.prog 156 0 0 := ⟨fun a w => by kernel_rfl⟩
instance fld_156_1 : bW Tryz.prog 156 1 1 := ⟨fun a w => by kernel_rfl⟩
instance fld_197_0 : bW Tryz.prog 197 0 0 := ⟨fun a w => by kernel_rfl⟩
instance fld_197_1 : bW Tryz.prog 197 1 1 := ⟨fun a w => by kernel_rfl⟩
instance fld_197_2 : bW Tryz.prog 197 2 2 := ⟨fun a w => by kernel_rfl⟩
instance fld_206_0 : bW Tryz.prog 206 0 0 := ⟨fun a w => by kernel_rfl⟩
instance fld_206_1 : bW Tryz.prog 206 1 1 := ⟨fun a w => by kernel_rfl⟩
instance fld_212_0 : bW Tryz.prog 212 0 0 := ⟨fun a w => by kernel_rfl⟩
instance fld_212_1 : bW Tryz.prog 212 1 1 := ⟨fun a w => by kernel_rfl⟩
instance fld_212_2 : bW Tryz.prog 212 2 2 := ⟨fun a w => by kernel_rfl⟩
instance fld_212_3 : bW Tryz.prog 212 3 3 := ⟨fun a w => by kernel_rfl⟩
instance fld_212_4 : bW Tryz.prog 212 4 4 := ⟨fun a w => by kernel_rfl⟩
instance fld_214_0 : bW Tryz.prog 214 0 0 := ⟨fun a w => by kernel_rfl⟩
instance fld_214_1 : bW Tryz.prog 214 1 8 := ⟨fun a w => by kernel_rfl⟩
instance fld_214_2 : bW Tryz.prog 214 2 9 := ⟨fun a w => by kernel_rfl⟩
instance fld_214_3 : bW Tryz.prog 214 3 14 := ⟨fun a w => by kernel_rfl⟩
instance fld_264_0 : bW Tryz.prog 264 0 0 := ⟨fun a w => by kernel_rfl⟩
instance fld_264_1 : bW Tryz.prog 264 1 1 := ⟨fun a w => by kernel_rfl⟩
instance fld_268_0 : bW Tryz.prog 268 0 0 := ⟨fun a w => by kernel_rfl⟩
instance fld_268_1 : bW Tryz.prog 268 1 1 := ⟨fun a w => by kernel_rfl⟩
instance fld_271_0 : bW Tryz.prog 271 0 0 := ⟨fun a w => by kernel_rfl⟩
instance fld_271_1 : bW Tryz.prog 271 1 1 := ⟨fun a w => by kernel_rfl⟩
instance fld_306_0 : bW Tryz.prog 306 0 0 := ⟨fun a w => by kernel_rfl⟩
instance fld_306_1 : bW Tryz.prog 306 1 8 := ⟨fun a w => by kernel_rfl⟩
instance fld_316_0 : bW Tryz.prog 316 0 0 := ⟨fun a w => by kernel_rfl⟩
instance fld_316_1 : bW Tryz.prog 316 1 8 := ⟨fun a w => by kernel_rfl⟩
instance und_3 : bV Tryz.prog 3 (.int .i64) := ⟨Tryz.underlying3⟩
instance one_3 : oH Tryz.prog 3 := ⟨Tryz.isAgg3⟩
instance siz_3 : dU Tryz.prog 3 1 := ⟨Tryz.sizeOf3⟩
instance zer_3 : iV Tryz.prog 3 [.int .i64 0] := ⟨_, Tryz.zeroValue3, rfl⟩
instance zec_3 : gD Tryz.prog 3 (.int .i64 0) := ⟨Tryz.zeroValue3⟩
instance und_4 : bV Tryz.prog 4 .bool := ⟨Tryz.underlying4⟩
instance one_4 : oH Tryz.prog 4 := ⟨Tryz.isAgg4⟩
instance siz_4 : dU Tryz.prog 4 1 := ⟨Tryz.sizeOf4⟩
instance und_5 : bV Tryz.prog 5 (.int .u8) := ⟨Tryz.underlying5⟩
instance siz_5 : dU Tryz.prog 5 1 := ⟨Tryz.sizeOf5⟩
instance zec_5 : gD Tryz.prog 5 (.int .u8 0) := ⟨Tryz.zeroValue5⟩
instance und_9 : bV Tryz.prog 9 .string := ⟨Tryz.underlying9⟩
instance one_9 : oH Tryz.prog 9 := ⟨Tryz.isAgg9⟩
instance siz_9 : dU Tryz.prog 9 1 := ⟨Tryz.sizeOf9⟩
instance zec_9 : gD Tryz.prog 9 (.string ⟨#[]⟩) := ⟨Tryz.zeroValue9⟩
instance und_22 : bV Tryz.prog 22 (.slice 197) := ⟨Tryz.underlying22⟩
instance one_22 : oH Tryz.prog 22 := ⟨Tryz.isAgg22⟩
instance agg_24 : uQ Tryz.prog 24 2 := ⟨Tryz.isAgg24, Tryz.sizeOf24⟩
instance siz_24 : dU Tryz.prog 24 2 := ⟨Tryz.sizeOf24⟩
instance zer_24 : iV Tryz.prog 24 [.slice none 0 0, .slice none 0 0] := ⟨_, Tryz.zeroValue24, rfl⟩
instance und_25 : bV Tryz.prog 25 (.slice 3) := ⟨Tryz.underlying25⟩
instance one_25 : oH Tryz.prog 25 := ⟨Tryz.isAgg25⟩
instance siz_25 : dU Tryz.prog 25 1 := ⟨Tryz.sizeOf25⟩
instance agg_27 : uQ Tryz.prog 27 4 := ⟨Tryz.isAgg27, Tryz.sizeOf27⟩
instance siz_27 : dU Tryz.prog 27 4 := ⟨Tryz.sizeOf27⟩
instance zer_27 : iV Tryz.prog 27 [.int .i64 0, .int .i64 0, .slice none 0 0, .int .i64 0] := ⟨_, Tryz.zeroValue27, rfl⟩
instance agg_29 : uQ Tryz.prog 29 8 := ⟨Tryz.isAgg29, Tryz.sizeOf29⟩
instance siz_29 : dU Tryz.prog 29 8 := ⟨Tryz.sizeOf29⟩
instance zer_29 : iV Tryz.prog 29 [.slice none 0 0, .slice none 0 0, .int .i64 0, .int .i64 0, .slice none 0 0, .int .i64 0, .int .i64 0, .slice none 0 0] := ⟨_, Tryz.zeroValue29, rfl⟩
instance und_30 : bV Tryz.prog 30 (.slice 70) := ⟨Tryz.underlying30⟩
instance one_30 : oH Tryz.prog 30 := ⟨Tryz.isAgg30⟩
instance siz_30 : dU Tryz.prog 30 1 := ⟨Tryz.sizeOf30⟩
instance und_31 : bV Tryz.prog 31 (.slice 53) := ⟨Tryz.underlying31⟩
instance one_37 : oH Tryz.prog 37 := ⟨Tryz.isAgg37⟩
instance one_39 : oH Tryz.prog 39 := ⟨Tryz.isAgg39⟩
instance siz_39 : dU Tryz.prog 39 1 := ⟨Tryz.sizeOf39⟩
instance zec_39 : gD Tryz.prog 39 (.nilIface) := ⟨Tryz.zeroValue39⟩
instance und_47 : bV Tryz.prog 47 (.slice 9) := ⟨Tryz.underlying47⟩
instance agg_49 : uQ Tryz.prog 49 7 := ⟨Tryz.isAgg49, Tryz.sizeOf49⟩
instance siz_49 : dU Tryz.prog 49 7 := ⟨Tryz.sizeOf49⟩
instance zer_49 : iV Tryz.prog 49 [.int .i64 0, .int .i64 0, .int .i64 0, .int .i64 0, .int .i64 0, .slice none 0 0, .string ⟨#[]⟩] := ⟨_, Tryz.zeroValue49, rfl⟩
instance agg_53 : uQ Tryz.prog 53 7 := ⟨Tryz.isAgg53, Tryz.sizeOf53⟩
instance siz_53 : dU Tryz.prog 53 7 := ⟨Tryz.sizeOf53⟩
instance und_67 : bV Tryz.prog 67 (.slice 271) := ⟨Tryz.underlying67⟩
instance one_67 : oH Tryz.prog 67 := ⟨Tryz.isAgg67⟩
instance siz_67 : dU Tryz.prog 67 1 := ⟨Tryz.sizeOf67⟩
instance zer_67 : iV Tryz.prog 67 [.slice none 0 0] := ⟨_, Tryz.zeroValue67, rfl⟩
instance und_68 : bV Tryz.prog 68 (.slice 156) := ⟨Tryz.underlying68⟩
instance one_68 : oH Tryz.prog 68 := ⟨Tryz.isAgg68⟩
instance siz_68 : dU Tryz.prog 68 1 := ⟨Tryz.sizeOf68⟩
instance agg_70 : uQ Tryz.prog 70 8 := ⟨Tryz.isAgg70, Tryz.sizeOf70⟩
instance siz_70 : dU Tryz.prog 70 8 := ⟨Tryz.sizeOf70⟩
instance zer_70 : iV Tryz.prog 70 [.int .i64 0, .int .i64 0, .int .i64 0, .int .i64 0, .bool false, .slice none 0 0, .string ⟨#[]⟩, .slice none 0 0] := ⟨_, Tryz.zeroValue70, rfl⟩
instance zec_70 : gD Tryz.prog 70 (.agg #[.int .i64 0, .int .i64 0, .int .i64 0, .int .i64 0, .bool false, .slice none 0 0, .string ⟨#[]⟩, .slice none 0 0]) := ⟨Tryz.zeroValue70⟩
instance und_120 : bV Tryz.prog 120 (.int .i64) := ⟨Tryz.underlying120⟩
instance und_124 : bV Tryz.prog 124 (.slice 39) := ⟨Tryz.underlying124⟩
instance und_145 : bV Tryz.prog 145 (.slice 5) := ⟨Tryz.underlying145⟩
instance one_145 : oH Tryz.prog 145 := ⟨Tryz.isAgg145⟩
instance siz_145 : dU Tryz.prog 145 1 := ⟨Tryz.sizeOf145⟩
instance und_148 : bV Tryz.prog 148 (.int .u64) := ⟨Tryz.underlying148⟩
instance agg_156 : uQ Tryz.prog 156 9 := ⟨Tryz.isAgg156, Tryz.sizeOf156⟩
instance siz_156 : dU Tryz.prog 156 9 := ⟨Tryz.sizeOf156⟩
instance zer_156 : iV Tryz.prog 156 [.string ⟨#[]⟩, .int .i64 0, .int .i64 0, .int .i64 0, .int .i64 0, .bool false, .slice none 0 0, .string ⟨#[]⟩, .slice none 0 0] := ⟨_, Tryz.zeroValue156, rfl⟩
instance zec_156 : gD Tryz.prog 156 (.agg #[.string ⟨#[]⟩, .int .i64 0, .int .i64 0, .int .i64 0, .int .i64 0, .bool false, .slice none 0 0, .string ⟨#[]⟩, .slice none 0 0]) := ⟨Tryz.zeroValue156⟩
instance agg_197 : uQ Tryz.prog 197 3 := ⟨Tryz.isAgg197, Tryz.sizeOf197⟩
instance siz_197 : dU Tryz.prog 197 3 := ⟨Tryz.sizeOf197⟩
instance zer_197 : iV Tryz.prog 197 [.int .i64 0, .int .i64 0, .int .i64 0] := ⟨_, Tryz.zeroValue197, rfl⟩
instance zec_197 : gD Tryz.prog 197 (.agg #[.int .i64 0, .int .i64 0, .int .i64 0]) := ⟨Tryz.zeroValue197⟩
instance zer_206 : iV Tryz.prog 206 [.int .i64 0, .int .i64 0] := ⟨_, Tryz.zeroValue206, rfl⟩
instance agg_212 : uQ Tryz.prog 212 5 := ⟨Tryz.isAgg212, Tryz.sizeOf212⟩
instance siz_212 : dU Tryz.prog 212 5 := ⟨Tryz.sizeOf212⟩
instance zer_212 : iV Tryz.prog 212 [.bool false, .int .i64 0, .int .i64 0, .int .i64 0, .bool false] := ⟨_, Tryz.zeroValue212, rfl⟩
instance agg_214 : uQ Tryz.prog 214 19 := ⟨Tryz.isAgg214, Tryz.sizeOf214⟩
instance siz_214 : dU Tryz.prog 214 19 := ⟨Tryz.sizeOf214⟩
instance zer_214 : iV Tryz.prog 214 [.int .i64 0, .int .i64 0, .int .i64 0, .int .i64 0, .bool false, .slice none 0 0, .string ⟨#[]⟩, .slice none 0 0, .int .i64 0, .bool false, .int .i64 0, .int .i64 0, .int .i64 0, .bool false, .bool false, .int .i64 0, .int .i64 0, .int .i64 0, .bool false] := ⟨_, Tryz.zeroValue214, rfl⟩
instance one_262 : oH Tryz.prog 262 := ⟨Tryz.isAgg262⟩
instance siz_262 : dU Tryz.prog 262 1 := ⟨Tryz.sizeOf262⟩
instance zer_264 : iV Tryz.prog 264 [.pointer none, .slice none 0 0] := ⟨_, Tryz.zeroValue264, rfl⟩
instance agg_271 : uQ Tryz.prog 271 2 := ⟨Tryz.isAgg271, Tryz.sizeOf271⟩
instance siz_271 : dU Tryz.prog 271 2 := ⟨Tryz.sizeOf271⟩
instance zer_271 : iV Tryz.prog 271 [.string ⟨#[]⟩, .string ⟨#[]⟩] := ⟨_, Tryz.zeroValue271, rfl⟩
instance zec_271 : gD Tryz.prog 271 (.agg #[.string ⟨#[]⟩, .string ⟨#[]⟩]) := ⟨Tryz.zeroValue271⟩
instance und_272 : bV Tryz.prog 272 (.slice 306) := ⟨Tryz.underlying272⟩
instance one_272 : oH Tryz.prog 272 := ⟨Tryz.isAgg272⟩
instance siz_272 : dU Tryz.prog 272 1 := ⟨Tryz.sizeOf272⟩
instance zer_272 : iV Tryz.prog 272 [.slice none 0 0] := ⟨_, Tryz.zeroValue272, rfl⟩
instance agg_306 : uQ Tryz.prog 306 9 := ⟨Tryz.isAgg306, Tryz.sizeOf306⟩
instance siz_306 : dU Tryz.prog 306 9 := ⟨Tryz.sizeOf306⟩
instance zer_306 : iV Tryz.prog 306 [.int .i64 0, .int .i64 0, .int .i64 0, .int .i64 0, .bool false, .slice none 0 0, .string ⟨#[]⟩, .slice none 0 0, .int .i64 0] := ⟨_, Tryz.zeroValue306, rfl⟩
instance zec_306 : gD Tryz.prog 306 (.agg #[.int .i64 0, .int .i64 0, .int .i64 0, .int .i64 0, .bool false, .slice none 0 0, .string ⟨#[]⟩, .slice none 0 0, .int .i64 0]) := ⟨Tryz.zeroValue306⟩
instance und_313 : bV Tryz.prog 313 (.slice 316) := ⟨Tryz.underlying313⟩
instance siz_316 : dU Tryz.prog 316 9 := ⟨Tryz.sizeOf316⟩
instance zec_316 : gD Tryz.prog 316 (.agg #[.int .i64 0, .int .i64 0, .int .i64 0, .int .i64 0, .bool false, .slice none 0 0, .string ⟨#[]⟩, .slice none 0 0, .int .i64 0]) := ⟨Tryz.zeroValue316⟩
instance siz_334 : dU Tryz.prog 334 3 := ⟨Tryz.sizeOf334⟩
instance zer_334 : iV Tryz.prog 334 [.int .i64 0, .int .i64 0, .int .i64 0] := ⟨_, Tryz.zeroValue334, rfl⟩
instance inf_197 : nZ Tryz.prog 197 3 24 := ⟨by obtain ⟨i, h0, h1, h2, h3⟩ := info_parts (show (Tryz.prog.info? 197).map (fun i => (i.zero, i.size, i.bytes)) = some (some (.agg #[.int .i64 0, .int .i64 0, .int .i64 0]), 3, 24) by kernel_rfl); exact ⟨i, _, h0, h1, h2, h3, rfl⟩⟩
instance inf_3 : nZ Tryz.prog 3 1 8 := ⟨by obtain ⟨i, h0, h1, h2, h3⟩ := info_parts (show (Tryz.prog.info? 3).map (fun i => (i.zero, i.size, i.bytes)) = some (some (.int .i64 0), 1, 8) by kernel_rfl); exact ⟨i, _, h0, h1, h2, h3, rfl⟩⟩
instance inf_70 : nZ Tryz.prog 70 8 104 := ⟨by obtain ⟨i, h0, h1, h2, h3⟩ := info_parts (show (Tryz.prog.info? 70).map (fun i => (i.zero, i.size, i.bytes)) = some (some (.agg #[.int .i64 0, .int .i64 0, .int .i64 0, .int .i64 0, .bool false, .slice none 0 0, .string ⟨#[]⟩, .slice none 0 0]), 8, 104) by kernel_rfl); exact ⟨i, _, h0, h1, h2, h3, rfl⟩⟩
instance inf_9 : nZ Tryz.prog 9 1 16 := ⟨by obtain ⟨i, h0, h1, h2, h3⟩ := info_parts (show (Tryz.prog.info? 9).map (fun i => (i.zero, i.size, i.bytes)) = some (some (.string ⟨#[]⟩), 1, 16) by kernel_rfl); exact ⟨i, _, h0, h1, h2, h3, rfl⟩⟩
instance inf_271 : nZ Tryz.prog 271 2 32 := ⟨by obtain ⟨i, h0, h1, h2, h3⟩ := info_parts (show (Tryz.prog.info? 271).map (fun i => (i.zero, i.size, i.bytes)) = some (some (.agg #[.string ⟨#[]⟩, .string ⟨#[]⟩]), 2, 32) by kernel_rfl); exact ⟨i, _, h0, h1, h2, h3, rfl⟩⟩
instance inf_156 : nZ Tryz.prog 156 9 120 := ⟨by obtain ⟨i, h0, h1, h2, h3⟩ := info_parts (show (Tryz.prog.info? 156).map (fun i => (i.zero, i.size, i.bytes)) = some (some (.agg #[.string ⟨#[]⟩, .int .i64 0, .int .i64 0, .int .i64 0, .int .i64 0, .bool false, .slice none 0 0, .string ⟨#[]⟩, .slice none 0 0]), 9, 120) by kernel_rfl); exact ⟨i, _, h0, h1, h2, h3, rfl⟩⟩
instance inf_39 : nZ Tryz.prog 39 1 16 := ⟨by obtain ⟨i, h0, h1, h2, h3⟩ := info_parts (show (Tryz.prog.info? 39).map (fun i => (i.zero, i.size, i.bytes)) = some (some (.nilIface), 1, 16) by kernel_rfl); exact ⟨i, _, h0, h1, h2, h3, rfl⟩⟩
instance inf_5 : nZ Tryz.prog 5 1 1 := ⟨by obtain ⟨i, h0, h1, h2, h3⟩ := info_parts (show (Tryz.prog.info? 5).map (fun i => (i.zero, i.size, i.bytes)) = some (some (.int .u8 0), 1, 1) by kernel_rfl); exact ⟨i, _, h0, h1, h2, h3, rfl⟩⟩
instance inf_306 : nZ Tryz.prog 306 9 112 := ⟨by obtain ⟨i, h0, h1, h2, h3⟩ := info_parts (show (Tryz.prog.info? 306).map (fun i => (i.zero, i.size, i.bytes)) = some (some (.agg #[.int .i64 0, .int .i64 0, .int .i64 0, .int .i64 0, .bool false, .slice none 0 0, .string ⟨#[]⟩, .slice none 0 0, .int .i64 0]), 9, 112) by kernel_rfl); exact ⟨i, _, h0, h1, h2, h3, rfl⟩⟩
instance inf_316 : nZ Tryz.prog 316 9 112 := ⟨by obtain ⟨i, h0, h1, h2, h3⟩ := info_parts (show (Tryz.prog.info? 316).map (fun i => (i.zero, i.size, i.bytes)) = some (some (.agg #[.int .i64 0, .int .i64 0, .int .i64 0, .int .i64 0, .bool false, .slice none 0 0, .string ⟨#[]⟩, .slice none 0 0, .int .i64 0]), 9, 112) by kernel_rfl); exact ⟨i, _, h0, h1, h2, h3, rfl⟩⟩
instance bld_24 : fO Tryz.prog 24 [(0, 1), (1, 1)] [.slice none 0 0, .slice none 0 0] := ⟨⟨_, Tryz.runUnderlying24, fun w => by kernel_rfl⟩, ⟨_, Tryz.zeroValue24, rfl⟩⟩
instance bld_27 : fO Tryz.prog 27 [(0, 1), (1, 1), (2, 1), (3, 1)] [.int .i64 0, .int .i64 0, .slice none 0 0, .int .i64 0] := ⟨⟨_, Tryz.runUnderlying27, fun w => by kernel_rfl⟩, ⟨_, Tryz.zeroValue27, rfl⟩⟩
instance bld_29 : fO Tryz.prog 29 [(0, 2), (2, 4), (6, 1), (7, 1)] [.slice none 0 0, .slice none 0 0, .int .i64 0, .int .i64 0, .slice none 0 0, .int .i64 0, .int .i64 0, .slice none 0 0] := ⟨⟨_, Tryz.runUnderlying29, fun w => by kernel_rfl⟩, ⟨_, Tryz.zeroValue29, rfl⟩⟩
instance bld_49 : fO Tryz.prog 49 [(0, 1), (1, 1), (2, 1), (3, 1), (4, 1), (5, 1), (6, 1)] [.int .i64 0, .int .i64 0, .int .i64 0, .int .i64 0, .int .i64 0, .slice none 0 0, .string ⟨#[]⟩] := ⟨⟨_, Tryz.runUnderlying49, fun w => by kernel_rfl⟩, ⟨_, Tryz.zeroValue49, rfl⟩⟩
instance bld_53 : fO Tryz.prog 53 [(0, 1), (1, 1), (2, 1), (3, 1), (4, 1), (5, 1), (6, 1)] [.int .i64 0, .string ⟨#[]⟩, .string ⟨#[]⟩, .string ⟨#[]⟩, .string ⟨#[]⟩, .int .i64 0, .int .i64 0] := ⟨⟨_, Tryz.runUnderlying53, fun w => by kernel_rfl⟩, ⟨_, Tryz.zeroValue53, rfl⟩⟩
instance bld_70 : fO Tryz.prog 70 [(0, 1), (1, 1), (2, 1), (3, 1), (4, 1), (5, 1), (6, 1), (7, 1)] [.int .i64 0, .int .i64 0, .int .i64 0, .int .i64 0, .bool false, .slice none 0 0, .string ⟨#[]⟩, .slice none 0 0] := ⟨⟨_, Tryz.runUnderlying70, fun w => by kernel_rfl⟩, ⟨_, Tryz.zeroValue70, rfl⟩⟩
instance bld_113 : fO Tryz.prog 113 [(0, 2), (2, 4), (6, 1), (7, 1)] [.slice none 0 0, .slice none 0 0, .int .i64 0, .int .i64 0, .slice none 0 0, .int .i64 0, .int .i64 0, .slice none 0 0] := ⟨⟨_, Tryz.runUnderlying113, fun w => by kernel_rfl⟩, ⟨_, Tryz.zeroValue113, rfl⟩⟩
instance bld_130 : fO Tryz.prog 130 [(0, 2), (2, 4), (6, 1), (7, 1)] [.slice none 0 0, .slice none 0 0, .int .i64 0, .int .i64 0, .slice none 0 0, .int .i64 0, .int .i64 0, .slice none 0 0] := ⟨⟨_, Tryz.runUnderlying130, fun w => by kernel_rfl⟩, ⟨_, Tryz.zeroValue130, rfl⟩⟩
instance bld_153 : fO Tryz.prog 153 [(0, 1), (1, 1), (2, 1)] [.string ⟨#[]⟩, .int .i64 0, .bool false] := ⟨⟨_, Tryz.runUnderlying153, fun w => by kernel_rfl⟩, ⟨_, Tryz.zeroValue153, rfl⟩⟩
instance bld_156 : fO Tryz.prog 156 [(0, 1), (1, 8)] [.string ⟨#[]⟩, .int .i64 0, .int .i64 0, .int .i64 0, .int .i64 0, .bool false, .slice none 0 0, .string ⟨#[]⟩, .slice none 0 0] := ⟨⟨_, Tryz.runUnderlying156, fun w => by kernel_rfl⟩, ⟨_, Tryz.zeroValue156, rfl⟩⟩
instance bld_197 : fO Tryz.prog 197 [(0, 1), (1, 1), (2, 1)] [.int .i64 0, .int .i64 0, .int .i64 0] := ⟨⟨_, Tryz.runUnderlying197, fun w => by kernel_rfl⟩, ⟨_, Tryz.zeroValue197, rfl⟩⟩
instance bld_212 : fO Tryz.prog 212 [(0, 1), (1, 1), (2, 1), (3, 1), (4, 1)] [.bool false, .int .i64 0, .int .i64 0, .int .i64 0, .bool false] := ⟨⟨_, Tryz.runUnderlying212, fun w => by kernel_rfl⟩, ⟨_, Tryz.zeroValue212, rfl⟩⟩
instance bld_214 : fO Tryz.prog 214 [(0, 8), (8, 1), (9, 5), (14, 5)] [.int .i64 0, .int .i64 0, .int .i64 0, .int .i64 0, .bool false, .slice none 0 0, .string ⟨#[]⟩, .slice none 0 0, .int .i64 0, .bool false, .int .i64 0, .int .i64 0, .int .i64 0, .bool false, .bool false, .int .i64 0, .int .i64 0, .int .i64 0, .bool false] := ⟨⟨_, Tryz.runUnderlying214, fun w => by kernel_rfl⟩, ⟨_, Tryz.zeroValue214, rfl⟩⟩
instance bld_268 : fO Tryz.prog 268 [(0, 1), (1, 1)] [.string ⟨#[]⟩, .bool false] := ⟨⟨_, Tryz.runUnderlying268, fun w => by kernel_rfl⟩, ⟨_, Tryz.zeroValue268, rfl⟩⟩
instance bld_271 : fO Tryz.prog 271 [(0, 1), (1, 1)] [.string ⟨#[]⟩, .string ⟨#[]⟩] := ⟨⟨_, Tryz.runUnderlying271, fun w => by kernel_rfl⟩, ⟨_, Tryz.zeroValue271, rfl⟩⟩
instance bld_306 : fO Tryz.prog 306 [(0, 8), (8, 1)] [.int .i64 0, .int .i64 0, .int .i64 0, .int .i64 0, .bool false, .slice none 0 0, .string ⟨#[]⟩, .slice none 0 0, .int .i64 0] := ⟨⟨_, Tryz.runUnderlying306, fun w => by kernel_rfl⟩, ⟨_, Tryz.zeroValue306, rfl⟩⟩
instance bld_316 : fO Tryz.prog 316 [(0, 8), (8, 1)] [.int .i64 0, .int .i64 0, .int .i64 0, .int .i64 0, .bool false, .slice none 0 0, .string ⟨#[]⟩, .slice none 0 0, .int .i64 0] := ⟨⟨_, Tryz.runUnderlying316, fun w => by kernel_rfl⟩, ⟨_, Tryz.zeroValue316, rfl⟩⟩
end
section

def bK (e:Int):Value:=if e=0 then .nilIface else .iface 120 (.int .i64 e)
theorem cH:bK 0=.nilIface:=by simp [bK]
theorem cU {e:Int} (h:e≠0):bK e=.iface 120 (.int .i64 e):=by simp [bK,h]
theorem xJ {e:Int} (h:e=0):Value.nilIface=bK e:=by rw [h,cH]
theorem cQ {e:Int} (k:Int) (h:e=k) (hk:k≠0:=by decide):Value.iface 120 (.int .i64 k)=bK e:=by rw [h,cU hk]
theorem run_neq_err (e:Int) (w:World):(binOp .neq 39 (bK e) .nilIface).run Tryz.prog w=.ok (.bool (decide (¬e=0))) w:=by
  by_cases h:e=0
  · subst h;rw [cH];kernel_rfl
  · rw [cU h,decide_eq_true h];kernel_rfl
theorem run_eql_err (e:Int) (w:World):(binOp .eql 39 (bK e) .nilIface).run Tryz.prog w=.ok (.bool (decide (e=0))) w:=by
  by_cases h:e=0
  · subst h;rw [cH];kernel_rfl
  · rw [cU h,decide_eq_false h];kernel_rfl
theorem guard_neq_err (x:Operand) (e:Int) (w:World):(eqGuard .neq 39 x (.const .nilIface) (bK e) .nilIface).run Tryz.prog w=.ok () w:=by
  by_cases h:e=0
  · subst h;rw [cH];simp [eqGuard]
  · rw [cU h];rfl
theorem uX (x:Operand) (e:Int) (w:World):(eqGuard .eql 39 x (.const .nilIface) (bK e) .nilIface).run Tryz.prog w=.ok () w:=by
  by_cases h:e=0
  · subst h;rw [cH];simp [eqGuard]
  · rw [cU h];rfl
section
variable {B : Base} {N : Nat} {F : List (Nat × Value)} {V : aD} {L : List Box} {d : Option Tmp} {ty ty2 : TypeId} {pos : String} {af : Array Edge} {gd : Option (Nat × Bool)} {x : Operand} {e : Int}
theorem q_eneq (hx:evF F x=some (bK e)):QP Tryz.prog B N V L ⟨d,.binOp .neq 39 x (.const .nilIface) ty2,ty,pos,af,gd⟩ F (.bool (decide (¬e=0))) :=
  pC (y:=.const .nilIface) hx rfl (guard_neq_err x e) (run_neq_err e)
theorem vF (hx:evF F x=some (bK e)):QP Tryz.prog B N V L ⟨d,.binOp .eql 39 x (.const .nilIface) ty2,ty,pos,af,gd⟩ F (.bool (decide (e=0))) :=
  pC (y:=.const .nilIface) hx rfl (uX x e) (run_eql_err e)
theorem run_assert (e:Int) (w:World):(Instr.typeAssert (.iface 120 (.int .i64 e)) 39 120 true).run Tryz.prog w=.ok (.tuple #[.int .i64 e,.bool true]) w:=by kernel_rfl
theorem q_assert (hx:evF F x=some (.iface 120 (.int .i64 e))):QP Tryz.prog B N V L ⟨d,.typeAssert x 39 120 true,ty,pos,af,gd⟩ F (.tuple #[.int .i64 e,.bool true]):=gN fun a w ha _=>by
  simp [execOp,ha.ev hx,run_assert]
end
attribute [local irreducible] AtQ GoC GoL GoW QO QP Fn RV bL aG VLe bR
theorem same_c (V:aD) (e f:Int) (he:0≤e∧e≤1000):Fn Tryz.prog 15 [bK e,.int .i64 f] V fun v _=>v=.bool (decide (e=f)):=by
  by_cases h0:e=0
  · subst h0
    (refine aI Tryz.func15 rfl Tryz.ntmps15 rfl ?_;intro w0)
    repeat' (first|(refine aE ?_;first|(refine cN ?_;refine aO (vF rfl) ?_)|refine pu9 ?_)|refine eE ?_|(refine aJ rfl rfl rfl ?_ ?_<;>intro hq<;>try exact no9)|(refine bS rfl rfl rfl ?_ ?_<;>intro hq)|(refine aA rfl ?_ ?_<;>intro hq<;>try exact no9)|(refine bM rfl ?_ ?_<;>intro hq))
    all_goals (refine aM Tryz.results15 (aB rfl) ?_)
    all_goals simp_all [eq_comm]
  · rw [cU h0]
    have hnn:=run_eql_err e
    rw [cU h0] at hnn
    have hng:=fun x=>uX x e
    rw [cU h0] at hng
    (refine aI Tryz.func15 rfl Tryz.ntmps15 rfl ?_;intro w0)
    repeat' (first|(refine aE ?_;first|(refine cN ?_;refine aO (vF rfl) ?_)|refine aO (q_assert rfl) ?_|refine aO (pC (y:=.const .nilIface) rfl rfl (hng _) hnn) ?_|refine pu9 ?_)|refine cC ?_|(refine aJ rfl rfl rfl ?_ ?_<;>intro hq<;>try exact no9)|(refine aA rfl ?_ ?_<;>intro hq<;>try exact no9))
    all_goals first|(exfalso;omega)|skip
    all_goals (refine aM Tryz.results15 (aB rfl) ?_)
    all_goals (simp [*];try omega)
end
section

theorem small {p:Int→Bool} (N:Nat) (h:(List.range N).all (fun i=>p (i:Int))=true) (x:Int) (h0:0≤x) (h1:x<N):p x=true:=by
  obtain⟨n,rfl⟩:=Int.eq_ofNat_of_zero_le h0
  exact List.all_eq_true.1 h n (List.mem_range.2 (by omega))
theorem and7 (x:Int) (h0:0≤x) (h1:x<4096):bits .and .i64 x 7=x % 8:=by
  simpa using small (p:=fun x=>bits .and .i64 x 7 == x % 8) 4096 (by decide +kernel) x h0 h1
end
section

def gF (prev:Option Int):List Int→Int
  | []=>0
  | x :: l=>if ¬(0≤x∧x≤65535) then 1 else if (∃ y,prev=some y∧x≤y) then 3 else gF (some x) l
def eT (u g d:Int) (xs:List Int):Int :=
  if ¬(0≤u∧u≤65535)∨¬(0≤g∧g≤65535)∨d<0∨15<d then 1 else if 4<xs.length then 2 else gF none xs
def prevQ (xs:List Int) (k:Nat):Option Int:=if k=0 then none else xs[k - 1]?
theorem gF_bad {p:Option Int} {x:Int} {l:List Int} (h:¬(0≤x∧x≤65535)):gF p (x :: l)=1:=by rw [gF,if_pos h]
theorem gF_down {y x:Int} {l:List Int} (h:0≤x∧x≤65535) (h2:x≤y):gF (some y) (x :: l)=3:=by rw [gF,if_neg (by omega),if_pos ⟨y,rfl,h2⟩]
theorem gF_on {y x:Int} {l:List Int} (h:0≤x∧x≤65535) (h2:¬x≤y):gF (some y) (x :: l)=gF (some x) l:=by
  rw [gF,if_neg (by omega),if_neg (by rintro ⟨z,hz,hl⟩;injection hz with hz;omega)]
theorem gF_first {x:Int} {l:List Int} (h:0≤x∧x≤65535):gF none (x :: l)=gF (some x) l:=by
  rw [gF,if_neg (by omega),if_neg (by rintro ⟨z,hz,hl⟩;cases hz)]
theorem prevQ_pos {xs:List Int} {k:Nat} (h:¬k=0):prevQ xs k=xs[k - 1]?:=if_neg h
theorem rR {xs:List Int} {k:Nat}:prevQ xs (k+1)=xs[k]?:=by rw [prevQ,if_neg (by omega)];rfl
theorem drop_at' {α:Type} {xs:List α} {k:Nat} {x:α} (h:xs[k]?=some x):xs.drop k=x :: xs.drop (k+1):=jO h
theorem gF_bd:∀ (l:List Int) (p:Option Int),0≤gF p l∧gF p l≤3
  | [],_=>by simp [gF]
  | x :: l,p=>by
    rw [gF]
    split
    · omega
    · split
      · omega
      · exact gF_bd l _
theorem wQ (u g d:Int) (xs:List Int):0≤eT u g d xs∧eT u g d xs≤3:=by
  unfold eT
  (repeat' split)<;>first|omega|exact gF_bd _ _
theorem gF_ids:∀ (l:List Int) (p:Option Int),gF p l=0→∀ x∈l,0≤x∧x≤65535
  | [],_,_,x,h=>by cases h
  | y :: l,p,h,x,hx=>by
    rw [gF] at h
    split at h
    · omega
    · split at h
      · omega
      · rcases List.mem_cons.1 hx with rfl|hx
        · omega
        · exact gF_ids l _ h x hx
theorem eY {u g d:Int} {xs:List Int} (h:eT u g d xs=0):(0≤u∧u≤65535)∧(0≤g∧g≤65535)∧(0≤d∧d≤15)∧xs.length≤4∧gF none xs=0:=by
  unfold eT at h
  split at h
  · omega
  · split at h
    · omega
    · refine⟨?_,?_,?_,?_,h⟩<;>omega
theorem credF_of {u g d:Int} {xs:List Int} (h1:0≤u∧u≤65535) (h2:0≤g∧g≤65535) (h3:0≤d∧d≤15) (h4:xs.length≤4):eT u g d xs=gF none xs:=by
  unfold eT
  rw [if_neg (by omega),if_neg (by omega)]

def qY (u g d:Int) (xs:List Int) (user group:Int):Int :=
  if ¬eT u g d xs=0 then eT u g d xs
  else if ¬(0≤user∧user≤65535)∨¬(0≤group∧group≤65535) then 1
  else if ¬d / 8 % 2=1∧(¬user=u∨¬(g=group∨group∈xs)) then 10 else 0
def mS (u d user:Int):Int:=if ¬user=u∧¬user=0 then 0 else d
theorem becF_bd (u g d:Int) (xs:List Int) (user group:Int):0≤qY u g d xs user group∧qY u g d xs user group≤10:=by
  have:=wQ u g d xs
  unfold qY
  (repeat' split)<;>omega

theorem cap_bit (d:Int) (h0:0≤d) (h1:d≤15):decide (bits .and .i64 d 8=8)=decide (d / 8 % 2=1):=by
  have:=small (p:=fun d=>decide (bits .and .i64 d 8=8) == decide (d / 8 % 2=1)) 16 (by decide +kernel) d h0 (by omega)
  simpa using this
theorem cap_bit' {d:Int} (h0:0≤d) (h1:d≤15):bits .and .i64 d 8=8↔d / 8 % 2=1:=by
  have:=cap_bit d h0 h1
  rw [decide_eq_decide] at this;exact this
theorem mode_bit {m:Int} (h0:0≤m) (h1:m≤4095):(¬bits .and .i64 m 1024=0)↔m / 1024 % 2=1:=by
  have:=small (p:=fun d=>decide (¬bits .and .i64 d 1024=0) == decide (d / 1024 % 2=1)) 4096 (by decide +kernel) m h0 (by omega)
  simp only [beq_iff_eq,decide_eq_decide] at this;exact this
def wipeZ (m:Int):Int:=if m / 2048 % 2=1 then (if (m - 2048) / 1024 % 2=1 then m - 2048 - 1024 else m - 2048) else (if m / 1024 % 2=1 then m - 1024 else m)
theorem mode_wipe {m:Int} (h0:0≤m) (h1:m≤4095):bits .andNot .i64 m 3072=wipeZ m:=by
  have:=small (p:=fun d=>decide (bits .andNot .i64 d 3072=wipeZ d)) 4096 (by decide +kernel) m h0 (by omega)
  simpa using this
end
section
attribute [local irreducible] AtQ GoC GoL GoW QO QP Fn RV bL aG VLe bR
abbrev oE (u g:Int) (A:Option Addr) (n c:Nat) (d:Int):Value:=.agg #[.int .i64 u,.int .i64 g,.slice A n c,.int .i64 d]

theorem id_c (V:aD) (x:Int):Fn Tryz.prog 138 [.int .i64 x] V fun v _=>v=.bool (decide (0≤x∧x≤65535)):=by
  (refine aI Tryz.func138 rfl Tryz.ntmps138 rfl ?_;intro w0)
  repeat' (first|(refine aE ?_;refine pu9 ?_)|refine eE ?_|(refine aJ rfl rfl rfl ?_ ?_<;>intro hq<;>try exact no9)|(refine bS rfl rfl rfl ?_ ?_<;>intro hq)|(refine aA rfl ?_ ?_<;>intro hq<;>try exact no9)|(refine bM rfl ?_ ?_<;>intro hq))
  all_goals (refine aM Tryz.results138 (aB rfl) ?_)
  all_goals (simp;try omega)
theorem isID_c (V:aD) (x:Int):Fn Tryz.prog 132 [.int .i64 x] V fun v _=>v=.bool (decide (0≤x∧x≤65535)):=by
  (refine aI Tryz.func132 rfl Tryz.ntmps132 rfl ?_;intro w0)
  repeat' (first|(refine aE ?_;refine pu9 ?_)|refine eE ?_|(refine aJ rfl rfl rfl ?_ ?_<;>intro hq<;>try exact no9)|(refine bS rfl rfl rfl ?_ ?_<;>intro hq)|(refine aA rfl ?_ ?_<;>intro hq<;>try exact no9)|(refine bM rfl ?_ ?_<;>intro hq))
  all_goals (refine aM Tryz.results132 (aB rfl) ?_)
  all_goals (simp;try omega)
theorem Can_c (V:aD) (a b d what:Int) (A:Option Addr) (n c:Nat):Fn Tryz.prog 163 [oE a b A n c d,.int .i64 what] V fun v _=>v=.bool (decide (bits .and .i64 d what=what)):=by
  (refine aI Tryz.func163 rfl Tryz.ntmps163 rfl ?_;intro w0)
  repeat' (first|(refine aE ?_;first|(refine cN ?_;refine aO (q_and rfl rfl) ?_)|(refine al9 ?_;intro γ)|refine pu9 ?_)|refine cC ?_|fail)
  (refine aM Tryz.results163 (aB rfl) ?_)
  rfl
theorem contains_at {xs:List Int} {k:Nat} {z:Int} (h:xs[k]?=some z) (g:Int):g∈xs.take (k+1)↔g∈xs.take k∨z=g:=by
  rw [List.take_add_one,h];simp [eq_comm]
theorem Has_c (V:aD) (a b d g:Int) (A:Option Addr) (n c:Nat) (xs:List Int) (h:eM V A n xs) :
    Fn Tryz.prog 164 [oE a b A n c d,.int .i64 g] V fun v _=>v=.bool (decide (b=g∨g∈xs)):=by
  have hm:=h.max
  have hl:=h.1
  (refine aI Tryz.func164 rfl Tryz.ntmps164 rfl ?_;intro w0)
  repeat' (first|(refine aE ?_;first|(refine al9 ?_;intro γ)|refine pu9 ?_)|refine bY ?_|(refine aA rfl ?_ ?_<;>intro hq<;>try exact no9))
  · (refine aM Tryz.results164 (aB rfl) ?_)
    rw [decide_eq_true (.inl hq)]
  · have hb:=hq
    refine bN (fun F V' L' m=>∃ k:Nat,k≤n∧m=n - k∧V'=V∧L'=[]∧¬g∈xs.take k∧F=[(1,.int .i64 g),(12,.slice A n c),(13,.int .i64 n),(14,.int .i64 k)]) (m:=n) ⟨0,Nat.zero_le _,by omega,rfl,rfl,by simp,rfl⟩ bH rfl sl9 ?_
    rintro F V' L' m ⟨k,hk,rfl,rfl,rfl,hc,rfl⟩
    by_cases hlt:k<n
    · obtain⟨bb,off,z,rfl,hz,hcell⟩:=h.at_ hlt
      have hs:=contains_at hz g
      repeat' (first|(refine aE ?_;refine pu9 ?_)|refine bY ?_|(refine aA rfl ?_ ?_<;>intro hq<;>try exact no9))
      · (refine aM Tryz.results164 (aB rfl) ?_)
        rw [decide_eq_true (.inr (hq▸List.mem_of_getElem? hz))]
      · refine aX _ (n - (k+1)) ⟨k+1,by omega,rfl,rfl,rfl,?_,rfl⟩ (by omega) bH sl9
        rw [hs];rintro (h1|h1)
        · exact hc h1
        · exact hq h1
    · repeat' (first|(refine aE ?_;refine pu9 ?_)|refine dT ?_|(refine aA rfl ?_ ?_<;>intro hq<;>try exact no9))
      (refine aM Tryz.results164 (aB rfl) ?_)
      have:k=n:=by omega
      rw [List.take_of_length_le (by omega)] at hc
      rw [decide_eq_false (by rintro (h1|h1)<;>contradiction)]
end
section
attribute [local irreducible] AtQ GoC GoL GoW QO QP Fn RV bL aG VLe bR
theorem eM.prev {V:aD} {b off n k:Nat} {xs:List Int} (h:eM V (some ⟨b,off,none⟩) n xs) (hk:k<n) (h0:¬k=0):∃ z,xs[k - 1]?=some z∧V ⟨b,off+((k:Int) - 1).toNat * 1,none⟩=some (.int .i64 z):=by
  obtain⟨b',off',z,he,hz,hc⟩:=h.at_ (k:=k - 1) (by omega)
  cases he
  exact⟨z,hz,by rw [show ((k:Int) - 1).toNat=k - 1 by omega];exact hc⟩
theorem Check_c (V:aD) (a b d:Int) (A:Option Addr) (n c:Nat) (xs:List Int) (h:eM V A n xs) :
    Fn Tryz.prog 63 [oE a b A n c d] V fun v _=>v=bK (eT a b d xs):=by
  have hm:=h.max
  have hl:=h.1
  (refine aI Tryz.func63 rfl Tryz.ntmps63 rfl ?_;intro w0)
  repeat' (first|(refine aE ?_;first|(refine aC ?_;refine aP rfl (aK ⟨Tryz.call138⟩ rfl (id_c _ _)) ?_)|(refine al9 ?_;intro γ)|refine pu9 ?_)|refine dG ?_|(refine aJ rfl rfl rfl ?_ ?_<;>intro hq<;>try exact no9)|(refine aA rfl ?_ ?_<;>intro hq<;>try exact no9))
  all_goals try ((refine aM Tryz.results63 (aB rfl) ?_);refine cQ 1 (by unfold eT;rw [if_pos (by omega)]))
  all_goals try ((refine aM Tryz.results63 (aB rfl) ?_);refine cQ 2 (by unfold eT;rw [if_neg (by omega),if_pos (by omega)]))
  have hr:eT a b d xs=gF none xs:=by unfold eT;rw [if_neg (by omega),if_neg (by omega)]
  rw [hr]
  refine bN (fun F V' L' m=>∃ k:Nat,k≤n∧m=n - k∧V'=V∧L'=[⟨γ,_,[.int .i64 a,.int .i64 b,.slice A n c,.int .i64 d]⟩]∧gF none xs=gF (prevQ xs k) (xs.drop k)∧F=[(1,.pointer (some ⟨γ,0,none⟩)),(32,.slice A n c),(33,.int .i64 n),(34,.int .i64 k)]) (m:=n) ⟨0,Nat.zero_le _,by omega,rfl,rfl,rfl,rfl⟩ bH rfl sl9 ?_
  rintro F V' L' m ⟨k,hk,rfl,rfl,rfl,hg,rfl⟩
  by_cases hlt:k<n
  · obtain⟨bb,off,z,rfl,hz,hcell⟩:=h.at_ hlt
    rw [hg,drop_at' hz]
    by_cases h0:k=0
    · subst h0
      repeat' (first|(refine aE ?_;first|(refine aC ?_;refine aP rfl (aK ⟨Tryz.call138⟩ rfl (id_c _ _)) ?_)|refine pu9 ?_)|refine dG ?_|(refine aA rfl ?_ ?_<;>intro hq<;>try exact no9))
      · (refine aM Tryz.results63 (aB rfl) ?_)
        exact cQ 1 (gF_bad hq)
      · refine aX _ (n - (0+1)) ⟨0+1,by omega,rfl,rfl,rfl,?_,rfl⟩ (by omega) bH sl9
        rw [show prevQ xs 0=none from rfl,gF_first (by omega),rR,hz]
    · obtain⟨y,hy,hcy⟩:=h.prev hlt h0
      rw [prevQ_pos h0,hy]
      repeat' (first|(refine aE ?_;first|(refine aC ?_;refine aP rfl (aK ⟨Tryz.call138⟩ rfl (id_c _ _)) ?_)|refine pu9 ?_)|refine bY ?_|(refine aJ rfl rfl rfl ?_ ?_<;>intro hq<;>try exact no9)|(refine aA rfl ?_ ?_<;>intro hq<;>try exact no9))
      · (refine aM Tryz.results63 (aB rfl) ?_)
        exact cQ 1 (gF_bad hq)
      · (refine aM Tryz.results63 (aB rfl) ?_)
        exact cQ 3 (gF_down (by omega) (by omega))
      · refine aX _ (n - (k+1)) ⟨k+1,by omega,rfl,rfl,rfl,?_,rfl⟩ (by omega) bH sl9
        rw [gF_on (by omega) (by omega),rR,hz]
  · repeat' (first|(refine aE ?_;refine pu9 ?_)|refine dT ?_|(refine aA rfl ?_ ?_<;>intro hq<;>try exact no9))
    (refine aM Tryz.results63 (aB rfl) ?_)
    rw [hg,List.drop_eq_nil_of_le (by omega)]
    exact xJ rfl
theorem CredFault_c (V:aD) (a b d:Int) (A:Option Addr) (n c:Nat) (xs:List Int) (h:eM V A n xs) :
    Fn Tryz.prog 59 [oE a b A n c d] V fun v _=>v=.int .i64 (eT a b d xs):=by
  have hm:=h.max
  have hl:=h.1
  (refine aI Tryz.func59 rfl Tryz.ntmps59 rfl ?_;intro w0)
  repeat' (first|(refine aE ?_;first|(refine aC ?_;refine aP rfl (aK ⟨Tryz.call132⟩ rfl (isID_c _ _)) ?_)|(refine al9 ?_;intro γ)|refine pu9 ?_)|refine dG ?_|(refine aJ rfl rfl rfl ?_ ?_<;>intro hq<;>try exact no9)|(refine aA rfl ?_ ?_<;>intro hq<;>try exact no9))
  all_goals try ((refine aM Tryz.results59 (aB rfl) ?_);rw [show eT a b d xs=1 by unfold eT;rw [if_pos (by omega)]])
  all_goals try ((refine aM Tryz.results59 (aB rfl) ?_);rw [show eT a b d xs=2 by unfold eT;rw [if_neg (by omega),if_pos (by omega)]])
  have hr:eT a b d xs=gF none xs:=by unfold eT;rw [if_neg (by omega),if_neg (by omega)]
  rw [hr]
  refine bN (fun F V' L' m=>∃ k:Nat,k≤n∧m=n - k∧V'=V∧L'=[⟨γ,_,[.int .i64 a,.int .i64 b,.slice A n c,.int .i64 d]⟩]∧gF none xs=gF (prevQ xs k) (xs.drop k)∧F=[(1,.pointer (some ⟨γ,0,none⟩)),(3,.int .i64 k)]) (m:=n) ⟨0,Nat.zero_le _,by omega,rfl,rfl,rfl,rfl⟩ bH rfl sl9 ?_
  rintro F V' L' m ⟨k,hk,rfl,rfl,rfl,hg,rfl⟩
  by_cases hlt:k<n
  · obtain⟨bb,off,z,rfl,hz,hcell⟩:=h.at_ hlt
    rw [hg,drop_at' hz]
    by_cases h0:k=0
    · subst h0
      repeat' (first|(refine aE ?_;first|(refine aC ?_;refine aP rfl (aK ⟨Tryz.call132⟩ rfl (isID_c _ _)) ?_)|refine pu9 ?_)|refine dG ?_|(refine aA rfl ?_ ?_<;>intro hq<;>try exact no9)|refine bQ (id:=10) mixed (by kernel_rfl) ?_)
      · (refine aM Tryz.results59 (aB rfl) ?_)
        rw [gF_bad hq]
      · refine aX _ (n - (0+1)) ⟨0+1,by omega,rfl,rfl,rfl,?_,rfl⟩ (by omega) bH sl9
        rw [show prevQ xs 0=none from rfl,gF_first (by omega),rR,hz]
    · obtain⟨y,hy,hcy⟩:=h.prev hlt h0
      rw [prevQ_pos h0,hy]
      repeat' (first|(refine aE ?_;first|(refine aC ?_;refine aP rfl (aK ⟨Tryz.call132⟩ rfl (isID_c _ _)) ?_)|refine pu9 ?_)|refine bY ?_|(refine aJ rfl rfl rfl ?_ ?_<;>intro hq<;>try exact no9)|(refine aA rfl ?_ ?_<;>intro hq<;>try exact no9)|refine bQ (id:=10) mixed (by kernel_rfl) ?_)
      · (refine aM Tryz.results59 (aB rfl) ?_)
        rw [gF_bad hq]
      · (refine aM Tryz.results59 (aB rfl) ?_)
        rw [gF_down (by omega) (by omega)]
      · refine aX _ (n - (k+1)) ⟨k+1,by omega,rfl,rfl,rfl,?_,rfl⟩ (by omega) bH sl9
        rw [gF_on (by omega) (by omega),rR,hz]
  · repeat' (first|(refine aE ?_;refine pu9 ?_)|refine dT ?_|(refine aA rfl ?_ ?_<;>intro hq<;>try exact no9))
    (refine aM Tryz.results59 (aB rfl) ?_)
    rw [hg,List.drop_eq_nil_of_le (by omega)]
    rfl

def sB (b d:Int) (xs:List Int) (mode g:Int):Int:=if mode / 1024 % 2=1∧¬(b=g∨g∈xs)∧¬d / 8 % 2=1 then mode - 1024 else mode
theorem Keep_c (V:aD) (a b d:Int) (A:Option Addr) (n c:Nat) (xs:List Int) (h:eM V A n xs) (mode g:Int) (h0:0≤mode) (h1:mode≤4095) (d0:0≤d) (d1:d≤15) :
    Fn Tryz.prog 161 [oE a b A n c d,.int .i64 mode,.int .i64 g] V fun v _=>v=.int .i64 (sB b d xs mode g):=by
  have e1:=mode_bit h0 h1
  have e2:=cap_bit' d0 d1
  (refine aI Tryz.func161 rfl Tryz.ntmps161 rfl ?_;intro w0)
  repeat' (first|(refine aE ?_;first|(refine cN ?_;refine aO (q_and rfl rfl) ?_)|(refine aC ?_;(first|refine aP rfl (aK ⟨Tryz.call164⟩ rfl (Has_c _ _ _ _ _ _ _ _ xs h)) ?_|refine aP rfl (aK ⟨Tryz.call163⟩ rfl (Can_c _ _ _ _ _ _ _ _)) ?_))|(refine al9 ?_;intro γ)|refine pu9 ?_)|refine cX ?_|(refine aJ rfl rfl rfl ?_ ?_<;>intro hq<;>try exact no9)|(refine aA rfl ?_ ?_<;>intro hq<;>try exact no9))
  all_goals (refine aM Tryz.results161 (aB rfl) ?_)
  all_goals (unfold sB;split<;>first|rfl|(exfalso;simp_all;done)|(exfalso;omega))
def sN (d mode:Int):Int:=if d / 8 % 2=1 then mode else wipeZ mode
theorem Wipe_c (V:aD) (a b d:Int) (A:Option Addr) (n c:Nat) (mode:Int) (h0:0≤mode) (h1:mode≤4095) (d0:0≤d) (d1:d≤15) :
    Fn Tryz.prog 150 [oE a b A n c d,.int .i64 mode] V fun v _=>v=.int .i64 (sN d mode):=by
  have e1:=mode_wipe h0 h1
  have e2:=cap_bit' d0 d1
  (refine aI Tryz.func150 rfl Tryz.ntmps150 rfl ?_;intro w0)
  repeat' (first|(refine aE ?_;first|(refine aC ?_;refine aP rfl (aK ⟨Tryz.call163⟩ rfl (Can_c _ _ _ _ _ _ _ _)) ?_)|(refine cN ?_;refine aO (q_andNot rfl rfl) ?_)|(refine al9 ?_;intro γ)|refine pu9 ?_)|refine cC ?_|(refine aA rfl ?_ ?_<;>intro hq<;>try exact no9))
  all_goals (refine aM Tryz.results150 (aB rfl) ?_)
  · rw [sN,if_pos (by omega)]
  · rw [sN,if_neg (by omega),←e1]
theorem SameNumbers_c (V:aD) (A B:Option Addr) (n m c1 c2:Nat) (xs ys:List Int) (h:eM V A n xs) (k:eM V B m ys) :
    Fn Tryz.prog 98 [.slice A n c1,.slice B m c2] V fun v _=>v=.bool (decide (xs=ys)):=by
  have hm:=h.max
  have hl:=h.1
  have hl2:=k.1
  (refine aI Tryz.func98 rfl Tryz.ntmps98 rfl ?_;intro w0)
  repeat' (first|(refine aE ?_;refine pu9 ?_)|refine bY ?_|(refine aA rfl ?_ ?_<;>intro hq<;>try exact no9))
  · (refine aM Tryz.results98 (aB rfl) ?_)
    rw [decide_eq_false (fun e=>by subst e;omega)]
  · have hnm:n=m:=by omega
    subst hnm
    refine bN (fun F V' L' m=>∃ i:Nat,i≤n∧m=n - i∧V'=V∧L'=[]∧xs.take i=ys.take i∧F=[(0,.slice A n c1),(1,.slice B n c2),(5,.int .i64 i)]) (m:=n) ⟨0,Nat.zero_le _,by omega,rfl,rfl,by simp,rfl⟩ bH rfl sl9 ?_
    rintro F V' L' m ⟨i,hi,rfl,rfl,rfl,he,rfl⟩
    by_cases hlt:i<n
    · obtain⟨b1,o1,x,rfl,hx,hcx⟩:=h.at_ hlt
      obtain⟨b2,o2,y,rfl,hy,hcy⟩:=k.at_ hlt
      repeat' (first|(refine aE ?_;refine pu9 ?_)|refine bY ?_|(refine aA rfl ?_ ?_<;>intro hq<;>try exact no9)|refine bQ (id:=6) mixed (by kernel_rfl) ?_)
      · (refine aM Tryz.results98 (aB rfl) ?_)
        rw [decide_eq_false (fun e=>by subst e;rw [hx] at hy;injection hy;contradiction)]
      · refine aX _ (n - (i+1)) ⟨i+1,by omega,rfl,rfl,rfl,?_,rfl⟩ (by omega) bH sl9
        rw [List.take_add_one,List.take_add_one,he,hx,hy,show x=y by omega]
    · repeat' (first|(refine aE ?_;refine pu9 ?_)|refine dT ?_|(refine aA rfl ?_ ?_<;>intro hq<;>try exact no9))
      (refine aM Tryz.results98 (aB rfl) ?_)
      rw [List.take_of_length_le (by omega),List.take_of_length_le (by omega)] at he
      rw [decide_eq_true he]
theorem SameCred_c (V:aD) (a b d a' b' d':Int) (A B:Option Addr) (n m c1 c2:Nat) (xs ys:List Int) (h:eM V A n xs) (k:eM V B m ys) :
    Fn Tryz.prog 29 [oE a b A n c1 d,oE a' b' B m c2 d'] V fun v _=>v=.bool (decide (a=a'∧b=b'∧d=d'∧xs=ys)):=by
  (refine aI Tryz.func29 rfl Tryz.ntmps29 rfl ?_;intro w0)
  repeat' (first|(refine aE ?_;first|(refine aC ?_;refine aP rfl (aK ⟨Tryz.call98⟩ rfl (SameNumbers_c _ _ _ _ _ _ _ xs ys h k)) ?_)|(refine al9 ?_;intro γ)|refine pu9 ?_)|refine cC ?_|(refine aJ rfl rfl rfl ?_ ?_<;>intro hq<;>try exact no9))
  all_goals (refine aM Tryz.results29 (aB rfl) ?_)
  all_goals (simp;try simp_all)
end
section
section
variable {P : Program} {B : Base} {N : Nat} {F : List (Nat × Value)} {V : aD} {L : List Box}
variable {d : Option Tmp} {ty : TypeId} {pos : String} {af : Array Edge} {gd : Option (Nat × Bool)} {x y : Operand}
theorem q_shr6 {k:IntKind} {t ty2:TypeId} {a:Int} (hx:evF F x=some (.int .i64 a)) (hy:evF F y=some (.int k 6)) (h:0≤a):QP P B N V L ⟨d,.binOp .shr t x y ty2,ty,pos,af,gd⟩ F (.int .i64 (a / 64)):=by
  refine pC hx hy (fun w=>by simp [eqGuard]) (fun w=>?_)
  have e:a.fdiv 64=a / 64:=Int.fdiv_eq_ediv_of_nonneg a (by decide)
  simp [binOp,Op.shift,IntKind.bits,e]
theorem q_shr3 {k:IntKind} {t ty2:TypeId} {a:Int} (hx:evF F x=some (.int .i64 a)) (hy:evF F y=some (.int k 3)) (h:0≤a):QP P B N V L ⟨d,.binOp .shr t x y ty2,ty,pos,af,gd⟩ F (.int .i64 (a / 8)):=by
  refine pC hx hy (fun w=>by simp [eqGuard]) (fun w=>?_)
  have e:a.fdiv 8=a / 8:=Int.fdiv_eq_ediv_of_nonneg a (by decide)
  simp [binOp,Op.shift,IntKind.bits,e]
end
@[ext] structure CR where
  u:Int
  g:Int
  d:Int
  xs:List Int
@[ext] structure TH where
  dir:Bool
  mode:Int
  user:Int
  group:Int
  mapped:Bool
def thZ:TH:=⟨false,0,0,0,false⟩
abbrev crV (c:CR) (A:Option Addr) (n k:Nat):Value:=oE c.u c.g A n k c.d
abbrev thV (t:TH):Value:=.agg #[.bool t.dir,.int .i64 t.mode,.int .i64 t.user,.int .i64 t.group,.bool t.mapped]
def rgtT (c:CR) (t:TH):Int:=if t.mapped=true∧t.user=c.u then t.mode / 64 % 8 else if t.mapped=true∧(c.g=t.group∨t.group∈c.xs) then t.mode / 8 % 8 else t.mode % 8
theorem rgt_bd (c:CR) (t:TH):0≤rgtT c t∧rgtT c t<8:=by
  unfold rgtT
  (repeat' split)<;>omega
def goesT (t:TH):Prop:=t.mode % 2=1∨t.mode / 8 % 2=1∨t.mode / 64 % 2=1
instance (t : TH) : Decidable (goesT t) := by unfold goesT; infer_instance
def nH (c:CR) (t:TH) (w:Int):Bool:=decide (rgtT c t / w % 2=1∨(t.mapped=true∧c.d / 2 % 2=1∧(t.dir=true∨¬w=1∨goesT t)))
def tL (c:CR) (t:TH):Bool:=decide (t.mapped=true∧(t.user=c.u∨c.d / 4 % 2=1))
def takesT (c:CR) (p t:TH):Bool:=decide (¬p.mode / 512 % 2=1∨tL c t=true∨(p.mapped=true∧p.user=c.u))
theorem and7' (x:Int) (h0:0≤x) (h1:x≤4095):bits .and .i64 x 7=x % 8:=and7 x h0 (by omega)
theorem and_bit (r w:Int) (h0:0≤r) (h1:r<8) (hw:w=1∨w=2∨w=4):bits .and .i64 r w=w↔r / w % 2=1:=by
  have k1:=small (p:=fun r=>decide (bits .and .i64 r 1=1) == decide (r / 1 % 2=1)) 8 (by decide +kernel) r h0 h1
  have k2:=small (p:=fun r=>decide (bits .and .i64 r 2=2) == decide (r / 2 % 2=1)) 8 (by decide +kernel) r h0 h1
  have k4:=small (p:=fun r=>decide (bits .and .i64 r 4=4) == decide (r / 4 % 2=1)) 8 (by decide +kernel) r h0 h1
  simp only [beq_iff_eq,decide_eq_decide] at k1 k2 k4
  rcases hw with rfl|rfl|rfl
  · exact k1
  · exact k2
  · exact k4
theorem cap2' {d:Int} (h0:0≤d) (h1:d≤15):bits .and .i64 d 2=2↔d / 2 % 2=1:=by
  have k:=small (p:=fun r=>decide (bits .and .i64 r 2=2) == decide (r / 2 % 2=1)) 16 (by decide +kernel) d h0 (by omega)
  simpa using k
theorem cap4' {d:Int} (h0:0≤d) (h1:d≤15):bits .and .i64 d 4=4↔d / 4 % 2=1:=by
  have k:=small (p:=fun r=>decide (bits .and .i64 r 4=4) == decide (r / 4 % 2=1)) 16 (by decide +kernel) d h0 (by omega)
  simpa using k
theorem want1 (w:Int) (hw:w=1∨w=2∨w=4):bits .and .i64 w 1=0↔¬w=1:=by rcases hw with rfl|rfl|rfl<;>decide +kernel
theorem mode73 {t:TH} (h0:0≤t.mode) (h1:t.mode≤4095):(¬bits .and .i64 t.mode 73=0)↔goesT t:=by
  have k:=small (p:=fun r=>decide (¬bits .and .i64 r 73=0) == decide (r % 2=1∨r / 8 % 2=1∨r / 64 % 2=1)) 4096 (by decide +kernel) t.mode h0 (by omega)
  simp only [beq_iff_eq,decide_eq_decide] at k
  exact k
theorem mode512 {m:Int} (h0:0≤m) (h1:m≤4095):bits .and .i64 m 512=0↔¬m / 512 % 2=1:=by
  have k:=small (p:=fun r=>decide (bits .and .i64 r 512=0) == decide (¬r / 512 % 2=1)) 4096 (by decide +kernel) m h0 (by omega)
  simp only [beq_iff_eq,decide_eq_decide] at k
  exact k
attribute [local irreducible] AtQ GoC GoL GoW QO QP Fn RV bL aG VLe bR
theorem class_c (V:aD) (c:CR) (A:Option Addr) (n k:Nat) (h:eM V A n c.xs) (t:TH) (hm:0≤t.mode∧t.mode≤4095) :
    Fn Tryz.prog 228 [crV c A n k,thV t] V fun v _=>v=.int .i64 (rgtT c t):=by
  (refine aI Tryz.func228 rfl Tryz.ntmps228 rfl ?_;intro w0)
  repeat' (first|(refine aE ?_;first|(refine cN ?_;(first|refine aO (q_shr3 rfl rfl (by omega)) ?_|refine aO (q_shr6 rfl rfl (by omega)) ?_|refine aO (q_shr rfl rfl (by omega)) ?_|refine aO (q_and rfl rfl) ?_))|(refine aC ?_;refine aP rfl (aK ⟨Tryz.call164⟩ rfl (Has_c _ _ _ _ _ _ _ _ c.xs h)) ?_)|(refine al9 ?_;intro γ)|refine pu9 ?_)|refine dG ?_|(refine bS rfl rfl rfl ?_ ?_<;>intro hq)|(refine aA rfl ?_ ?_<;>intro hq<;>try exact no9))
  all_goals (refine aM Tryz.results228 (aB rfl) ?_)
  all_goals
    refine congrArg (Value.int .i64) ?_
    rw [and7' _ (by omega) (by omega)]
    unfold rgtT
    simp_all
theorem May_c (V:aD) (c:CR) (A:Option Addr) (n k:Nat) (h:eM V A n c.xs) (hd:0≤c.d∧c.d≤15) (t:TH) (hm:0≤t.mode∧t.mode≤4095) (w:Int) (hw:w=1∨w=2∨w=4) :
    Fn Tryz.prog 144 [crV c A n k,thV t,.int .i64 w] V fun v _=>v=.bool (nH c t w):=by
  have hb:=and_bit (rgtT c t) w (rgt_bd c t).1 (rgt_bd c t).2 hw
  have h2:=cap2' hd.1 hd.2
  have h1:=want1 w hw
  have h7:=mode73 hm.1 hm.2
  (refine aI Tryz.func144 rfl Tryz.ntmps144 rfl ?_;intro w0)
  repeat' (first|(refine aE ?_;first|(refine cN ?_;refine aO (q_and rfl rfl) ?_)|(refine aC ?_;(first|refine aP rfl (aK ⟨Tryz.call228⟩ rfl (class_c _ c A n k h t hm)) ?_|refine aP rfl (aK ⟨Tryz.call163⟩ rfl (Can_c _ _ _ _ _ _ _ _)) ?_))|(refine al9 ?_;intro γ)|refine pu9 ?_)|refine cX ?_|(refine aJ rfl rfl rfl ?_ ?_<;>intro hq<;>try exact no9)|(refine bS rfl rfl rfl ?_ ?_<;>intro hq)|(refine aA rfl ?_ ?_<;>intro hq<;>try exact no9))
  all_goals (refine aM Tryz.results144 (aB rfl) ?_)
  all_goals first
    | exact no9
    | (refine congrArg Value.bool ?_
       unfold nH
       simp_all)
theorem Owns_c (V:aD) (c:CR) (A:Option Addr) (n k:Nat) (hd:0≤c.d∧c.d≤15) (t:TH) :
    Fn Tryz.prog 160 [crV c A n k,thV t] V fun v _=>v=.bool (tL c t):=by
  have h4:=cap4' hd.1 hd.2
  (refine aI Tryz.func160 rfl Tryz.ntmps160 rfl ?_;intro w0)
  repeat' (first|(refine aE ?_;first|(refine aC ?_;refine aP rfl (aK ⟨Tryz.call163⟩ rfl (Can_c _ _ _ _ _ _ _ _)) ?_)|(refine al9 ?_;intro γ)|refine pu9 ?_)|refine cC ?_|(refine aJ rfl rfl rfl ?_ ?_<;>intro hq<;>try exact no9)|(refine bS rfl rfl rfl ?_ ?_<;>intro hq))
  all_goals (refine aM Tryz.results160 (aB rfl) ?_)
  all_goals
    refine congrArg Value.bool ?_
    unfold tL
    simp_all
theorem Takes_c (V:aD) (c:CR) (A:Option Addr) (n k:Nat) (hd:0≤c.d∧c.d≤15) (p t:TH) (hm:0≤p.mode∧p.mode≤4095) :
    Fn Tryz.prog 231 [crV c A n k,thV p,thV t] V fun v _=>v=.bool (takesT c p t):=by
  have h5:=mode512 hm.1 hm.2
  (refine aI Tryz.func231 rfl Tryz.ntmps231 rfl ?_;intro w0)
  repeat' (first|(refine aE ?_;first|(refine cN ?_;refine aO (q_and rfl rfl) ?_)|(refine aC ?_;refine aP rfl (aK ⟨Tryz.call160⟩ rfl (Owns_c _ c A n k hd t)) ?_)|(refine al9 ?_;intro γ)|refine pu9 ?_)|refine cC ?_|(refine aJ rfl rfl rfl ?_ ?_<;>intro hq<;>try exact no9)|(refine bS rfl rfl rfl ?_ ?_<;>intro hq)|(refine aA rfl ?_ ?_<;>intro hq<;>try exact no9))
  all_goals (refine aM Tryz.results231 (aB rfl) ?_)
  all_goals
    refine congrArg Value.bool ?_
    unfold takesT tL
    simp_all
end
section

def eP {α:Type} (V:aD) (sz:Nat) (f:α→List Value) (A:Option Addr) (n:Nat) (xs:List α):Prop :=
  xs.length=n∧n≤maxLen∧(0<n→∃ b off,A=some ⟨b,off,none⟩∧∀ k x,xs[k]?=some x→aG V b (off+k * sz) (f x))
section
variable {α : Type} {V V' : aD} {sz n : Nat} {f : α → List Value} {A : Option Addr} {xs : List α}
theorem eP.le (h:eP V sz f A n xs) (hv:VLe V V'):eP V' sz f A n xs:=⟨h.1,h.2.1,fun hn=>let ⟨b,off,ha,hc⟩:=h.2.2 hn;⟨b,off,ha,fun k x hk=>(hc k x hk).le hv⟩⟩
theorem eP.nil:eP V sz f A 0 []:=⟨rfl,Nat.zero_le _,fun h=>absurd h (by omega)⟩
theorem eP.max (h:eP V sz f A n xs):n≤9223372036854775807:=by
  have:=h.2.1;unfold maxLen at this;omega
theorem eP.at_ (h:eP V sz f A n xs) {k:Nat} (hk:k<n):∃ b off x,A=some ⟨b,off,none⟩∧xs[k]?=some x∧aG V b (off+k * sz) (f x):=by
  obtain⟨h1,_,h3⟩:=h
  obtain⟨b,off,ha,hc⟩:=h3 (by omega)
  have hx:xs[k]?=some (xs[k]'(by omega)):=List.getElem?_eq_getElem (by omega)
  exact⟨b,off,_,ha,hx,hc k _ hx⟩
theorem flat_at (f:α→List Value) (hf:∀ x,(f x).length=sz):∀ (xs:List α) (k j:Nat) (x:α) (v:Value),xs[k]?=some x→(f x)[j]?=some v→(xs.flatMap f)[k * sz+j]?=some v
  | [],_,_,_,_,h,_=>by simp at h
  | y :: xs,0,j,x,v,h,hv=>by
    simp at h;subst h
    have hj:j<(f y).length:=by
      rcases Nat.lt_or_ge j (f y).length with h|h
      · exact h
      · rw [List.getElem?_eq_none h] at hv;cases hv
    rw [List.flatMap_cons,Nat.zero_mul,Nat.zero_add,List.getElem?_append_left hj];exact hv
  | y :: xs,k+1,j,x,v,h,hv=>by
    have:=flat_at f hf xs k j x v (by simpa using h) hv
    rw [List.flatMap_cons,List.getElem?_append_right (by rw [hf];rw [Nat.succ_mul];omega),hf,show (k+1) * sz+j - sz=k * sz+j by rw [Nat.succ_mul];omega]
    exact this
theorem lO (f:α→List Value) (hf:∀ x,(f x).length=sz) (xs:List α):(xs.flatMap f).length=xs.length * sz:=by
  induction xs with
  | nil=>simp
  | cons y xs ih=>rw [List.flatMap_cons,List.length_append,hf,ih,List.length_cons,Nat.succ_mul];omega
theorem flat_inv (f:α→List Value) (hf:∀ x,(f x).length=sz):∀ (xs:List α) (i:Nat) (v:Value),(xs.flatMap f)[i]?=some v→∃ k j x,i=k * sz+j∧xs[k]?=some x∧(f x)[j]?=some v
  | [],i,v,h=>by simp at h
  | y :: xs,i,v,h=>by
    rw [List.flatMap_cons] at h
    rcases Nat.lt_or_ge i sz with hi|hi
    · rw [List.getElem?_append_left (by rw [hf];exact hi)] at h
      exact⟨0,i,y,by omega,rfl,h⟩
    · rw [List.getElem?_append_right (by rw [hf];exact hi),hf] at h
      obtain⟨k,j,x,h1,h2,h3⟩:=flat_inv f hf xs (i - sz) v h
      exact⟨k+1,j,x,by rw [Nat.succ_mul];omega,by simpa using h2,h3⟩
theorem eP.cells (h:eP V sz f A n xs) (hf:∀ x,(f x).length=sz):eL V sz A n (xs.flatMap f):=by
  obtain⟨h1,_,h3⟩:=h
  refine⟨by rw [lO f hf,h1],fun hn=>?_⟩
  obtain⟨b,off,ha,hc⟩:=h3 hn
  refine⟨b,off,ha,fun i v hi=>?_⟩
  obtain⟨k,j,x,rfl,hx,hv⟩:=flat_inv f hf xs i v hi
  have:=hc k x hx j v hv
  rw [show off+(k * sz+j)=off+k * sz+j by omega];exact this
theorem eP.of_cells (h:eL V sz A n (xs.flatMap f)) (hf:∀ x,(f x).length=sz) (hl:xs.length=n) (hm:n≤maxLen):eP V sz f A n xs:=by
  refine⟨hl,hm,fun hn=>?_⟩
  obtain⟨b,off,ha,hc⟩:=h.2 hn
  refine⟨b,off,ha,fun k x hx j v hv=>?_⟩
  have:=hc (k * sz+j) v (flat_at f hf xs k j x v hx hv)
  rw [show off+k * sz+j=off+(k * sz+j) by omega];exact this
theorem eP.take (h:eP V sz f A n xs) {k:Nat} (hk:k≤n):eP V sz f A k (xs.take k):=by
  refine⟨by rw [List.length_take,h.1];omega,Nat.le_trans hk h.2.1,fun hn=>?_⟩
  obtain⟨b,off,ha,hc⟩:=h.2.2 (by omega)
  refine⟨b,off,ha,fun j x hj=>hc j x ?_⟩
  rw [List.getElem?_take] at hj
  split at hj
  · exact hj
  · cases hj
theorem eP.drop (h:eP V sz f A n xs) {k c:Nat} (hk:k≤n) (hc':n≤c):eP V sz f (vX A c k sz) (n - k) (xs.drop k):=by
  refine⟨by rw [List.length_drop,h.1],Nat.le_trans (Nat.sub_le _ _) h.2.1,fun hn=>?_⟩
  obtain⟨b,off,ha,hc⟩:=h.2.2 (by omega)
  refine⟨b,off+k * sz,?_,fun j x hj=>?_⟩
  · unfold vX
    rw [if_neg (by omega),ha]
    simp [iP]
  · rw [List.getElem?_drop] at hj
    have:=hc (k+j) x hj
    rw [show off+k * sz+j * sz=off+(k+j) * sz by rw [Nat.add_mul];omega];exact this
theorem cO.cap {A:Option Addr} {n c E sz:Nat} {xs:List Value} {L1:List Box} (h:cO A n c E sz xs L1):n≤c:=by
  rcases h.2 with ⟨_,_,rfl,_⟩|⟨_,_,_,_,h,_⟩
  · omega
  · exact h
end
end
section

section
variable {P : Program} {B : Base} {N : Nat} {Q : Exit → Act → World → Prop} {k : List jI} {F : List (Nat × Value)} {V : aD} {L : List Box} {w : World}
variable {d : Option Tmp} {ty : TypeId} {pos : String} {af : Array Edge} {gd : Option (Nat × Bool)} {x y : Operand} {T T2 : TypeId} {ops : Array Oper} {rest : List Oper}

theorem src_row {A:Option Addr} {n c E sz:Nat} {xs:List Value} {L1:List Box} (h:cO A n c E sz xs L1) {f:List Box→List Box} (hL:mY L L1 f):bR B V L sz A n xs:=fun w hs=>by
  obtain⟨X,Y,hX,_⟩:=hL.h
  exact mQ.of_own (h.owns hs (fun b hb=>by rw [hX];simp [hb]))
theorem q_makeFunc {fn:Go.Fn} {fs cs:List Operand} {vs us:List Value} (h1:evL F fs=some vs) (h2:evL F cs=some us):QP P B N V L ⟨d,.makeFunc fn fs.toArray cs.toArray,ty,pos,af,gd⟩ F (.func fn vs.toArray us.toArray):=gN fun a w ha _=>by
  have e1:=ha.evL h1
  have e2:=ha.evL h2
  simp [execOp,Instr.makeFunc,e1,e2]
theorem vT {f:FuncId} {fo:Operand} {args:List Operand} {ats:Array TypeId} {vs fs cs:List Value} {a:Act} {w:World} (he:jV P f) (ha:Kn N F a) (hf:evF F fo=some (.func (.func f) fs.toArray cs.toArray)) (hv:evL F args=some vs) :
    (execOp a.eval ⟨d,.call ⟨.value fo,args.toArray,ats⟩,ty,pos,af,gd⟩).run P w=.ok (.enter f (fs ++ vs ++ cs).toArray) w:=by
  have h:=ha.evL hv
  have hf:=ha.ev hf
  simp [execOp,resolve,Deferred.ofValue,invoke,h,hf,he.h (fs ++ (vs ++ cs)).toArray w]
theorem gw_callv {dr:gO} (hdr:dr.loud=true) {f:FuncId} {fo:Operand} {args:List Operand} {ats:Array TypeId} {vs fs cs:List Value} {R:Value→aD→Prop} (he:jV P f) (hf:evF F fo=some (.func (.func f) fs.toArray cs.toArray)) (hv:evL F args=some vs) (hd:okD N d=true) (hc:Fn P f (fs ++ vs ++ cs) V R)
    (h:∀ v V',VLe V V'→R v V'→GoL P B N dr ops Q k rest (rT F d v) V' L):GoW P B N dr ops Q k ⟨d,.call ⟨.value fo,args.toArray,ats⟩,ty,pos,af,gd⟩ rest F V L:=iG hdr fun a w ha hs=>by
  unfold Oper.wp
  rw [vT he ha hf hv]
  refine(hc w (fun p x hp=>(hs.view p x hp).1)).mono fun e w' ⟨v,he',hx,V',h1,h2,h3,hR⟩=>?_
  subst he'
  exact fT hdr (h v V' h1 hR) _ _ (ha.put hd v) (hs.call hx h1 h2 h3)
theorem iY {f:FuncId} {fo:Operand} {args:List Operand} {ats:Array TypeId} {vs fs cs:List Value} {v:Value} (he:jV P f) (hf:evF F fo=some (.func (.func f) fs.toArray cs.toArray)) (hv:evL F args=some vs) (hc:Fn P f (fs ++ vs ++ cs) V fun u _=>u=v):QO P B N V L ⟨d,.call ⟨.value fo,args.toArray,ats⟩,ty,pos,af,gd⟩ F v:=fun a w ha hs=>by
  unfold Oper.quietAt
  rw [vT he ha hf hv]
  refine⟨rfl,(hc w (fun p x hp=>(hs.view p x hp).1)).mono fun e w' ⟨u,he',hx,V',h1,h2,h3,hR⟩=>?_⟩
  subst he' hR
  exact⟨rfl,(hs.call hx h1 h2 h3).less h1 hs.v0⟩

theorem fP {lo:Operand} {i:Int} {s:ByteArray} {t:TypeId} (hu:bV P t .string) (hx:evF F x=some (.string s)) (hl:evF F lo=some (.int .i64 i)) (h:0≤i∧i≤(s.size:Int)):QP P B N V L ⟨d,.slice t x (some lo) none none,ty,pos,af,gd⟩ F (.string (s.extract i.toNat s.size)) :=
  iN hu hx (by rw [hl,Int.toNat_of_nonneg h.1]) (by omega)
theorem pG {hi:Operand} {i:Int} {s:ByteArray} {t:TypeId} (hu:bV P t .string) (hx:evF F x=some (.string s)) (hl:evF F hi=some (.int .i64 i)) (h:0≤i∧i≤(s.size:Int)):QP P B N V L ⟨d,.slice t x none (some hi) none,ty,pos,af,gd⟩ F (.string (s.extract 0 i.toNat)) :=
  vD hu hx (by rw [hl,Int.toNat_of_nonneg h.1]) (by omega)
theorem q_sslice_i {lo hi:Operand} {i j:Int} {s:ByteArray} {t:TypeId} (hu:bV P t .string) (hx:evF F x=some (.string s)) (hl:evF F lo=some (.int .i64 i)) (hh:evF F hi=some (.int .i64 j)) (h1:0≤i∧i≤j) (h2:j≤(s.size:Int)):QP P B N V L ⟨d,.slice t x (some lo) (some hi) none,ty,pos,af,gd⟩ F (.string (s.extract i.toNat j.toNat)) :=
  q_sslice hu hx (by rw [hl,Int.toNat_of_nonneg h1.1]) (by rw [hh,Int.toNat_of_nonneg (by omega)]) (by omega) (by omega)
theorem eR {E sz n c:Nat} {A:Option Addr} {hi:Operand} {i:Int} (hu:bV P T (.slice E)) (hS:dU P E sz) (hx:evF F x=some (.slice A n c)) (hh:evF F hi=some (.int .i64 i)) (h:0≤i∧i≤(c:Int)):QP P B N V L ⟨d,.slice T x none (some hi) none,ty,pos,af,gd⟩ F (.slice A i.toNat c) :=
  cT hu hS hx (by rw [hh,Int.toNat_of_nonneg h.1]) (by omega)
theorem mE {E sz n c:Nat} {A:Option Addr} {lo:Operand} {i:Int} (hu:bV P T (.slice E)) (hS:dU P E sz) (hx:evF F x=some (.slice A n c)) (hl:evF F lo=some (.int .i64 i)) (h:0≤i∧i≤(n:Int)):QP P B N V L ⟨d,.slice T x (some lo) none none,ty,pos,af,gd⟩ F (.slice (vX A c i.toNat sz) (n - i.toNat) (c - i.toNat)) :=
  nQ hu hS hx (by rw [hl,Int.toNat_of_nonneg h.1]) (by omega)
theorem q_max {c:Call} {k:IntKind} {a b:Int} (hc:c=⟨.builtin .max,#[x,y],#[T,T2]⟩) (hx:evF F x=some (.int k a)) (hy:evF F y=some (.int k b)):QP P B N V L ⟨d,.call c,ty,pos,af,gd⟩ F (.int k (max a b)):=gN fun ac w ha _=>by
  subst hc
  have e:(if b>a then b else a)=max a b:=by split<;>omega
  simp [execOp,ha.ev hx,ha.ev hy,resolve,invoke,builtin,Builtin.max_,Builtin.max2,e]
theorem q_half {k:IntKind} {t ty2:TypeId} {a:Int} (hx:evF F x=some (.int .u64 a)) (hy:evF F y=some (.int k 1)) (h:0≤a):QP P B N V L ⟨d,.binOp .shr t x y ty2,ty,pos,af,gd⟩ F (.int .u64 (a / 2)):=by
  refine pC hx hy (fun w=>by simp [eqGuard]) (fun w=>?_)
  have e:a.fdiv 2=a / 2:=Int.fdiv_eq_ediv_of_nonneg a (by decide)
  simp [binOp,Op.shift,IntKind.bits,e]
theorem sY {k:IntKind} {k0:IntKind} {s t:TypeId} {ds:TypeDesc} {a:Int} (hs:bV P s ds) (ht:bV P t (.int k)) (hx:evF F x=some (.int k0 a)) (h:k.wrap a=a):QP P B N V L ⟨d,.convert s t x,ty,pos,af,gd⟩ F (.int k a):=gN fun ac w ha _=>by
  have e:(Conv.intToInt k a)=pure (.int k a):=by unfold Conv.intToInt;rw [h]
  simp [execOp,ha.ev hx,convert,hs.h,ht.h,e]
theorem wrap_u64 {a:Int} (h:0≤a∧a≤9223372036854775807):IntKind.wrap .u64 a=a:=by
  simp [IntKind.wrap,IntKind.signed,IntKind.bits];omega
theorem mW {a:Int} (h:-9223372036854775808≤a∧a≤9223372036854775807):IntKind.wrap .i64 a=a:=IntWalk.i64_in _ h

structure EqIs (P:Program) (T:TypeId) (xs ys:List Value) (b:Bool):Prop where
  h:∀ w,(Op.equalIn 10000 T (.agg xs.toArray) (.agg ys.toArray)).run P w=.ok b w
structure NoGuard (P:Program) (T:TypeId):Prop where
  h:P.eqGuardType P.depth T=false
theorem q_aneq {t ty2:TypeId} {xs ys:List Value} {b:Bool} (hg:NoGuard P t) (hx:evF F x=some (.agg xs.toArray)) (hy:evF F y=some (.agg ys.toArray)) (he:EqIs P t xs ys b):QP P B N V L ⟨d,.binOp .neq t x y ty2,ty,pos,af,gd⟩ F (.bool (!b)) :=
  pC hx hy (fun w=>run_eqGuard_agg w _ _ _ _ _ _ hg.h) (fun w=>by rw [run_neq_struct,he.h];rfl)

theorem cO.open {α:Type} {f:α→List Value} {A:Option Addr} {n c E sz:Nat} {xs:List α} {L1:List Box} (h:cO A n c E sz (xs.flatMap f) L1) (hn:0<n):∃ g rest,A=some ⟨g,0,none⟩∧L1=[⟨g,E,xs.flatMap f ++ rest⟩]∧(xs.flatMap f ++ rest).length=c * sz∧n≤c∧c≤maxLen:=by
  obtain⟨h1,h|h⟩:=h
  · omega
  · obtain⟨g,cs,rfl,rfl,h2,h3,h4,h5⟩:=h
    refine⟨g,cs.drop (n * sz),rfl,?_,?_,h2,h3⟩
    · rw [←h5,List.take_append_drop]
    · rw [←h5,List.take_append_drop];exact h4
theorem cO.close {α:Type} {f:α→List Value} {sz:Nat} (hf:∀ x,(f x).length=sz) {n c E g:Nat} {xs:List α} {rest:List Value} (hl:xs.length=n) (hc:(xs.flatMap f ++ rest).length=c * sz) (hn:n≤c) (hm:c≤maxLen):cO (some ⟨g,0,none⟩) n c E sz (xs.flatMap f) [⟨g,E,xs.flatMap f ++ rest⟩]:=by
  have e:=lO f hf xs
  rw [hl] at e
  exact⟨e,.inr ⟨g,_,rfl,rfl,hn,hm,hc,by rw [List.take_left' e]⟩⟩
theorem spl_app (vs:List Value):∀ (cs:List Value) (i:Nat),i+vs.length≤cs.length→spl cs i vs=cs.take i ++ vs ++ cs.drop (i+vs.length):=by
  induction vs with
  | nil=>intro cs i h;simp [spl]
  | cons v vs ih =>
    intro cs i h
    simp at h
    rw [spl,ih _ _ (by simp;omega)]
    apply List.ext_getElem?
    intro j
    simp only [List.getElem?_append,List.length_append,List.length_take,List.length_set,List.length_cons,List.getElem?_take,List.getElem?_set,List.getElem?_drop,List.getElem?_cons]
    rcases Nat.lt_trichotomy j i with hj|hj|hj
    · rw [if_pos (by omega),if_pos (by omega),if_pos (by omega),if_neg (by omega),if_pos (by omega),if_pos (by omega),if_pos (by omega)]
    · subst hj
      rw [if_pos (by omega),if_pos (by omega),if_pos (by omega),if_pos rfl,if_pos (by omega),if_pos (by omega),if_neg (by omega),if_pos (by omega)]
    · by_cases h2:j<i+(vs.length+1)
      · rw [if_pos (by omega),if_neg (by omega),if_pos (by omega),if_neg (by omega),if_neg (by omega)]
        congr 1;omega
      · rw [if_neg (by omega),if_neg (by omega),if_neg (by omega)]
        congr 1;omega
end
end
section
theorem ng_271:NoGuard Tryz.prog 271:=⟨by kernel_rfl⟩
theorem eqs_271 (a0 a1 b0 b1:ByteArray):EqIs Tryz.prog 271 [.string a0,.string a1] [.string b0,.string b1] (decide (a0=b0∧a1=b1)):=⟨fun w=>by
  rw [run_equalIn_struct w 9999 _ _ _ (by kernel_rfl) (by kernel_rfl)]
  have hi:=Tryz.underlying9
  have e:=tW a0 b0
  have e1:=tW a1 b1
  by_cases h0:a0=b0<;>by_cases h1:a1=b1 <;>
    simp [Program.fieldsOf,Tryz.underlying271,Op.eqFields,hi,run_equalIn_string,go_sem,h0,h1,e,e1]⟩
end
section

@[ext] structure PA where
  n:ByteArray
  v:ByteArray
instance : DecidableEq PA := fun a b => decidable_of_iff (a.n = b.n ∧ a.v = b.v) ⟨fun ⟨h1, h2⟩ => PA.ext h1 h2, fun h => by subst h; exact ⟨rfl, rfl⟩⟩
abbrev paC (a:PA):List Value:=[.string a.n,.string a.v]
abbrev AttrsV (V:aD) (A:Option Addr) (n:Nat) (xs:List PA):Prop:=eP V 2 paC A n xs
def eJ (s:ByteArray):Int :=
  if 2≤s.size∧eV (s.toList.drop 2)=true then (if s.toList.take 2=[117,46] then 1 else if s.toList.take 2=[116,46] then 2 else 0) else 0
def aF (prev:Option ByteArray):List PA→Int
  | []=>0
  | a :: l=>if eJ a.n=0 then 4 else if 20<a.v.size then 1 else if (∃ y,prev=some y∧¬y.toList<a.n.toList) then 3 else aF (some a.n) l
def eO (xs:List PA):Int:=if 4<xs.length then 2 else aF none xs
def prevA (xs:List PA) (k:Nat):Option ByteArray:=if k=0 then none else (xs[k - 1]?).map PA.n
theorem prevA_pos {xs:List PA} {k:Nat} (h:¬k=0):prevA xs k=(xs[k - 1]?).map PA.n:=if_neg h
theorem rE {xs:List PA} {k:Nat}:prevA xs (k+1)=(xs[k]?).map PA.n:=by rw [prevA,if_neg (by omega)];rfl
theorem aF_name {p:Option ByteArray} {a:PA} {l:List PA} (h:eJ a.n=0):aF p (a :: l)=4:=by rw [aF,if_pos h]
theorem aF_big {p:Option ByteArray} {a:PA} {l:List PA} (h:¬eJ a.n=0) (h2:20<a.v.size):aF p (a :: l)=1:=by rw [aF,if_neg h,if_pos h2]
theorem aF_down {y:ByteArray} {a:PA} {l:List PA} (h:¬eJ a.n=0) (h2:¬20<a.v.size) (h3:¬y.toList<a.n.toList):aF (some y) (a :: l)=3:=by rw [aF,if_neg h,if_neg h2,if_pos ⟨y,rfl,h3⟩]
theorem aF_on {y:ByteArray} {a:PA} {l:List PA} (h:¬eJ a.n=0) (h2:¬20<a.v.size) (h3:y.toList<a.n.toList):aF (some y) (a :: l)=aF (some a.n) l:=by
  rw [aF,if_neg h,if_neg h2,if_neg (by rintro ⟨z,hz,hl⟩;injection hz with hz;subst hz;exact hl h3)]
theorem aF_first {a:PA} {l:List PA} (h:¬eJ a.n=0) (h2:¬20<a.v.size):aF none (a :: l)=aF (some a.n) l:=by
  rw [aF,if_neg h,if_neg h2,if_neg (by rintro ⟨z,hz,hl⟩;cases hz)]
theorem aF_bd:∀ (l:List PA) (p:Option ByteArray),0≤aF p l∧aF p l≤4
  | [],_=>by simp [aF]
  | a :: l,p=>by
    rw [aF]
    (repeat' split)<;>first|omega|exact aF_bd l _
theorem oU (xs:List PA):0≤eO xs∧eO xs≤4:=by
  unfold eO;split
  · omega
  · exact aF_bd xs _

theorem nW {a b c:List UInt8} (h:a<b) (k:b<c):a<c:=List.lt_trans h k
theorem lt_irr (a:List UInt8):¬a<a:=List.lt_irrefl a
theorem lt_tri (a b:ByteArray) (h:¬a.toList<b.toList) (h2:¬a=b):b.toList<a.toList:=by
  rcases List.le_iff_lt_or_eq.1 (show b.toList≤a.toList from h) with h3|h3
  · exact h3
  · exact absurd (str_ext h3.symm) h2
def ltA (a b:PA):Prop:=a.n.toList<b.n.toList
theorem aF_rises:∀ (l:List PA) (p:Option ByteArray),aF p l=0→l.Pairwise ltA∧(∀ a∈l,¬eJ a.n=0∧a.v.size≤20)∧∀ y,p=some y→∀ a∈l,y.toList<a.n.toList
  | [],_,_=>by simp
  | a :: l,p,h=>by
    rw [aF] at h
    split at h
    · omega
    · rename_i h1
      split at h
      · omega
      · rename_i h2
        split at h
        · omega
        · rename_i h3
          obtain⟨q1,q2,q3⟩:=aF_rises l _ h
          refine⟨List.pairwise_cons.2 ⟨fun b hb=>q3 a.n rfl b hb,q1⟩,fun b hb=>?_,fun y hy b hb=>?_⟩
          · rcases List.mem_cons.1 hb with rfl|hb
            · exact⟨h1,by omega⟩
            · exact q2 b hb
          · have hya:y.toList<a.n.toList:=by
              apply Classical.byContradiction;intro hn;exact h3 ⟨y,hy,hn⟩
            rcases List.mem_cons.1 hb with rfl|hb
            · exact hya
            · exact nW hya (q3 a.n rfl b hb)
theorem pB {xs:List PA} (h:eO xs=0):xs.length≤4∧xs.Pairwise ltA∧∀ a∈xs,¬eJ a.n=0∧a.v.size≤20:=by
  unfold eO at h
  split at h
  · omega
  · obtain⟨a,b,_⟩:=aF_rises xs none h
    exact⟨by omega,a,b⟩
def atA (nm:ByteArray):List PA→Nat
  | []=>0
  | a :: l=>if a.n.toList<nm.toList then atA nm l+1 else 0
def isA (nm:ByteArray) (xs:List PA):Prop:=∃ a∈xs,a.n=nm
theorem atA_le (nm:ByteArray):∀ xs:List PA,atA nm xs≤xs.length
  | []=>Nat.le_refl _
  | a :: l=>by
    rw [atA];split
    · have:=atA_le nm l;simp;omega
    · simp
theorem tV {nm:ByteArray}:∀ {xs:List PA} {j:Nat} {a:PA},j<atA nm xs→xs[j]?=some a→a.n.toList<nm.toList
  | [],j,a,h,_=>by simp [atA] at h
  | b :: l,j,a,h,hj=>by
    rw [atA] at h
    split at h
    · rename_i hb
      cases j with
      | zero=>simp at hj;subst hj;exact hb
      | succ j=>exact tV (xs:=l) (j:=j) (by omega) (by simpa using hj)
    · omega
theorem tU {nm:ByteArray}:∀ {xs:List PA} {j:Nat} {a:PA},xs.Pairwise ltA→atA nm xs≤j→xs[j]?=some a→¬a.n.toList<nm.toList
  | [],j,a,_,_,hj=>by simp at hj
  | b :: l,j,a,hp,h,hj=>by
    rw [List.pairwise_cons] at hp
    rw [atA] at h
    split at h
    · rename_i hb
      cases j with
      | zero=>omega
      | succ j=>exact tU (xs:=l) (j:=j) hp.2 (by omega) (by simpa using hj)
    · rename_i hb
      cases j with
      | zero=>simp at hj;subst hj;exact hb
      | succ j =>
        have hm:a∈l:=List.mem_of_getElem? (by simpa using hj)
        exact fun hlt=>hb (nW (hp.1 a hm) hlt)
theorem atA_of {nm:ByteArray} {xs:List PA} (hp:xs.Pairwise ltA) {k:Nat} (hk:k≤xs.length) (h1:∀ j a,j<k→xs[j]?=some a→a.n.toList<nm.toList) (h2:∀ j a,k≤j→xs[j]?=some a→¬a.n.toList<nm.toList):k=atA nm xs:=by
  have hle:=atA_le nm xs
  rcases Nat.lt_trichotomy k (atA nm xs) with h|h|h
  · have hx:xs[k]?=some (xs[k]'(by omega)):=List.getElem?_eq_getElem (by omega)
    exact absurd (tV h hx) (h2 k _ (Nat.le_refl _) hx)
  · exact h
  · have hx:xs[atA nm xs]?=some (xs[atA nm xs]'(by omega)):=List.getElem?_eq_getElem (by omega)
    exact absurd (h1 _ _ h hx) (tU hp (Nat.le_refl _) hx)
theorem vH {nm:ByteArray} {xs:List PA} (hp:xs.Pairwise ltA):isA nm xs↔∃ a,xs[atA nm xs]?=some a∧a.n=nm:=by
  constructor
  · rintro ⟨a,ha,rfl⟩
    obtain⟨j,hj,he⟩:=List.mem_iff_getElem.1 ha
    have hx:xs[j]?=some a:=by rw [List.getElem?_eq_getElem hj,he]
    have h1:¬j<atA a.n xs:=fun h=>lt_irr _ (tV h hx)
    rcases Nat.lt_or_ge (atA a.n xs) j with h|h
    · have hy:xs[atA a.n xs]?=some (xs[atA a.n xs]'(by omega)):=List.getElem?_eq_getElem (by omega)
      have h3:=List.pairwise_iff_getElem.1 hp (atA a.n xs) j (by omega) hj h
      rw [he] at h3
      exact absurd h3 (tU hp (Nat.le_refl _) hy)
    · have:j=atA a.n xs:=by omega
      exact⟨a,this▸hx,rfl⟩
  · rintro ⟨a,ha,rfl⟩
    exact⟨a,List.mem_of_getElem? ha,rfl⟩

def getA (nm:ByteArray) (xs:List PA):ByteArray:=((xs[atA nm xs]?).map PA.v).getD ⟨#[]⟩
noncomputable def kX (xs:List PA) (nm:ByteArray):Int:=open Classical in if ¬eO xs=0 then eO xs else if eJ nm=0 then 4 else if isA nm xs then 0 else 5
noncomputable def qA (xs:List PA) (nm vl:ByteArray):List PA:=open Classical in xs.take (atA nm xs) ++ ⟨nm,vl⟩ :: xs.drop (if isA nm xs then atA nm xs+1 else atA nm xs)
noncomputable def sG (xs:List PA) (nm vl:ByteArray):Int:=open Classical in if ¬eO xs=0 then eO xs else if eJ nm=0 then 4 else if 20<vl.size then 1 else if ¬isA nm xs∧xs.length=4 then 2 else 0
def qW (xs:List PA) (nm:ByteArray):List PA:=xs.take (atA nm xs) ++ xs.drop (atA nm xs+1)
theorem getF_bd (xs:List PA) (nm:ByteArray):0≤kX xs nm∧kX xs nm≤5:=by
  have:=oU xs
  unfold kX;(repeat' split)<;>omega
theorem setF_bd (xs:List PA) (nm vl:ByteArray):0≤sG xs nm vl∧sG xs nm vl≤5:=by
  have:=oU xs
  unfold sG;(repeat' split)<;>omega

theorem split_at (nm:ByteArray) {xs:List PA} (hp:xs.Pairwise ltA):(∀ a∈xs.take (atA nm xs),a.n.toList<nm.toList)∧((isA nm xs∧∃ a,xs.drop (atA nm xs)=a :: xs.drop (atA nm xs+1)∧a.n=nm∧getA nm xs=a.v∧∀ b∈xs.drop (atA nm xs+1),nm.toList<b.n.toList)∨(¬isA nm xs∧∀ b∈xs.drop (atA nm xs),nm.toList<b.n.toList)):=by
  refine⟨fun a ha=>?_,?_⟩
  · obtain⟨j,hj,rfl⟩:=List.mem_iff_getElem.1 ha
    rw [List.length_take] at hj
    rw [List.getElem_take]
    exact tV (xs:=xs) (j:=j) (by omega) (List.getElem?_eq_getElem (by omega))
  · by_cases hi:isA nm xs
    · refine .inl ⟨hi,?_⟩
      obtain⟨a,ha,hn⟩:=(vH hp).1 hi
      have hd:xs.drop (atA nm xs)=a :: xs.drop (atA nm xs+1):=jO ha
      refine⟨a,hd,hn,by simp [getA,ha],fun b hb=>?_⟩
      have:=hp.sublist (List.drop_sublist (atA nm xs) xs)
      rw [hd,List.pairwise_cons] at this
      have:=this.1 b hb
      unfold ltA at this;rw [hn] at this;exact this
    · refine .inr ⟨hi,fun b hb=>?_⟩
      obtain⟨j,hj,rfl⟩:=List.mem_iff_getElem.1 hb
      rw [List.length_drop] at hj
      rw [List.getElem_drop]
      have hx:xs[atA nm xs+j]?=some (xs[atA nm xs+j]'(by omega)):=List.getElem?_eq_getElem (by omega)
      refine lt_tri _ _ (tU hp (by omega) hx) fun e=>hi ⟨_,List.mem_of_getElem? hx,e⟩
theorem setA_len (nm vl:ByteArray) {xs:List PA} (hp:xs.Pairwise ltA):(isA nm xs→(qA xs nm vl).length=xs.length)∧(¬isA nm xs→(qA xs nm vl).length=xs.length+1):=by
  have hle:=atA_le nm xs
  constructor
  · intro hi
    obtain⟨a,ha,_⟩:=(vH hp).1 hi
    have:atA nm xs<xs.length:=by
      rcases Nat.lt_or_ge (atA nm xs) xs.length with h|h
      · exact h
      · rw [List.getElem?_eq_none h] at ha;cases ha
    unfold qA;rw [if_pos hi];simp;omega
  · intro hi;unfold qA;rw [if_neg hi];simp;omega
end
section
theorem ba_get (s:ByteArray) (k:Nat):s[k]?=s.toList[k]?:=by
  rw [Lib.toList_data,Array.getElem?_toList]
  rcases Nat.lt_or_ge k s.size with h|h
  · rw [getElem?_pos s k h,getElem?_pos s.data k h];rfl
  · rw [getElem?_neg s k (by omega),getElem?_neg s.data k (by have:s.data.size=s.size:=rfl;omega)]
theorem ba_len (s:ByteArray):s.toList.length=s.size:=by rw [Lib.toList_data];rfl
theorem ba_at {s:ByteArray} {k:Nat} (h:k<s.size):∃ c,s.toList[k]?=some c∧s[((k:Nat):Int).toNat]?=some c:=by
  have hk:k<s.toList.length:=by rw [ba_len];exact h
  refine⟨_,List.getElem?_eq_getElem hk,?_⟩
  rw [Int.toNat_natCast,ba_get,List.getElem?_eq_getElem hk]
theorem ba_eq {s:ByteArray} {a:Array UInt8}:s=⟨a⟩↔s.toList=a.toList:=by
  constructor
  · intro h;subst h;rw [Lib.toList_data]
  · intro h;apply str_ext;rw [h,Lib.toList_data]
theorem okCh_iff (c:UInt8):okCh c=true↔(97≤(c.toNat:Int)∧(c.toNat:Int)≤122)∨(48≤(c.toNat:Int)∧(c.toNat:Int)≤57)∨(c.toNat:Int)=46∨(c.toNat:Int)=95∨(c.toNat:Int)=45:=by
  have e:∀ k:UInt8,c=k↔(c.toNat:Int)=(k.toNat:Int):=fun k=>by
    rw [←UInt8.toNat_inj];omega
  simp only [okCh,Bool.or_eq_true,Bool.and_eq_true,decide_eq_true_eq,beq_iff_eq,e]
  have h1:((46:UInt8).toNat:Int)=46:=rfl
  have h2:((95:UInt8).toNat:Int)=95:=rfl
  have h3:((45:UInt8).toNat:Int)=45:=rfl
  rw [h1,h2,h3]
  omega
theorem nameZ_iff (s:ByteArray):eV s.toList=true↔1≤s.size∧s.size≤12∧¬s=⟨#[46]⟩∧¬s=⟨#[46,46]⟩∧s.toList.all okCh=true:=by
  rw [ba_eq,ba_eq,←ba_len]
  simp only [eV,Bool.and_eq_true,decide_eq_true_eq,Bool.not_eq_true',beq_eq_false_iff_ne,ne_eq,and_assoc]
theorem all_snoc {s:List UInt8} {k:Nat} {c:UInt8} (h:s[k]?=some c) (h1:(s.take k).all okCh=true) (h2:okCh c=true):(s.take (k+1)).all okCh=true:=by
  rw [List.take_add_one,h,List.all_append,h1];simp [h2]
theorem all_not {s:List UInt8} {k:Nat} {c:UInt8} (h:s[k]?=some c) (h2:¬okCh c=true):¬s.all okCh=true:=by
  rw [List.all_eq_true]
  intro hh
  exact h2 (hh c (List.mem_of_getElem? h))
theorem kW {s:ByteArray} (h:¬(1≤s.size∧s.size≤12)∨s=⟨#[46]⟩∨s=⟨#[46,46]⟩∨¬s.toList.all okCh=true):eV s.toList=false:=by
  cases hb:eV s.toList
  · rfl
  · rw [nameZ_iff] at hb
    obtain⟨h1,h2,h3,h4,h5⟩:=hb
    rcases h with h|h|h|h
    · exact absurd ⟨h1,h2⟩ h
    · exact absurd h h3
    · exact absurd h h4
    · exact absurd h5 h
theorem yE {s:ByteArray} (h1:1≤s.size) (h2:s.size≤12) (h3:¬s=⟨#[46]⟩) (h4:¬s=⟨#[46,46]⟩) (h5:s.toList.all okCh=true):eV s.toList=true:=(nameZ_iff s).2 ⟨h1,h2,h3,h4,h5⟩
theorem ba_drop (s:ByteArray) (l:Nat) (h:l≤s.size):(s.extract l s.size).toList=s.toList.drop l:=by
  rw [Lib.toList_data,Lib.toList_data]
  apply List.ext_getElem?
  intro i
  rw [List.getElem?_drop,Array.getElem?_toList,Array.getElem?_toList]
  have e:(s.extract l s.size).data=s.data.extract l s.size:=by simp [ByteArray.extract,ByteArray.copySlice];congr 1;omega
  rw [e,Array.getElem?_extract]
  have hs:s.data.size=s.size:=rfl
  split
  · rfl
  · rw [Array.getElem?_eq_none];omega
theorem ba_take (s:ByteArray) (h':Nat) (h:h'≤s.size):(s.extract 0 h').toList=s.toList.take h':=by
  rw [Lib.toList_data,Lib.toList_data]
  apply List.ext_getElem?
  intro i
  rw [List.getElem?_take,Array.getElem?_toList,Array.getElem?_toList]
  have e:(s.extract 0 h').data=s.data.extract 0 h':=by simp [ByteArray.extract,ByteArray.copySlice];try rfl
  rw [e,Array.getElem?_extract]
  have hs:s.data.size=s.size:=rfl
  by_cases hi:i<h'
  · rw [if_pos (by omega),if_pos hi,Nat.zero_add]
  · rw [if_neg (by omega),if_neg hi]
theorem ba_size (s:ByteArray) (l h:Nat) (h1:l≤h) (h2:h≤s.size):(s.extract l h).size=h - l:=by
  rw [ByteArray.size_extract];omega
end
section
attribute [local irreducible] AtQ GoC GoL GoW QO QP Fn RV bL aG VLe bR bK
theorem Name_c (V:aD) (s:ByteArray) (hm:s.size≤9223372036854775807):Fn Tryz.prog 225 [.string s] V fun v _=>v=.bool (eV s.toList):=by
  (refine aI Tryz.func225 rfl Tryz.ntmps225 rfl ?_;intro w0)
  repeat' (first|(refine aE ?_;refine pu9 ?_)|refine dG ?_|(refine aJ rfl rfl rfl ?_ ?_<;>intro hq<;>try exact no9)|(refine aA rfl ?_ ?_<;>intro hq<;>try exact no9))
  all_goals try ((refine aM Tryz.results225 (aB rfl) ?_);refine congrArg Value.bool (kW ?_).symm;first|(left;omega)|(right;left;assumption)|(right;right;left;assumption))
  have h3:¬s=⟨#[46]⟩:=by assumption
  have h4:¬s=⟨#[46,46]⟩:=by assumption
  refine bN (fun F V' L' m=>∃ k:Nat,k≤s.size∧m=s.size - k∧V=V'∧[]=L'∧(s.toList.take k).all okCh=true∧F=[(0,.string s),(22,.int .i64 s.size),(23,.int .i64 k)]) (m:=s.size) ⟨0,Nat.zero_le _,by omega,rfl,rfl,by simp,rfl⟩ bH rfl sl9 ?_
  rintro F V' L' m ⟨k,hk,rfl,rfl,rfl,ha,rfl⟩
  by_cases hlt:k<s.size
  · obtain⟨c,hc,hcc⟩:=ba_at hlt
    have hch:=okCh_iff c
    repeat' (first|(refine aE ?_;first|(refine jQ ?_;refine aO (gH und_9 rfl rfl (by omega) (by assumption)) ?_)|refine pu9 ?_)|refine dG ?_|(refine aJ rfl rfl rfl ?_ ?_<;>intro hq<;>try exact no9)|(refine aA rfl ?_ ?_<;>intro hq<;>try exact no9))
    all_goals first
      | ((refine aM Tryz.results225 (aB rfl) ?_);exact congrArg Value.bool (kW (.inr (.inr (.inr (all_not hc (by rw [hch];omega)))))).symm)
      | (refine aX _ (s.size - (k+1)) ⟨k+1,by omega,rfl,rfl,rfl,all_snoc hc ha (by rw [hch];omega),rfl⟩ (by omega) bH sl9)
  · repeat' (first|(refine aE ?_;refine pu9 ?_)|refine dT ?_|(refine aA rfl ?_ ?_<;>intro hq<;>try exact no9))
    (refine aM Tryz.results225 (aB rfl) ?_)
    rw [List.take_of_length_le (by rw [ba_len];omega)] at ha
    exact congrArg Value.bool (yE (by omega) (by omega) h3 h4 ha).symm
theorem RName_c (V:aD) (s:ByteArray) (hm:s.size≤9223372036854775807):Fn Tryz.prog 221 [.string s] V fun v _=>v=.bool (eV s.toList):=by
  (refine aI Tryz.func221 rfl Tryz.ntmps221 rfl ?_;intro w0)
  repeat' (first|(refine aE ?_;refine pu9 ?_)|refine bY ?_|fail)
  refine bN (fun F V' L' m=>∃ k:Nat,k≤s.size∧m=s.size - k∧V=V'∧[]=L'∧(s.toList.take k).all okCh=true∧F=[(0,.string s),(3,.int .i64 k)]) (m:=s.size) ⟨0,Nat.zero_le _,by omega,rfl,rfl,by simp,rfl⟩ bH rfl sl9 ?_
  rintro F V' L' m ⟨k,hk,rfl,rfl,rfl,ha,rfl⟩
  by_cases hlt:k<s.size
  · obtain⟨c,hc,hcc⟩:=ba_at hlt
    have hch:=okCh_iff c
    repeat' (first|(refine aE ?_;first|(refine jQ ?_;refine aO (gH und_9 rfl rfl (by omega) (by assumption)) ?_)|refine pu9 ?_)|refine dG ?_|(refine aJ rfl rfl rfl ?_ ?_<;>intro hq<;>try exact no9)|(refine aA rfl ?_ ?_<;>intro hq<;>try exact no9))
    all_goals first
      | ((refine aM Tryz.results221 (aB rfl) ?_);exact congrArg Value.bool (kW (.inr (.inr (.inr (all_not hc (by rw [hch];omega)))))).symm)
      | (refine aX _ (s.size - (k+1)) ⟨k+1,by omega,rfl,rfl,rfl,all_snoc hc ha (by rw [hch];omega),rfl⟩ (by omega) bH sl9)
  · repeat' (first|(refine aE ?_;refine pu9 ?_)|refine dT ?_|(refine aJ rfl rfl rfl ?_ ?_<;>intro hq<;>try exact no9)|(refine aA rfl ?_ ?_<;>intro hq<;>try exact no9))
    rw [List.take_of_length_le (by rw [ba_len];omega)] at ha
    all_goals (refine aM Tryz.results221 (aB rfl) ?_)
    all_goals (refine congrArg Value.bool ?_;by_cases h3:s=⟨#[46]⟩<;>by_cases h4:s=⟨#[46,46]⟩<;>first
      | exact(kW (.inl (by omega))).symm
      | exact(kW (.inr (.inl h3))).symm
      | exact(kW (.inr (.inr (.inl h4)))).symm
      | exact(yE (by omega) (by omega) h3 h4 ha).symm
      | (rw [yE (by omega) (by omega) h3 h4 ha];simp [h3,h4];done)
      | (rw [kW (.inr (.inl h3))];simp [h3];done)
      | (rw [kW (.inr (.inr (.inl h4)))];simp [h4];done)
      | (exfalso;exact hq (fun e=>h4 e);done)
      | (exfalso;exact absurd h3 (by assumption))
      | (exfalso;exact absurd h4 (by assumption))
      | (exfalso;omega))
theorem class_of {s:ByteArray} (h:2≤s.size) (hn:eV (s.toList.drop 2)=true):eJ s=if s.toList.take 2=[117,46] then 1 else if s.toList.take 2=[116,46] then 2 else 0:=by rw [eJ,if_pos ⟨h,hn⟩]
theorem tM {s:ByteArray} (h:¬(2≤s.size∧eV (s.toList.drop 2)=true)):eJ s=0:=by rw [eJ,if_neg h]
theorem take_two {s:ByteArray} {c d a b:UInt8} (hc:s.toList[0]?=some c) (hd:s.toList[1]?=some d):s.toList.take 2=[a,b]↔(c.toNat:Int)=a.toNat∧(d.toNat:Int)=b.toNat:=by
  have e:s.toList.take 2=[c,d]:=by
    rw [List.take_add_one,List.take_add_one,hc,hd];simp
  rw [e]
  have h1:∀ x y:UInt8,x=y↔(x.toNat:Int)=(y.toNat:Int):=fun x y=>by rw [←UInt8.toNat_inj];omega
  simp [h1]
theorem name_short {s:ByteArray} (h:¬3≤s.size):¬(2≤s.size∧eV (s.toList.drop 2)=true):=by
  rintro ⟨h1,h2⟩
  have:s.toList.drop 2=[]:=List.drop_eq_nil_of_le (by rw [ba_len];omega)
  rw [this] at h2;exact absurd h2 (by decide)
theorem jP (V:aD) (s:ByteArray) (hm:s.size≤9223372036854775807):Fn Tryz.prog 166 [.string s] V fun v _=>v=.int .i64 (eJ s):=by
  by_cases h3:3≤s.size
  · obtain⟨c,hc,hcc⟩:=ba_at (s:=s) (k:=0) (by omega)
    obtain⟨d,hd,hdd⟩:=ba_at (s:=s) (k:=1) (by omega)
    have hn:=Name_c V (s.extract 2 s.size) (by rw [ba_size _ _ _ (by omega) (Nat.le_refl _)];omega)
    rw [ba_drop _ _ (by omega)] at hn
    have hcl:=@class_of s (by omega)
    have hc0:=@take_two s c d 117 46 hc hd
    have hc1:=@take_two s c d 116 46 hc hd
    have e0:((117:UInt8).toNat:Int)=117:=rfl
    have e1:((116:UInt8).toNat:Int)=116:=rfl
    have e2:((46:UInt8).toNat:Int)=46:=rfl
    rw [e0,e2] at hc0
    rw [e1,e2] at hc1
    have hcc0:s[(0:Int).toNat]?=some c:=hcc
    have hdd0:s[(1:Int).toNat]?=some d:=hdd
    cases hb:eV (s.toList.drop 2)
    · rw [tM (by rintro ⟨_,h⟩;rw [hb] at h;cases h)]
      rw [hb] at hn
      (refine aI Tryz.func166 rfl Tryz.ntmps166 rfl ?_;intro w0)
      repeat' (first|(refine aE ?_;first|(refine aC ?_;refine aP rfl (aK ⟨Tryz.call225⟩ rfl (hn)) ?_)|(refine jQ ?_;refine aO (gH und_9 rfl rfl (by omega) (by assumption)) ?_)|(refine eG ?_;(first|refine aO (iN und_9 rfl rfl (by omega)) ?_|refine aO (fP und_9 rfl rfl (by omega)) ?_))|refine pu9 ?_)|refine cX ?_|(refine aJ rfl rfl rfl ?_ ?_<;>intro hq<;>try exact no9))
      all_goals (refine aM Tryz.results166 (aB rfl) ?_)
      all_goals rfl
    · rw [hcl hb]
      rw [hb] at hn
      (refine aI Tryz.func166 rfl Tryz.ntmps166 rfl ?_;intro w0)
      repeat' (first|(refine aE ?_;first|(refine aC ?_;refine aP rfl (aK ⟨Tryz.call225⟩ rfl (hn)) ?_)|(refine jQ ?_;refine aO (gH und_9 rfl rfl (by omega) (by assumption)) ?_)|(refine eG ?_;(first|refine aO (iN und_9 rfl rfl (by omega)) ?_|refine aO (fP und_9 rfl rfl (by omega)) ?_))|refine pu9 ?_)|refine dG ?_|(refine aJ rfl rfl rfl ?_ ?_<;>intro hq<;>try exact no9)|(refine aA rfl ?_ ?_<;>intro hq<;>try exact no9))
      all_goals (refine aM Tryz.results166 (aB rfl) ?_)
      all_goals first
        | (rw [if_pos (hc0.2 (by omega))];done)
        | (rw [if_neg (fun h=>by have:=hc0.1 h;omega),if_pos (hc1.2 (by omega))];done)
        | (rw [if_neg (fun h=>by have:=hc0.1 h;omega),if_neg (fun h=>by have:=hc1.1 h;omega)];done)
  · rw [tM (name_short h3)]
    (refine aI Tryz.func166 rfl Tryz.ntmps166 rfl ?_;intro w0)
    repeat' (first|(refine aE ?_;refine pu9 ?_)|refine cX ?_|(refine aJ rfl rfl rfl ?_ ?_<;>intro hq<;>try exact no9))
    all_goals (refine aM Tryz.results166 (aB rfl) ?_)
    all_goals rfl
theorem RClass_c (V:aD) (s:ByteArray) (hm:s.size≤9223372036854775807):Fn Tryz.prog 194 [.string s] V fun v _=>v=.int .i64 (eJ s):=by
  by_cases h2:2≤s.size
  · have hn:=RName_c V (s.extract 2 s.size) (by rw [ba_size _ _ _ (by omega) (Nat.le_refl _)];omega)
    rw [ba_drop _ _ (by omega)] at hn
    have hcl:=@class_of s (by omega)
    have ht:=ba_take s 2 h2
    have hu:(s.extract 0 2=⟨#[117,46]⟩)↔s.toList.take 2=[117,46]:=by rw [ba_eq,ht]
    have hv:(s.extract 0 2=⟨#[116,46]⟩)↔s.toList.take 2=[116,46]:=by rw [ba_eq,ht]
    cases hb:eV (s.toList.drop 2)
    · rw [tM (by rintro ⟨_,h⟩;rw [hb] at h;cases h)]
      rw [hb] at hn
      (refine aI Tryz.func194 rfl Tryz.ntmps194 rfl ?_;intro w0)
      repeat' (first|(refine aE ?_;first|(refine aC ?_;refine aP rfl (aK ⟨Tryz.call221⟩ rfl (hn)) ?_)|(refine eG ?_;(first|refine aO (iN und_9 rfl rfl (by omega)) ?_|refine aO (fP und_9 rfl rfl (by omega)) ?_|refine aO (vD und_9 rfl rfl (by omega)) ?_|refine aO (pG und_9 rfl rfl (by omega)) ?_))|refine pu9 ?_)|refine cX ?_|(refine aA rfl ?_ ?_<;>intro hq<;>try exact no9))
      all_goals (refine aM Tryz.results194 (aB rfl) ?_)
      all_goals rfl
    · rw [hcl hb]
      rw [hb] at hn
      (refine aI Tryz.func194 rfl Tryz.ntmps194 rfl ?_;intro w0)
      repeat' (first|(refine aE ?_;first|(refine aC ?_;refine aP rfl (aK ⟨Tryz.call221⟩ rfl (hn)) ?_)|(refine eG ?_;(first|refine aO (iN und_9 rfl rfl (by omega)) ?_|refine aO (fP und_9 rfl rfl (by omega)) ?_|refine aO (vD und_9 rfl rfl (by omega)) ?_|refine aO (pG und_9 rfl rfl (by omega)) ?_))|refine pu9 ?_)|refine cC ?_|(refine aA rfl ?_ ?_<;>intro hq<;>try exact no9))
      all_goals (refine aM Tryz.results194 (aB rfl) ?_)
      all_goals first
        | (rw [if_pos (hu.1 (by assumption))];done)
        | (rw [if_neg (fun h=>by have:=hu.2 h;contradiction),if_pos (hv.1 (by assumption))];done)
        | (rw [if_neg (fun h=>by have:=hu.2 h;contradiction),if_neg (fun h=>by have:=hv.2 h;contradiction)];done)
  · rw [tM (fun h=>h2 h.1)]
    (refine aI Tryz.func194 rfl Tryz.ntmps194 rfl ?_;intro w0)
    repeat' (first|(refine aE ?_;refine pu9 ?_)|refine cC ?_|(refine aA rfl ?_ ?_<;>intro hq<;>try exact no9))
    all_goals (refine aM Tryz.results194 (aB rfl) ?_)
    all_goals rfl
end
section

theorem setA_mem {xs:List PA} (hp:xs.Pairwise ltA) (nm vl:ByteArray) (a:PA):a∈qA xs nm vl↔a=⟨nm,vl⟩∨(a∈xs∧¬a.n=nm):=by
  obtain⟨h1,h2⟩:=split_at nm hp
  have hlo:∀ a∈xs.take (atA nm xs),¬a.n=nm:=fun a ha e=>by have:=h1 a ha;rw [e] at this;exact lt_irr _ this
  have e:a∈xs↔a∈xs.take (atA nm xs)∨a∈xs.drop (atA nm xs):=by rw [←List.mem_append,List.take_append_drop]
  rw [e]
  unfold qA
  rcases h2 with ⟨hi,b,hd,hn,hv,hb⟩|⟨hi,hb⟩
  · have hhi:∀ a∈xs.drop (atA nm xs+1),¬a.n=nm:=fun a ha e=>by have:=hb a ha;rw [e] at this;exact lt_irr _ this
    rw [if_pos hi,hd,List.mem_append,List.mem_cons,List.mem_cons]
    constructor
    · rintro (h|h|h)
      · exact .inr ⟨.inl h,hlo a h⟩
      · exact .inl h
      · exact .inr ⟨.inr (.inr h),hhi a h⟩
    · rintro (h|⟨h|h|h,hne⟩)
      · exact .inr (.inl h)
      · exact .inl h
      · subst h;exact absurd hn hne
      · exact .inr (.inr h)
  · have hhi:∀ a∈xs.drop (atA nm xs),¬a.n=nm:=fun a ha e=>by have:=hb a ha;rw [e] at this;exact lt_irr _ this
    rw [if_neg hi,List.mem_append,List.mem_cons]
    constructor
    · rintro (h|h|h)
      · exact .inr ⟨.inl h,hlo a h⟩
      · exact .inl h
      · exact .inr ⟨.inr h,hhi a h⟩
    · rintro (h|⟨h|h,hne⟩)
      · exact .inr (.inl h)
      · exact .inl h
      · exact .inr (.inr h)
theorem dropA_sub (xs:List PA) (nm:ByteArray):(qW xs nm).Sublist xs:=by
  unfold qW
  have:(xs.drop (atA nm xs+1)).Sublist (xs.drop (atA nm xs)):=by
    rw [←List.drop_drop];exact List.drop_sublist _ _
  calc (xs.take (atA nm xs) ++ xs.drop (atA nm xs+1)).Sublist (xs.take (atA nm xs) ++ xs.drop (atA nm xs)):=(List.Sublist.refl _).append this
    _=xs:=List.take_append_drop _ _
theorem getF_zero {xs:List PA} {nm:ByteArray} (h:kX xs nm=0):eO xs=0∧¬eJ nm=0∧isA nm xs:=by
  unfold kX at h
  split at h
  · omega
  · rename_i h0
    split at h
    · omega
    · rename_i hc
      split at h
      · rename_i hi;exact⟨Classical.byContradiction h0,hc,hi⟩
      · omega
end
section
def eC (V:aD) (A:Option Addr) (n:Nat) (xs:List PA):Prop:=AttrsV V A n xs∧∀ a∈xs,a.n.size≤maxLen∧a.v.size≤maxLen
theorem eC.le {V V':aD} {A:Option Addr} {n:Nat} {xs:List PA} (h:eC V A n xs) (hv:VLe V V'):eC V' A n xs:=⟨h.1.le hv,h.2⟩
theorem eC.nil {V:aD} {A:Option Addr}:eC V A 0 []:=⟨eP.nil,by simp⟩
theorem yG (a:PA):(paC a).length=2:=rfl
theorem ones_pa (xs:List PA):∀ u∈xs.flatMap paC,gQ u=true:=by
  intro u hu
  obtain⟨r,_,hr⟩:=List.mem_flatMap.1 hu
  simp at hr
  rcases hr with rfl|rfl<;>rfl
theorem eC.at_ {V:aD} {A:Option Addr} {n:Nat} {xs:List PA} (h:eC V A n xs) {k:Nat} (hk:k<n):∃ b off a,A=some ⟨b,off,none⟩∧xs[k]?=some a∧aG V b (off+k * 2) [.string a.n,.string a.v]∧V ⟨b,off+k * 2+0,none⟩=some (.string a.n)∧V ⟨b,off+k * 2+1,none⟩=some (.string a.v)∧a.n.size≤9223372036854775807∧a.v.size≤9223372036854775807:=by
  obtain⟨b,off,r,ha,hx,hc⟩:=h.1.at_ hk
  have:=h.2 r (List.mem_of_getElem? hx)
  unfold maxLen at this
  exact⟨b,off,r,ha,hx,hc,hc 0 _ rfl,hc 1 _ rfl,by omega,by omega⟩
theorem eC.prev {V:aD} {b off n k:Nat} {xs:List PA} (h:eC V (some ⟨b,off,none⟩) n xs) (hk:k<n) (h0:¬k=0):∃ y,xs[k - 1]?=some y∧V ⟨b,off+((k:Int) - 1).toNat * 2+0,none⟩=some (.string y.n):=by
  obtain⟨b',off',z,he,hz,_,hc,_⟩:=h.at_ (k:=k - 1) (by omega)
  cases he
  exact⟨z,hz,by rw [show ((k:Int) - 1).toNat=k - 1 by omega];exact hc⟩
theorem aF_all {xs:List PA} (h:¬4<xs.length):eO xs=aF none xs:=by unfold eO;rw [if_neg h]
attribute [local irreducible] AtQ GoC GoL GoW QO QP Fn RV bL aG VLe bR bK
theorem jX (V:aD) (A:Option Addr) (n c:Nat) (xs:List PA) (h:eC V A n xs):Fn Tryz.prog 239 [.slice A n c] V fun v _=>v=bK (eO xs):=by
  have hm:=h.1.max
  have hl:=h.1.1
  (refine aI Tryz.func239 rfl Tryz.ntmps239 rfl ?_;intro w0)
  repeat' (first|(refine aE ?_;refine pu9 ?_)|refine bY ?_|(refine aA rfl ?_ ?_<;>intro hq<;>try exact no9))
  all_goals try ((refine aM Tryz.results239 (aB rfl) ?_);refine cQ 2 (by unfold eO;rw [if_pos (by omega)]))
  rw [aF_all (by omega)]
  refine bN (fun F V' L' m=>∃ k:Nat,k≤n∧m=n - k∧V=V'∧[]=L'∧aF none xs=aF (prevA xs k) (xs.drop k)∧F=[(0,.slice A n c),(9,.slice A n c),(10,.int .i64 n),(11,.int .i64 k)]) (m:=n) ⟨0,Nat.zero_le _,by omega,rfl,rfl,rfl,rfl⟩ bH rfl sl9 ?_
  rintro F V' L' m ⟨k,hk,rfl,rfl,rfl,hg,rfl⟩
  by_cases hlt:k<n
  · obtain⟨bb,off,a,rfl,hx,hc,c0,c1,w0',w1⟩:=h.at_ hlt
    rw [hg,jO hx]
    by_cases h0:k=0
    · subst h0
      repeat' (first|(refine aE ?_;first|(refine aC ?_;refine aP rfl (aK ⟨Tryz.call166⟩ rfl (jP _ a.n (by omega))) ?_)|refine st9 ?_|(refine al9 ?_;intro γ)|refine pu9 ?_)|refine dG ?_|(refine aA rfl ?_ ?_<;>intro hq<;>try exact no9)|refine bQ (id:=10) mixed (by kernel_rfl) ?_)
      all_goals first
        | ((refine aM Tryz.results239 (aB rfl) ?_);exact cQ 4 (aF_name (by assumption)))
        | ((refine aM Tryz.results239 (aB rfl) ?_);exact cQ 1 (aF_big (by assumption) (by omega)))
        | (refine aX _ (n - (0+1)) ⟨0+1,by omega,rfl,rfl,rfl,?_,rfl⟩ (by omega) bH sl9
           rw [show prevA xs 0=none from rfl,aF_first (by assumption) (by omega),rE,hx];rfl)
    · obtain⟨y,hy,hcy⟩:=h.prev hlt h0
      rw [prevA_pos h0,hy]
      repeat' (first|(refine aE ?_;first|(refine aC ?_;refine aP rfl (aK ⟨Tryz.call166⟩ rfl (jP _ a.n (by omega))) ?_)|(refine cN ?_;refine aO (q_sgeq rfl rfl) ?_)|refine st9 ?_|(refine al9 ?_;intro γ)|refine pu9 ?_)|refine bY ?_|(refine aJ rfl rfl rfl ?_ ?_<;>intro hq<;>try exact no9)|(refine aA rfl ?_ ?_<;>intro hq<;>try exact no9)|refine bQ (id:=10) mixed (by kernel_rfl) ?_)
      all_goals first
        | ((refine aM Tryz.results239 (aB rfl) ?_);exact cQ 4 (aF_name (by assumption)))
        | ((refine aM Tryz.results239 (aB rfl) ?_);exact cQ 1 (aF_big (by assumption) (by omega)))
        | ((refine aM Tryz.results239 (aB rfl) ?_);exact cQ 3 (aF_down (by assumption) (by omega) (by assumption)))
        | (refine aX _ (n - (k+1)) ⟨k+1,by omega,rfl,rfl,rfl,?_,rfl⟩ (by omega) bH sl9
           rw [show (some y).map PA.n=some y.n from rfl,aF_on (by assumption) (by omega) (Classical.byContradiction (by assumption)),rE,hx];rfl)
  · repeat' (first|(refine aE ?_;refine pu9 ?_)|refine dT ?_|(refine aA rfl ?_ ?_<;>intro hq<;>try exact no9))
    (refine aM Tryz.results239 (aB rfl) ?_)
    rw [hg,List.drop_eq_nil_of_le (by omega)]
    exact xJ rfl
theorem AttrFault_c (V:aD) (A:Option Addr) (n c:Nat) (xs:List PA) (h:eC V A n xs):Fn Tryz.prog 246 [.slice A n c] V fun v _=>v=.int .i64 (eO xs):=by
  have hm:=h.1.max
  have hl:=h.1.1
  (refine aI Tryz.func246 rfl Tryz.ntmps246 rfl ?_;intro w0)
  repeat' (first|(refine aE ?_;refine pu9 ?_)|refine bY ?_|(refine aA rfl ?_ ?_<;>intro hq<;>try exact no9))
  all_goals try ((refine aM Tryz.results246 (aB rfl) ?_);rw [show eO xs=2 by unfold eO;rw [if_pos (by omega)]])
  rw [aF_all (by omega)]
  refine bN (fun F V' L' m=>∃ k:Nat,k≤n∧m=n - k∧V=V'∧[]=L'∧aF none xs=aF (prevA xs k) (xs.drop k)∧F=[(0,.slice A n c),(3,.int .i64 k)]) (m:=n) ⟨0,Nat.zero_le _,by omega,rfl,rfl,rfl,rfl⟩ bH rfl sl9 ?_
  rintro F V' L' m ⟨k,hk,rfl,rfl,rfl,hg,rfl⟩
  by_cases hlt:k<n
  · obtain⟨bb,off,a,rfl,hx,hc,c0,c1,w0',w1⟩:=h.at_ hlt
    rw [hg,jO hx]
    by_cases h0:k=0
    · subst h0
      repeat' (first|(refine aE ?_;first|(refine aC ?_;refine aP rfl (aK ⟨Tryz.call194⟩ rfl (RClass_c _ a.n (by omega))) ?_)|refine pu9 ?_)|refine dG ?_|(refine aA rfl ?_ ?_<;>intro hq<;>try exact no9)|refine bQ (id:=10) mixed (by kernel_rfl) ?_)
      all_goals first
        | ((refine aM Tryz.results246 (aB rfl) ?_);rw [aF_name (by assumption)];done)
        | ((refine aM Tryz.results246 (aB rfl) ?_);rw [aF_big (by assumption) (by omega)];done)
        | (refine aX _ (n - (0+1)) ⟨0+1,by omega,rfl,rfl,rfl,?_,rfl⟩ (by omega) bH sl9
           rw [show prevA xs 0=none from rfl,aF_first (by assumption) (by omega),rE,hx];rfl)
    · obtain⟨y,hy,hcy⟩:=h.prev hlt h0
      rw [prevA_pos h0,hy,show (some y).map PA.n=some y.n from rfl]
      repeat' (first|(refine aE ?_;first|(refine aC ?_;refine aP rfl (aK ⟨Tryz.call194⟩ rfl (RClass_c _ a.n (by omega))) ?_)|(refine cN ?_;refine aO (q_sleq rfl rfl) ?_)|refine pu9 ?_)|refine bY ?_|(refine aJ rfl rfl rfl ?_ ?_<;>intro hq<;>try exact no9)|(refine aA rfl ?_ ?_<;>intro hq<;>try exact no9)|refine bQ (id:=10) mixed (by kernel_rfl) ?_)
      all_goals first
        | ((refine aM Tryz.results246 (aB rfl) ?_);rw [aF_name (by assumption)];done)
        | ((refine aM Tryz.results246 (aB rfl) ?_);rw [aF_big (by assumption) (by omega)];done)
        | ((refine aM Tryz.results246 (aB rfl) ?_);rw [aF_down (by assumption) (by omega) (by assumption)];done)
        | (refine aX _ (n - (k+1)) ⟨k+1,by omega,rfl,rfl,rfl,?_,rfl⟩ (by omega) bH sl9
           rw [aF_on (by assumption) (by omega) (Classical.byContradiction (by assumption)),rE,hx];rfl)
  · repeat' (first|(refine aE ?_;refine pu9 ?_)|refine dT ?_|(refine aA rfl ?_ ?_<;>intro hq<;>try exact no9))
    (refine aM Tryz.results246 (aB rfl) ?_)
    rw [hg,List.drop_eq_nil_of_le (by omega)]
    rfl
theorem SameAttrs_c (V:aD) (A B:Option Addr) (n m c1 c2:Nat) (xs ys:List PA) (h:eC V A n xs) (k:eC V B m ys) :
    Fn Tryz.prog 97 [.slice A n c1,.slice B m c2] V fun v _=>v=.bool (decide (xs=ys)):=by
  have hm:=h.1.max
  have hl:=h.1.1
  have hl2:=k.1.1
  (refine aI Tryz.func97 rfl Tryz.ntmps97 rfl ?_;intro w0)
  repeat' (first|(refine aE ?_;first|(refine cN ?_;refine aO (q_aneq ng_271 rfl rfl (eqs_271 ..)) ?_)|refine pu9 ?_)|refine bY ?_|(refine aA rfl ?_ ?_<;>intro hq<;>try exact no9))
  · (refine aM Tryz.results97 (aB rfl) ?_)
    rw [decide_eq_false (fun e=>by subst e;omega)]
  · have hnm:n=m:=by omega
    subst hnm
    refine bN (fun F V' L' m=>∃ i:Nat,i≤n∧m=n - i∧V=V'∧L'=[]∧xs.take i=ys.take i∧F=[(0,.slice A n c1),(1,.slice B n c2),(5,.int .i64 i)]) (m:=n) ⟨0,Nat.zero_le _,by omega,rfl,rfl,by simp,rfl⟩ bH rfl sl9 ?_
    rintro F V' L' m ⟨i,hi,rfl,rfl,rfl,he,rfl⟩
    by_cases hlt:i<n
    · obtain⟨b1,o1,x,rfl,hx,hcx,_⟩:=h.at_ hlt
      obtain⟨b2,o2,y,rfl,hy,hcy,_⟩:=k.at_ hlt
      repeat' (first|(refine aE ?_;first|(refine cN ?_;refine aO (q_aneq ng_271 rfl rfl (eqs_271 ..)) ?_)|refine pu9 ?_)|refine bY ?_|(refine aA rfl ?_ ?_<;>intro hq<;>try exact no9)|(refine bM rfl ?_ ?_<;>intro hq)|refine bQ (id:=6) mixed (by kernel_rfl) ?_)
      · (refine aM Tryz.results97 (aB rfl) ?_)
        rw [decide_eq_false (fun e=>by subst e;rw [hx] at hy;injection hy with hy;subst hy;simp at hq)]
      · refine aX _ (n - (i+1)) ⟨i+1,by omega,rfl,rfl,rfl,?_,rfl⟩ (by omega) bH sl9
        have hxy:x=y:=by
          simp at hq
          exact PA.ext hq.1 hq.2
        rw [List.take_add_one,List.take_add_one,he,hx,hy,hxy]
    · repeat' (first|(refine aE ?_;first|(refine cN ?_;refine aO (q_aneq ng_271 rfl rfl (eqs_271 ..)) ?_)|refine pu9 ?_)|refine dT ?_|(refine aA rfl ?_ ?_<;>intro hq<;>try exact no9))
      (refine aM Tryz.results97 (aB rfl) ?_)
      rw [List.take_of_length_le (by omega),List.take_of_length_le (by omega)] at he
      rw [decide_eq_true he]
def nF (xs:List PA):Bool:=decide (xs.length≤8) && xs.all fun a=>decide (a.n.size≤60) && decide (a.v.size≤60)
theorem light_snoc {xs:List PA} {k:Nat} {a:PA} (h:xs[k]?=some a) (h1:(xs.take k).all (fun a=>decide (a.n.size≤60) && decide (a.v.size≤60))=true) (h2:a.n.size≤60) (h3:a.v.size≤60):(xs.take (k+1)).all (fun a=>decide (a.n.size≤60) && decide (a.v.size≤60))=true:=by
  rw [List.take_add_one,h,List.all_append,h1];simp [h2,h3]
theorem light_bad {xs:List PA} {k:Nat} {a:PA} (h:xs[k]?=some a) (h2:60<a.n.size∨60<a.v.size):nF xs=false:=by
  cases hb:nF xs
  · rfl
  · unfold nF at hb
    rw [Bool.and_eq_true,List.all_eq_true] at hb
    have:=hb.2 a (List.mem_of_getElem? h)
    simp at this;omega
theorem lightAttrs_c (V:aD) (A:Option Addr) (n c:Nat) (xs:List PA) (h:eC V A n xs):Fn Tryz.prog 219 [.slice A n c] V fun v _=>v=.bool (nF xs):=by
  have hm:=h.1.max
  have hl:=h.1.1
  (refine aI Tryz.func219 rfl Tryz.ntmps219 rfl ?_;intro w0)
  repeat' (first|(refine aE ?_;refine pu9 ?_)|refine bY ?_|(refine aA rfl ?_ ?_<;>intro hq<;>try exact no9))
  · (refine aM Tryz.results219 (aB rfl) ?_)
    rw [nF,decide_eq_false (by omega)];rfl
  · refine bN (fun F V' L' m=>∃ k:Nat,k≤n∧m=n - k∧V=V'∧[]=L'∧(xs.take k).all (fun a=>decide (a.n.size≤60) && decide (a.v.size≤60))=true∧F=[(0,.slice A n c),(3,.int .i64 k)]) (m:=n) ⟨0,Nat.zero_le _,by omega,rfl,rfl,by simp,rfl⟩ bH rfl sl9 ?_
    rintro F V' L' m ⟨k,hk,rfl,rfl,rfl,ha,rfl⟩
    by_cases hlt:k<n
    · obtain⟨bb,off,a,rfl,hx,hc,c0,c1,w0',w1⟩:=h.at_ hlt
      repeat' (first|(refine aE ?_;refine pu9 ?_)|refine dG ?_|(refine aJ rfl rfl rfl ?_ ?_<;>intro hq<;>try exact no9)|(refine aA rfl ?_ ?_<;>intro hq<;>try exact no9))
      all_goals first
        | ((refine aM Tryz.results219 (aB rfl) ?_);rw [light_bad hx (by omega)];done)
        | (refine aX _ (n - (k+1)) ⟨k+1,by omega,rfl,rfl,rfl,light_snoc hx ha (by omega) (by omega),rfl⟩ (by omega) bH sl9)
    · repeat' (first|(refine aE ?_;refine pu9 ?_)|refine dT ?_|(refine aA rfl ?_ ?_<;>intro hq<;>try exact no9))
      (refine aM Tryz.results219 (aB rfl) ?_)
      rw [List.take_of_length_le (by omega)] at ha
      rw [nF,ha,decide_eq_true (by omega)];rfl
end
end Go.Proofs.YtejkmomfpidnbabGreat
