/- The engine: a region that draws its order, in which many operations make memory: each operation is walked once, whatever came ahead of it. No program is named here. -/
import Derived.Test.YtejkmomfpidnbabCore
namespace Go.Proofs.Ytejkmomfpidnbab
open Go.RowKit
set_option linter.unusedSimpArgs false
set_option linter.unusedVariables false
/-- What is known of an operation's value. -/
abbrev Spec := Value → View → Prop
def getR (Rs : List Spec) (j : Nat) : Spec := Rs.getD j (fun _ _ => False)
def dstOf (l : List Oper) (j : Nat) : Nat := ((l[j]?).bind (·.dst)).getD 0
/-- For all values of the operations in D. -/
def Deps (l : List Oper) (Rs : List Spec) (V' : View) : List Nat → (List (Nat × Value) → Prop) → List (Nat × Value) → Prop
  | [], X, F => X F
  | j :: D, X, F => ∀ v, getR Rs j v V' → Deps l Rs V' D X ((dstOf l j, v) :: F)
def waitsB (o : Oper) (j : Nat) : Bool := o.after.any fun e => Region.binds .any e && Nat.beq e.on j
def depsB (o : Oper) (D : List Nat) (i : Nat) : Bool := D.all fun j => Nat.blt j i && waitsB o j
def regionB (l : List Oper) (m N : Nat) (F0 : List (Nat × Value)) : Bool :=
  ((List.range l.length).all fun i => match l[i]? with | some o => o.after.all (fun e => Nat.blt e.on i) | none => false) &&
  ((List.range m).all fun i => match (l[i]?).bind (·.dst) with | some d => Nat.blt d N && (F0.all (fun p => !Nat.beq p.1 d)) && ((List.range i).all fun j => !Nat.beq (dstOf l j) d) | none => false)
def usedB (l : List Oper) (m : Nat) : Bool := (List.range m).all fun i => (List.range l.length).any fun j => Nat.blt i j && (match l[j]? with | some o => waitsB o i | none => false)
theorem waitsB_spec {o : Oper} {j : Nat} (h : waitsB o j = true) : ∃ e ∈ o.after, Region.binds .any e = true ∧ e.on = j := by
  unfold waitsB at h
  rw [Array.any_eq_true] at h
  obtain ⟨i, hi, h⟩ := h
  simp only [Bool.and_eq_true] at h
  exact ⟨o.after[i], Array.getElem_mem hi, h.1, Nat.eq_of_beq_eq_true h.2⟩
theorem wp_tmps {P : Program} {o : Oper} {a : Act} {w : World} {K : Act → World → Prop} {Q : Exit → Act → World → Prop} (h : o.wp P a w K Q) : o.wp P a w (fun a' w' => K a' w' ∧ ∃ v, a'.tmps = (a.put o.dst v).tmps) Q := by
  unfold Oper.wp at *
  generalize (execOp a.eval o).run P w = r at *
  cases r with
  | ok n w' =>
    cases n <;> simp only [Oper.upon] at h ⊢
    case value u => exact ⟨h, u, rfl⟩
    case skip => exact ⟨h, undef, rfl⟩
    case defer d => exact ⟨h, undef, by cases o.dst <;> rfl⟩
    case enter f args =>
      refine Calls.mono h fun e w'' he => ?_
      cases e with
      | returned u => exact ⟨he, u, rfl⟩
      | panicked c => exact he
      | outgrown => exact he
    case row row args => exact Rows.mono h fun u w'' he => ⟨he, u, rfl⟩
  | halt x w' =>
    cases x <;> simp only [Oper.upon] at h ⊢
    case panic u => exact h
theorem wp_thn {P : Program} {o : Oper} {a : Act} {w : World} {X K : Act → World → Prop} {Q : Exit → Act → World → Prop} {k : List Cont} (h : o.wp P a w X (evalQ P Q (.thn K :: k))) : o.wp P a w X (evalQ P Q k) := by
  unfold Oper.wp at *
  generalize (execOp a.eval o).run P w = r at *
  cases r with
  | ok n w' =>
    cases n <;> simp only [Oper.upon] at h ⊢
    case value u => exact h
    case skip => exact h
    case defer d => exact h
    case enter f args =>
      refine Calls.mono h fun e w'' he => ?_
      cases e with
      | returned u => exact he
      | panicked c => exact he
      | outgrown => exact he
    case row row args => exact h
  | halt x w' =>
    cases x <;> simp only [Oper.upon] at h ⊢
    case panic u => exact h
theorem Kn.cons {N : Nat} {F : List (Nat × Value)} {a : Act} {t : Nat} {v : Value} (h : Kn N F a) (h1 : Kn N [(t, v)] a) : Kn N ((t, v) :: F) a :=
  ⟨h.1, h.2.1, fun s u hs => by
    rw [look_cons] at hs
    split at hs
    · rename_i e; subst e
      exact h1.2.2 t u (by rw [look_cons, if_pos rfl]; exact hs)
    · exact h.2.2 s u hs⟩
theorem Kn.kept {N : Nat} {F : List (Nat × Value)} {a a' : Act} {d : Nat} {v : Value} (h : Kn N F a) (hd : ∀ p ∈ F, p.1 ≠ d) (h0 : a'.defers = []) (ht : a'.tmps = (a.put (some d) v).tmps) : Kn N F a' := by
  refine ⟨h0, by rw [ht]; simpa [Act.put] using h.2.1, fun t u hu => ?_⟩
  have hne : t ≠ d := by
    intro e; subst e
    clear h h0 ht
    induction F with
    | nil => simp [look] at hu
    | cons p F ih =>
      obtain ⟨k, x⟩ := p
      rw [look_cons] at hu
      split at hu
      · rename_i e; exact hd (k, x) (by simp) e
      · exact ih hu (fun q hq => hd q (List.mem_cons_of_mem _ hq))
  have := h.2.2 t u hu
  rw [ht]
  simpa [Act.put, Array.getElem?_setIfInBounds_ne (Ne.symm hne)] using this
theorem countP_lt {p q : Nat → Bool} : ∀ {l : List Nat}, (∀ x ∈ l, q x = true → p x = true) → (∃ x ∈ l, p x = true ∧ q x = false) → l.countP q < l.countP p
  | [], _, h => by obtain ⟨x, hx, _⟩ := h; cases hx
  | y :: l, h1, h2 => by
    have hle : l.countP q ≤ l.countP p := List.countP_mono_left fun x hx hq => h1 x (List.mem_cons_of_mem _ hx) hq
    rw [List.countP_cons, List.countP_cons]
    obtain ⟨x, hx, hp, hq⟩ := h2
    rcases List.mem_cons.1 hx with rfl | hx
    · rw [if_pos hp, if_neg (by rw [hq]; decide)]; omega
    · have := countP_lt (l := l) (fun x hx hq => h1 x (List.mem_cons_of_mem _ hx) hq) ⟨x, hx, hp, hq⟩
      by_cases hy : q y = true
      · rw [if_pos hy, if_pos (h1 y (by simp) hy)]; omega
      · rw [if_neg hy]; split <;> omega
section
variable {P : Program} {B : Base} {N : Nat} {Q : Exit → Act → World → Prop} {k : List Cont} {F : List (Nat × Value)} {V : View} {L : List Box}
def StepAt (P : Program) (B : Base) (N : Nat) (Q : Exit → Act → World → Prop) (k : List Cont) (l : List Oper) (F0 : List (Nat × Value)) (V : View) (L : List Box) (Rs : List Spec) (i : Nat) (R : Spec) : Prop :=
  ∃ o D, l[i]? = some o ∧ o.guard = none ∧ depsB o D i = true ∧ (∀ v V1 V2, VLe V1 V2 → R v V1 → R v V2) ∧
   ∀ V', VLe V V' → Deps l Rs V' D (fun F => ∀ K : Act → World → Prop, (∀ V'' v a w, VLe V' V'' → R v V'' → Kn N [(dstOf l i, v)] a → St B V'' L w → K a w) → GoW P B N .plain l.toArray Q (.thn K :: k) o [] F V' L) F0
def Steps (P : Program) (B : Base) (N : Nat) (Q : Exit → Act → World → Prop) (k : List Cont) (l : List Oper) (F0 : List (Nat × Value)) (V : View) (L : List Box) (Rs : List Spec) : Prop := ∀ i, i < Rs.length → StepAt P B N Q k l F0 V L (Rs.take i) i (getR Rs i)
def Grow (P : Program) (B : Base) (N : Nat) (Q : Exit → Act → World → Prop) (k : List Cont) (l : List Oper) (F0 : List (Nat × Value)) (V : View) (L : List Box) (Rs : List Spec) : Prop :=
  Steps P B N Q k l F0 V L Rs → ∀ a w, Kn N F0 a → St B V L w → wpAnyH P .any l.toArray (evalQ P Q k) (fun _ => True) l.length (Array.replicate l.length false) a w
theorem gc_grow {id : Nat} {l : List Oper} (F0 : List (Nat × Value)) (hm : P.follows .mixedOrders = true) (hF : ∀ p ∈ F0, look F p.1 = some p.2) (h : Grow P B N Q k l F0 V L []) : GoC P B N (.region id l.toArray true) Q k F V L := fun a w ha hs =>
  wp_region_held (S := fun _ => True) hm (h (fun i hi => by simp at hi) a _ (ha.less hF) hs.drewn)
variable {l : List Oper} {F0 : List (Nat × Value)} {Rs : List Spec}
theorem getR_app {R : Spec} {i : Nat} (h : i < Rs.length) : getR (Rs ++ [R]) i = getR Rs i := by
  unfold getR
  rw [List.getD_eq_getElem?_getD, List.getD_eq_getElem?_getD, List.getElem?_append_left h]
theorem getR_last {R : Spec} : getR (Rs ++ [R]) Rs.length = R := by
  unfold getR
  rw [List.getD_eq_getElem?_getD, List.getElem?_append_right (Nat.le_refl _)]; simp
theorem grow_gen {o : Oper} {R : Spec} {n : Nat} (D : List Nat) (hn : Rs.length = n) (ho : l[n]? = some o) (hg : o.guard = none) (hD : depsB o D n = true) (hR : ∀ v V1 V2, VLe V1 V2 → R v V1 → R v V2)
    (hs : ∀ V', VLe V V' → Deps l Rs V' D (fun F => ∀ K : Act → World → Prop, (∀ V'' v a w, VLe V' V'' → R v V'' → Kn N [(dstOf l n, v)] a → St B V'' L w → K a w) → GoW P B N .plain l.toArray Q (.thn K :: k) o [] F V' L) F0)
    (h : Grow P B N Q k l F0 V L (Rs ++ [R])) : Grow P B N Q k l F0 V L Rs := fun hst => h fun i hi => by
  subst hn
  rw [List.length_append, List.length_singleton] at hi
  rcases Nat.lt_or_ge i Rs.length with h1 | h1
  · rw [List.take_append_of_le_length (by omega), getR_app h1]; exact hst i h1
  · obtain rfl : i = Rs.length := by omega
    rw [List.take_append_of_le_length (by omega), List.take_length, getR_last]
    exact ⟨o, D, ho, hg, hD, hR, hs⟩
/-- An operation whose value is one and the same. -/
theorem grow_val {o : Oper} {x : Value} {n : Nat} (D : List Nat) (hn : Rs.length = n) (ho : l[n]? = some o) (hg : o.guard = none) (hD : depsB o D n = true)
    (hs : ∀ V', VLe V V' → Deps l Rs V' D (fun F => ∀ K : Act → World → Prop, (∀ V'' v a w, VLe V' V'' → v = x → Kn N [(dstOf l n, v)] a → St B V'' L w → K a w) → GoW P B N .plain l.toArray Q (.thn K :: k) o [] F V' L) F0)
    (h : Grow P B N Q k l F0 V L (Rs ++ [fun v _ => v = x])) : Grow P B N Q k l F0 V L Rs := grow_gen D hn ho hg hD (fun _ _ _ _ h => h) hs h
/-- An operation that makes a slice, which is only read. -/
def newR (m : Nat) (cs : List Value) : Spec := fun v V => ∃ g, v = .slice (some ⟨g, 0, none⟩) m m ∧ CellsFrom V g 0 cs
theorem grow_new {o : Oper} {cs : List Value} {m n : Nat} (D : List Nat) (hn : Rs.length = n) (ho : l[n]? = some o) (hg : o.guard = none) (hD : depsB o D n = true)
    (hs : ∀ V', VLe V V' → Deps l Rs V' D (fun F => ∀ K : Act → World → Prop, (∀ V'' v a w, VLe V' V'' → newR m cs v V'' → Kn N [(dstOf l n, v)] a → St B V'' L w → K a w) → GoW P B N .plain l.toArray Q (.thn K :: k) o [] F V' L) F0)
    (h : Grow P B N Q k l F0 V L (Rs ++ [newR m cs])) : Grow P B N Q k l F0 V L Rs := grow_gen D hn ho hg hD (fun _ _ _ hV ⟨g, h1, h2⟩ => ⟨g, h1, h2.le hV⟩) hs h
theorem at_grow {K : Act → World → Prop} {R : Spec} {d : Nat} {V' V'' : View} {v : Value} (hK : ∀ V'' v a w, VLe V' V'' → R v V'' → Kn N [(d, v)] a → St B V'' L w → K a w) (hl : look F d = some v) (hV : VLe V' V'') (hR : R v V'') : AtQ P B N Q (.thn K :: k) .normal F V'' L := fun a w ha hs => hK V'' v a w hV hR (ha.less (by simpa using hl)) hs
/-- What holds at each state on the way. -/
def InvG (B : Base) (N : Nat) (l : List Oper) (F0 : List (Nat × Value)) (V : View) (L : List Box) (Rs : List Spec) (fuel : Nat) (listed : Array Bool) (a : Act) (w : World) : Prop :=
  listed.size = l.length ∧ (List.range l.length).countP (fun i => !listed.getD i true) ≤ fuel ∧ (∀ i o, l[i]? = some o → listed.getD i true = true → ∀ e ∈ o.after, Region.binds .any e = true → listed.getD e.on false = true) ∧ (∀ i, Rs.length ≤ i → i < l.length → listed.getD i true = false) ∧
  ∃ V', VLe V V' ∧ St B V' L w ∧ Kn N F0 a ∧ ∀ i, i < Rs.length → listed.getD i true = true → ∃ v, getR Rs i v V' ∧ Kn N [(dstOf l i, v)] a
theorem getD_tf {listed : Array Bool} {i : Nat} (h : i < listed.size) (b c : Bool) : listed.getD i b = listed.getD i c := by simp [Array.getD, h]
theorem getD_set {listed : Array Bool} {i j : Nat} {b : Bool} (h : i < listed.size) : (listed.setIfInBounds i true).getD j b = if i = j then true else listed.getD j b := by
  simp only [Array.getD_eq_getD_getElem?, Array.getElem?_setIfInBounds]
  by_cases e : i = j
  · subst e; simp [h]
  · simp [e]
theorem regionB_after {m : Nat} (h : regionB l m N F0 = true) {i : Nat} {o : Oper} (ho : l[i]? = some o) {e : Edge} (he : e ∈ o.after) : e.on < i := by
  unfold regionB at h
  simp only [Bool.and_eq_true, List.all_eq_true, List.mem_range] at h
  have hi : i < l.length := by
    rcases Nat.lt_or_ge i l.length with h | h
    · exact h
    · rw [List.getElem?_eq_none h] at ho; cases ho
  have := h.1 i hi
  rw [ho] at this
  simp only [Array.all_eq_true_iff_forall_mem] at this
  simpa [Nat.blt_eq] using this e he
theorem regionB_dst {m : Nat} (h : regionB l m N F0 = true) {i : Nat} (hi : i < m) : (∃ o, l[i]? = some o ∧ o.dst = some (dstOf l i)) ∧ dstOf l i < N ∧ (∀ p ∈ F0, p.1 ≠ dstOf l i) ∧ ∀ j, j < i → dstOf l j ≠ dstOf l i := by
  unfold regionB at h
  simp only [Bool.and_eq_true, List.all_eq_true, List.mem_range] at h
  have h2 := h.2 i hi
  cases ho : l[i]? with
  | none => rw [ho] at h2; simp at h2
  | some o =>
    rw [ho] at h2
    cases hd : o.dst with
    | none => simp [hd] at h2
    | some d =>
      have e : dstOf l i = d := by unfold dstOf; rw [ho]; simp [hd]
      rw [e]
      simp [hd, Nat.blt_eq] at h2
      refine ⟨⟨o, rfl, hd⟩, h2.1.1, fun p hp e => ?_, fun j hj e => ?_⟩
      · have := h2.1.2 p.1 p.2 hp; rw [e] at this; simp at this
      · have := h2.2 j hj; rw [e] at this; simp at this
theorem deps_all {V' : View} {a : Act} {X : List (Nat × Value) → Prop} : ∀ {D : List Nat} {F : List (Nat × Value)} {Rs : List Spec}, Kn N F a → (∀ j ∈ D, ∃ v, getR Rs j v V' ∧ Kn N [(dstOf l j, v)] a) → Deps l Rs V' D X F → ∃ F', Kn N F' a ∧ X F'
  | [], F, Rs, ha, _, h => ⟨F, ha, h⟩
  | j :: D, F, Rs, ha, hD, h => by
    obtain ⟨v, h1, h2⟩ := hD j (by simp)
    exact deps_all (ha.cons h2) (fun i hi => hD i (List.mem_cons_of_mem _ hi)) (h v h1)
/-- All operations that only make memory come up, in whatever order; hfin: what is left then. -/
theorem grow_run (hB : regionB l Rs.length N F0 = true) (hle : Rs.length ≤ l.length) (hst : Steps P B N Q k l F0 V L Rs)
    (hlast : ∀ i o, Rs.length ≤ i → l[i]? = some o → ∀ listed : Array Bool, listed.size = l.length → (∀ i o, l[i]? = some o → listed.getD i true = true → ∀ e ∈ o.after, Region.binds .any e = true → listed.getD e.on false = true) → (∀ e ∈ o.after, Region.binds .any e = true → listed.getD e.on false = true) → ∀ j, j < Rs.length → listed.getD j true = true)
    (hfin : ∀ fuel listed a w, InvG B N l F0 V L Rs fuel listed a w → (∀ i, i < Rs.length → listed.getD i true = true) → wpAnyH P .any l.toArray (evalQ P Q k) (fun _ => True) fuel listed a w) :
    ∀ fuel listed a w, InvG B N l F0 V L Rs fuel listed a w → wpAnyH P .any l.toArray (evalQ P Q k) (fun _ => True) fuel listed a w := by
  intro fuel
  induction fuel with
  | zero =>
    intro listed a w hI
    refine hfin 0 listed a w hI fun i hi => ?_
    have h0 : (List.range l.length).countP (fun i => !listed.getD i true) = 0 := by have := hI.2.1; omega
    rw [List.countP_eq_zero] at h0
    have := h0 i (List.mem_range.2 (by omega))
    simpa using this
  | succ fuel ih =>
    intro listed a w hI
    by_cases hall : ∀ i, i < Rs.length → listed.getD i true = true
    · exact hfin _ _ _ _ hI hall
    have ⟨hsz, hcnt, hdc, htop, V', hV, hs, ha, hvals⟩ := hI
    refine ⟨fun hr => ?_, fun i hi => ?_⟩
    · exfalso
      -- the least one that has not come up may come up
      have key : ∀ n i, i < n → i < Rs.length → listed.getD i true = true := by
        intro n
        induction n with
        | zero => intro i hi; omega
        | succ n ihn =>
          intro i hi hir
          rcases Nat.lt_or_ge i n with h | h
          · exact ihn i h hir
          · obtain rfl : i = n := by omega
            obtain ⟨⟨o, ho, _⟩, _⟩ := regionB_dst hB hir
            cases hli : listed.getD i true with
            | true => rfl
            | false =>
              exfalso
              have hmem : i ∈ Region.ready .any l.toArray listed := by
                refine mem_ready.2 ⟨hli, o, by simpa using ho, fun e he hb => ?_⟩
                have hlt := regionB_after hB ho he
                have := ihn e.on hlt (by omega)
                rw [getD_tf (by omega) false true]; exact this
              rw [hr] at hmem; cases hmem
      exact hall fun i hi => key (i + 1) i (by omega) hi
    · obtain ⟨hun, o, ho, haft⟩ := mem_ready.1 hi
      have ho : l[i]? = some o := by simpa using ho
      have hil : i < l.length := by
        rcases Nat.lt_or_ge i l.length with h | h
        · exact h
        · rw [List.getElem?_eq_none h] at ho; cases ho
      rcases Nat.lt_or_ge i Rs.length with him | him
      case inr => exact absurd (hlast i o him ho listed hsz hdc haft) hall
      obtain ⟨o', D, ho', hg, hD, hmono, hstep⟩ := hst i him
      obtain rfl : o = o' := by rw [ho] at ho'; injection ho'
      obtain ⟨⟨o2, ho2, hdst⟩, hdN, hd0, hdj⟩ := regionB_dst hB him
      obtain rfl : o = o2 := by rw [ho] at ho2; injection ho2
      have hDv : ∀ j ∈ D, ∃ v, getR (Rs.take i) j v V' ∧ Kn N [(dstOf l j, v)] a := by
        intro j hj
        unfold depsB at hD
        rw [List.all_eq_true] at hD
        have := hD j hj
        simp only [Bool.and_eq_true, Nat.blt_eq] at this
        obtain ⟨e, he, hb, hon⟩ := waitsB_spec this.2
        have hl := haft e he hb
        rw [hon, getD_tf (by omega) false true] at hl
        obtain ⟨v, h1, h2⟩ := hvals j (by omega) hl
        refine ⟨v, ?_, h2⟩
        unfold getR at h1 ⊢
        rw [List.getD_eq_getElem?_getD] at h1 ⊢
        rw [List.getElem?_take_of_lt this.1]; exact h1
      obtain ⟨F', hF', hX⟩ := deps_all ha hDv (hstep V' hV)
      unfold wpOp
      simp only [show (l.toArray)[i]? = some o by simpa using ho]
      rw [if_pos (by simp [Region.wanted, hg])]
      refine .inl ?_
      have hgo := gw_plain.1 (hX (fun a' w' => (∃ V'' v, VLe V' V'' ∧ getR Rs i v V'' ∧ Kn N [(dstOf l i, v)] a' ∧ St B V'' L w')) (fun V'' v a' w' h1 h2 h3 h4 => ⟨V'', v, h1, h2, h3, h4⟩)) a w hF' hs
      have h2 := wp_tmps hgo
      refine wp_thn (Oper.wp_mono (fun a' w' hK => ?_) h2)
      · obtain ⟨hK, u, hu⟩ := hK
        unfold wpList at hK
        obtain ⟨V'', v, h1, h2, h3, h4⟩ := hK
        rw [hdst] at hu
        refine ⟨trivial, ih _ a' w' ⟨by simpa using hsz, ?_, ?_, ?_, V'', hV.trans h1, h4, ha.kept hd0 h3.1 hu, ?_⟩⟩
        · have : (List.range l.length).countP (fun j => !(listed.setIfInBounds i true).getD j true) < (List.range l.length).countP (fun j => !listed.getD j true) := by
            refine countP_lt (fun j hj h => ?_) ⟨i, List.mem_range.2 hil, by rw [hun]; rfl, ?_⟩
            · rw [getD_set (by omega)] at h
              split at h
              · simp at h
              · exact h
            · rw [getD_set (by omega), if_pos rfl]; rfl
          omega
        · intro j oj hoj hlj e he hb
          rw [getD_set (by omega)]
          split
          · rfl
          · rw [getD_set (by omega)] at hlj
            split at hlj
            · rename_i e1; subst e1
              obtain rfl : o = oj := by rw [ho] at hoj; injection hoj
              exact haft e he hb
            · exact hdc j oj hoj hlj e he hb
        · intro j hj hjl
          rw [getD_set (by omega), if_neg (by omega)]
          exact htop j hj hjl
        · intro j hj hlj
          rw [getD_set (by omega)] at hlj
          split at hlj
          · rename_i e; subst e; exact ⟨v, h2, h3⟩
          · rename_i hne
            obtain ⟨x, q1, q2⟩ := hvals j hj hlj
            obtain ⟨_, _, _, _, _, hmj, _⟩ := hst j hj
            refine ⟨x, hmj x _ _ h1 q1, q2.kept ?_ h3.1 hu⟩
            intro p hp
            simp at hp; subst hp
            rcases Nat.lt_or_ge j i with h | h
            · exact hdj j h
            · exact Ne.symm ((regionB_dst hB hj).2.2.2 i (by omega))
theorem inv_start {a : Act} {w : World} (hle : Rs.length ≤ l.length) (ha : Kn N F0 a) (hs : St B V L w) : InvG B N l F0 V L Rs l.length (Array.replicate l.length false) a w := by
  have h0 : ∀ i, i < l.length → (Array.replicate l.length false).getD i true = false := by intro i hi; simp [Array.getD, hi]
  refine ⟨by simp, ?_, ?_, fun i _ hi => h0 i hi, V, VLe.refl V, hs, ha, ?_⟩
  · have := List.countP_le_length (p := fun i => !(Array.replicate l.length false).getD i true) (l := List.range l.length)
    rw [List.length_range] at this; exact this
  · intro i o ho hl
    have hi : i < l.length := by
      rcases Nat.lt_or_ge i l.length with h | h
      · exact h
      · rw [List.getElem?_eq_none h] at ho; cases ho
    rw [h0 i hi] at hl; cases hl
  · intro i hi hl
    rw [h0 i (by omega)] at hl; cases hl
/-- All operations have come up. -/
theorem grow_end (D : List Nat) (hn : Rs.length = l.length) (hB : regionB l l.length N F0 = true) (hD : (D.all fun j => Nat.blt j l.length) = true)
    (h : ∀ V', VLe V V' → Deps l Rs V' D (fun F => AtQ P B N Q k .normal F V' L) F0) : Grow P B N Q k l F0 V L Rs := fun hst a w ha hs => by
  refine grow_run (by rw [hn]; exact hB) (by omega) hst (fun i o hi ho => ?_) (fun fuel listed a w hI hall => ?_) _ _ _ _ (inv_start (by omega) ha hs)
  · rw [List.getElem?_eq_none (by omega)] at ho; cases ho
  · obtain ⟨hsz, _, _, _, V', hV, hs, ha, hvals⟩ := hI
    refine wpAnyH_done ?_ ?_ fuel
    · apply List.eq_nil_iff_forall_not_mem.2
      intro i hi
      obtain ⟨hun, o, ho, _⟩ := mem_ready.1 hi
      have hil : i < l.length := by
        rcases Nat.lt_or_ge i l.length with h | h
        · exact h
        · rw [List.getElem?_toArray, List.getElem?_eq_none h] at ho; cases ho
      rw [hall i (by omega)] at hun; cases hun
    · have hDv : ∀ j ∈ D, ∃ v, getR Rs j v V' ∧ Kn N [(dstOf l j, v)] a := by
        intro j hj
        rw [List.all_eq_true] at hD
        have := hD j hj
        simp only [Nat.blt_eq] at this
        exact hvals j (by omega) (hall j (by omega))
      obtain ⟨F', hF', hX⟩ := deps_all ha hDv (h V' hV)
      exact hX a w hF' hs
/-- The last one is whatever it is, and waits for all the others. -/
theorem grow_last {o : Oper} {n : Nat} (D : List Nat) (hn : Rs.length = n) (hl : l.length = n + 1) (ho : l[n]? = some o) (hg : o.guard = none) (hB : regionB l n N F0 = true) (hU : usedB l n = true) (hD : depsB o D n = true)
    (h : ∀ V', VLe V V' → Deps l Rs V' D (fun F => GoW P B N .plain l.toArray Q k o [] F V' L) F0) : Grow P B N Q k l F0 V L Rs := fun hst a w ha hs => by
  subst hn
  have hused : ∀ i, i < Rs.length → ∃ j o, i < j ∧ j < l.length ∧ l[j]? = some o ∧ waitsB o i = true := by
    intro i hi
    unfold usedB at hU
    rw [List.all_eq_true] at hU
    have := hU i (List.mem_range.2 hi)
    rw [List.any_eq_true] at this
    obtain ⟨j, hj, h⟩ := this
    simp only [Bool.and_eq_true, Nat.blt_eq, List.mem_range] at h hj
    cases hoj : l[j]? with
    | none => rw [hoj] at h; simp at h
    | some oj => rw [hoj] at h; exact ⟨j, oj, h.1, hj, hoj, h.2⟩
  refine grow_run hB (by omega) hst (fun i oi hi hoi listed hsz hdc hready => ?_) (fun fuel listed a w hI hall => ?_) _ _ _ _ (inv_start (by omega) ha hs)
  · have hil : i < l.length := by
      rcases Nat.lt_or_ge i l.length with h | h
      · exact h
      · rw [List.getElem?_eq_none h] at hoi; cases hoi
    obtain rfl : i = Rs.length := by omega
    have key : ∀ m j, Rs.length ≤ j + m → j < Rs.length → listed.getD j true = true := by
      intro m
      induction m with
      | zero => intro j h1 h2; omega
      | succ m ihm =>
        intro j h1 h2
        obtain ⟨j', oj, hlt, hjl, hoj, hw⟩ := hused j h2
        obtain ⟨e, he, hb, hon⟩ := waitsB_spec hw
        have hl2 : listed.getD j false = true := by
          rcases Nat.lt_or_ge j' Rs.length with hlj | hlj
          · rw [← hon]; exact hdc j' oj hoj (ihm j' (by omega) hlj) e he hb
          · obtain rfl : j' = Rs.length := by omega
            obtain rfl : oj = oi := by rw [hoj] at hoi; injection hoi
            rw [← hon]; exact hready e he hb
        rw [getD_tf (by omega) true false]; exact hl2
    exact fun j hj => key Rs.length j (by omega) hj
  · obtain ⟨hsz, hcnt, _, htop, V', hV, hs, ha, hvals⟩ := hI
    have hun := htop Rs.length (Nat.le_refl _) (by omega)
    have hmem : ∀ i, i ∈ Region.ready .any l.toArray listed → i = Rs.length := by
      intro i hi
      obtain ⟨hun, o, ho, _⟩ := mem_ready.1 hi
      have hil : i < l.length := by
        rcases Nat.lt_or_ge i l.length with h | h
        · exact h
        · rw [List.getElem?_toArray, List.getElem?_eq_none h] at ho; cases ho
      rcases Nat.lt_or_ge i Rs.length with h1 | h1
      · rw [hall i h1] at hun; cases hun
      · omega
    have hrd : Rs.length ∈ Region.ready .any l.toArray listed := by
      refine mem_ready.2 ⟨hun, o, by simpa using ho, fun e he hb => ?_⟩
      have := hall e.on (regionB_after hB ho he)
      rw [getD_tf (by have := regionB_after hB ho he; omega) false true]; exact this
    cases fuel with
    | zero =>
      exfalso
      have h0 : (List.range l.length).countP (fun i => !listed.getD i true) = 0 := by omega
      rw [List.countP_eq_zero] at h0
      have := h0 Rs.length (List.mem_range.2 (by omega))
      rw [hun] at this; simp at this
    | succ fuel =>
      refine ⟨fun hr => (by rw [hr] at hrd; cases hrd), fun i hi => ?_⟩
      obtain rfl := hmem i hi
      have hDv : ∀ j ∈ D, ∃ v, getR Rs j v V' ∧ Kn N [(dstOf l j, v)] a := by
        intro j hj
        unfold depsB at hD
        rw [List.all_eq_true] at hD
        have := hD j hj
        simp only [Bool.and_eq_true, Nat.blt_eq] at this
        exact hvals j (by omega) (hall j (by omega))
      obtain ⟨F', hF', hX⟩ := deps_all ha hDv (h V' hV)
      unfold wpOp
      simp only [show (l.toArray)[Rs.length]? = some o by simpa using ho]
      rw [if_pos (by simp [Region.wanted, hg])]
      refine .inl (Oper.wp_mono (fun a' w' hK => ⟨trivial, ?_⟩) (gw_plain.1 hX a w hF' hs))
      unfold wpList at hK
      refine wpAnyH_done ?_ hK fuel
      apply List.eq_nil_iff_forall_not_mem.2
      intro i hi
      obtain ⟨hun, o, ho, _⟩ := mem_ready.1 hi
      have hil : i < l.length := by
        rcases Nat.lt_or_ge i l.length with h | h
        · exact h
        · rw [List.getElem?_toArray, List.getElem?_eq_none h] at ho; cases ho
      rw [getD_set (by omega)] at hun
      split at hun
      · cases hun
      · rw [hall i (by omega)] at hun; cases hun
end
end Go.Proofs.Ytejkmomfpidnbab
