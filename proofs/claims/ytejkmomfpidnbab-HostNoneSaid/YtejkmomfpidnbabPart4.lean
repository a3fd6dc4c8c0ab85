/- Walks and plain laws, part 4: what functions compute, proved once each (FlatP, FlatT, FlatS, IdmapE, IdmapE2, IdmapE3, CopyP, CopyE, CopyE2, IdmapT, ComesP, ComesQ, LayE, LayE2, BoxP, PathE3, Whole, BoxE, BoxE2, Lend, LendN, Nodes, BoxG, BoxA, BoxC, BoxM, AttrE5, BoxS, BxP, BxM, BxO, BxU, CredE3, BxG, BxH, BxQ, BxV, BxN). -/
import Derived.Test.YtejkmomfpidnbabPart3
import Derived.Test.YtejkmomfpidnbabPart2
import Derived.Test.YtejkmomfpidnbabPart1
/- All that is seen, as one tree, in plain terms. -/
namespace Go.Proofs.Ytejkmomfpidnbab
open Go.RowKit
set_option linter.unusedSimpArgs false
set_option linter.unusedVariables false
/-- A node of no more than so many floors of kids. -/
inductive Deep : Nat → PN → Prop
  | mk {d : Nat} {h : Hd} {ks : PKs} (h2 : ∀ k ∈ ks, Deep d k.2) : Deep (d + 1) (.mk h ks)
theorem Deep.kid {d : Nat} {n : PN} (h : Deep (d + 1) n) : ∀ k ∈ n.ks, Deep d k.2 := by
  cases h with | mk h2 => exact h2
theorem Deep.zero {n : PN} (h : Deep 0 n) : False := by cases h
theorem Deep.up {d : Nat} {n : PN} (h : Deep d n) : ∀ e, d ≤ e → Deep e n := by
  induction h with
  | mk h2 ih =>
    intro e he
    obtain ⟨e', rfl⟩ : ∃ e', e = e' + 1 := ⟨e - 1, by omega⟩
    exact .mk fun k hk => ih k hk e' (by omega)
/-- All that is seen, as one tree: what g makes of each. -/
def flatP (g : Hd → Int → Hd) : Nat → List PF → PN
  | 0, _ => .mk hZ []
  | _ + 1, [] => .mk hZ []
  | d + 1, f :: t => .mk (g { f.1.h with opq := false } f.2) ((listP (f :: t)).map fun nm => (nm, flatP g d (stepP (f :: t) nm)))
end Go.Proofs.Ytejkmomfpidnbab

/- All that is seen, laid flat, shows the same; in plain terms. -/
namespace Go.Proofs.Ytejkmomfpidnbab
open Go.RowKit
set_option linter.unusedSimpArgs false
set_option linter.unusedVariables false
def gI : Hd → Int → Hd := fun h _ => h
theorem names_step {r : List PF} {x : ByteArray} (h : (stepP r x).length ≠ 0) : x ∈ namesP r := by
  have h1 : r.filterMap (kidP x) ≠ [] := fun e => h (by unfold stepP; rw [e]; rfl)
  obtain ⟨g, hg⟩ := List.exists_mem_of_ne_nil _ h1
  obtain ⟨f, hf, hk⟩ := List.mem_filterMap.1 hg
  unfold kidP at hk
  split at hk
  · cases h2 : lookK f.1.ks x with
    | none => rw [h2] at hk; cases hk
    | some m => exact List.mem_flatMap.2 ⟨f, hf, List.mem_map.2 ⟨_, look_mem h2, rfl⟩⟩
  · cases hk
theorem listP_is {r : List PF} {x : ByteArray} : x ∈ listP r ↔ (stepP r x).length ≠ 0 := by
  rw [listP_mem]; exact ⟨fun h => h.2, fun h => ⟨names_step h, h⟩⟩
/-! Layers' numbers don't matter. -/
/-! What is seen. -/
theorem dirs_app : ∀ (K X : List PF), ((∀ f ∈ K, f.1.h.kind = 2 ∧ f.1.h.opq = false) ∧ dirsP (K ++ X) = K ++ dirsP X) ∨ (∀ X, dirsP (K ++ X) = dirsP K)
  | [], X => .inl ⟨by simp, rfl⟩
  | f :: K, X => by
    by_cases hk : f.1.h.kind = 2
    · cases ho : f.1.h.opq
      · rcases dirs_app K X with ⟨h1, h2⟩ | h
        · refine .inl ⟨?_, ?_⟩
          · intro g hg
            rcases List.mem_cons.1 hg with rfl | hg
            · exact ⟨hk, ho⟩
            · exact h1 g hg
          · rw [List.cons_append, dirsP, if_pos hk, ho, if_neg (by decide), h2]; rfl
        · refine .inr fun X => ?_
          rw [List.cons_append, dirsP, dirsP, if_pos hk, if_pos hk, ho, if_neg (by decide), if_neg (by decide), h X]
      · refine .inr fun X => ?_
        rw [List.cons_append, dirsP, dirsP, if_pos hk, if_pos hk, ho, if_pos rfl, if_pos rfl]
    · refine .inr fun X => ?_
      rw [List.cons_append, dirsP, dirsP, if_neg hk, if_neg hk]
theorem dirs_idem : ∀ X : List PF, dirsP (dirsP X) = dirsP X
  | [] => rfl
  | f :: X => by
    have := dirs_idem X
    rw [dirsP]
    split
    · rename_i hk
      split
      · rename_i ho; rw [dirsP, if_pos hk, if_pos ho]
      · rename_i ho; rw [dirsP, if_pos hk, if_neg ho, this]
    · rfl
theorem dirs_head {X : List PF} {f : PF} {t : List PF} (h : dirsP X = f :: t) : f.1.h.kind = 2 ∧ ∃ X', X = f :: X' := by
  cases X with
  | nil => cases h
  | cons g X =>
    rw [dirsP] at h
    split at h
    · rename_i hk
      split at h
      · injection h with h1 h2; subst h1; exact ⟨hk, _, rfl⟩
      · injection h with h1 h2; subst h1; exact ⟨hk, _, rfl⟩
    · cases h
theorem shown_one {f : PF} (h : f.1.h.kind = 1) (X : List PF) : shownP (f :: X) = [f] := by rw [shownP, if_pos h]
theorem shown_not {f : PF} (h : ¬ f.1.h.kind = 1) (X : List PF) : shownP (f :: X) = dirsP (f :: X) := by rw [shownP, if_neg h]
theorem shown_head {X : List PF} {f : PF} {t : List PF} (h : shownP X = f :: t) : (f.1.h.kind = 1 ∧ t = [] ∨ f.1.h.kind = 2) ∧ ∃ X', X = f :: X' := by
  cases X with
  | nil => cases h
  | cons g X =>
    by_cases hk : g.1.h.kind = 1
    · rw [shown_one hk] at h; injection h with h1 h2; subst h1; exact ⟨.inl ⟨hk, h2.symm⟩, _, rfl⟩
    · rw [shown_not hk] at h
      obtain ⟨h1, h2⟩ := dirs_head h
      exact ⟨.inr h1, h2⟩
theorem shown_idem (X : List PF) : shownP (shownP X) = shownP X := by
  cases X with
  | nil => rfl
  | cons g X =>
    by_cases hk : g.1.h.kind = 1
    · rw [shown_one hk, shown_one hk]
    · rw [shown_not hk]
      have := dirs_idem (g :: X)
      cases h : dirsP (g :: X) with
      | nil => rfl
      | cons f t =>
        have h1 := (dirs_head h).1
        rw [shown_not (by omega), ← h, this]
/-- A directory, or a file, that is not opaque, is seen by itself. -/
theorem shown_self {f : PF} (hk : f.1.h.kind = 1 ∨ f.1.h.kind = 2) (ho : f.1.h.opq = false) : shownP [f] = [f] := by
  rcases hk with hk | hk
  · exact shown_one hk _
  · rw [shown_not (by omega), dirsP, if_pos hk, ho, if_neg (by decide)]; rfl
/-! Floors, and floors whose last ones were laid flat. -/
inductive Rel (d : Nat) : List PF → List PF → Prop
  | same (r : List PF) : Rel d r r
  | flat {P D : List PF} (h1 : ∀ f ∈ P, f.1.h.kind = 2 ∧ f.1.h.opq = false) (h2 : shownP D = D) (h3 : D ≠ []) (h4 : P ≠ [] → ∃ f t, D = f :: t ∧ f.1.h.kind = 2) : Rel d (P ++ D) (P ++ [(flatP gI d D, 0)])
theorem Rel.nil {d : Nat} {r r2 : List PF} (h : Rel d r r2) : r.length ≠ 0 ↔ r2.length ≠ 0 := by
  cases h with
  | same => exact Iff.rfl
  | flat h1 h2 h3 h4 =>
    have := List.length_pos_iff.2 h3
    simp only [List.length_append, List.length_singleton]; omega
theorem flat_h {d : Nat} {f : PF} {t : List PF} (h : Deep d f.1) : (flatP gI d (f :: t)).h = { f.1.h with opq := false } := by
  cases d with
  | zero => exact h.zero.elim
  | succ d => rfl
def GX (d : Nat) (X : List PF) : List PF := if shownP X = [] then [] else [(flatP gI d (shownP X), 0)]
theorem Rel.shown {d : Nat} (K X : List PF) (hX : ∀ f ∈ X, Deep d f.1) : Rel d (shownP (K ++ X)) (shownP (K ++ GX d X)) := by
  have hF : ∀ f t, shownP X = f :: t → (flatP gI d (shownP X)).h = { f.1.h with opq := false } := fun f t e => by
    rw [e]; refine flat_h (hX f ?_)
    exact shownP_sub (by rw [e]; simp)
  cases K with
  | nil =>
    rw [List.nil_append, List.nil_append]; unfold GX
    cases hs : shownP X with
    | nil => rw [if_pos rfl]; exact .same _
    | cons f t =>
      rw [if_neg (by simp)]
      have hf := hF f t hs
      have hk := (shown_head hs).1
      rw [hs] at hf
      rw [shown_self (by show (flatP gI d (f :: t)).h.kind = 1 ∨ (flatP gI d (f :: t)).h.kind = 2; rw [hf]; show f.1.h.kind = 1 ∨ f.1.h.kind = 2; omega) (by show (flatP gI d (f :: t)).h.opq = false; rw [hf])]
      have := Rel.flat (d := d) (P := []) (D := f :: t) (by simp) (by rw [← hs]; exact shown_idem X) (by simp) (by simp)
      simpa using this
  | cons k K =>
    rw [List.cons_append, List.cons_append]
    by_cases hk : k.1.h.kind = 1
    · rw [shown_one hk, shown_one hk]; exact .same _
    · rw [shown_not hk, shown_not hk, ← List.cons_append, ← List.cons_append]
      rcases dirs_app (k :: K) X with ⟨h1, h2⟩ | h
      · rcases dirs_app (k :: K) (GX d X) with ⟨_, h3⟩ | h'
        · rw [h2, h3]
          cases hd : dirsP X with
          | nil =>
            have : dirsP (GX d X) = [] := by
              unfold GX
              cases hs : shownP X with
              | nil => rfl
              | cons f t =>
                rw [if_neg (by simp), ← hs]
                have hf := hF f t hs
                obtain ⟨hk2, X', rfl⟩ := shown_head hs
                have : ¬ f.1.h.kind = 2 := fun e => by
                  rw [dirsP, if_pos e] at hd
                  split at hd <;> cases hd
                rw [dirsP, if_neg (by show ¬ (flatP gI d (shownP (f :: X'))).h.kind = 2; rw [hf]; exact this)]
            rw [this]; exact .same _
          | cons f t =>
            obtain ⟨hfk, X', rfl⟩ := dirs_head hd
            have hs : shownP (f :: X') = f :: t := by rw [shown_not (by omega), hd]
            have hf := hF f t hs
            have : GX d (f :: X') = [(flatP gI d (f :: t), 0)] := by unfold GX; rw [hs, if_neg (by simp)]
            rw [hs] at hf
            rw [this]
            have h5 : dirsP [(flatP gI d (f :: t), (0 : Int))] = [(flatP gI d (f :: t), 0)] := by
              rw [dirsP, if_pos (by show (flatP gI d (f :: t)).h.kind = 2; rw [hf]; exact hfk), if_neg (by show ¬ (flatP gI d (f :: t)).h.opq = true; rw [hf]; simp)]; rfl
            rw [h5]
            exact .flat h1 (by rw [← hs]; exact shown_idem _) (by simp) fun _ => ⟨f, t, rfl, hfk⟩
        · have e1 := h' X; have e2 := h' (GX d X)
          rw [e1, e2]; exact .same _
      · rw [h X, h (GX d X)]; exact .same _
theorem lookK_map {α : Type} {p : ByteArray → PN} {s : ByteArray} : ∀ l : List ByteArray, lookK (l.map fun nm => (nm, p nm)) s = if s ∈ l then some (p s) else none
  | [] => rfl
  | a :: l => by
    rw [List.map_cons, lookK]
    by_cases h : a = s
    · subst h; simp
    · rw [if_neg h, lookK_map (α := α) l]
      have : s ∈ a :: l ↔ s ∈ l := by simp [show ¬ s = a from fun e => h e.symm]
      by_cases hs : s ∈ l
      · rw [if_pos hs, if_pos (this.2 hs)]
      · rw [if_neg hs, if_neg (fun h => hs (this.1 h))]
/-- What one comes to in what was laid flat. -/
theorem flat_kid {d : Nat} {D : List PF} (h2 : shownP D = D) (h3 : D ≠ []) (s : ByteArray) : [((flatP gI (d + 1) D, 0) : PF)].filterMap (kidP s) = GX d (D.filterMap (kidP s)) := by
  obtain ⟨f, t, rfl⟩ : ∃ f t, D = f :: t := List.exists_cons_of_ne_nil h3
  have hs : stepP (f :: t) s = shownP ((f :: t).filterMap (kidP s)) := rfl
  unfold GX
  rw [← hs]
  have hmem : s ∈ listP (f :: t) ↔ ¬ stepP (f :: t) s = [] := by rw [listP_is]; simp
  obtain ⟨hk, _⟩ := shown_head h2
  have e1 : kidP s (flatP gI (d + 1) (f :: t), 0) = if f.1.h.kind = 2 then (if s ∈ listP (f :: t) then some (flatP gI d (stepP (f :: t) s), 0) else none) else none := by
    unfold kidP
    show (if f.1.h.kind = 2 then (lookK ((listP (f :: t)).map fun nm => (nm, flatP gI d (stepP (f :: t) nm))) s).map (fun x => (x, (0 : Int))) else none) = _
    rw [lookK_map (α := Unit) (p := fun nm => flatP gI d (stepP (f :: t) nm))]
    split
    · split <;> rfl
    · rfl
  rw [List.filterMap_cons, e1, List.filterMap_nil]
  rcases hk with ⟨hk, rfl⟩ | hk
  · have : stepP [f] s = [] := by
      rw [hs, List.filterMap_cons, List.filterMap_nil]
      unfold kidP
      rw [if_neg (by omega)]; rfl
    rw [if_neg (by omega), this, if_pos rfl]
  · rw [if_pos hk]
    by_cases hm : stepP (f :: t) s = []
    · rw [if_neg (fun h => hmem.1 h hm), if_pos hm]
    · rw [if_pos (hmem.2 hm), if_neg hm]
theorem kids_deep {d : Nat} {r : List PF} {s : ByteArray} (h : ∀ f ∈ r, Deep (d + 1) f.1) : ∀ f ∈ r.filterMap (kidP s), Deep d f.1 := fun f hf => by
  obtain ⟨g, hg, hgf⟩ := List.mem_filterMap.1 hf
  unfold kidP at hgf
  split at hgf
  · cases h2 : lookK g.1.ks s with
    | none => rw [h2] at hgf; cases hgf
    | some x => rw [h2] at hgf; cases hgf; exact (h g hg).kid _ (look_mem h2)
  · cases hgf
theorem Rel.step {d : Nat} {r r2 : List PF} (h : Rel (d + 1) r r2) (hd : ∀ f ∈ r, Deep (d + 1) f.1) (s : ByteArray) : Rel d (stepP r s) (stepP r2 s) := by
  cases h with
  | same => exact .same _
  | @flat P D h1 h2 h3 h4 =>
    unfold stepP
    rw [List.filterMap_append, List.filterMap_append, flat_kid h2 h3]
    exact Rel.shown _ _ (kids_deep fun f hf => hd f (by simp [hf]))
theorem Rel.head {d : Nat} {f f2 : PF} {t t2 : List PF} (h : Rel d (f :: t) (f2 :: t2)) (hd : Deep d f.1) : ({ f2.1.h with opq := false } : Hd) = { f.1.h with opq := false } := by
  generalize he : f :: t = r at h
  generalize he2 : f2 :: t2 = r2 at h
  cases h with
  | same =>
    rw [← he2] at he; injection he with h1 h2; rw [h1]
  | @flat P D h1 h2 h3 h4 =>
    cases P with
    | nil =>
      rw [List.nil_append] at he he2
      injection he2 with h5 h6
      subst he
      rw [h5]
      show ({ (flatP gI d (f :: t)).h with opq := false } : Hd) = _
      rw [flat_h hd]
    | cons p P =>
      rw [List.cons_append] at he he2
      injection he with h5 h6
      injection he2 with h7 h8
      rw [h5, h7]
/-! Along names. -/
end Go.Proofs.Ytejkmomfpidnbab

/- What was laid flat: how great it is; that it shows the same. -/
namespace Go.Proofs.Ytejkmomfpidnbab
open Go.RowKit
set_option linter.unusedSimpArgs false
set_option linter.unusedVariables false
end Go.Proofs.Ytejkmomfpidnbab

/- The walks of package idmap and of its reference, by the engine: what is wrong with a map. -/
namespace Go.Proofs.Ytejkmomfpidnbab
open Go.RowKit
set_option linter.unusedSimpArgs false
set_option linter.unusedVariables false
abbrev prC (r : PR) : List Value := [.int .i64 r.i, .int .i64 r.o, .int .i64 r.c]
def inR64 (r : PR) : Prop := (-9223372036854775808 ≤ r.i ∧ r.i ≤ 9223372036854775807) ∧ (-9223372036854775808 ≤ r.o ∧ r.o ≤ 9223372036854775807) ∧ (-9223372036854775808 ≤ r.c ∧ r.c ≤ 9223372036854775807)
/-- A map, as a view knows it. -/
def MapV (V : View) (A : Option Addr) (n : Nat) (xs : List PR) : Prop := ElsV V 3 prC A n xs ∧ ∀ r ∈ xs, inR64 r
theorem MapV.le {V V' : View} {A : Option Addr} {n : Nat} {xs : List PR} (h : MapV V A n xs) (hv : VLe V V') : MapV V' A n xs := ⟨h.1.le hv, h.2⟩
theorem pr_len (r : PR) : (prC r).length = 3 := rfl
theorem MapV.at_ {V : View} {A : Option Addr} {n : Nat} {xs : List PR} (h : MapV V A n xs) {k : Nat} (hk : k < n) : ∃ b off r, A = some ⟨b, off, none⟩ ∧ xs[k]? = some r ∧ CellsFrom V b (off + k * 3) [.int .i64 r.i, .int .i64 r.o, .int .i64 r.c] ∧ V ⟨b, off + k * 3 + 0, none⟩ = some (.int .i64 r.i) ∧ V ⟨b, off + k * 3 + 1, none⟩ = some (.int .i64 r.o) ∧ V ⟨b, off + k * 3 + 2, none⟩ = some (.int .i64 r.c) ∧ inR64 r := by
  obtain ⟨b, off, r, ha, hx, hc⟩ := h.1.at_ hk
  exact ⟨b, off, r, ha, hx, hc, hc 0 _ rfl, hc 1 _ rfl, hc 2 _ rfl, h.2 r (List.mem_of_getElem? hx)⟩
theorem mfault_head {r : PR} {l seen : List PR} : mfault seen (r :: l) = if okR r = false then 1 else if seen.any (meetR r) then 3 else mfault (seen ++ [r]) l := rfl
theorem bdR_of {r : PR} (h : okR r = true) : bdR r := (okR_iff r).1 h
theorem take_snoc {α : Type} {xs : List α} {k : Nat} {x : α} (h : xs[k]? = some x) : xs.take (k + 1) = xs.take k ++ [x] := by rw [List.take_add_one, h]; rfl
theorem okR_of {r : PR} (h1 : 0 ≤ r.i ∧ r.i ≤ 65535 ∧ 1 ≤ r.c ∧ r.c - 1 ≤ 65535 - r.i) (h2 : 0 ≤ r.o ∧ r.o ≤ 65535 ∧ 1 ≤ r.c ∧ r.c - 1 ≤ 65535 - r.o) : okR r = true := by
  rw [okR_iff]; unfold bdR; omega
theorem okR_not {r : PR} (h : ¬ ((0 ≤ r.i ∧ r.i ≤ 65535 ∧ 1 ≤ r.c ∧ r.c - 1 ≤ 65535 - r.i) ∧ (0 ≤ r.o ∧ r.o ≤ 65535 ∧ 1 ≤ r.c ∧ r.c - 1 ≤ 65535 - r.o))) : okR r = false := by
  cases hb : okR r
  · rfl
  · rw [okR_iff] at hb; unfold bdR at hb; omega
theorem meetR_iff (r s : PR) : meetR r s = true ↔ (r.i < s.i + s.c ∧ s.i < r.i + r.c) ∨ (r.o < s.o + s.c ∧ s.o < r.o + r.c) := by
  simp [meetR, meetsZ]
/-- What is known of the ranges ahead: that they are right, that none of those ahead of j meets r. -/
theorem any_snoc {xs : List PR} {j : Nat} {r s : PR} (h : xs[j]? = some s) (h1 : (xs.take j).any (meetR r) = false) (h2 : meetR r s = false) : (xs.take (j + 1)).any (meetR r) = false := by
  rw [take_snoc h, List.any_append, h1]; simp [h2]
theorem any_hit {xs : List PR} {j k : Nat} {r s : PR} (h : xs[j]? = some s) (hj : j < k) (h2 : meetR r s = true) : (xs.take k).any (meetR r) = true := by
  rw [List.any_eq_true]
  exact ⟨s, List.mem_of_getElem? (i := j) (by rw [List.getElem?_take, if_pos hj]; exact h), h2⟩
attribute [local irreducible] AtQ GoC GoL GoW QO QP Fn RV OwnAt CellsFrom VLe SrcIs errV
set_option maxRecDepth 100000
theorem fits_c (V : View) (f n : Int) (hn : n ≤ 9223372036854775807) : Fn Try.prog 79 [.int .i64 f, .int .i64 n] V fun v _ => v = .bool (decide (0 ≤ f ∧ f ≤ 65535 ∧ 1 ≤ n ∧ n - 1 ≤ 65535 - f)) := by
  (refine fn_enter Try.func79 rfl Try.ntmps79 rfl ?_; intro w0)
  repeat' (first | (refine k_gw ?_; (first | (refine k_assign ?_; (first | refine gw_q rfl (q_assign rfl) ?_)) | (refine k_move ?_; (first | refine gw_q rfl (q_move rfl) ?_)) | (refine k_binOp ?_; (first | refine gw_q rfl (q_geq rfl rfl) ?_ | refine gw_q rfl (q_leq rfl rfl) ?_ | refine gw_q rfl (q_sub rfl rfl (by omega)) ?_ | refine gw_q rfl (q_subw rfl rfl) ?_)) | (refine k_pick ?_; (first | refine gw_q rfl (q_pick_t rfl rfl) ?_ | refine gw_q rfl (q_pick_f rfl rfl) ?_)))) | (refine k_gl ?_; (first | refine gl_nil rfl ?_ | refine gl_go rfl rfl ?_ | refine gl_yes rfl rfl rfl rfl rfl ?_ | refine gl_no rfl rfl rfl rfl rfl rfl rfl ?_ | refine gl_nou rfl rfl rfl rfl rfl rfl ?_ | (refine gl_split_p rfl rfl rfl ?_ ?_ <;> intro hq <;> try (exfalso; first | exact hq rfl | omega)) | (refine gl_split_b rfl rfl rfl ?_ ?_ <;> intro hq))) | (refine k_gc ?_; (first | refine gc_seq ?_ | refine gc_region ?_ | refine gc_cond_t rfl ?_ | refine gc_cond_f rfl ?_ | (refine gc_cond_p rfl ?_ ?_ <;> intro hq <;> try (exfalso; first | exact hq rfl | omega)) | (refine gc_cond_b rfl ?_ ?_ <;> intro hq) | refine gc_block ?_ | refine gc_exit ?_ | refine gc_ret ?_ | refine gc_skip ?_)) | (refine k_at ?_; (first | refine at_seq ?_ | refine at_then_ret ?_ | refine at_then_exit ?_ | refine at_thn_ret ?_ | refine at_thn_exit ?_ | refine at_block_normal ?_ | refine at_block_ret ?_ | refine at_block_hit ?_ | refine at_block_miss rfl ?_)))
  all_goals (refine at_ret1 Try.results79 (rv_tmp rfl) ?_)
  all_goals first | rfl | (refine congrArg Value.bool ?_; first | exact (decide_eq_true (by omega)).symm | exact (decide_eq_false (by omega)).symm | exact decide_eq_decide.2 (by omega))
theorem meets_c (V : View) (a n b m : Int) (h1 : 0 ≤ b + m ∧ b + m ≤ 9223372036854775807) (h2 : 0 ≤ a + n ∧ a + n ≤ 9223372036854775807) : Fn Try.prog 80 [.int .i64 a, .int .i64 n, .int .i64 b, .int .i64 m] V fun v _ => v = .bool (decide (a < b + m ∧ b < a + n)) := by
  (refine fn_enter Try.func80 rfl Try.ntmps80 rfl ?_; intro w0)
  repeat' (first | (refine k_gw ?_; (first | (refine k_assign ?_; (first | refine gw_q rfl (q_assign rfl) ?_)) | (refine k_move ?_; (first | refine gw_q rfl (q_move rfl) ?_)) | (refine k_binOp ?_; (first | refine gw_q rfl (q_add rfl rfl (by omega)) ?_ | refine gw_q rfl (q_addw rfl rfl) ?_ | refine gw_q rfl (q_lss rfl rfl) ?_)) | (refine k_pick ?_; (first | refine gw_q rfl (q_pick_t rfl rfl) ?_ | refine gw_q rfl (q_pick_f rfl rfl) ?_)))) | (refine k_gl ?_; (first | refine gl_nil rfl ?_ | refine gl_go rfl rfl ?_ | refine gl_yes rfl rfl rfl rfl rfl ?_ | refine gl_no rfl rfl rfl rfl rfl rfl rfl ?_ | refine gl_nou rfl rfl rfl rfl rfl rfl ?_ | (refine gl_split_p rfl rfl rfl ?_ ?_ <;> intro hq <;> try (exfalso; first | exact hq rfl | omega)) | (refine gl_split_b rfl rfl rfl ?_ ?_ <;> intro hq))) | (refine k_gc ?_; (first | refine gc_seq ?_ | refine gc_region ?_ | refine gc_cond_t rfl ?_ | refine gc_cond_f rfl ?_ | (refine gc_cond_p rfl ?_ ?_ <;> intro hq <;> try (exfalso; first | exact hq rfl | omega)) | (refine gc_cond_b rfl ?_ ?_ <;> intro hq) | refine gc_block ?_ | refine gc_exit ?_ | refine gc_ret ?_ | refine gc_skip ?_)) | (refine k_at ?_; (first | refine at_seq ?_ | refine at_then_ret ?_ | refine at_then_exit ?_ | refine at_thn_ret ?_ | refine at_thn_exit ?_ | refine at_block_normal ?_ | refine at_block_ret ?_ | refine at_block_hit ?_ | refine at_block_miss rfl ?_)))
  all_goals (refine at_ret1 Try.results80 (rv_tmp rfl) ?_)
  all_goals first | rfl | (refine congrArg Value.bool ?_; first | exact (decide_eq_true (by omega)).symm | exact (decide_eq_false (by omega)).symm | exact decide_eq_decide.2 (by omega))
theorem ToHost1_c (V : View) (r : PR) : Fn Try.prog 78 [.agg (prC r).toArray] V fun v _ => v = .tuple #[.int .i64 r.i, .int .i64 r.o] := by
  (refine fn_enter Try.func78 rfl Try.ntmps78 rfl ?_; intro w0)
  repeat' (first | (refine k_gw ?_; (first | (refine k_box ?_; (first | (refine gw_box rfl rfl rfl rfl ?_; intro γ))) | (refine k_assign ?_; (first | refine gw_q rfl (q_assign rfl) ?_)) | (refine k_fieldAddr ?_; (first | refine gw_q rfl (q_fieldAddr fld_78_0 rfl) ?_ | refine gw_q rfl (q_fieldAddr fld_78_1 rfl) ?_)) | (refine k_load ?_; (first | refine gw_q rfl (q_load_o one_3 rfl own9 (by exact rfl)) ?_ | refine gw_q rfl (q_load_o one_3 rfl own9 (by assumption)) ?_ | refine gw_q rfl (q_load_v one_3 rfl (by assumption)) ?_)))) | (refine k_gl ?_; (first | refine gl_nil rfl ?_ | refine gl_go rfl rfl ?_)) | (refine k_gc ?_; (first | refine gc_seq ?_ | refine gc_region ?_ | refine gc_ret ?_ | refine gc_quiet (id := 1) mixed (by kernel_rfl) ?_)) | (refine k_at ?_; (first | refine at_seq ?_ | refine at_then_ret ?_ | refine at_then_exit ?_ | refine at_thn_ret ?_ | refine at_thn_exit ?_ | refine at_block_normal ?_ | refine at_block_ret ?_ | refine at_block_hit ?_ | refine at_block_miss rfl ?_)))
  all_goals (refine at_ret2 Try.results78 (rv_tmp rfl) (rv_tmp rfl) ?_)
  all_goals rfl
end Go.Proofs.Ytejkmomfpidnbab

/- The walks of package idmap and of its reference, by the engine: a map is checked. -/
namespace Go.Proofs.Ytejkmomfpidnbab
open Go.RowKit
set_option linter.unusedSimpArgs false
set_option linter.unusedVariables false
attribute [local irreducible] AtQ GoC GoL GoW QO QP Fn RV OwnAt CellsFrom VLe SrcIs errV
set_option maxRecDepth 100000
set_option maxRecDepth 100000 in
set_option maxHeartbeats 4000000 in
theorem MCheck_c (V : View) (A : Option Addr) (n c : Nat) (xs : List PR) (h : MapV V A n xs) (hcap : n ≤ c) : Fn Try.prog 42 [.slice A n c] V fun v _ => v = errV (mapFaultZ xs) := by
  have hm := h.1.max
  have hl := h.1.1
  (refine fn_enter Try.func42 rfl Try.ntmps42 rfl ?_; intro w0)
  repeat' (first | (refine k_gw ?_; (first | (refine k_assign ?_; (first | refine gw_q rfl (q_assign rfl) ?_)) | (refine k_move ?_; (first | refine gw_q rfl (q_move rfl) ?_)) | (refine k_call ?_; (first | refine gw_q rfl (q_len rfl und_62 rfl) ?_)) | (refine k_binOp ?_; (first | refine gw_q rfl (q_gtr rfl rfl) ?_ | refine gw_q rfl (q_lss rfl rfl) ?_ | refine gw_q rfl (q_add rfl rfl (by omega)) ?_ | refine gw_q rfl (q_addw rfl rfl) ?_)) | (refine k_makeInterface ?_; (first | refine gw_q rfl (q_mkiface und_85 rfl rfl) ?_)))) | (refine k_gl ?_; (first | refine gl_nil rfl ?_ | refine gl_go rfl rfl ?_)) | (refine k_gc ?_; (first | refine gc_seq ?_ | refine gc_region ?_ | (refine gc_cond_p rfl ?_ ?_ <;> intro hq <;> try (exfalso; first | exact hq rfl | omega)) | refine gc_block ?_ | refine gc_ret ?_ | refine gc_skip ?_)) | (refine k_at ?_; (first | refine at_seq ?_ | refine at_then_ret ?_ | refine at_then_exit ?_ | refine at_thn_ret ?_ | refine at_thn_exit ?_ | refine at_block_normal ?_ | refine at_block_ret ?_ | refine at_block_hit ?_ | refine at_block_miss rfl ?_)))
  all_goals try ((refine at_ret1 Try.results42 (rv_tmp rfl) ?_); refine errV_is 2 (by unfold mapFaultZ; rw [if_pos (by omega)]))
  have hr : mapFaultZ xs = mfault [] xs := by unfold mapFaultZ; rw [if_neg (by omega)]
  rw [hr]
  refine gc_loop (fun F V' L' m => ∃ k : Nat, k ≤ n ∧ m = n - k ∧ V = V' ∧ L' = [] ∧ mfault [] xs = mfault (xs.take k) (xs.drop k) ∧ (∀ r ∈ xs.take k, bdR r) ∧ F = [(0, .slice A n c), (11, .slice A n c), (12, .int .i64 n), (13, .int .i64 k)]) (m := n) ⟨0, Nat.zero_le _, by omega, rfl, rfl, by simp, by simp, rfl⟩ sub9 rfl sl9 ?_
  rintro F V' L' m ⟨k, hk, rfl, rfl, rfl, hg, hb, rfl⟩
  by_cases hlt : k < n
  · obtain ⟨bb, off, r, rfl, hx, hc, c0, c1, c2, hr64⟩ := h.at_ hlt
    unfold inR64 at hr64
    rw [hg, drop_at hx, mfault_head]
    repeat' (first | (refine k_gw ?_; (first | (refine k_assign ?_; (first | refine gw_q rfl (q_assign rfl) ?_)) | (refine k_move ?_; (first | refine gw_q rfl (q_move rfl) ?_)) | (refine k_call ?_; (first | refine gw_q rfl (q_len rfl und_62 rfl) ?_ | refine gw_q' rfl (q_call ⟨Try.call79⟩ rfl (fits_c _ _ _ (by omega))) ?_)) | (refine k_binOp ?_; (first | refine gw_q rfl (q_gtr rfl rfl) ?_ | refine gw_q rfl (q_lss rfl rfl) ?_ | refine gw_q rfl (q_add rfl rfl (by omega)) ?_ | refine gw_q rfl (q_addw rfl rfl) ?_)) | (refine k_makeInterface ?_; (first | refine gw_q rfl (q_mkiface und_85 rfl rfl) ?_)) | (refine k_indexAddr ?_; (first | refine gw_q rfl (q_indexAddr und_62 siz_78 rfl rfl (by omega)) ?_)) | (refine k_load ?_; (first | refine gw_q rfl (q_loadA_v agg_78 rfl (by assumption) (by exact rfl)) ?_ | refine gw_q rfl (q_load_o one_3 rfl own9 (by exact rfl)) ?_)) | (refine k_alloc ?_; (first | (refine gw_alloc rfl zer_78 rfl ?_; intro γ))) | (refine k_store ?_; (first | refine gw_store rfl siz_78 rfl rfl rfl rfl (by first | exact ones_of rfl | exact ones_pr _ | exact ones_pa _ | exact ones_any (by assumption) | (simp [isOne, spl, *]; done) | fail) put9 rfl ?_)) | (refine k_fieldAddr ?_; (first | refine gw_q rfl (q_fieldAddr fld_78_0 rfl) ?_ | refine gw_q rfl (q_fieldAddr fld_78_2 rfl) ?_ | refine gw_q rfl (q_fieldAddr fld_78_1 rfl) ?_)) | (refine k_unOp ?_; (first | refine gw_q rfl (q_not_t rfl) ?_ | refine gw_q rfl (q_not_f rfl) ?_ | refine gw_q rfl (q_not_p rfl) ?_ | refine gw_q rfl (q_not_b rfl) ?_)) | (refine k_pick ?_; (first | refine gw_q rfl (q_pick_t rfl rfl) ?_ | refine gw_q rfl (q_pick_f rfl rfl) ?_)) | (refine k_slice ?_; (first | refine gw_q rfl (q_slice_n und_62 siz_78 rfl rfl (by omega)) ?_ | refine gw_q rfl (q_slice_ni und_62 siz_78 rfl rfl (by omega)) ?_)))) | (refine k_gl ?_; (first | refine gl_nil rfl ?_ | refine gl_go rfl rfl ?_ | refine gl_yes rfl rfl rfl rfl rfl ?_ | refine gl_no rfl rfl rfl rfl rfl rfl rfl ?_ | (refine gl_split_p rfl rfl rfl ?_ ?_ <;> intro hq <;> try (exfalso; first | exact hq rfl | omega)))) | (refine k_gc ?_; (first | refine gc_seq ?_ | refine gc_region ?_ | refine gc_cond_t rfl ?_ | (refine gc_cond_p rfl ?_ ?_ <;> intro hq <;> try (exfalso; first | exact hq rfl | omega)) | refine gc_block ?_ | refine gc_ret ?_ | refine gc_skip ?_)) | (refine k_at ?_; (first | refine at_seq ?_ | refine at_then_ret ?_ | refine at_then_exit ?_ | refine at_thn_ret ?_ | refine at_thn_exit ?_ | refine at_block_normal ?_ | refine at_block_ret ?_ | refine at_block_hit ?_ | refine at_block_miss rfl ?_)))
    all_goals try ((refine at_ret1 Try.results42 (rv_tmp rfl) ?_); exact errV_is 1 (by rw [if_pos (okR_not (by omega))]))
    · have hok : okR r = true := okR_of (by omega) (by omega)
      have hbr := bdR_of hok
      have hbr' := hbr
      unfold bdR at hbr
      rw [if_neg (by simp [hok])]
      refine gc_loop (fun F V' L' m => ∃ j : Nat, j ≤ k ∧ m = k - j ∧ V = V' ∧ L' = [⟨γ, _, prC r⟩] ∧ (xs.take j).any (meetR r) = false ∧ F = [(0, .slice (some ⟨bb, off, none⟩) n c), (4, .pointer (some ⟨γ, 0, none⟩)), (11, .slice (some ⟨bb, off, none⟩) n c), (12, .int .i64 n), (13, .int .i64 k), (35, .slice (some ⟨bb, off, none⟩) k c), (36, .int .i64 k), (37, .int .i64 j)]) (m := k) ⟨0, Nat.zero_le _, by omega, rfl, rfl, by simp, rfl⟩ sub9 rfl sl9 ?_
      rintro F V' L' m ⟨j, hj, rfl, rfl, rfl, ha, rfl⟩
      by_cases hjk : j < k
      · obtain ⟨bb', off', s, he, hy, hd, d0, d1, d2, hs64⟩ := h.at_ (k := j) (by omega)
        cases he
        have hbs : bdR s := hb s (List.mem_of_getElem? (i := j) (by rw [List.getElem?_take, if_pos hjk]; exact hy))
        unfold bdR at hbs
        have hmi := meetR_iff r s
        repeat' (first | (refine k_gw ?_; (first | (refine k_assign ?_; (first | refine gw_q rfl (q_assign rfl) ?_)) | (refine k_move ?_; (first | refine gw_q rfl (q_move rfl) ?_)) | (refine k_call ?_; (first | refine gw_q rfl (q_len rfl und_62 rfl) ?_ | refine gw_q' rfl (q_call ⟨Try.call80⟩ rfl (meets_c _ _ _ _ _ (by omega) (by omega))) ?_)) | (refine k_binOp ?_; (first | refine gw_q rfl (q_gtr rfl rfl) ?_ | refine gw_q rfl (q_lss rfl rfl) ?_ | refine gw_q rfl (q_add rfl rfl (by omega)) ?_ | refine gw_q rfl (q_addw rfl rfl) ?_)) | (refine k_makeInterface ?_; (first | refine gw_q rfl (q_mkiface und_85 rfl rfl) ?_)) | (refine k_indexAddr ?_; (first | refine gw_q rfl (q_indexAddr und_62 siz_78 rfl rfl (by omega)) ?_)) | (refine k_load ?_; (first | refine gw_q rfl (q_loadA_v agg_78 rfl (by assumption) (by exact rfl)) ?_ | refine gw_q rfl (q_load_o one_3 rfl own9 (by exact rfl)) ?_)) | (refine k_alloc ?_; (first | (refine gw_alloc rfl zer_78 rfl ?_; intro γ))) | (refine k_store ?_; (first | refine gw_store rfl siz_78 rfl rfl rfl rfl (by first | exact ones_of rfl | exact ones_pr _ | exact ones_pa _ | exact ones_any (by assumption) | (simp [isOne, spl, *]; done) | fail) put9 rfl ?_)) | (refine k_fieldAddr ?_; (first | refine gw_q rfl (q_fieldAddr fld_78_0 rfl) ?_ | refine gw_q rfl (q_fieldAddr fld_78_2 rfl) ?_ | refine gw_q rfl (q_fieldAddr fld_78_1 rfl) ?_)) | (refine k_pick ?_; (first | refine gw_q rfl (q_pick_t rfl rfl) ?_ | refine gw_q rfl (q_pick_f rfl rfl) ?_)))) | (refine k_gl ?_; (first | refine gl_nil rfl ?_ | refine gl_go rfl rfl ?_ | refine gl_yes rfl rfl rfl rfl rfl ?_ | refine gl_no rfl rfl rfl rfl rfl rfl rfl ?_ | (refine gl_split_p rfl rfl rfl ?_ ?_ <;> intro hq <;> try (exfalso; first | exact hq rfl | omega)))) | (refine k_gc ?_; (first | refine gc_seq ?_ | refine gc_region ?_ | refine gc_cond_t rfl ?_ | (refine gc_cond_p rfl ?_ ?_ <;> intro hq <;> try (exfalso; first | exact hq rfl | omega)) | refine gc_block ?_ | refine gc_ret ?_ | refine gc_skip ?_)) | (refine k_at ?_; (first | refine at_seq ?_ | refine at_then_ret ?_ | refine at_then_exit ?_ | refine at_thn_ret ?_ | refine at_thn_exit ?_ | refine at_block_normal ?_ | refine at_block_ret ?_ | refine at_block_hit ?_ | refine at_block_miss rfl ?_)))
        all_goals try ((refine at_ret1 Try.results42 (rv_tmp rfl) ?_); exact errV_is 3 (by rw [if_pos (any_hit hy hjk (hmi.2 (by omega)))]))
        · refine at_round _ (k - (j + 1)) ⟨j + 1, by omega, rfl, rfl, rfl, any_snoc hy ha ?_, rfl⟩ (by omega) sub9 sl9
          cases hmb : meetR r s
          · rfl
          · rw [hmi] at hmb; omega
      · have hjk : j = k := by omega
        subst hjk
        repeat' (first | (refine k_gw ?_; (first | (refine k_move ?_; (first | refine gw_q rfl (q_move rfl) ?_)) | (refine k_binOp ?_; (first | refine gw_q rfl (q_gtr rfl rfl) ?_ | refine gw_q rfl (q_lss rfl rfl) ?_ | refine gw_q rfl (q_add rfl rfl (by omega)) ?_ | refine gw_q rfl (q_addw rfl rfl) ?_)))) | (refine k_gl ?_; (first | refine gl_nil rfl ?_ | refine gl_go rfl rfl ?_)) | (refine k_gc ?_; (first | refine gc_seq ?_ | refine gc_region ?_ | (refine gc_cond_p rfl ?_ ?_ <;> intro hq <;> try (exfalso; first | exact hq rfl | omega)) | refine gc_exit ?_)) | (refine k_at ?_; (first | refine at_seq ?_ | refine at_then_ret ?_ | refine at_then_exit ?_ | refine at_thn_ret ?_ | refine at_thn_exit ?_ | refine at_block_normal ?_ | refine at_block_ret ?_ | refine at_block_hit ?_ | refine at_block_miss rfl ?_)))
        refine at_round _ (n - (j + 1)) ⟨j + 1, by omega, rfl, rfl, rfl, ?_, ?_, rfl⟩ (by omega) sub9 sl9
        · rw [ha, if_neg (by simp), take_snoc hx]
        · rw [take_snoc hx]
          intro s hs
          rcases List.mem_append.1 hs with hs | hs
          · exact hb s hs
          · simp at hs; subst hs; exact hbr'
  · repeat' (first | (refine k_gw ?_; (first | (refine k_assign ?_; (first | refine gw_q rfl (q_assign rfl) ?_)) | (refine k_binOp ?_; (first | refine gw_q rfl (q_gtr rfl rfl) ?_ | refine gw_q rfl (q_lss rfl rfl) ?_ | refine gw_q rfl (q_add rfl rfl (by omega)) ?_ | refine gw_q rfl (q_addw rfl rfl) ?_)))) | (refine k_gl ?_; (first | refine gl_nil rfl ?_ | refine gl_go rfl rfl ?_)) | (refine k_gc ?_; (first | refine gc_seq ?_ | refine gc_region ?_ | (refine gc_cond_p rfl ?_ ?_ <;> intro hq <;> try (exfalso; first | exact hq rfl | omega)) | refine gc_exit ?_ | refine gc_ret ?_)) | (refine k_at ?_; (first | refine at_seq ?_ | refine at_then_ret ?_ | refine at_then_exit ?_ | refine at_thn_ret ?_ | refine at_thn_exit ?_ | refine at_block_normal ?_ | refine at_block_ret ?_ | refine at_block_hit ?_ | refine at_block_miss rfl ?_)))
    (refine at_ret1 Try.results42 (rv_tmp rfl) ?_)
    rw [hg, List.drop_eq_nil_of_le (by omega)]
    exact errV_nil rfl
end Go.Proofs.Ytejkmomfpidnbab

/- The walks of package idmap and of its reference, by the engine: ids are looked up; maps compared, copied. -/
namespace Go.Proofs.Ytejkmomfpidnbab
open Go.RowKit
set_option linter.unusedSimpArgs false
set_option linter.unusedVariables false
def lookR (o : Option Int) : Value := .tuple #[.int .i64 (o.getD 0), .bool o.isSome]
def hostZ (xs : List PR) (x : Int) : Option Int := if mapFaultZ xs = 0 then lookZ xs x else none
def fromZ (xs : List PR) (x : Int) : Option Int := if mapFaultZ xs = 0 then lookZ (xs.map PR.swap) x else none
theorem look_hit {r : PR} {l : List PR} {x : Int} (h : r.i ≤ x ∧ x < r.i + r.c) : lookZ (r :: l) x = some (r.o + (x - r.i)) := by rw [lookZ, if_pos h]
theorem look_miss {r : PR} {l : List PR} {x : Int} (h : ¬ (r.i ≤ x ∧ x < r.i + r.c)) : lookZ (r :: l) x = lookZ l x := by rw [lookZ, if_neg h]
theorem lookR_some {o : Option Int} {y z : Int} (h : o = some y) (e : z = y) : Value.tuple #[.int .i64 z, .bool true] = lookR o := by subst h e; rfl
theorem lookR_none {o : Option Int} (h : o = none) : Value.tuple #[.int .i64 0, .bool false] = lookR o := by subst h; rfl
attribute [local irreducible] AtQ GoC GoL GoW QO QP Fn RV OwnAt CellsFrom VLe SrcIs errV
set_option maxRecDepth 100000
theorem through_c (V : View) (A : Option Addr) (n c : Nat) (xs : List PR) (h : MapV V A n xs) (hcap : n ≤ c) (x : Int) (f : FuncId) (g : PR → PR) (he : Enters Try.prog f) (hg1 : ∀ r, (g r).c = r.c) (hg2 : ∀ r, bdR r → bdR (g r))
    (hs : ∀ V r, Fn Try.prog f [.agg (prC r).toArray] V fun v _ => v = .tuple #[.int .i64 (g r).i, .int .i64 (g r).o]) :
    Fn Try.prog 77 [.slice A n c, .int .i64 x, .func (.func f) #[] #[]] V fun v _ => v = lookR (if mapFaultZ xs = 0 then lookZ (xs.map g) x else none) := by
  have hm := h.1.max
  have hl := h.1.1
  (refine fn_enter Try.func77 rfl Try.ntmps77 rfl ?_; intro w0)
  by_cases h0 : mapFaultZ xs = 0
  · rw [if_pos h0]
    have hb := (fault_zero h0).2.1
    repeat' (first | (refine k_gw ?_; (first | (refine k_assign ?_; (first | refine gw_q rfl (q_assign rfl) ?_)) | (refine k_move ?_; (first | refine gw_q rfl (q_move rfl) ?_)) | (refine k_call ?_; (first | refine gw_q rfl (q_len rfl und_62 rfl) ?_ | refine gw_q' rfl (q_call ⟨Try.call42⟩ rfl (MCheck_c _ _ _ _ xs h hcap)) ?_)) | (refine k_binOp ?_; (first | refine gw_q rfl (q_eneq rfl) ?_)))) | (refine k_gl ?_; (first | refine gl_nil rfl ?_ | refine gl_go rfl rfl ?_)) | (refine k_gc ?_; (first | refine gc_seq ?_ | refine gc_region ?_ | (refine gc_cond_p rfl ?_ ?_ <;> intro hq <;> try (exfalso; first | exact hq rfl | omega)) | refine gc_block ?_ | refine gc_skip ?_)) | (refine k_at ?_; (first | refine at_seq ?_ | refine at_then_ret ?_ | refine at_then_exit ?_ | refine at_thn_ret ?_ | refine at_thn_exit ?_ | refine at_block_normal ?_ | refine at_block_ret ?_ | refine at_block_hit ?_ | refine at_block_miss rfl ?_)))
    refine gc_loop (fun F V' L' m => ∃ k : Nat, k ≤ n ∧ m = n - k ∧ V = V' ∧ L' = [] ∧ lookZ (xs.map g) x = lookZ ((xs.drop k).map g) x ∧ F = [(1, .int .i64 x), (2, .func (.func f) #[] #[]), (15, .slice A n c), (16, .int .i64 n), (17, .int .i64 k)]) (m := n) ⟨0, Nat.zero_le _, by omega, rfl, rfl, by simp, rfl⟩ sub9 rfl sl9 ?_
    rintro F V' L' m ⟨k, hk, rfl, rfl, rfl, hg, rfl⟩
    by_cases hlt : k < n
    · obtain ⟨bb, off, r, rfl, hx, hc, c0, c1, c2, hr64⟩ := h.at_ hlt
      have hbr := hb r (List.mem_of_getElem? hx)
      have hbg := hg2 r hbr
      have hgc := hg1 r
      unfold bdR at hbr hbg
      rw [hg, drop_at hx, List.map_cons]
      repeat' (first | (refine k_gw ?_; (first | (refine k_assign ?_; (first | refine gw_q rfl (q_assign rfl) ?_)) | (refine k_move ?_; (first | refine gw_q rfl (q_move rfl) ?_)) | (refine k_call ?_; (first | refine gw_q rfl (q_len rfl und_62 rfl) ?_ | refine gw_q' rfl (q_callv he rfl rfl (hs _ r)) ?_)) | (refine k_binOp ?_; (first | refine gw_q rfl (q_lss rfl rfl) ?_ | refine gw_q rfl (q_geq rfl rfl) ?_ | refine gw_q rfl (q_add rfl rfl (by omega)) ?_ | refine gw_q rfl (q_sub rfl rfl (by omega)) ?_)) | (refine k_indexAddr ?_; (first | refine gw_q rfl (q_indexAddr und_62 siz_78 rfl rfl (by omega)) ?_)) | (refine k_load ?_; (first | refine gw_q rfl (q_loadA_o agg_78 rfl own9 (by exact rfl)) ?_ | refine gw_q rfl (q_loadA_v agg_78 rfl (by assumption) (by exact rfl)) ?_ | refine gw_q rfl (q_load_o one_3 rfl own9 (by exact rfl)) ?_)) | (refine k_alloc ?_; (first | (refine gw_alloc rfl zer_78 rfl ?_; intro γ))) | (refine k_store ?_; (first | refine gw_store rfl siz_78 rfl rfl rfl rfl (by first | exact ones_of rfl | exact ones_pr _ | exact ones_pa _ | exact ones_any (by assumption) | (simp [isOne, spl, *]; done) | fail) put9 rfl ?_)) | (refine k_extract ?_; (first | refine gw_q rfl (q_extract rfl rfl) ?_)) | (refine k_fieldAddr ?_; (first | refine gw_q rfl (q_fieldAddr fld_78_2 rfl) ?_)) | (refine k_pick ?_; (first | refine gw_q rfl (q_pick_t rfl rfl) ?_ | refine gw_q rfl (q_pick_f rfl rfl) ?_)))) | (refine k_gl ?_; (first | refine gl_nil rfl ?_ | refine gl_go rfl rfl ?_ | refine gl_yes rfl rfl rfl rfl rfl ?_ | refine gl_no rfl rfl rfl rfl rfl rfl rfl ?_ | (refine gl_split_p rfl rfl rfl ?_ ?_ <;> intro hq <;> try (exfalso; first | exact hq rfl | omega)))) | (refine k_gc ?_; (first | refine gc_seq ?_ | refine gc_region ?_ | refine gc_cond_f rfl ?_ | (refine gc_cond_p rfl ?_ ?_ <;> intro hq <;> try (exfalso; first | exact hq rfl | omega)) | refine gc_block ?_ | refine gc_ret ?_ | refine gc_skip ?_)) | (refine k_at ?_; (first | refine at_seq ?_ | refine at_then_ret ?_ | refine at_then_exit ?_ | refine at_thn_ret ?_ | refine at_thn_exit ?_ | refine at_block_normal ?_ | refine at_block_ret ?_ | refine at_block_hit ?_ | refine at_block_miss rfl ?_)))
      all_goals try ((refine at_ret2 Try.results77 (rv_tmp rfl) (rv_tmp rfl) ?_); exact lookR_some (look_hit (by omega)) (by omega))
      all_goals
        refine at_round _ (n - (k + 1)) ⟨k + 1, by omega, rfl, rfl, rfl, ?_, rfl⟩ (by omega) sub9 sl9
        rw [look_miss (by omega)]
    · repeat' (first | (refine k_gw ?_; (first | (refine k_assign ?_; (first | refine gw_q rfl (q_assign rfl) ?_)) | (refine k_binOp ?_; (first | refine gw_q rfl (q_lss rfl rfl) ?_)))) | (refine k_gl ?_; (first | refine gl_nil rfl ?_ | refine gl_go rfl rfl ?_)) | (refine k_gc ?_; (first | refine gc_seq ?_ | refine gc_region ?_ | (refine gc_cond_p rfl ?_ ?_ <;> intro hq <;> try (exfalso; first | exact hq rfl | omega)) | refine gc_exit ?_ | refine gc_ret ?_)) | (refine k_at ?_; (first | refine at_seq ?_ | refine at_then_ret ?_ | refine at_then_exit ?_ | refine at_thn_ret ?_ | refine at_thn_exit ?_ | refine at_block_normal ?_ | refine at_block_ret ?_ | refine at_block_hit ?_ | refine at_block_miss rfl ?_)))
      (refine at_ret2 Try.results77 (rv_tmp rfl) (rv_tmp rfl) ?_)
      rw [hg, List.drop_eq_nil_of_le (by omega)]
      exact lookR_none rfl
  · rw [if_neg h0]
    repeat' (first | (refine k_gw ?_; (first | (refine k_assign ?_; (first | refine gw_q rfl (q_assign rfl) ?_)) | (refine k_move ?_; (first | refine gw_q rfl (q_move rfl) ?_)) | (refine k_call ?_; (first | refine gw_q rfl (q_len rfl und_62 rfl) ?_ | refine gw_q' rfl (q_call ⟨Try.call42⟩ rfl (MCheck_c _ _ _ _ xs h hcap)) ?_)) | (refine k_binOp ?_; (first | refine gw_q rfl (q_eneq rfl) ?_)))) | (refine k_gl ?_; (first | refine gl_nil rfl ?_ | refine gl_go rfl rfl ?_)) | (refine k_gc ?_; (first | refine gc_seq ?_ | refine gc_region ?_ | (refine gc_cond_p rfl ?_ ?_ <;> intro hq <;> try (exfalso; first | exact hq rfl | omega)) | refine gc_ret ?_)) | (refine k_at ?_; (first | refine at_seq ?_ | refine at_then_ret ?_ | refine at_then_exit ?_ | refine at_thn_ret ?_ | refine at_thn_exit ?_ | refine at_block_normal ?_ | refine at_block_ret ?_ | refine at_block_hit ?_ | refine at_block_miss rfl ?_)))
    all_goals (refine at_ret2 Try.results77 (rv_tmp rfl) (rv_tmp rfl) ?_)
    all_goals exact lookR_none rfl
theorem ToHost_c (V : View) (A : Option Addr) (n c : Nat) (xs : List PR) (h : MapV V A n xs) (hcap : n ≤ c) (x : Int) : Fn Try.prog 41 [.slice A n c, .int .i64 x] V fun v _ => v = lookR (hostZ xs x) := by
  have ht := through_c V A n c xs h hcap x 78 (fun r => r) ⟨Try.call78⟩ (fun _ => rfl) (fun _ hr => hr) (fun V r => ToHost1_c V r)
  rw [show (xs.map fun r => r) = xs by simp] at ht
  (refine fn_enter Try.func41 rfl Try.ntmps41 rfl ?_; intro w0)
  repeat' (first | (refine k_gw ?_; (first | (refine k_assign ?_; (first | refine gw_q rfl (q_assign rfl) ?_)) | (refine k_move ?_; (first | refine gw_q rfl (q_move rfl) ?_)) | (refine k_call ?_; (first | refine gw_q' rfl (q_call ⟨Try.call77⟩ rfl (ht)) ?_)) | (refine k_extract ?_; (first | refine gw_q rfl (q_extract rfl rfl) ?_)))) | (refine k_gl ?_; (first | refine gl_nil rfl ?_ | refine gl_go rfl rfl ?_ | refine gl_yes rfl rfl rfl rfl rfl ?_ | refine gl_no rfl rfl rfl rfl rfl rfl rfl ?_ | refine gl_nou rfl rfl rfl rfl rfl rfl ?_ | (refine gl_split_p rfl rfl rfl ?_ ?_ <;> intro hq <;> try (exfalso; first | exact hq rfl | omega)) | (refine gl_split_b rfl rfl rfl ?_ ?_ <;> intro hq))) | (refine k_gc ?_; (first | refine gc_seq ?_ | refine gc_region ?_ | refine gc_cond_t rfl ?_ | refine gc_cond_f rfl ?_ | (refine gc_cond_p rfl ?_ ?_ <;> intro hq <;> try (exfalso; first | exact hq rfl | omega)) | (refine gc_cond_b rfl ?_ ?_ <;> intro hq) | refine gc_block ?_ | refine gc_exit ?_ | refine gc_ret ?_ | refine gc_skip ?_)) | (refine k_at ?_; (first | refine at_seq ?_ | refine at_then_ret ?_ | refine at_then_exit ?_ | refine at_thn_ret ?_ | refine at_thn_exit ?_ | refine at_block_normal ?_ | refine at_block_ret ?_ | refine at_block_hit ?_ | refine at_block_miss rfl ?_)))
  all_goals (refine at_ret2 Try.results41 (rv_tmp rfl) (rv_tmp rfl) ?_)
  all_goals rfl
end Go.Proofs.Ytejkmomfpidnbab

/- What lowers have becomes the upper's, in plain terms. -/
namespace Go.Proofs.Ytejkmomfpidnbab
open Go.RowKit
set_option linter.unusedSimpArgs false
set_option linter.unusedVariables false
/-- An id outside (out), within. -/
def hz (out : Bool) (m : List PR) (x : Int) : Option Int := if out = true then hostZ m x else fromZ m x
def movedP (out : Bool) (us gs : List PR) (n : PN) : Option PN :=
  match hz out us n.h.user, hz out gs n.h.group with
  | some u, some g => some (.mk { n.h with user := u, group := g } n.ks)
  | _, _ => none
theorem moved_some {out : Bool} {us gs : List PR} {n : PN} {u g : Int} (h1 : hz out us n.h.user = some u) (h2 : hz out gs n.h.group = some g) : movedP out us gs n = some (.mk { n.h with user := u, group := g } n.ks) := by unfold movedP; rw [h1, h2]
theorem moved_one {out : Bool} {us gs : List PR} {n : PN} (h1 : hz out us n.h.user = none) : movedP out us gs n = none := by unfold movedP; rw [h1]
theorem moved_two {out : Bool} {us gs : List PR} {n : PN} (h1 : hz out gs n.h.group = none) : movedP out us gs n = none := by unfold movedP; rw [h1]; cases hz out us n.h.user <;> rfl
def movF (r : Option PN) : Int := if r.isSome = true then 0 else 11
end Go.Proofs.Ytejkmomfpidnbab

/- The walks of copyup's Inside, Outside, Seen, and the reference's, by the engine. -/
namespace Go.Proofs.Ytejkmomfpidnbab
open Go.RowKit
set_option linter.unusedSimpArgs false
set_option linter.unusedVariables false
/-- Two maps. -/
structure LM where
  A : Option Addr
  n : Nat
  c : Nat
  us : List PR
  B : Option Addr
  m : Nat
  e : Nat
  gs : List PR
abbrev lmV (M : LM) : Value := .agg #[.slice M.A M.n M.c, .slice M.B M.m M.e]
def MapsV (V : View) (M : LM) : Prop := MapV V M.A M.n M.us ∧ M.n ≤ M.c ∧ MapV V M.B M.m M.gs ∧ M.m ≤ M.e
theorem MapsV.le {V V' : View} (hv : VLe V V') {M : LM} (h : MapsV V M) : MapsV V' M := ⟨⟨h.1.1.le hv, h.1.2⟩, h.2.1, ⟨h.2.2.1.1.le hv, h.2.2.1.2⟩, h.2.2.2⟩
def MovR (r : Option PN) (ev : Value) (v : Value) (V' : View) : Prop := ∃ y : LN, v = .tuple #[lnV y, ev] ∧ NodeV V' y ∧ y.n = r.getD pnZ
theorem MovR.none {V : View} {r : Option PN} {ev : Value} (h : r = .none) : MovR r ev (.tuple #[lnV lnZ, ev]) V := ⟨lnZ, rfl, NodeV.zero, by rw [h]; rfl⟩
theorem moved_node {V : View} {x : LN} {u g : Int} (h : NodeV V x) : NodeV V { x with h := { x.h with user := u, group := g } } := by
  obtain ⟨h1, h2, h3, h4, es, h5, h6⟩ := h.inv
  exact NodeV.of (es := es) h1 h2 h3 h4 h5 h6
attribute [local irreducible] AtQ GoC GoL GoW QO QP Fn RV OwnAt CellsFrom VLe SrcIs errV
set_option maxRecDepth 100000
set_option maxRecDepth 100000 in
set_option maxHeartbeats 4000000 in
theorem Outside_c (V : View) (M : LM) (hM : MapsV V M) (x : LN) (hx : NodeV V x) (hsm : AllN smallP x.n) : Fn Try.prog 140 [lmV M, lnV x] V (MovR (movedP true M.us M.gs x.n) (errV (movF (movedP true M.us M.gs x.n)))) := by
  cases h1 : hostZ M.us x.h.user with
  | none =>
    have hm := moved_one (out := true) (us := M.us) (gs := M.gs) (n := x.n) h1
    have c1 := fun V' (hV : VLe V V') => (by have h := ToHost_c V' M.A M.n M.c M.us (hM.le hV).1 hM.2.1 x.h.user; rw [h1] at h; exact h : Fn Try.prog 41 [.slice M.A M.n M.c, .int .i64 x.h.user] V' fun v _ => v = .tuple #[.int .i64 0, .bool false])
    have c2 := fun V' (hV : VLe V V') => ToHost_c V' M.B M.m M.e M.gs (hM.le hV).2.2.1 hM.2.2.2 x.h.group
    rw [hm]
    (refine fn_enter Try.func140 rfl Try.ntmps140 rfl ?_; intro w0)
    repeat' (first | (refine k_gw ?_; (first | (refine k_box ?_; (first | (refine gw_box rfl rfl rfl rfl ?_; intro γ))) | (refine k_alloc ?_; (first | (refine gw_alloc rfl zer_37 rfl ?_; intro γ))) | (refine k_assign ?_; (first | refine gw_q rfl (q_assign rfl) ?_)) | (refine k_fieldAddr ?_; (first | refine gw_q rfl (q_fieldAddr fld_64_0 rfl) ?_ | refine gw_q rfl (q_fieldAddr fld_37_2 rfl) ?_ | refine gw_q rfl (q_fieldAddr fld_64_1 rfl) ?_ | refine gw_q rfl (q_fieldAddr fld_37_3 rfl) ?_)) | (refine k_load ?_; (first | refine gw_q rfl (q_load_o one_62 rfl own9 (by exact rfl)) ?_ | refine gw_q rfl (q_load_o one_3 rfl own9 (by exact rfl)) ?_)) | (refine k_call ?_; (first | refine gw_q' rfl (q_call ⟨Try.call41⟩ rfl (c1 _ vl9)) ?_ | refine gw_q' rfl (q_call ⟨Try.call41⟩ rfl (c2 _ vl9)) ?_ | (refine gw_call rfl ⟨Try.call61⟩ rfl rfl (Own_v _ x (hx.le vl9) hsm) ?_; rintro v V2 hV2 ⟨y, rfl, hyn, hyN⟩))) | (refine k_move ?_; (first | refine gw_q rfl (q_move rfl) ?_)) | (refine k_extract ?_; (first | refine gw_q rfl (q_extract rfl rfl) ?_)) | (refine k_unOp ?_; (first | refine gw_q rfl (q_not_t rfl) ?_ | refine gw_q rfl (q_not_f rfl) ?_ | refine gw_q rfl (q_not_p rfl) ?_ | refine gw_q rfl (q_not_b rfl) ?_)) | (refine k_pick ?_; (first | refine gw_q rfl (q_pick_t rfl rfl) ?_ | refine gw_q rfl (q_pick_f rfl rfl) ?_)) | (refine k_build ?_; (first | refine gw_q rfl (q_build bld_37 rfl rfl) ?_)) | (refine k_makeInterface ?_; (first | refine gw_q rfl (q_mkiface und_85 rfl rfl) ?_)) | (refine k_store ?_; (first | refine gw_store rfl siz_37 rfl rfl rfl rfl (by first | exact ones_of rfl | exact ones_pr _ | exact ones_pa _ | exact ones_any (by assumption) | (simp [isOne, spl, *]; done) | fail) put9 rfl ?_)))) | (refine k_gl ?_; (first | refine gl_nil rfl ?_ | refine gl_go rfl rfl ?_ | refine gl_no rfl rfl rfl rfl rfl rfl rfl ?_)) | (refine k_gc ?_; (first | refine gc_seq ?_ | refine gc_region ?_ | refine gc_cond_t rfl ?_ | refine gc_ret ?_)) | (refine k_at ?_; (first | refine at_seq ?_ | refine at_then_ret ?_ | refine at_then_exit ?_ | refine at_thn_ret ?_ | refine at_thn_exit ?_ | refine at_block_normal ?_ | refine at_block_ret ?_ | refine at_block_hit ?_ | refine at_block_miss rfl ?_)))
    all_goals (refine at_ret2 Try.results140 (rv_cellA agg_37 rfl own9 (by exact rfl)) (rv_tmp rfl) ?_)
    all_goals exact (by rw [← errV_pos (e := 11) (by decide)]; exact MovR.none rfl)
  | some u =>
    have c1 := fun V' (hV : VLe V V') => (by have h := ToHost_c V' M.A M.n M.c M.us (hM.le hV).1 hM.2.1 x.h.user; rw [h1] at h; exact h : Fn Try.prog 41 [.slice M.A M.n M.c, .int .i64 x.h.user] V' fun v _ => v = .tuple #[.int .i64 u, .bool true])
    cases h2 : hostZ M.gs x.h.group with
    | none =>
      have hm := moved_two (out := true) (us := M.us) (gs := M.gs) (n := x.n) h2
      have c2 := fun V' (hV : VLe V V') => (by have h := ToHost_c V' M.B M.m M.e M.gs (hM.le hV).2.2.1 hM.2.2.2 x.h.group; rw [h2] at h; exact h : Fn Try.prog 41 [.slice M.B M.m M.e, .int .i64 x.h.group] V' fun v _ => v = .tuple #[.int .i64 0, .bool false])
      rw [hm]
      (refine fn_enter Try.func140 rfl Try.ntmps140 rfl ?_; intro w0)
      repeat' (first | (refine k_gw ?_; (first | (refine k_box ?_; (first | (refine gw_box rfl rfl rfl rfl ?_; intro γ))) | (refine k_alloc ?_; (first | (refine gw_alloc rfl zer_37 rfl ?_; intro γ))) | (refine k_assign ?_; (first | refine gw_q rfl (q_assign rfl) ?_)) | (refine k_fieldAddr ?_; (first | refine gw_q rfl (q_fieldAddr fld_64_0 rfl) ?_ | refine gw_q rfl (q_fieldAddr fld_37_2 rfl) ?_ | refine gw_q rfl (q_fieldAddr fld_64_1 rfl) ?_ | refine gw_q rfl (q_fieldAddr fld_37_3 rfl) ?_)) | (refine k_load ?_; (first | refine gw_q rfl (q_load_o one_62 rfl own9 (by exact rfl)) ?_ | refine gw_q rfl (q_load_o one_3 rfl own9 (by exact rfl)) ?_)) | (refine k_call ?_; (first | refine gw_q' rfl (q_call ⟨Try.call41⟩ rfl (c1 _ vl9)) ?_ | refine gw_q' rfl (q_call ⟨Try.call41⟩ rfl (c2 _ vl9)) ?_ | (refine gw_call rfl ⟨Try.call61⟩ rfl rfl (Own_v _ x (hx.le vl9) hsm) ?_; rintro v V2 hV2 ⟨y, rfl, hyn, hyN⟩))) | (refine k_move ?_; (first | refine gw_q rfl (q_move rfl) ?_)) | (refine k_extract ?_; (first | refine gw_q rfl (q_extract rfl rfl) ?_)) | (refine k_unOp ?_; (first | refine gw_q rfl (q_not_t rfl) ?_ | refine gw_q rfl (q_not_f rfl) ?_ | refine gw_q rfl (q_not_p rfl) ?_ | refine gw_q rfl (q_not_b rfl) ?_)) | (refine k_pick ?_; (first | refine gw_q rfl (q_pick_t rfl rfl) ?_ | refine gw_q rfl (q_pick_f rfl rfl) ?_)) | (refine k_build ?_; (first | refine gw_q rfl (q_build bld_37 rfl rfl) ?_)) | (refine k_makeInterface ?_; (first | refine gw_q rfl (q_mkiface und_85 rfl rfl) ?_)) | (refine k_store ?_; (first | refine gw_store rfl siz_37 rfl rfl rfl rfl (by first | exact ones_of rfl | exact ones_pr _ | exact ones_pa _ | exact ones_any (by assumption) | (simp [isOne, spl, *]; done) | fail) put9 rfl ?_)))) | (refine k_gl ?_; (first | refine gl_nil rfl ?_ | refine gl_go rfl rfl ?_ | refine gl_yes rfl rfl rfl rfl rfl ?_)) | (refine k_gc ?_; (first | refine gc_seq ?_ | refine gc_region ?_ | refine gc_cond_t rfl ?_ | refine gc_ret ?_)) | (refine k_at ?_; (first | refine at_seq ?_ | refine at_then_ret ?_ | refine at_then_exit ?_ | refine at_thn_ret ?_ | refine at_thn_exit ?_ | refine at_block_normal ?_ | refine at_block_ret ?_ | refine at_block_hit ?_ | refine at_block_miss rfl ?_)))
      all_goals (refine at_ret2 Try.results140 (rv_cellA agg_37 rfl own9 (by exact rfl)) (rv_tmp rfl) ?_)
      all_goals exact (by rw [← errV_pos (e := 11) (by decide)]; exact MovR.none rfl)
    | some g =>
      have hm := moved_some (out := true) (us := M.us) (gs := M.gs) (n := x.n) h1 h2
      have c2 := fun V' (hV : VLe V V') => (by have h := ToHost_c V' M.B M.m M.e M.gs (hM.le hV).2.2.1 hM.2.2.2 x.h.group; rw [h2] at h; exact h : Fn Try.prog 41 [.slice M.B M.m M.e, .int .i64 x.h.group] V' fun v _ => v = .tuple #[.int .i64 g, .bool true])
      rw [hm]
      (refine fn_enter Try.func140 rfl Try.ntmps140 rfl ?_; intro w0)
      repeat' (first | (refine k_gw ?_; (first | (refine k_box ?_; (first | (refine gw_box rfl rfl rfl rfl ?_; intro γ))) | (refine k_alloc ?_; (first | (refine gw_alloc rfl zer_37 rfl ?_; intro γ))) | (refine k_assign ?_; (first | refine gw_q rfl (q_assign rfl) ?_)) | (refine k_fieldAddr ?_; (first | refine gw_q rfl (q_fieldAddr fld_64_0 rfl) ?_ | refine gw_q rfl (q_fieldAddr fld_37_2 rfl) ?_ | refine gw_q rfl (q_fieldAddr fld_64_1 rfl) ?_ | refine gw_q rfl (q_fieldAddr fld_37_3 rfl) ?_)) | (refine k_load ?_; (first | refine gw_q rfl (q_load_o one_62 rfl own9 (by exact rfl)) ?_ | refine gw_q rfl (q_load_o one_3 rfl own9 (by exact rfl)) ?_ | refine gw_q rfl (q_loadA_o agg_37 rfl own9 (by exact rfl)) ?_)) | (refine k_call ?_; (first | refine gw_q' rfl (q_call ⟨Try.call41⟩ rfl (c1 _ vl9)) ?_ | refine gw_q' rfl (q_call ⟨Try.call41⟩ rfl (c2 _ vl9)) ?_ | (refine gw_call rfl ⟨Try.call61⟩ rfl rfl (Own_v _ x (hx.le vl9) hsm) ?_; rintro v V2 hV2 ⟨y, rfl, hyn, hyN⟩))) | (refine k_move ?_; (first | refine gw_q rfl (q_move rfl) ?_)) | (refine k_extract ?_; (first | refine gw_q rfl (q_extract rfl rfl) ?_)) | (refine k_unOp ?_; (first | refine gw_q rfl (q_not_t rfl) ?_ | refine gw_q rfl (q_not_f rfl) ?_ | refine gw_q rfl (q_not_p rfl) ?_ | refine gw_q rfl (q_not_b rfl) ?_)) | (refine k_pick ?_; (first | refine gw_q rfl (q_pick_t rfl rfl) ?_ | refine gw_q rfl (q_pick_f rfl rfl) ?_)) | (refine k_store ?_; (first | refine gw_store rfl siz_37 rfl rfl rfl rfl (by first | exact ones_of rfl | exact ones_pr _ | exact ones_pa _ | exact ones_any (by assumption) | (simp [isOne, spl, *]; done) | fail) put9 rfl ?_ | refine gw_store rfl siz_3 rfl rfl rfl rfl (by first | exact ones_of rfl | exact ones_pr _ | exact ones_pa _ | exact ones_any (by assumption) | (simp [isOne, spl, *]; done) | fail) put9 rfl ?_)))) | (refine k_gl ?_; (first | refine gl_nil rfl ?_ | refine gl_go rfl rfl ?_ | refine gl_yes rfl rfl rfl rfl rfl ?_)) | (refine k_gc ?_; (first | refine gc_seq ?_ | refine gc_region ?_ | refine gc_cond_f rfl ?_ | refine gc_ret ?_ | refine gc_skip ?_)) | (refine k_at ?_; (first | refine at_seq ?_ | refine at_then_ret ?_ | refine at_then_exit ?_ | refine at_thn_ret ?_ | refine at_thn_exit ?_ | refine at_block_normal ?_ | refine at_block_ret ?_ | refine at_block_hit ?_ | refine at_block_miss rfl ?_)))
      all_goals (refine at_ret2 Try.results140 (rv_cellA agg_37 rfl own9 (by exact rfl)) (rv_tmp rfl) ?_)
      all_goals exact ⟨{ y with h := { y.h with user := u, group := g } }, by rw [show movF (some _) = 0 from rfl, errV_zero]; rfl, moved_node (hyN.le vl9), by show PN.mk { y.h with user := u, group := g } y.ks = _; rw [show y.h = x.h from congrArg PN.h hyn, show y.ks = x.ks from congrArg PN.ks hyn]; rfl⟩
end Go.Proofs.Ytejkmomfpidnbab

/- The walk of copyup.Up, by the engine. -/
namespace Go.Proofs.Ytejkmomfpidnbab
open Go.RowKit
set_option linter.unusedSimpArgs false
set_option linter.unusedVariables false
def PutY (p : PN) (v : Value) (V' : View) : Prop := ∃ z : LN, v = .tuple #[lnV z, errV 0] ∧ NodeV V' z ∧ z.n = p
theorem PutR.y {cut : Bool} {x n : PN} {l : List ByteArray} (h : pF cut x n l = 0) {v : Value} {V' : View} (k : PutR cut x n l v V') : PutY (pN cut x n l) v V' := by
  obtain ⟨z, h1, h2, h3⟩ := k
  rw [h] at h1; rw [show putP cut x n l = pN cut x n l from if_pos h] at h3
  exact ⟨z, h1, h2, h3⟩
def UpR (r : PN × Int) (ev : Value) (v : Value) (V' : View) : Prop := ∃ y : LN, v = .tuple #[lnV y, ev] ∧ NodeV V' y ∧ y.n = r.1
theorem UpR.zero {V : View} {r : PN × Int} {ev : Value} (h : r.1 = pnZ) : UpR r ev (.tuple #[lnV lnZ, ev]) V := ⟨lnZ, rfl, NodeV.zero, h.symm⟩
attribute [local irreducible] AtQ GoC GoL GoW QO QP Fn RV OwnAt CellsFrom VLe SrcIs errV
set_option maxRecDepth 100000
end Go.Proofs.Ytejkmomfpidnbab

/- Maps of ids: the canonical map leads where the map leads; it is right; it is its own canonical map. No program is named here. -/
namespace Go.Proofs.Ytejkmomfpidnbab
open Go.RowKit
set_option linter.unusedSimpArgs false
set_option linter.unusedVariables false

end Go.Proofs.Ytejkmomfpidnbab

/- What comes up is seen as it was, and is the upper's; in plain terms. -/
namespace Go.Proofs.Ytejkmomfpidnbab
open Go.RowKit
set_option linter.unusedSimpArgs false
set_option linter.unusedVariables false
theorem moved_inv {us gs : List PR} {n x : PN} (h : movedP true us gs n = some x) : ∃ u g, x = .mk { n.h with user := u, group := g } n.ks ∧ hz true us n.h.user = some u ∧ hz true gs n.h.group = some g := by
  unfold movedP at h
  cases h1 : hz true us n.h.user with
  | none => rw [h1] at h; cases h
  | some u =>
    cases h2 : hz true gs n.h.group with
    | none => rw [h1, h2] at h; cases h
    | some g => rw [h1, h2] at h; cases h; exact ⟨u, g, rfl, rfl, rfl⟩
end Go.Proofs.Ytejkmomfpidnbab

/- What may be wrong where something comes up, in plain terms. -/
namespace Go.Proofs.Ytejkmomfpidnbab
open Go.RowKit
set_option linter.unusedSimpArgs false
set_option linter.unusedVariables false
def nmP (h : Hd) (ks : PKs) : Prop := ∀ k ∈ ks, nameZ k.1.toList = true
theorem names_ok {u : Bool} : ∀ (n : PN) (d so : Nat), so ≤ 60 → (countF u d so n).2 = 0 → AllN nmP n := by
  refine PN.ind (p := fun n => ∀ (d so : Nat), so ≤ 60 → (countF u d so n).2 = 0 → AllN nmP n) ?_
  intro h ks ih d so hs hc
  obtain ⟨⟨h1, _⟩, _, h3⟩ := countF_ok.1 hc
  obtain ⟨_, h4⟩ := countK_all (by omega) h3
  exact .mk (fun k hk => (h4 k hk).2.1) fun k hk => by
    obtain ⟨so', hs', hc'⟩ := (h4 k hk).2.2
    exact ih k hk (d + 1) so' hs' hc'
theorem tree_names {u : Bool} {n : PN} (h : treeF u n = 0) : AllN nmP n := names_ok n 0 0 (by omega) (treeF_ok.1 h).2
end Go.Proofs.Ytejkmomfpidnbab

/- The walks that lay a tree's bytes, by the engine: the numbers, the texts. -/
namespace Go.Proofs.Ytejkmomfpidnbab
open Go.RowKit
set_option linter.unusedSimpArgs false
set_option linter.unusedVariables false
attribute [local irreducible] AtQ GoC GoL GoW QO QP Fn RV OwnAt CellsFrom VLe SrcIs errV
set_option maxRecDepth 100000
theorem two_c (V : View) (n : Int) (hn : 0 ≤ n) : Fn Try.prog 90 [.int .i64 n] V fun v _ => v = .string ⟨(b16 n).toArray⟩ := by
  (refine fn_enter Try.func90 rfl Try.ntmps90 rfl ?_; intro w0)
  repeat' (first | (refine k_gw ?_; (first | (refine k_assign ?_; (first | refine gw_q rfl (q_assign rfl) ?_)) | (refine k_move ?_; (first | refine gw_q rfl (q_move rfl) ?_)) | (refine k_binOp ?_; (first | refine gw_q rfl (q_shr8 rfl rfl hn) ?_ | refine gw_q rfl (q_shr rfl rfl (by omega)) ?_)) | (refine k_convert ?_; (first | refine gw_q rfl (q_bytes (us := b16 n) und_93 und_5 und_9 rfl (src_o own9 rfl)) ?_ | refine gw_q rfl (q_conv8 und_3 und_5 rfl) ?_)) | (refine k_buildSlice ?_; (first | (refine gw_buildSlice rfl und_93 siz_5 zec_5 rfl rfl rfl rfl rfl rfl rfl ?_; intro γ))))) | (refine k_gl ?_; (first | refine gl_nil rfl ?_ | refine gl_go rfl rfl ?_)) | (refine k_gc ?_; (first | refine gc_seq ?_ | refine gc_region ?_ | refine gc_ret ?_)) | (refine k_at ?_; (first | refine at_seq ?_ | refine at_then_ret ?_ | refine at_then_exit ?_ | refine at_thn_ret ?_ | refine at_thn_exit ?_ | refine at_block_normal ?_ | refine at_block_ret ?_ | refine at_block_hit ?_ | refine at_block_miss rfl ?_)))
  all_goals (refine at_ret1 Try.results90 (rv_tmp rfl) ?_)
  all_goals rfl
theorem text_c (V : View) (s : ByteArray) (hs : s.size ≤ 100000000) : Fn Try.prog 91 [.string s] V fun v _ => v = .string ⟨(layT s).toArray⟩ := by
  (refine fn_enter Try.func91 rfl Try.ntmps91 rfl ?_; intro w0)
  repeat' (first | (refine k_gw ?_; (first | (refine k_assign ?_; (first | refine gw_q rfl (q_assign rfl) ?_)) | (refine k_move ?_; (first | refine gw_q rfl (q_move rfl) ?_)) | (refine k_call ?_; (first | refine gw_q rfl (q_slen rfl und_9 rfl) ?_)) | (refine k_convert ?_; (first | refine gw_q rfl (q_bytes (us := [b8 (s.size : Int)]) und_93 und_5 und_9 rfl (src_o own9 rfl)) ?_ | refine gw_q rfl (q_conv8 und_3 und_5 rfl) ?_)) | (refine k_buildSlice ?_; (first | (refine gw_buildSlice rfl und_93 siz_5 zec_5 rfl rfl rfl rfl rfl rfl rfl ?_; intro γ))) | (refine k_binOp ?_; (first | refine gw_q rfl (q_sadds rfl rfl (by simp; omega)) ?_ | refine gw_q rfl (q_sadd rfl rfl (by first | omega | (simp only [ByteArray.size_append, ByteArray.size_extract]; omega) | fail)) ?_)))) | (refine k_gl ?_; (first | refine gl_nil rfl ?_ | refine gl_go rfl rfl ?_)) | (refine k_gc ?_; (first | refine gc_seq ?_ | refine gc_region ?_ | refine gc_ret ?_)) | (refine k_at ?_; (first | refine at_seq ?_ | refine at_then_ret ?_ | refine at_then_exit ?_ | refine at_thn_ret ?_ | refine at_thn_exit ?_ | refine at_block_normal ?_ | refine at_block_ret ?_ | refine at_block_hit ?_ | refine at_block_miss rfl ?_)))
  all_goals (refine at_ret1 Try.results91 (rv_tmp rfl) ?_)
  all_goals rfl

theorem flag_t {h : Hd} (ho : h.opq = true) : flagN h = h.kind + 8 := if_pos ho
theorem flag_f {h : Hd} (ho : h.opq = false) : flagN h = h.kind := by unfold flagN; rw [if_neg (by rw [ho]; decide)]
set_option maxRecDepth 100000 in
set_option maxHeartbeats 4000000 in
theorem lay_c (V : View) (x : LN) (hx : NodeV V x) (p : Nat) : ∀ (V1 : View), VLe V V1 → AllN fitP x.n → ∀ (l : List UInt8) (Bs : List Box), BldB p l Bs → l.length + (layP x.n).length ≤ 100000 → FnB Try.prog 55 [.pointer (some ⟨p, 0, none⟩), lnV x] V1 Bs fun v _ Bs' => v = .tuple #[] ∧ BldB p (l ++ layP x.n) Bs' := by
  refine NodeV.ind (C := fun x => ∀ (V1 : View), VLe V V1 → AllN fitP x.n → ∀ (l : List UInt8) (Bs : List Box), BldB p l Bs → l.length + (layP x.n).length ≤ 100000 → FnB Try.prog 55 [.pointer (some ⟨p, 0, none⟩), lnV x] V1 Bs fun v _ Bs' => v = .tuple #[] ∧ BldB p (l ++ layP x.n) Bs') ?_ hx
  intro x es ha hca hd hck hk hks ih V1 hV1 hfit l Bs hB hlen
  have hl := hk.len
  have hm := hk.max
  have hz : x.ks.length = x.nk := by rw [hks, List.length_map, hl]
  obtain ⟨f1, f2, f3, f4, f5, f6, f7, f8⟩ := hfit.here
  simp only [LN.n, PN.h_mk, PN.ks_mk] at f1 f2 f3 f4 f5 f6 f7 f8
  have hal := ha.1.1
  have hP : layP x.n = layH x.h ++ layA x.h.attrs ++ (layT x.h.data ++ [b8 (x.ks.length : Int)]) ++ layK x.ks := layP_eq x.h x.ks
  have hPl := congrArg List.length hP
  simp only [List.length_append, List.length_cons, List.length_nil, layT_len, layH_len] at hPl
  have hA0 := layA_le x.h.attrs
  have hK0 := layK_le x.ks
  (refine fn_enterH Try.func55 rfl Try.ntmps55 rfl ?_; intro w0 hfl0)
  repeat' (first | (refine k_gw ?_; (first | (refine k_box ?_; (first | (refine gw_box rfl rfl rfl rfl ?_; intro γ))) | (refine k_fieldAddr ?_; (first | refine gw_q rfl (q_fieldAddr fld_37_0 rfl) ?_ | refine gw_q rfl (q_fieldAddr fld_37_4 rfl) ?_)) | (refine k_load ?_; (first | refine gw_q rfl (q_load_o one_3 rfl own9 (by exact rfl)) ?_ | refine gw_q rfl (q_load_o one_4 rfl own9 (by exact rfl)) ?_)) | (refine k_assign ?_; (first | refine gw_q rfl (q_assign rfl) ?_)) | (refine k_move ?_; (first | refine gw_q rfl (q_move rfl) ?_)) | (refine k_binOp ?_; (first | refine gw_q rfl (q_add rfl rfl (by omega)) ?_)))) | (refine k_gl ?_; (first | refine gl_nil rfl ?_ | refine gl_go rfl rfl ?_)) | (refine k_gc ?_; (first | refine gc_seq ?_ | refine gc_region ?_ | (refine gc_cond_b rfl ?_ ?_ <;> intro hq) | refine gc_skip ?_)) | (refine k_at ?_; (first | refine at_seq ?_ | refine at_then_ret ?_ | refine at_then_exit ?_ | refine at_thn_ret ?_ | refine at_thn_exit ?_ | refine at_block_normal ?_ | refine at_block_ret ?_ | refine at_block_hit ?_ | refine at_block_miss rfl ?_)))
  all_goals
    have hflag := (by first | exact flag_t hq | exact flag_f hq)
    refine gc_grow ([(0, .pointer (some ⟨p, 0, none⟩)), (3, .pointer (some ⟨γ, 0, none⟩)), (4, .int .i64 (flagN x.h))]) mixed (by repeat (first | exact List.forall_mem_nil _ | refine List.forall_mem_cons.2 ⟨?_, ?_⟩ | exact rfl | (rw [hflag]; exact rfl))) ?_; (apply grow_val (n := 0) [] rfl rfl rfl (by kernel_rfl); (focus (intro V' hV; refine deps_nil ?_; intro K hK; (first | refine gw_q rfl (q_move rfl) ?_); refine gl_nil rfl ?_; exact at_grow hK rfl (VLe.refl _) rfl)); (try dsimp only [List.cons_append, List.nil_append])); (apply grow_val (n := 1) [] rfl rfl rfl (by kernel_rfl); (focus (intro V' hV; refine deps_nil ?_; intro K hK; (first | refine gw_q rfl (q_move rfl) ?_); refine gl_nil rfl ?_; exact at_grow hK rfl (VLe.refl _) rfl)); (try dsimp only [List.cons_append, List.nil_append])); (apply grow_val (n := 2) [1] rfl rfl rfl (by kernel_rfl); (focus (intro V' hV; refine deps_val (j := 1) (d := 16) rfl rfl ?_; refine deps_nil ?_; intro K hK; (first | refine gw_q rfl (q_conv8 und_3 und_5 rfl) ?_ | refine gw_q rfl (q_bytes (us := [_]) und_93 und_5 und_9 rfl (src_u8 (by assumption) rfl)) ?_); refine gl_nil rfl ?_; exact at_grow hK rfl (VLe.refl _) rfl)); (try dsimp only [List.cons_append, List.nil_append])); (apply grow_new (n := 3) [2] rfl rfl rfl (by kernel_rfl); (focus (intro V' hV; refine deps_val (j := 2) (d := 17) rfl rfl ?_; refine deps_nil ?_; intro K hK; (first | (refine gw_buildSliceV rfl hfl0 und_93 siz_5 zec_5 rfl rfl rfl rfl rfl rfl rfl ?_; intro γ V2 hV2 hg2)); refine gl_nil rfl ?_; exact at_grow hK rfl hV2 ⟨_, rfl, hg2⟩)); (try dsimp only [List.cons_append, List.nil_append])); (apply grow_val (n := 4) [3] rfl rfl rfl (by kernel_rfl); (focus (intro V' hV; refine deps_new (j := 3) (d := 18) rfl rfl ?_; intro g3 hg3; refine deps_nil ?_; intro K hK; (first | refine gw_q rfl (q_conv8 und_3 und_5 rfl) ?_ | refine gw_q rfl (q_bytes (us := [_]) und_93 und_5 und_9 rfl (src_u8 (by assumption) rfl)) ?_); refine gl_nil rfl ?_; exact at_grow hK rfl (VLe.refl _) rfl)); (try dsimp only [List.cons_append, List.nil_append])); (apply grow_val (n := 5) [] rfl rfl rfl (by kernel_rfl); (focus (intro V' hV; refine deps_nil ?_; intro K hK; (first | refine gw_q rfl (q_fieldAddr fld_37_1 rfl) ?_); refine gl_nil rfl ?_; exact at_grow hK rfl (VLe.refl _) rfl)); (try dsimp only [List.cons_append, List.nil_append])); (apply grow_val (n := 6) [5] rfl rfl rfl (by kernel_rfl); (focus (intro V' hV; refine deps_val (j := 5) (d := 20) rfl rfl ?_; refine deps_nil ?_; intro K hK; (first | refine gw_q rfl (q_load_o one_3 rfl own9 (by exact rfl)) ?_ | refine gw_q rfl (q_load_o one_3 rfl own9 (by assumption)) ?_ | refine gw_q rfl (q_load_v one_3 rfl (by assumption)) ?_); refine gl_nil rfl ?_; exact at_grow hK rfl (VLe.refl _) rfl)); (try dsimp only [List.cons_append, List.nil_append])); (apply grow_val (n := 7) [6] rfl rfl rfl (by kernel_rfl); (focus (intro V' hV; refine deps_val (j := 6) (d := 21) rfl rfl ?_; refine deps_nil ?_; intro K hK; (first | refine gw_q' rfl (q_call ⟨Try.call90⟩ rfl (two_c _ _ (by omega))) ?_); refine gl_nil rfl ?_; exact at_grow hK rfl (VLe.refl _) rfl)); (try dsimp only [List.cons_append, List.nil_append])); (apply grow_val (n := 8) [4, 7] rfl rfl rfl (by kernel_rfl); (focus (intro V' hV; refine deps_val (j := 4) (d := 19) rfl rfl ?_; refine deps_val (j := 7) (d := 22) rfl rfl ?_; refine deps_nil ?_; intro K hK; (first | refine gw_q rfl (q_saddl rfl rfl (by simp [b16])) ?_ | refine gw_q rfl (q_sadd rfl rfl (by first | omega | (simp only [ByteArray.size_append, ByteArray.size_extract]; omega) | fail)) ?_); refine gl_nil rfl ?_; exact at_grow hK rfl (VLe.refl _) rfl)); (try dsimp only [List.cons_append, List.nil_append])); (apply grow_val (n := 9) [] rfl rfl rfl (by kernel_rfl); (focus (intro V' hV; refine deps_nil ?_; intro K hK; (first | refine gw_q rfl (q_fieldAddr fld_37_2 rfl) ?_); refine gl_nil rfl ?_; exact at_grow hK rfl (VLe.refl _) rfl)); (try dsimp only [List.cons_append, List.nil_append])); (apply grow_val (n := 10) [9] rfl rfl rfl (by kernel_rfl); (focus (intro V' hV; refine deps_val (j := 9) (d := 24) rfl rfl ?_; refine deps_nil ?_; intro K hK; (first | refine gw_q rfl (q_load_o one_3 rfl own9 (by exact rfl)) ?_ | refine gw_q rfl (q_load_o one_3 rfl own9 (by assumption)) ?_ | refine gw_q rfl (q_load_v one_3 rfl (by assumption)) ?_); refine gl_nil rfl ?_; exact at_grow hK rfl (VLe.refl _) rfl)); (try dsimp only [List.cons_append, List.nil_append])); (apply grow_val (n := 11) [10] rfl rfl rfl (by kernel_rfl); (focus (intro V' hV; refine deps_val (j := 10) (d := 25) rfl rfl ?_; refine deps_nil ?_; intro K hK; (first | refine gw_q' rfl (q_call ⟨Try.call90⟩ rfl (two_c _ _ (by omega))) ?_); refine gl_nil rfl ?_; exact at_grow hK rfl (VLe.refl _) rfl)); (try dsimp only [List.cons_append, List.nil_append])); (apply grow_val (n := 12) [8, 11] rfl rfl rfl (by kernel_rfl); (focus (intro V' hV; refine deps_val (j := 8) (d := 23) rfl rfl ?_; refine deps_val (j := 11) (d := 26) rfl rfl ?_; refine deps_nil ?_; intro K hK; (first | refine gw_q rfl (q_saddl rfl rfl (by simp [b16])) ?_ | refine gw_q rfl (q_sadd rfl rfl (by first | omega | (simp only [ByteArray.size_append, ByteArray.size_extract]; omega) | fail)) ?_); refine gl_nil rfl ?_; exact at_grow hK rfl (VLe.refl _) rfl)); (try dsimp only [List.cons_append, List.nil_append])); (apply grow_val (n := 13) [] rfl rfl rfl (by kernel_rfl); (focus (intro V' hV; refine deps_nil ?_; intro K hK; (first | refine gw_q rfl (q_fieldAddr fld_37_3 rfl) ?_); refine gl_nil rfl ?_; exact at_grow hK rfl (VLe.refl _) rfl)); (try dsimp only [List.cons_append, List.nil_append])); (apply grow_val (n := 14) [13] rfl rfl rfl (by kernel_rfl); (focus (intro V' hV; refine deps_val (j := 13) (d := 28) rfl rfl ?_; refine deps_nil ?_; intro K hK; (first | refine gw_q rfl (q_load_o one_3 rfl own9 (by exact rfl)) ?_ | refine gw_q rfl (q_load_o one_3 rfl own9 (by assumption)) ?_ | refine gw_q rfl (q_load_v one_3 rfl (by assumption)) ?_); refine gl_nil rfl ?_; exact at_grow hK rfl (VLe.refl _) rfl)); (try dsimp only [List.cons_append, List.nil_append])); (apply grow_val (n := 15) [14] rfl rfl rfl (by kernel_rfl); (focus (intro V' hV; refine deps_val (j := 14) (d := 29) rfl rfl ?_; refine deps_nil ?_; intro K hK; (first | refine gw_q' rfl (q_call ⟨Try.call90⟩ rfl (two_c _ _ (by omega))) ?_); refine gl_nil rfl ?_; exact at_grow hK rfl (VLe.refl _) rfl)); (try dsimp only [List.cons_append, List.nil_append])); (apply grow_val (n := 16) [12, 15] rfl rfl rfl (by kernel_rfl); (focus (intro V' hV; refine deps_val (j := 12) (d := 27) rfl rfl ?_; refine deps_val (j := 15) (d := 30) rfl rfl ?_; refine deps_nil ?_; intro K hK; (first | refine gw_q rfl (q_saddl rfl rfl (by simp [b16])) ?_ | refine gw_q rfl (q_sadd rfl rfl (by first | omega | (simp only [ByteArray.size_append, ByteArray.size_extract]; omega) | fail)) ?_); refine gl_nil rfl ?_; exact at_grow hK rfl (VLe.refl _) rfl)); (try dsimp only [List.cons_append, List.nil_append])); (apply grow_val (n := 17) [] rfl rfl rfl (by kernel_rfl); (focus (intro V' hV; refine deps_nil ?_; intro K hK; (first | refine gw_q rfl (q_fieldAddr fld_37_5 rfl) ?_); refine gl_nil rfl ?_; exact at_grow hK rfl (VLe.refl _) rfl)); (try dsimp only [List.cons_append, List.nil_append])); (apply grow_val (n := 18) [17] rfl rfl rfl (by kernel_rfl); (focus (intro V' hV; refine deps_val (j := 17) (d := 32) rfl rfl ?_; refine deps_nil ?_; intro K hK; (first | refine gw_q rfl (q_load_o one_34 rfl own9 (by exact rfl)) ?_ | refine gw_q rfl (q_load_o one_34 rfl own9 (by assumption)) ?_ | refine gw_q rfl (q_load_v one_34 rfl (by assumption)) ?_); refine gl_nil rfl ?_; exact at_grow hK rfl (VLe.refl _) rfl)); (try dsimp only [List.cons_append, List.nil_append])); (apply grow_val (n := 19) [18] rfl rfl rfl (by kernel_rfl); (focus (intro V' hV; refine deps_val (j := 18) (d := 33) rfl rfl ?_; refine deps_nil ?_; intro K hK; (first | refine gw_q rfl (q_len rfl und_34 rfl) ?_); refine gl_nil rfl ?_; exact at_grow hK rfl (VLe.refl _) rfl)); (try dsimp only [List.cons_append, List.nil_append])); (apply grow_val (n := 20) [19] rfl rfl rfl (by kernel_rfl); (focus (intro V' hV; refine deps_val (j := 19) (d := 34) rfl rfl ?_; refine deps_nil ?_; intro K hK; (first | refine gw_q rfl (q_conv8 und_3 und_5 rfl) ?_ | refine gw_q rfl (q_bytes (us := [_]) und_93 und_5 und_9 rfl (src_u8 (by assumption) rfl)) ?_); refine gl_nil rfl ?_; exact at_grow hK rfl (VLe.refl _) rfl)); (try dsimp only [List.cons_append, List.nil_append])); (apply grow_new (n := 21) [20] rfl rfl rfl (by kernel_rfl); (focus (intro V' hV; refine deps_val (j := 20) (d := 35) rfl rfl ?_; refine deps_nil ?_; intro K hK; (first | (refine gw_buildSliceV rfl hfl0 und_93 siz_5 zec_5 rfl rfl rfl rfl rfl rfl rfl ?_; intro γ V2 hV2 hg2)); refine gl_nil rfl ?_; exact at_grow hK rfl hV2 ⟨_, rfl, hg2⟩)); (try dsimp only [List.cons_append, List.nil_append])); (apply grow_val (n := 22) [21] rfl rfl rfl (by kernel_rfl); (focus (intro V' hV; refine deps_new (j := 21) (d := 36) rfl rfl ?_; intro g21 hg21; refine deps_nil ?_; intro K hK; (first | refine gw_q rfl (q_conv8 und_3 und_5 rfl) ?_ | refine gw_q rfl (q_bytes (us := [_]) und_93 und_5 und_9 rfl (src_u8 (by assumption) rfl)) ?_); refine gl_nil rfl ?_; exact at_grow hK rfl (VLe.refl _) rfl)); (try dsimp only [List.cons_append, List.nil_append])); (apply grow_val (n := 23) [16, 22] rfl rfl rfl (by kernel_rfl); (focus (intro V' hV; refine deps_val (j := 16) (d := 31) rfl rfl ?_; refine deps_val (j := 22) (d := 37) rfl rfl ?_; refine deps_nil ?_; intro K hK; (first | refine gw_q rfl (q_saddl rfl rfl (by simp [b16])) ?_ | refine gw_q rfl (q_sadd rfl rfl (by first | omega | (simp only [ByteArray.size_append, ByteArray.size_extract]; omega) | fail)) ?_); refine gl_nil rfl ?_; exact at_grow hK rfl (VLe.refl _) rfl)); (try dsimp only [List.cons_append, List.nil_append])); refine grow_last (n := 24) [0, 23] rfl rfl rfl rfl (by kernel_rfl) (by kernel_rfl) (by kernel_rfl) ?_; intro VG hVG; refine deps_val (j := 0) (d := 15) rfl rfl ?_; refine deps_val (j := 23) (d := 38) rfl rfl ?_; refine deps_nil ?_
    repeat' (first | (refine k_gw ?_; (first | (refine k_fieldAddr ?_; (first | refine gw_q rfl (q_fieldAddr fld_37_5 rfl) ?_)) | (refine k_load ?_; (first | refine gw_q rfl (q_load_o one_34 rfl own9 (by exact rfl)) ?_)) | (refine k_move ?_; (first | refine gw_q rfl (q_move rfl) ?_)) | (refine k_call ?_; (first | refine gw_q rfl (q_len rfl und_34 rfl) ?_ | (refine gw_callB rfl ⟨Try.call89⟩ rfl rep9 rfl (WriteString_c _ p l Bs hB _ (by rw [ba_sz]; simp [b16]; omega)) ?_; rintro v V2 B2 hV2 ⟨rfl, hB2⟩; rw [ba_of] at hB2))))) | (refine k_gl ?_; (first | refine gl_nil rfl ?_ | refine gl_go rfl rfl ?_)) | (refine k_gc ?_; (first | refine gc_seq ?_ | refine gc_region ?_ | refine gc_block ?_)) | (refine k_at ?_; (first | refine at_seq ?_ | refine at_then_ret ?_ | refine at_then_exit ?_ | refine at_thn_ret ?_ | refine at_thn_exit ?_ | refine at_block_normal ?_ | refine at_block_ret ?_ | refine at_block_hit ?_ | refine at_block_miss rfl ?_)))
    refine gc_loop (fun F V' L' m => ∃ (k : Nat) (Bk : List Box), VLe V1 V' ∧ (⟨γ, 37, lnC x⟩ :: Bk : List Box) = L' ∧ BldB p (l ++ (layH x.h ++ layA (x.h.attrs.take k))) Bk ∧ k ≤ x.na ∧ m = x.na - k ∧ F = [(0, .pointer (some ⟨p, 0, none⟩)), (3, .pointer (some ⟨γ, 0, none⟩)), (41, .slice x.A x.na x.ca), (42, .int .i64 x.na), (43, .int .i64 k)]) (m := x.na) ⟨0, B2, vl9, rfl, ?_, by omega, rfl, rfl⟩ sub9 rfl sl9 ?_
    · rw [← hal] at hB2
      have e : ([b8 (flagN x.h)] ++ b16 x.h.mode ++ b16 x.h.user ++ b16 x.h.group ++ [b8 (x.h.attrs.length : Int)] : List UInt8) = layH x.h ++ layA (x.h.attrs.take 0) := by simp [layH, layA]
      rw [← e]; exact hB2
    rintro F V' L' m ⟨k, Bk, hV', rfl, hBk, hkn, rfl, rfl⟩
    by_cases hlt : k < x.na
    · obtain ⟨b1, o1, a, hA1, ha1, hc1, _⟩ := (ha.le (hV1.trans hV')).at_ hlt
      have hfa := f5.2 a (List.mem_of_getElem? ha1)
      have hA2 := hA0 (k + 1)
      have hA3 := layA_take ha1
      have hA4 := congrArg List.length hA3
      simp only [List.length_append, layT_len] at hA4
      repeat' (first | (refine k_gw ?_; (first | (refine k_load ?_; (first | refine gw_q rfl (q_loadA_v agg_158 rfl (by assumption) (by exact rfl)) ?_)) | (refine k_binOp ?_; (first | refine gw_q rfl (q_lss rfl rfl) ?_)) | (refine k_indexAddr ?_; (first | refine gw_q rfl (q_indexAddr_e und_34 siz_158 rfl (by assumption) rfl (by omega)) ?_)) | (refine k_alloc ?_; (first | (refine gw_alloc rfl zer_158 rfl ?_; intro γ) | (refine gw_alloc rfl zer_104 rfl ?_; intro γ))) | (refine k_store ?_; (first | refine gw_store rfl siz_158 rfl rfl rfl rfl (by first | exact ones_of rfl | exact ones_pr _ | exact ones_pa _ | exact ones_any (by assumption) | (simp [isOne, spl, *]; done) | fail) put9 rfl ?_)))) | (refine k_gl ?_; (first | refine gl_nil rfl ?_ | refine gl_go rfl rfl ?_)) | (refine k_gc ?_; (first | refine gc_seq ?_ | refine gc_region ?_ | (refine gc_cond_p rfl ?_ ?_ <;> intro hq <;> try (exfalso; first | exact hq rfl | omega)) | refine gc_block ?_ | refine gc_skip ?_)) | (refine k_at ?_; (first | refine at_seq ?_ | refine at_then_ret ?_ | refine at_then_exit ?_ | refine at_thn_ret ?_ | refine at_thn_exit ?_ | refine at_block_normal ?_ | refine at_block_ret ?_ | refine at_block_hit ?_ | refine at_block_miss rfl ?_)))
      refine gc_held (id := 8) _ mixed (List.Sublist.cons_cons _ (List.Sublist.cons_cons _ (List.nil_sublist _))) ?_; (first | refine gh_take 0 rfl panicOk_body (by kernel_rfl) (by kernel_rfl) (by kernel_rfl) rfl rfl rfl vl9 slb9 (q_move rfl) ?_); (first | refine gh_take 1 rfl panicOk_body (by kernel_rfl) (by kernel_rfl) (by kernel_rfl) rfl rfl rfl vl9 slb9 (q_fieldAddr fld_158_0 rfl) ?_); (first | refine gh_take 2 rfl panicOk_body (by kernel_rfl) (by kernel_rfl) (by kernel_rfl) rfl rfl rfl vl9 slb9 (q_load_o one_9 rfl own9 (by exact rfl)) ?_); (first | refine gh_take 4 rfl panicOk_body (by kernel_rfl) (by kernel_rfl) (by kernel_rfl) rfl rfl rfl vl9 slb9 (q_fieldAddr fld_158_1 rfl) ?_); (first | refine gh_take 5 rfl panicOk_body (by kernel_rfl) (by kernel_rfl) (by kernel_rfl) rfl rfl rfl vl9 slb9 (q_load_o one_9 rfl own9 (by exact rfl)) ?_); refine gh_one (i := 3) (by kernel_rfl) rfl rfl vl9 vl9 slb9 ?_; (first | refine gw_q' rfl (q_call ⟨Try.call91⟩ rfl (text_c _ a.n (by omega))) ?_); refine gh_one (i := 6) (by kernel_rfl) rfl rfl vl9 vl9 slb9 ?_; (first | refine gw_q' rfl (q_call ⟨Try.call91⟩ rfl (text_c _ a.v (by omega))) ?_); (first | refine gh_take 7 rfl panicOk_body (by kernel_rfl) (by kernel_rfl) (by kernel_rfl) rfl rfl rfl vl9 slb9 (q_saddl rfl rfl (by simp only [layT_len]; omega)) ?_); refine gh_one (i := 8) (by kernel_rfl) rfl rfl vl9 vl9 slb9 ?_; (first | (refine gw_callB rfl ⟨Try.call89⟩ rfl rep9 rfl (WriteString_c _ p _ Bk hBk _ (by rw [ba_sz]; simp only [List.length_append, layT_len, layH_len]; omega)) ?_; rintro v V3 B3 hV3 ⟨rfl, hB3⟩; rw [ba_of] at hB3)); refine gh_done (by kernel_rfl) vl9 vl9 slb9 ?_
      all_goals
        repeat' (first | (refine k_gw ?_; (first | (refine k_move ?_; (first | refine gw_q rfl (q_move rfl) ?_)) | (refine k_binOp ?_; (first | refine gw_q rfl (q_add rfl rfl (by omega)) ?_)))) | (refine k_gl ?_; (first | refine gl_nil rfl ?_ | refine gl_go rfl rfl ?_)) | (refine k_gc ?_; (first | refine gc_region ?_)) | (refine k_at ?_; (first | refine at_seq ?_ | refine at_then_ret ?_ | refine at_then_exit ?_ | refine at_thn_ret ?_ | refine at_thn_exit ?_ | refine at_block_normal ?_ | refine at_block_ret ?_ | refine at_block_hit ?_ | refine at_block_miss rfl ?_)))
      all_goals
        refine at_round _ (x.na - (k + 1)) ⟨k + 1, B3, vl9, rfl, ?_, by omega, rfl, rfl⟩ (by omega) sub9 sl9
        rw [hA3, ← List.append_assoc (layH x.h), ← List.append_assoc l]
        exact hB3
    · obtain rfl : k = x.na := by omega
      rw [← hal, List.take_length] at hBk
      repeat' (first | (refine k_gw ?_; (first | (refine k_binOp ?_; (first | refine gw_q rfl (q_lss rfl rfl) ?_)))) | (refine k_gl ?_; (first | refine gl_nil rfl ?_ | refine gl_go rfl rfl ?_)) | (refine k_gc ?_; (first | refine gc_seq ?_ | refine gc_region ?_ | (refine gc_cond_p rfl ?_ ?_ <;> intro hq <;> try (exfalso; first | exact hq rfl | omega)) | refine gc_exit ?_)) | (refine k_at ?_; (first | refine at_seq ?_ | refine at_then_ret ?_ | refine at_then_exit ?_ | refine at_thn_ret ?_ | refine at_thn_exit ?_ | refine at_block_normal ?_ | refine at_block_ret ?_ | refine at_block_hit ?_ | refine at_block_miss rfl ?_)))
      refine gc_held (id := 10) _ mixed (List.Sublist.cons_cons _ (List.nil_sublist _)) ?_; (first | refine gh_take 0 rfl panicOk_body (by kernel_rfl) (by kernel_rfl) (by kernel_rfl) rfl rfl rfl vl9 slb9 (q_move rfl) ?_); (first | refine gh_take 1 rfl panicOk_body (by kernel_rfl) (by kernel_rfl) (by kernel_rfl) rfl rfl rfl vl9 slb9 (q_fieldAddr fld_37_6 rfl) ?_); (first | refine gh_take 2 rfl panicOk_body (by kernel_rfl) (by kernel_rfl) (by kernel_rfl) rfl rfl rfl vl9 slb9 (q_load_o one_9 rfl own9 (by exact rfl)) ?_); (first | refine gh_take 4 rfl panicOk_body (by kernel_rfl) (by kernel_rfl) (by kernel_rfl) rfl rfl rfl vl9 slb9 (q_fieldAddr fld_37_7 rfl) ?_); (first | refine gh_take 5 rfl panicOk_body (by kernel_rfl) (by kernel_rfl) (by kernel_rfl) rfl rfl rfl vl9 slb9 (q_load_o one_35 rfl own9 (by exact rfl)) ?_); (first | refine gh_take 6 rfl panicOk_body (by kernel_rfl) (by kernel_rfl) (by kernel_rfl) rfl rfl rfl vl9 slb9 (q_len rfl und_35 rfl) ?_); (first | refine gh_take 7 rfl panicOk_body (by kernel_rfl) (by kernel_rfl) (by kernel_rfl) rfl rfl rfl vl9 slb9 (q_conv8 und_3 und_5 rfl) ?_); (refine gh_two (i := 3) (j := 8) (by kernel_rfl) rfl rfl rfl rfl vl9 vl9 slb9 ?_ ?_ <;> first | ((first | refine gw_q' rfl (q_call ⟨Try.call91⟩ rfl (text_c _ x.h.data (by omega))) ?_); refine gh_one (i := 8) (by kernel_rfl) rfl rfl vl9 vl9 slb9 ?_; (first | (refine gw_buildSlice rfl und_93 siz_5 zec_5 rfl rfl rfl rfl rfl rfl rfl ?_; intro γ)); refine gh_one (i := 9) (by kernel_rfl) rfl rfl vl9 vl9 slb9 ?_; (first | refine gw_q rfl (q_bytes (us := [b8 (x.nk : Int)]) und_93 und_5 und_9 rfl (src_o own9 rfl)) ?_); (first | refine gh_take 10 rfl panicOk_body (by kernel_rfl) (by kernel_rfl) (by kernel_rfl) rfl rfl rfl vl9 slb9 (q_saddl rfl rfl (by simp only [layT_len, List.length_cons, List.length_nil]; omega)) ?_); refine gh_one (i := 11) (by kernel_rfl) rfl rfl vl9 vl9 slb9 ?_; (first | (refine gw_callB rfl ⟨Try.call89⟩ rfl rep9 rfl (WriteString_c _ p _ Bk hBk _ (by rw [ba_sz]; simp only [List.length_append, layT_len, layH_len, List.length_cons, List.length_nil]; omega)) ?_; rintro v V3 B3 hV3 ⟨rfl, hB3⟩; rw [ba_of] at hB3)); refine gh_done (by kernel_rfl) vl9 vl9 slb9 ?_) | ((first | (refine gw_buildSlice rfl und_93 siz_5 zec_5 rfl rfl rfl rfl rfl rfl rfl ?_; intro γ)); (refine gh_two (i := 3) (j := 9) (by kernel_rfl) rfl rfl rfl rfl vl9 vl9 slb9 ?_ ?_ <;> first | ((first | refine gw_q' rfl (q_call ⟨Try.call91⟩ rfl (text_c _ x.h.data (by omega))) ?_); refine gh_one (i := 9) (by kernel_rfl) rfl rfl vl9 vl9 slb9 ?_; (first | refine gw_q rfl (q_bytes (us := [b8 (x.nk : Int)]) und_93 und_5 und_9 rfl (src_o own9 rfl)) ?_); (first | refine gh_take 10 rfl panicOk_body (by kernel_rfl) (by kernel_rfl) (by kernel_rfl) rfl rfl rfl vl9 slb9 (q_saddl rfl rfl (by simp only [layT_len, List.length_cons, List.length_nil]; omega)) ?_); refine gh_one (i := 11) (by kernel_rfl) rfl rfl vl9 vl9 slb9 ?_; (first | (refine gw_callB rfl ⟨Try.call89⟩ rfl rep9 rfl (WriteString_c _ p _ Bk hBk _ (by rw [ba_sz]; simp only [List.length_append, layT_len, layH_len, List.length_cons, List.length_nil]; omega)) ?_; rintro v V3 B3 hV3 ⟨rfl, hB3⟩; rw [ba_of] at hB3)); refine gh_done (by kernel_rfl) vl9 vl9 slb9 ?_) | ((first | refine gw_q rfl (q_bytes (us := [b8 (x.nk : Int)]) und_93 und_5 und_9 rfl (src_o own9 rfl)) ?_); refine gh_one (i := 3) (by kernel_rfl) rfl rfl vl9 vl9 slb9 ?_; (first | refine gw_q' rfl (q_call ⟨Try.call91⟩ rfl (text_c _ x.h.data (by omega))) ?_); (first | refine gh_take 10 rfl panicOk_body (by kernel_rfl) (by kernel_rfl) (by kernel_rfl) rfl rfl rfl vl9 slb9 (q_saddl rfl rfl (by simp only [layT_len, List.length_cons, List.length_nil]; omega)) ?_); refine gh_one (i := 11) (by kernel_rfl) rfl rfl vl9 vl9 slb9 ?_; (first | (refine gw_callB rfl ⟨Try.call89⟩ rfl rep9 rfl (WriteString_c _ p _ Bk hBk _ (by rw [ba_sz]; simp only [List.length_append, layT_len, layH_len, List.length_cons, List.length_nil]; omega)) ?_; rintro v V3 B3 hV3 ⟨rfl, hB3⟩; rw [ba_of] at hB3)); refine gh_done (by kernel_rfl) vl9 vl9 slb9 ?_))))
      all_goals
        repeat' (first | (refine k_gw ?_; (first | (refine k_fieldAddr ?_; (first | refine gw_q rfl (q_fieldAddr fld_37_7 rfl) ?_)) | (refine k_load ?_; (first | refine gw_q rfl (q_load_o one_35 rfl own9 (by exact rfl)) ?_)) | (refine k_move ?_; (first | refine gw_q rfl (q_move rfl) ?_)) | (refine k_call ?_; (first | refine gw_q rfl (q_len rfl und_34 rfl) ?_ | refine gw_q rfl (q_len rfl und_35 rfl) ?_)))) | (refine k_gl ?_; (first | refine gl_nil rfl ?_ | refine gl_go rfl rfl ?_)) | (refine k_gc ?_; (first | refine gc_seq ?_ | refine gc_region ?_ | refine gc_block ?_)) | (refine k_at ?_; (first | refine at_seq ?_ | refine at_then_ret ?_ | refine at_then_exit ?_ | refine at_thn_ret ?_ | refine at_thn_exit ?_ | refine at_block_normal ?_ | refine at_block_ret ?_ | refine at_block_hit ?_ | refine at_block_miss rfl ?_)))
      all_goals
        refine gc_loop (fun F V' L' m => ∃ (k : Nat) (Bk : List Box), VLe V1 V' ∧ Bk = L' ∧ BldB p (l ++ (layH x.h ++ layA x.h.attrs ++ (layT x.h.data ++ [b8 (x.ks.length : Int)]) ++ layK (x.ks.take k))) Bk ∧ k ≤ x.nk ∧ m = x.nk - k ∧ F = [(0, .pointer (some ⟨p, 0, none⟩)), (70, .slice x.K x.nk x.ck), (71, .int .i64 x.nk), (72, .int .i64 k)]) (m := x.nk) ⟨0, B3, vl9, rfl, ?_, by omega, rfl, rfl⟩ sub9 rfl sl9 ?_
        · rw [List.take_zero, layK, List.append_nil, hz, ← List.append_assoc l]; exact hB3
        rintro F V' L' m ⟨k, Bk, hV', rfl, hBk, hkn, rfl, rfl⟩
        by_cases hlt : k < x.nk
        · obtain ⟨b1, o1, e, hK1, he, hem, hc, c0, c1, hms, hne⟩ := (hk.le (hV1.trans hV')).at_ hlt
          have hke := kz_at hks he
          have hfk := f8 _ (List.mem_of_getElem? hke)
          simp only [] at hfk
          have hK2 := hK0 (k + 1)
          have hK3 := layK_take hke
          have hK4 := congrArg List.length hK3
          simp only [List.length_append, layT_len] at hK4
          repeat' (first | (refine k_gw ?_; (first | (refine k_fieldAddr ?_; (first | refine gw_q rfl (q_fieldAddr fld_104_0 rfl) ?_ | refine gw_q rfl (q_fieldAddr fld_104_1 rfl) ?_)) | (refine k_load ?_; (first | refine gw_q rfl (q_load_o one_9 rfl own9 (by exact rfl)) ?_ | refine gw_q rfl (q_loadA_v agg_104 rfl (by assumption) (by exact rfl)) ?_ | refine gw_q rfl (q_loadA_p agg_37 rfl own9 (by exact rfl) (by exact rfl)) ?_)) | (refine k_move ?_; (first | refine gw_q rfl (q_move rfl) ?_)) | (refine k_binOp ?_; (first | refine gw_q rfl (q_add rfl rfl (by omega)) ?_ | refine gw_q rfl (q_lss rfl rfl) ?_)) | (refine k_call ?_; (first | refine gw_q' rfl (q_call ⟨Try.call91⟩ rfl (text_c _ e.nm (by omega))) ?_ | (refine gw_callB rfl ⟨Try.call89⟩ rfl rep9 rfl (WriteString_c _ p _ Bk hBk _ (by rw [ba_sz]; simp only [List.length_append, layT_len, layH_len, List.length_cons, List.length_nil]; omega)) ?_; rintro v V4 B4 hV4 ⟨rfl, hB4⟩; rw [ba_of] at hB4) | (refine gw_callB rfl ⟨Try.call55⟩ rfl rep9 rfl (ih e hem _ (hV1.trans (hV'.trans hV4)) (hfit.kid (List.mem_of_getElem? hke)) _ B4 hB4 (by simp only [List.length_append, layT_len, layH_len, List.length_cons, List.length_nil]; omega)) ?_; rintro v V5 B5 hV5 ⟨rfl, hB5⟩))) | (refine k_indexAddr ?_; (first | refine gw_q rfl (q_indexAddr_e und_35 siz_104 rfl (by assumption) rfl (by omega)) ?_)) | (refine k_alloc ?_; (first | (refine gw_alloc rfl zer_158 rfl ?_; intro γ) | (refine gw_alloc rfl zer_104 rfl ?_; intro γ))) | (refine k_store ?_; (first | refine gw_store rfl siz_104 rfl rfl rfl rfl (by first | exact ones_of rfl | exact ones_pr _ | exact ones_pa _ | exact ones_any (by assumption) | (simp [isOne, spl, *]; done) | fail) put9 rfl ?_)))) | (refine k_gl ?_; (first | refine gl_nil rfl ?_ | refine gl_go rfl rfl ?_)) | (refine k_gc ?_; (first | refine gc_seq ?_ | refine gc_region ?_ | (refine gc_cond_p rfl ?_ ?_ <;> intro hq <;> try (exfalso; first | exact hq rfl | omega)) | refine gc_block ?_ | refine gc_skip ?_)) | (refine k_at ?_; (first | refine at_seq ?_ | refine at_then_ret ?_ | refine at_then_exit ?_ | refine at_thn_ret ?_ | refine at_thn_exit ?_ | refine at_block_normal ?_ | refine at_block_ret ?_ | refine at_block_hit ?_ | refine at_block_miss rfl ?_)))
          refine at_round _ (x.nk - (k + 1)) ⟨k + 1, B5, vl9, rfl, ?_, by omega, rfl, rfl⟩ (by omega) sub9 sl9
          rw [hK3]
          simp only [List.append_assoc] at hB5 ⊢
          exact hB5
        · obtain rfl : k = x.nk := by omega
          rw [List.take_of_length_le (by omega), ← hP] at hBk
          repeat' (first | (refine k_gw ?_; (first | (refine k_binOp ?_; (first | refine gw_q rfl (q_lss rfl rfl) ?_)))) | (refine k_gl ?_; (first | refine gl_nil rfl ?_ | refine gl_go rfl rfl ?_)) | (refine k_gc ?_; (first | refine gc_seq ?_ | refine gc_region ?_ | (refine gc_cond_p rfl ?_ ?_ <;> intro hq <;> try (exfalso; first | exact hq rfl | omega)) | refine gc_exit ?_)) | (refine k_at ?_; (first | refine at_seq ?_ | refine at_then_ret ?_ | refine at_then_exit ?_ | refine at_thn_ret ?_ | refine at_thn_exit ?_ | refine at_block_normal ?_ | refine at_block_ret ?_ | refine at_block_hit ?_ | refine at_block_miss rfl ?_)))
          (first | refine atB_ret0 Try.results55  (List.Sublist.refl _) ?_ | refine atB_end0 Try.results55 (List.Sublist.refl _) ?_)
          exact ⟨rfl, hBk⟩
end Go.Proofs.Ytejkmomfpidnbab

/- The walks of a tree's bytes, by the engine: the program's. -/
namespace Go.Proofs.Ytejkmomfpidnbab
open Go.RowKit
set_option linter.unusedSimpArgs false
set_option linter.unusedVariables false
/-- A tree's bytes, if it may be. -/
def bytesP (n : PN) : List UInt8 := if treeF true n = 0 then layP n else []
attribute [local irreducible] AtQ GoC GoL GoW QO QP Fn RV OwnAt CellsFrom VLe SrcIs errV
set_option maxRecDepth 100000
theorem Bytes_tc (V : View) (x : LN) (hx : NodeV V x) : Fn Try.prog 15 [lnV x] V fun v _ => v = .tuple #[.string ⟨(bytesP x.n).toArray⟩, errV (treeF true x.n)] := by
  have hC := TCheck_c V x hx true
  have hft : treeF true x.n = 0 → AllN fitP x.n ∧ (layP x.n).length ≤ 24000 := treeF_fit
  (refine fn_enter Try.func15 rfl Try.ntmps15 rfl ?_; intro w0)
  repeat' (first | (refine k_gw ?_; (first | (refine k_box ?_; (first | (refine gw_box rfl rfl rfl rfl ?_; intro γ))) | (refine k_assign ?_; (first | refine gw_q rfl (q_assign rfl) ?_)) | (refine k_load ?_; (first | refine gw_q rfl (q_loadA_o agg_37 rfl own9 (by exact rfl)) ?_)) | (refine k_call ?_; (first | refine gw_q' rfl (q_call ⟨Try.call54⟩ rfl (hC)) ?_ | (refine gw_callB rfl ⟨Try.call55⟩ rfl rep9 rfl (lay_c V x hx _ _ (VLe.refl _) (hft (Decidable.not_not.1 hq)).1 [] _ BldB.nil (by have := (hft (Decidable.not_not.1 hq)).2; simp; omega)) ?_; rintro v V2 B2 hV2 ⟨rfl, hB2⟩) | (refine gw_callB rfl ⟨Try.call56⟩ rfl rep9 rfl (BString_c _ _ _ B2 hB2 (by have := (hft (Decidable.not_not.1 hq)).2; simp; omega)) ?_; rintro v V3 B3 hV3 rfl))) | (refine k_move ?_; (first | refine gw_q rfl (q_move rfl) ?_)) | (refine k_binOp ?_; (first | refine gw_q rfl (q_eneq rfl) ?_)) | (refine k_alloc ?_; (first | (refine gw_alloc rfl zer_95 rfl ?_; intro γ))))) | (refine k_gl ?_; (first | refine gl_nil rfl ?_ | refine gl_go rfl rfl ?_)) | (refine k_gc ?_; (first | refine gc_seq ?_ | refine gc_region ?_ | (refine gc_cond_p rfl ?_ ?_ <;> intro hq <;> try (exfalso; first | exact hq rfl | omega)) | refine gc_ret ?_ | refine gc_skip ?_)) | (refine k_at ?_; (first | refine at_seq ?_ | refine at_then_ret ?_ | refine at_then_exit ?_ | refine at_thn_ret ?_ | refine at_thn_exit ?_ | refine at_block_normal ?_ | refine at_block_ret ?_ | refine at_block_hit ?_ | refine at_block_miss rfl ?_)))
  · (refine at_ret2 Try.results15 (rv_tmp rfl) (rv_tmp rfl) ?_)
    unfold bytesP; rw [if_neg hq]
  · (refine at_ret2 Try.results15 (rv_tmp rfl) (rv_tmp rfl) ?_)
    have hq := Decidable.not_not.1 hq
    unfold bytesP; rw [if_pos hq, hq, errV_zero]; rfl
theorem TSize_c (V : View) (x : LN) (hx : NodeV V x) : Fn Try.prog 18 [lnV x] V fun v _ => v = .int .i64 ((bytesP x.n).length : Int) := by
  have hB := Bytes_tc V x hx
  (refine fn_enter Try.func18 rfl Try.ntmps18 rfl ?_; intro w0)
  repeat' (first | (refine k_gw ?_; (first | (refine k_box ?_; (first | (refine gw_box rfl rfl rfl rfl ?_; intro γ))) | (refine k_assign ?_; (first | refine gw_q rfl (q_assign rfl) ?_)) | (refine k_load ?_; (first | refine gw_q rfl (q_loadA_o agg_37 rfl own9 (by exact rfl)) ?_)) | (refine k_call ?_; (first | refine gw_q rfl (q_slen rfl und_9 rfl) ?_ | refine gw_q' rfl (q_call ⟨Try.call15⟩ rfl (hB)) ?_)) | (refine k_move ?_; (first | refine gw_q rfl (q_move rfl) ?_)) | (refine k_extract ?_; (first | refine gw_q rfl (q_extract rfl rfl) ?_)))) | (refine k_gl ?_; (first | refine gl_nil rfl ?_ | refine gl_go rfl rfl ?_)) | (refine k_gc ?_; (first | refine gc_seq ?_ | refine gc_region ?_ | refine gc_ret ?_)) | (refine k_at ?_; (first | refine at_seq ?_ | refine at_then_ret ?_ | refine at_then_exit ?_ | refine at_thn_ret ?_ | refine at_thn_exit ?_ | refine at_block_normal ?_ | refine at_block_ret ?_ | refine at_block_hit ?_ | refine at_block_miss rfl ?_)))
  all_goals (refine at_ret1 Try.results18 (rv_tmp rfl) ?_)
  all_goals rfl
end Go.Proofs.Ytejkmomfpidnbab

/- A box, in plain terms: what its calls answer, and do. -/
namespace Go.Proofs.Ytejkmomfpidnbab
open Go.RowKit
set_option linter.unusedSimpArgs false
set_option linter.unusedVariables false
structure BX where
  us : List PR
  gs : List PR
  c : CR
  q : Int
  ls : List PN
/-- A node, as rights see it. -/
def seenT (up : Bool) (us gs : List PR) (h : Hd) : TH := ⟨decide (h.kind = 2), h.mode, (if up = true then (fromZ us h.user).getD 65534 else if (hostZ us h.user).isSome = true then h.user else 65534), (if up = true then (fromZ gs h.group).getD 65534 else if (hostZ gs h.group).isSome = true then h.group else 65534), (if up = true then (fromZ us h.user).isSome && (fromZ gs h.group).isSome else (hostZ us h.user).isSome && (hostZ gs h.group).isSome)⟩
/-- What one has come to. -/
structure SP where
  is : Bool
  n : PN
  lay : Int
  th : TH
  par : TH
def lookS (b : BX) (ss : List ByteArray) (par : TH) : SP :=
  match walkP b.ls ss with
  | [] => ⟨false, pnZ, 0, seenT true b.us b.gs hZ, par⟩
  | f :: _ => ⟨true, f.1, f.2, seenT (decide (f.2 = 0)) b.us b.gs f.1.h, par⟩
def spotK (b : BX) (ss : List ByteArray) : Nat → SP × Int
  | 0 => (lookS b [] thZ, 0)
  | k + 1 => if ¬ (spotK b ss k).2 = 0 then spotK b ss k
    else if ¬ (spotK b ss k).1.n.h.kind = 2 then ((spotK b ss k).1, 7)
    else if mayT b.c (spotK b ss k).1.th 1 = false then ((spotK b ss k).1, 9)
    else if (lookS b (ss.take (k + 1)) (spotK b ss k).1.th).is = false ∧ k + 1 < ss.length then ((spotK b ss k).1, 5)
    else (lookS b (ss.take (k + 1)) (spotK b ss k).1.th, 0)
/-- What is at names. -/
def spotP (b : BX) (ss : List ByteArray) : SP × Int := spotK b ss ss.length
/-- What is at a path. -/
def thereF (b : BX) (l : List UInt8) : Int := if ¬ pathF l = 0 then pathF l else if ¬ (spotP b (pathN l)).2 = 0 then (spotP b (pathN l)).2 else if (spotP b (pathN l)).1.is = false then 5 else 0
def thereS (b : BX) (l : List UInt8) : SP := (spotP b (pathN l)).1
/-! What a call does. -/
end Go.Proofs.Ytejkmomfpidnbab

/- The walks of a path's split, by the engine. -/
namespace Go.Proofs.Ytejkmomfpidnbab
open Go.RowKit
set_option linter.unusedSimpArgs false
set_option linter.unusedVariables false
theorem ba_get9 (s : ByteArray) (i : Nat) : s[i]? = s.toList[i]? := by
  rw [Lib.toList_data]
  by_cases h : i < s.size
  · rw [getElem?_pos s i h, List.getElem?_eq_getElem (by exact h)]; rfl
  · rw [getElem?_neg s i h, List.getElem?_eq_none (by simpa using h)]
theorem ex_mid9 (l : List UInt8) (i j : Nat) : (⟨l.toArray⟩ : ByteArray).extract i j = ⟨((l.drop i).take (j - i)).toArray⟩ := by
  rw [ba_is ((⟨l.toArray⟩ : ByteArray).extract i j), Lib.toList_data]
  simp [ByteArray.data_extract]
section
variable {P : Program} {B : Base} {N : Nat} {F : List (Nat × Value)} {V : View} {L : List Box}
variable {d : Option Tmp} {ty : TypeId} {pos : String} {af : Array Edge} {gd : Option (Nat × Bool)} {t : TypeId} {x : Operand}
theorem q_sslice_ld {lo : Operand} {l : List UInt8} {i : Nat} (hu : UnderIs P t .string) (hx : evF F x = some (.string ⟨l.toArray⟩)) (hl : evF F lo = some (.int .i64 (i : Int))) (h2 : i ≤ l.length) : QP P B N V L ⟨d, .slice t x (some lo) none none, ty, pos, af, gd⟩ F (.string ⟨(l.drop i).toArray⟩) := by
  have := q_sslice_l (P := P) (B := B) (N := N) (V := V) (L := L) (d := d) (ty := ty) (pos := pos) (af := af) (gd := gd) hu hx hl (by rw [ba_sz]; exact h2)
  rw [ex_drop9] at this; exact this
theorem q_sslice_m {lo hi : Operand} {l : List UInt8} {i j : Nat} (hu : UnderIs P t .string) (hx : evF F x = some (.string ⟨l.toArray⟩)) (hl : evF F lo = some (.int .i64 (i : Int))) (hh : evF F hi = some (.int .i64 (j : Int))) (h1 : i ≤ j) (h2 : j ≤ l.length) : QP P B N V L ⟨d, .slice t x (some lo) (some hi) none, ty, pos, af, gd⟩ F (.string ⟨((l.drop i).take (j - i)).toArray⟩) := by
  have := q_sslice (P := P) (B := B) (N := N) (V := V) (L := L) (d := d) (ty := ty) (pos := pos) (af := af) (gd := gd) hu hx hl hh h1 (by rw [ba_sz]; exact h2)
  rw [ex_mid9] at this; exact this
end
/-- What Split answers. -/
def SplitR (l : List UInt8) (er : Value) (v : Value) (V' : View) : Prop := ∃ (A : Option Addr) (n c : Nat), v = .tuple #[.slice A n c, er] ∧ StrsV V' A n (pathN l) ∧ n ≤ c
theorem pathN_root : pathN [47] = [] := by unfold pathN; rw [if_neg (fun h => h.2 rfl)]
theorem pathF_ok {r : List UInt8} (h0 : ¬ r = []) (h2 : r.length ≤ 78) (h : allN (parts r) = true) (h6 : ¬ 6 < (parts r).length) : pathF (47 :: r) = 0 := by
  unfold pathF; rw [if_neg (by simpa using h0), if_neg (by simp; omega), if_neg (by show ¬ ¬ allN (parts r) = true; rw [h]; decide)]; exact if_neg h6
theorem pathN_ok {r : List UInt8} (h0 : ¬ r = []) (h : pathF (47 :: r) = 0) : pathN (47 :: r) = baL (parts r) := by unfold pathN; rw [if_pos ⟨h, by simpa using h0⟩]; rfl
theorem SplitR.root {V : View} {er : Value} : SplitR [47] er (.tuple #[.slice none 0 0, er]) V := ⟨none, 0, 0, rfl, by rw [pathN_root]; exact StrsV.nil, Nat.le_refl _⟩
theorem SplitR.ok {r : List UInt8} {V : View} {er : Value} {A : Option Addr} {n c : Nat} {ps : List (List UInt8)} (h0 : ¬ r = []) (h2 : r.length ≤ 78) (hp : parts r = ps) (h : allN ps = true) (h6 : ¬ 6 < ps.length) (hc : CellsV V 1 A n ((baL ps).flatMap strC)) (hl : ps.length = n) (hnc : n ≤ c) : SplitR (47 :: r) er (.tuple #[.slice A n c, er]) V := by
  subst hp
  refine ⟨A, n, c, rfl, ?_, hnc⟩
  rw [pathN_ok h0 (pathF_ok h0 h2 h h6)]
  refine ⟨ElsV.of_cells hc (fun _ => rfl) (by unfold baL; rw [List.length_map]; exact hl) (by unfold maxLen; omega), fun s hs => ?_⟩
  obtain ⟨p, hp, rfl⟩ := List.mem_map.1 hs
  have := name_size (s := ⟨p.toArray⟩) (by rw [ba_of]; exact List.all_eq_true.1 h p hp)
  unfold maxLen; omega
attribute [local irreducible] AtQ GoC GoL GoW QO QP Fn RV OwnAt CellsFrom VLe SrcIs errV
set_option maxRecDepth 100000
end Go.Proofs.Ytejkmomfpidnbab

/- The engine: great structs are built, and stored whole, as plain lists. No program is named here. -/
namespace Go.Proofs.Ytejkmomfpidnbab
open Go.RowKit
set_option linter.unusedSimpArgs false
set_option linter.unusedVariables false
end Go.Proofs.Ytejkmomfpidnbab

/- The walks of a box's reading, by the engine: seen, to, there. -/
namespace Go.Proofs.Ytejkmomfpidnbab
open Go.RowKit
set_option linter.unusedSimpArgs false
set_option linter.unusedVariables false
/-! A box in memory. -/
structure BI where
  M : LM
  A : Option Addr
  n : Nat
  k : Nat
  K : Option Addr
  m : Nat
  e : Nat
  xs : List LN
abbrev mC (M : LM) : List Value := [.slice M.A M.n M.c, .slice M.B M.m M.e]
abbrev crC (c : CR) (A : Option Addr) (n k : Nat) : List Value := [.int .i64 c.u, .int .i64 c.g, .slice A n k, .int .i64 c.d]
abbrev bxC (I : BI) (b : BX) : List Value := [.slice I.M.A I.M.n I.M.c, .slice I.M.B I.M.m I.M.e, .int .i64 b.c.u, .int .i64 b.c.g, .slice I.A I.n I.k, .int .i64 b.c.d, .int .i64 b.q, .slice I.K I.m I.e]
structure BoxI (V : View) (b : BX) (I : BI) : Prop where
  M : MapsV V I.M
  us : I.M.us = b.us
  gs : I.M.gs = b.gs
  xs : IntsV V I.A I.n b.c.xs
  nk : True
  ls : NodesV V I.K I.m I.xs
  le : I.m ≤ I.e
  eq : I.xs.map LN.n = b.ls
theorem BoxI.len {V : View} {b : BX} {I : BI} (h : BoxI V b I) : b.ls.length = I.m := by rw [← h.eq, List.length_map]; exact h.ls.1.1
theorem BoxI.up {V V' : View} {b : BX} {I : BI} (h : BoxI V b I) (hv : VLe V V') : BoxI V' b I := ⟨h.M.le hv, h.us, h.gs, h.xs.le hv, h.nk, h.ls.le hv, h.le, h.eq⟩
def BoxV (V : View) (p : Nat) (b : BX) (I : BI) : Prop := CellsFrom V p 0 (bxC I b) ∧ BoxI V b I
theorem BoxV.le {V V' : View} {p : Nat} {b : BX} {I : BI} (h : BoxV V p b I) (hv : VLe V V') : BoxV V' p b I := ⟨h.1.le hv, h.2.up hv⟩
theorem cells_sub {V : View} {g o : Nat} {xs : List Value} (h : CellsFrom V g o xs) (a n : Nat) {ys : List Value} (hy : (xs.drop a).take n = ys) : CellsFrom V g (o + a) ys := fun j v hj => by
  subst hy
  rw [List.getElem?_take] at hj
  split at hj
  · rw [List.getElem?_drop] at hj
    have := h (a + j) v hj
    rw [show o + a + j = o + (a + j) by omega]; exact this
  · cases hj
theorem BoxV.parts {V : View} {p : Nat} {b : BX} {I : BI} (h : BoxV V p b I) : CellsFrom V p (0 + 0) (mC I.M) ∧ CellsFrom V p (0 + 2) (crC b.c I.A I.n I.k) ∧ V ⟨p, 0 + 6, none⟩ = some (.int .i64 b.q) ∧ V ⟨p, 0 + 7, none⟩ = some (.slice I.K I.m I.e) :=
  ⟨cells_sub h.1 0 2 rfl, cells_sub h.1 2 4 rfl, h.1 6 _ rfl, h.1 7 _ rfl⟩
/-- A box that may be. -/
structure BoxOk (b : BX) : Prop where
  c : credF b.c.u b.c.g b.c.d b.c.xs = 0
  q : 1 ≤ b.q ∧ b.q ≤ 64
  l1 : 0 < b.ls.length
  l4 : b.ls.length ≤ 4
  up : ∀ x, b.ls[0]? = some x → treeF true x = 0
  lo : ∀ j x, 0 < j → b.ls[j]? = some x → treeF false x = 0
theorem BoxOk.tree {b : BX} (h : BoxOk b) : ∀ x ∈ b.ls, ∃ u, treeF u x = 0 := fun x hx => by
  obtain ⟨j, hj, rfl⟩ := List.getElem_of_mem hx
  rcases Nat.eq_zero_or_pos j with rfl | h0
  · exact ⟨true, h.up _ (List.getElem?_eq_getElem hj)⟩
  · exact ⟨false, h.lo j _ h0 (List.getElem?_eq_getElem hj)⟩
theorem fit_small {h : Hd} {ks : PKs} (k : fitP h ks) : smallP h ks := by
  obtain ⟨_, _, _, _, h5, _, h7, _⟩ := k
  exact ⟨by have := h5.1; omega, by omega⟩
theorem BoxOk.names {b : BX} (h : BoxOk b) : ∀ x ∈ b.ls, AllN nmP x := fun x hx => by
  obtain ⟨u, hu⟩ := h.tree x hx
  exact tree_names hu
theorem BoxOk.d {b : BX} (h : BoxOk b) : 0 ≤ b.c.d ∧ b.c.d ≤ 15 := (credF_zero h.c).2.2.1
theorem BoxOk.root {b : BX} (h : BoxOk b) : ∃ n0 t, b.ls = n0 :: t ∧ n0.h.kind = 2 := by
  cases hl : b.ls with
  | nil => have := h.l1; rw [hl] at this; simp at this
  | cons n0 t => exact ⟨n0, t, rfl, (treeF_ok.1 (h.up n0 (by rw [hl]; rfl))).1⟩
section
variable {B : Base} {N : Nat} {F : List (Nat × Value)} {V : View} {L : List Box}
variable {d : Option Tmp} {ty : TypeId} {pos : String} {af : Array Edge} {gd : Option (Nat × Bool)}
end
/-! What is found. -/
abbrev foC (x : LN) (lay : Int) (par th : TH) : List Value := [.int .i64 x.h.kind, .int .i64 x.h.mode, .int .i64 x.h.user, .int .i64 x.h.group, .bool x.h.opq, .slice x.A x.na x.ca, .string x.h.data, .slice x.K x.nk x.ck, .int .i64 lay, .bool par.dir, .int .i64 par.mode, .int .i64 par.user, .int .i64 par.group, .bool par.mapped, .bool th.dir, .int .i64 th.mode, .int .i64 th.user, .int .i64 th.group, .bool th.mapped]
abbrev foV (x : LN) (lay : Int) (par th : TH) : Value := .agg (foC x lay par th).toArray
attribute [local irreducible] AtQ GoC GoL GoW QO QP Fn RV OwnAt CellsFrom VLe SrcIs errV
set_option maxRecDepth 100000
/-- What one comes to. -/
def ToR (s : SP × Int) (v : Value) (V' : View) : Prop := (s.2 = 0 ∧ ∃ x : LN, v = .tuple #[foV x s.1.lay s.1.par s.1.th, .bool s.1.is, errV 0] ∧ NodeV V' x ∧ x.n = s.1.n) ∨ (¬ s.2 = 0 ∧ v = .tuple #[foV lnZ 0 thZ thZ, .bool false, errV s.2])
end Go.Proofs.Ytejkmomfpidnbab

/- The walks of a box's reading, by the engine: there, takes, attrs. -/
namespace Go.Proofs.Ytejkmomfpidnbab
open Go.RowKit
set_option linter.unusedSimpArgs false
set_option linter.unusedVariables false
/-- What is at a path. -/
def ThereB (b : BX) (l : List UInt8) (v : Value) (V' : View) : Prop := (thereF b l = 0 ∧ ∃ (A : Option Addr) (n c : Nat) (x : LN), v = .tuple #[.slice A n c, foV x (thereS b l).lay (thereS b l).par (thereS b l).th, errV 0] ∧ StrsV V' A n (pathN l) ∧ n ≤ c ∧ NodeV V' x ∧ x.n = (thereS b l).n) ∨ (¬ thereF b l = 0 ∧ ∃ (A : Option Addr) (n c : Nat) (x : LN) (lay : Int) (par th : TH), v = .tuple #[.slice A n c, foV x lay par th, errV (thereF b l)])
attribute [local irreducible] AtQ GoC GoL GoW QO QP Fn RV OwnAt CellsFrom VLe SrcIs errV
set_option maxRecDepth 100000
/-! Calls, and what they are told. -/
structure TD where
  kind : Int
  mode : Int
  user : Int
  group : Int
  size : Int
  names : List ByteArray
  data : ByteArray
def tdZ : TD := ⟨0, 0, 0, 0, 0, [], ⟨#[]⟩⟩
abbrev tdV (t : TD) (A : Option Addr) (n c : Nat) : Value := .agg #[.int .i64 t.kind, .int .i64 t.mode, .int .i64 t.user, .int .i64 t.group, .int .i64 t.size, .slice A n c, .string t.data]
def ToldR (r : TD × Int) (ev : Value) (v : Value) (V' : View) : Prop := ∃ (A : Option Addr) (n c : Nat), v = .tuple #[tdV r.1 A n c, ev] ∧ StrsV V' A n r.1.names ∧ n ≤ c
theorem ToldR.zero {ev : Value} {e : Int} {V' : View} : ToldR (tdZ, e) ev (.tuple #[tdV tdZ none 0 0, ev]) V' := ⟨none, 0, 0, rfl, StrsV.nil, Nat.le_refl _⟩
end Go.Proofs.Ytejkmomfpidnbab

/- The engine: boxes' cells are lent to a callee that only reads; what it hands back. No program is named here. -/
namespace Go.Proofs.Ytejkmomfpidnbab
open Go.RowKit
set_option linter.unusedSimpArgs false
set_option linter.unusedVariables false
/-- Cells of blocks. -/
def cellAt : List (Nat × List Value) → Addr → Option Value
  | [], _ => none
  | (g, cs) :: t, p => if p.block = g ∧ p.spot = none then cs[p.off]? else cellAt t p
/-- A view without blocks. -/
def View.off (V : View) (gs : List Nat) : View := fun p => if p.block ∈ gs then none else V p
theorem cellAt_mem : ∀ {Cs : List (Nat × List Value)} {p : Addr} {x : Value}, cellAt Cs p = some x → ∃ cs, (p.block, cs) ∈ Cs ∧ p.spot = none ∧ cs[p.off]? = some x
  | [], _, _, h => by cases h
  | (g, cs) :: t, p, x, h => by
    rw [cellAt] at h
    by_cases hc : p.block = g ∧ p.spot = none
    · rw [if_pos hc] at h
      exact ⟨cs, by rw [hc.1]; simp, hc.2, h⟩
    · rw [if_neg hc] at h
      obtain ⟨cs', h1, h2, h3⟩ := cellAt_mem h
      exact ⟨cs', by simp [h1], h2, h3⟩
/-- What a view knows stands elsewhere than boxes, and these apart. -/
structure Apart (V : View) (Bs : List Box) : Prop where
  v : ∀ p x, V p = some x → ∀ b ∈ Bs, b.g ≠ p.block
  nd : (Bs.map Box.g).Nodup
theorem St.apart {B : Base} {V : View} {Bs : List Box} {w : World} (hs : St B V Bs w) : Apart V Bs := ⟨fun p x hp => (hs.view p x hp).2, hs.nodup⟩
section
variable {P : Program}
end
/-! What the callee hands back stands elsewhere. -/
/-- Cells that are no attribute's and no kid's: behind a text there is a slice, and the text is empty. -/
def Calm (V : View) (gs : List Nat) : Prop := ∀ b o s, b ∈ gs → V ⟨b, o, none⟩ = some (.string s) → s.size = 0 ∧ ∀ u, V ⟨b, o + 1, none⟩ = some u → ∃ A n c, u = .slice A n c
def calmC (cs : List Value) : Prop := ∀ (i : Nat) (s : ByteArray), cs[i]? = some (.string s) → s.size = 0 ∧ ∀ u, cs[i + 1]? = some u → ∃ A n c, u = .slice A n c
theorem off_at {V : View} {gs : List Nat} {p : Addr} {x : Value} (hn : ¬ p.block ∈ gs) (h : V p = some x) : V.off gs p = some x := by unfold View.off; rw [if_neg hn]; exact h
theorem Calm.of {V : View} {gs : List Nat} {Cs : List (Nat × List Value)} (h : ∀ p x, p.block ∈ gs → V p = some x → cellAt Cs p = some x) (hc : ∀ c ∈ Cs, calmC c.2) (hu : (Cs.map Prod.fst).Nodup) : Calm V gs := fun b o s hb hs => by
  have key : ∀ {Cs : List (Nat × List Value)}, (Cs.map Prod.fst).Nodup → ∀ {cs : List Value} {o : Nat} {x : Value}, (b, cs) ∈ Cs → cellAt Cs ⟨b, o, none⟩ = some x → cs[o]? = some x := fun {Cs} => by
    induction Cs with
    | nil => intro _ cs o x hm; cases hm
    | cons c Cs ih =>
      intro hu cs o x hm hx
      obtain ⟨g, cs0⟩ := c
      rw [List.map_cons, List.nodup_cons] at hu
      rw [cellAt] at hx
      rcases List.mem_cons.1 hm with h1 | h1
      · cases h1
        rw [if_pos ⟨rfl, rfl⟩] at hx; exact hx
      · have hne : ¬ b = g := fun e => hu.1 (by rw [← e]; exact List.mem_map.2 ⟨_, h1, rfl⟩)
        rw [if_neg (by rintro ⟨e, _⟩; exact hne e)] at hx
        exact ih hu.2 h1 hx
  obtain ⟨cs, h1, h2, h3⟩ := cellAt_mem (h _ _ hb hs)
  obtain ⟨h4, h5⟩ := hc _ h1 _ _ h3
  exact ⟨h4, fun u hu2 => h5 u (key hu h1 (h _ _ hb hu2))⟩
end Go.Proofs.Ytejkmomfpidnbab

/- Nodes, attributes, names that a callee hands back stand elsewhere than what it was lent. -/
namespace Go.Proofs.Ytejkmomfpidnbab
open Go.RowKit
set_option linter.unusedSimpArgs false
set_option linter.unusedVariables false
theorem cells_off {V : View} {gs : List Nat} {b o : Nat} {cs : List Value} (hb : ¬ b ∈ gs) (h : CellsFrom V b o cs) : CellsFrom (V.off gs) b o cs := fun j v hj => off_at hb (h j v hj)
theorem els_off {α : Type} {V : View} {gs : List Nat} {sz : Nat} {f : α → List Value} {A : Option Addr} {n : Nat} {xs : List α} (h : ElsV V sz f A n xs) (hb : ∀ (b o : Nat) (x : α), b ∈ gs → ¬ CellsFrom V b o (f x)) : ElsV (V.off gs) sz f A n xs := by
  refine ⟨h.1, h.2.1, fun hn => ?_⟩
  obtain ⟨b, off, ha, hc⟩ := h.2.2 hn
  have hl := h.1
  have h0 : xs[0]? = some (xs[0]'(by omega)) := List.getElem?_eq_getElem (by omega)
  have hnb : ¬ b ∈ gs := fun hm => hb b _ _ hm (hc 0 _ h0)
  exact ⟨b, off, ha, fun k x hk => cells_off hnb (hc k x hk)⟩
theorem AttrV.off {V : View} {gs : List Nat} (hc : Calm V gs) {A : Option Addr} {n : Nat} {xs : List PA} (h : AttrV V A n xs) : AttrV (V.off gs) A n xs :=
  ⟨els_off h.1 (fun b o x hb hx => by
    obtain ⟨_, h2⟩ := hc b (o + 0) x.n hb (hx 0 _ rfl)
    obtain ⟨A', n', c', h3⟩ := h2 _ (hx 1 _ rfl)
    cases h3), h.2⟩
theorem kids_off {V : View} {gs : List Nat} (hc : Calm V gs) {A : Option Addr} {n : Nat} {es : List LK} (h : ElsV V 9 lkC A n es) : ElsV (V.off gs) 9 lkC A n es :=
  els_off h fun b o x hb hx => by
    obtain ⟨_, h2⟩ := hc b (o + 0) x.nm hb (hx 0 _ rfl)
    obtain ⟨A', n', c', h3⟩ := h2 _ (hx 1 _ rfl)
    cases h3
theorem NodeV.off {V : View} {gs : List Nat} (hc : Calm V gs) {x : LN} (h : NodeV V x) : NodeV (V.off gs) x := by
  induction h with
  | mk x es ha hca hd hk hck hks hn hs ih => exact .mk x es (ha.off hc) hca hd (kids_off hc hk) hck hks hn ih
theorem StrsV.off {V : View} {gs : List Nat} (hc : Calm V gs) {A : Option Addr} {n : Nat} {xs : List ByteArray} (h : StrsV V A n xs) (hne : ∀ s ∈ xs, 0 < s.size) : StrsV (V.off gs) A n xs := by
  refine ⟨⟨h.1.1, h.1.2.1, fun hn => ?_⟩, h.2⟩
  obtain ⟨b, off, ha, hcs⟩ := h.1.2.2 hn
  have hl := h.1.1
  have h0 : xs[0]? = some (xs[0]'(by omega)) := List.getElem?_eq_getElem (by omega)
  have hnb : ¬ b ∈ gs := fun hm => by
    obtain ⟨h1, _⟩ := hc b (off + 0 * 1 + 0) _ hm (hcs 0 _ h0 0 _ rfl)
    have := hne _ (List.getElem_mem (by omega : 0 < xs.length))
    omega
  exact ⟨b, off, ha, fun k x hk => cells_off hnb (hcs k x hk)⟩
end Go.Proofs.Ytejkmomfpidnbab

/- The walks of Lights, copies, sameNodes, by the engine. -/
namespace Go.Proofs.Ytejkmomfpidnbab
open Go.RowKit
set_option linter.unusedSimpArgs false
set_option linter.unusedVariables false
theorem ones_ln (l : List LN) : ∀ u ∈ l.flatMap lnC, isOne u = true := fun u hu => by
  obtain ⟨r, _, hr⟩ := List.mem_flatMap.1 hu
  simp only [List.mem_cons, List.not_mem_nil, or_false] at hr
  rcases hr with rfl | rfl | rfl | rfl | rfl | rfl | rfl | rfl <;> rfl
theorem ones_n1 (x : LN) : ∀ u ∈ lnC x, isOne u = true := fun u hu => ones_ln [x] u (by simpa using hu)
theorem ln_len (x : LN) : (lnC x).length = 8 := rfl
theorem NodesV.of {V : View} {A : Option Addr} {n : Nat} {xs : List LN} (hc : CellsV V 8 A n (xs.flatMap lnC)) (hl : xs.length = n) (hm : n ≤ maxLen) (hg : ∀ x ∈ xs, NodeV V x) : NodesV V A n xs := ⟨ElsV.of_cells hc ln_len hl hm, hg⟩
attribute [local irreducible] AtQ GoC GoL GoW QO QP Fn RV OwnAt CellsFrom VLe SrcIs errV
set_option maxRecDepth 100000
end Go.Proofs.Ytejkmomfpidnbab

/- A box whose struct and layers may be written; the walk of grows, by the engine. -/
namespace Go.Proofs.Ytejkmomfpidnbab
open Go.RowKit
set_option linter.unusedSimpArgs false
set_option linter.unusedVariables false
structure BoxW (V : View) (b : BX) (I : BI) (L1 : List Box) : Prop where
  M : MapsV V I.M
  us : I.M.us = b.us
  gs : I.M.gs = b.gs
  xs : IntsV V I.A I.n b.c.xs
  nk : True
  row : RowL I.K I.m I.e 37 8 (I.xs.flatMap lnC) L1
  ls : ∀ x ∈ I.xs, NodeV V x
  len : I.xs.length = I.m
  eq : I.xs.map LN.n = b.ls
def BoxB (V : View) (p : Nat) (b : BX) (Bs : List Box) : Prop := ∃ (I : BI) (L1 : List Box), Bs = ⟨p, 208, bxC I b⟩ :: L1 ∧ BoxW V b I L1
theorem BoxW.le {V V' : View} {b : BX} {I : BI} {L1 : List Box} (h : BoxW V b I L1) (hv : VLe V V') : BoxW V' b I L1 := ⟨h.M.le hv, h.us, h.gs, h.xs.le hv, h.nk, h.row, fun x hx => (h.ls x hx).le hv, h.len, h.eq⟩
theorem BoxB.le {V V' : View} {p : Nat} {b : BX} {Bs : List Box} (h : BoxB V p b Bs) (hv : VLe V V') : BoxB V' p b Bs := by
  obtain ⟨I, L1, h1, h2⟩ := h
  exact ⟨I, L1, h1, h2.le hv⟩
theorem BoxW.lens {V : View} {b : BX} {I : BI} {L1 : List Box} (h : BoxW V b I L1) : b.ls.length = I.m := by rw [← h.eq, List.length_map, h.len]
theorem BoxOk.data {V : View} {b : BX} {I : BI} {L1 : List Box} (hok : BoxOk b) (h : BoxW V b I L1) : ∀ x ∈ I.xs, x.h.data.size = 0 := fun x hx => by
  have hm : x.n ∈ b.ls := by rw [← h.eq]; exact List.mem_map_of_mem (f := LN.n) hx
  obtain ⟨u, hu⟩ := hok.tree _ hm
  obtain ⟨hk, hc⟩ := treeF_ok.1 hu
  obtain ⟨_, h1, _⟩ := countF_ok.1 hc
  unfold oneF at h1
  have hk' : x.h.kind = 2 := hk
  by_cases hd : x.h.data.size = 0
  · exact hd
  · exfalso
    split at h1
    · omega
    · split at h1
      · omega
      · split at h1
        · rename_i h9; exact h9 h1
        · split at h1
          · omega
          · split at h1
            · omega
            · rename_i h9
              exact h9 (.inr (.inl ⟨by show ¬ x.h.kind = 1; omega, by show 0 < x.h.data.size; omega⟩))
theorem ToR.off {s : SP × Int} {v : Value} {V : View} {gs : List Nat} (hc : Calm V gs) (h : ToR s v V) : ToR s v (V.off gs) := by
  rcases h with ⟨h1, x, h2, h3, h4⟩ | h
  · exact .inl ⟨h1, x, h2, h3.off hc, h4⟩
  · exact .inr h
theorem name_pos {s : ByteArray} (h : nameZ s.toList = true) : 0 < s.size := by
  rcases Nat.eq_zero_or_pos s.size with h0 | h0
  · exfalso
    have : s.toList = [] := List.eq_nil_of_length_eq_zero (by rw [Lib.toList_data, Array.length_toList]; exact h0)
    rw [this] at h
    exact absurd h (by decide)
  · exact h0
theorem pathN_pos {l : List UInt8} : ∀ s ∈ pathN l, 0 < s.size := fun s hs => by
  unfold pathN at hs
  split at hs
  · rename_i hc
    obtain ⟨h1, h2⟩ := hc
    unfold pathF at h1
    rw [if_neg h2] at h1
    split at h1
    · omega
    · split at h1
      · omega
      · rename_i h3
        have h3 := Decidable.not_not.1 h3
        obtain ⟨q, hq, rfl⟩ := List.mem_map.1 hs
        have := List.all_eq_true.1 h3 q hq
        refine name_pos ?_
        rw [Lib.toList_data]; exact this
  · cases hs
theorem ThereB.off {b : BX} {l : List UInt8} {v : Value} {V : View} {gs : List Nat} (hc : Calm V gs) (h : ThereB b l v V) : ThereB b l v (V.off gs) := by
  rcases h with ⟨h1, A, n, c, x, h2, h3, h4, h5, h6⟩ | h
  · exact .inl ⟨h1, A, n, c, x, h2, h3.off hc pathN_pos, h4, h5.off hc, h6⟩
  · exact .inr h
attribute [local irreducible] AtQ GoC GoL GoW QO QP Fn RV OwnAt CellsFrom VLe SrcIs errV
set_option maxRecDepth 100000
end Go.Proofs.Ytejkmomfpidnbab

/- The walk of alter, by the engine. -/
namespace Go.Proofs.Ytejkmomfpidnbab
open Go.RowKit
set_option linter.unusedSimpArgs false
set_option linter.unusedVariables false
section
variable {P : Program} {B : Base} {N : Nat} {Q : Exit → Act → World → Prop} {k : List Cont} {F : List (Nat × Value)} {V : View} {L : List Box} {w : World}
variable {d : Option Tmp} {ty : TypeId} {pos : String} {af : Array Edge} {gd : Option (Nat × Bool)} {ops : Array Oper} {rest : List Oper}
/-- A function value that is handed boxes. -/
theorem gw_callvB {dr : Mode} (hdr : dr.loud = true) {f : FuncId} {fo : Operand} {args : List Operand} {ats : Array TypeId} {vs fs cs : List Value} {Bs : List Box} {R : Value → View → List Box → Prop} {g : List Box → List Box} (he : Enters P f) (hf : evF F fo = some (.func (.func f) fs.toArray cs.toArray)) (hv : evL F args = some vs) (hL : Repl L Bs g) (hd : okD N d = true) (hc : FnB P f (fs ++ vs ++ cs) V Bs R)
    (h : ∀ v V' Bs', VLe V V' → R v V' Bs' → GoL P B N dr ops Q k rest (putF F d v) V' (g Bs')) : GoW P B N dr ops Q k ⟨d, .call ⟨.value fo, args.toArray, ats⟩, ty, pos, af, gd⟩ rest F V L := gw_loud hdr fun a w ha hs => by
  obtain ⟨X, Y, hX, hg⟩ := hL.h
  subst hX
  unfold Oper.wp
  rw [exec_callv he ha hf hv]
  have hsub : Bs.Sublist (X ++ (Bs ++ Y)) := (List.sublist_append_left Bs Y).trans (List.sublist_append_right X (Bs ++ Y))
  refine (hc w (hs.sub' hsub)).mono fun e w' ⟨v, V', Bs', he', hst, hR⟩ => ?_
  subst he'
  have h1 := h v V' Bs' hst.v0 hR
  rw [hg] at h1
  exact gl_loud hdr h1 _ _ (ha.put hd v) (hs.callB hst)
end
theorem repl_two {a b : Box} {L : List Box} : Repl (a :: b :: L) [a, b] (fun l => l ++ L) := ⟨[], L, rfl, fun _ => rfl⟩
theorem UpR.off {r : PN × Int} {ev v : Value} {V : View} {gs : List Nat} (hc : Calm V gs) (h : UpR r ev v V) : UpR r ev v (V.off gs) := by
  obtain ⟨y, h1, h2, h3⟩ := h
  exact ⟨y, h1, h2.off hc, h3⟩
attribute [local irreducible] AtQ GoC GoL GoW QO QP Fn RV OwnAt CellsFrom VLe SrcIs errV
set_option maxRecDepth 100000
end Go.Proofs.Ytejkmomfpidnbab

/- What the closures of box make of a node. -/
namespace Go.Proofs.Ytejkmomfpidnbab
open Go.RowKit
set_option linter.unusedSimpArgs false
set_option linter.unusedVariables false
attribute [local irreducible] AtQ GoC GoL GoW QO QP Fn RV OwnAt CellsFrom VLe SrcIs errV
set_option maxRecDepth 100000
end Go.Proofs.Ytejkmomfpidnbab

/- The walks of mode, own, set: what alters a node's head. -/
namespace Go.Proofs.Ytejkmomfpidnbab
open Go.RowKit
set_option linter.unusedSimpArgs false
set_option linter.unusedVariables false
attribute [local irreducible] AtQ GoC GoL GoW QO QP Fn RV OwnAt CellsFrom VLe SrcIs errV
set_option maxRecDepth 100000
end Go.Proofs.Ytejkmomfpidnbab

/- The walks of Drop and of the reference's Attr, by the engine. -/
namespace Go.Proofs.Ytejkmomfpidnbab
open Go.RowKit
set_option linter.unusedSimpArgs false
set_option linter.unusedVariables false
attribute [local irreducible] AtQ GoC GoL GoW QO QP Fn RV OwnAt CellsFrom VLe SrcIs errV
set_option maxRecDepth 100000
end Go.Proofs.Ytejkmomfpidnbab

/- The walk of set (attributes set and dropped). -/
namespace Go.Proofs.Ytejkmomfpidnbab
open Go.RowKit
set_option linter.unusedSimpArgs false
set_option linter.unusedVariables false
attribute [local irreducible] AtQ GoC GoL GoW QO QP Fn RV OwnAt CellsFrom VLe SrcIs errV
set_option maxRecDepth 100000
end Go.Proofs.Ytejkmomfpidnbab

/- The rest of a box's calls, in plain terms. -/
namespace Go.Proofs.Ytejkmomfpidnbab
open Go.RowKit
set_option linter.unusedSimpArgs false
set_option linter.unusedVariables false
theorem cells_at9 {V : View} {b o j : Nat} {cs : List Value} {v : Value} (h : CellsFrom V b o cs) (hj : cs[j]? = some v) : V ⟨b, o + j, none⟩ = some v := h j v hj
section
variable {P : Program} {B : Base} {N : Nat} {Q : Exit → Act → World → Prop} {k : List Cont} {F : List (Nat × Value)} {V : View} {L : List Box}
theorem k_nm (h : AtQ P B N Q k .normal F V L) : AtQ P B N Q k .normal F V L := h
theorem k_rt (h : AtQ P B N Q k .ret F V L) : AtQ P B N Q k .ret F V L := h
end
/-! own -/
def offU (u g : Int) : Prop := u < -1 ∨ 65535 < u ∨ g < -1 ∨ 65535 < g
instance (u g : Int) : Decidable (offU u g) := by unfold offU; infer_instance
def ownM (b : BX) (t : TH) (u g : Int) : Prop := t.mapped = true ∧ (b.c.d % 2 = 1 ∨ (u = t.user ∧ t.user = b.c.u ∧ (g = t.group ∨ b.c.g = g ∨ g ∈ b.c.xs)))
instance (b : BX) (t : TH) (u g : Int) : Decidable (ownM b t u g) := by unfold ownM; infer_instance
/-! make -/
/-! get -/
/-! be -/
/-! remove, move -/
end Go.Proofs.Ytejkmomfpidnbab

/- The walk of make. -/
namespace Go.Proofs.Ytejkmomfpidnbab
open Go.RowKit
set_option linter.unusedSimpArgs false
set_option linter.unusedVariables false
abbrev newL (kind mode u g : Int) (o : Bool) (dt : ByteArray) : LN := ⟨⟨kind, mode, u, g, o, [], dt⟩, none, 0, 0, none, 0, 0, []⟩
theorem newL_node {V : View} {kind mode u g : Int} {o : Bool} {dt : ByteArray} (h : dt.size ≤ maxLen) : NodeV V (newL kind mode u g o dt) := NodeV.of (es := []) AttrV.nil (Nat.le_refl _) h (Nat.le_refl _) ⟨ElsV.nil, by simp⟩ rfl
attribute [local irreducible] AtQ GoC GoL GoW QO QP Fn RV OwnAt CellsFrom VLe SrcIs errV
set_option maxRecDepth 100000
end Go.Proofs.Ytejkmomfpidnbab

/- The walk of own. -/
namespace Go.Proofs.Ytejkmomfpidnbab
open Go.RowKit
set_option linter.unusedSimpArgs false
set_option linter.unusedVariables false
attribute [local irreducible] AtQ GoC GoL GoW QO QP Fn RV OwnAt CellsFrom VLe SrcIs errV
set_option maxRecDepth 100000
end Go.Proofs.Ytejkmomfpidnbab

/- The walks of put, mkdir, get, be. -/
namespace Go.Proofs.Ytejkmomfpidnbab
open Go.RowKit
set_option linter.unusedSimpArgs false
set_option linter.unusedVariables false
theorem nn {p : Prop} (h : ¬ ¬ p) : p := Classical.not_not.1 h
attribute [local irreducible] AtQ GoC GoL GoW QO QP Fn RV OwnAt CellsFrom VLe SrcIs errV
set_option maxRecDepth 100000
end Go.Proofs.Ytejkmomfpidnbab

/- The walks of Become and of its reference, by the engine. -/
namespace Go.Proofs.Ytejkmomfpidnbab
open Go.RowKit
set_option linter.unusedSimpArgs false
set_option linter.unusedVariables false
attribute [local irreducible] AtQ GoC GoL GoW QO QP Fn RV OwnAt CellsFrom VLe SrcIs
set_option maxRecDepth 100000
theorem ints_of_cells {V : View} {A : Option Addr} {n : Nat} {xs : List Int} (hl : xs.length = n) (hm : n ≤ 1000) (h : CellsV V 1 A (0 + n) ([] ++ xs.map (.int .i64))) : IntsV V A n xs := by
  rw [Nat.zero_add, List.nil_append] at h
  exact ⟨hl, by unfold maxLen; omega, h⟩

end Go.Proofs.Ytejkmomfpidnbab

/- What reads a box's layers alone; the walks of get, be, without, remove. -/
namespace Go.Proofs.Ytejkmomfpidnbab
open Go.RowKit
set_option linter.unusedSimpArgs false
set_option linter.unusedVariables false
theorem BoxW.m4 {V : View} {b : BX} {I : BI} {L1 : List Box} (hok : BoxOk b) (hW : BoxW V b I L1) : I.m ≤ 4 := by rw [← hW.lens]; exact hok.l4
attribute [local irreducible] AtQ GoC GoL GoW QO QP Fn RV OwnAt CellsFrom VLe SrcIs errV
set_option maxRecDepth 100000
end Go.Proofs.Ytejkmomfpidnbab

/- How deep a tree is: plain; the walks of height and of deepest. -/
namespace Go.Proofs.Ytejkmomfpidnbab
open Go.RowKit
set_option linter.unusedSimpArgs false
set_option linter.unusedVariables false
attribute [local irreducible] AtQ GoC GoL GoW QO QP Fn RV OwnAt CellsFrom VLe SrcIs errV
set_option maxRecDepth 100000
end Go.Proofs.Ytejkmomfpidnbab

/- What comes up is light; move, in plain terms. -/
namespace Go.Proofs.Ytejkmomfpidnbab
open Go.RowKit
set_option linter.unusedSimpArgs false
set_option linter.unusedVariables false
/-! move -/
section
variable {B : Base} {V : View} {L : List Box}
end
end Go.Proofs.Ytejkmomfpidnbab

/- The walk of move. -/
namespace Go.Proofs.Ytejkmomfpidnbab
open Go.RowKit
set_option linter.unusedSimpArgs false
set_option linter.unusedVariables false
theorem nb {b : Bool} (h : (!b) = true) : b = false := by simpa using h
theorem nbf {b : Bool} (h : (!b) = false) : ¬ b = false := by simpa using h
attribute [local irreducible] AtQ GoC GoL GoW QO QP Fn RV OwnAt CellsFrom VLe SrcIs errV
set_option maxRecDepth 100000
end Go.Proofs.Ytejkmomfpidnbab

/- The walk of Do. -/
namespace Go.Proofs.Ytejkmomfpidnbab
open Go.RowKit
set_option linter.unusedSimpArgs false
set_option linter.unusedVariables false
def chT (r : BX × Int) : BX × (TD × Int) := (r.1, tdZ, r.2)
theorem ToldR.off {r : TD × Int} {ev v : Value} {V : View} {gs : List Nat} (hc : Calm V gs) (hp : ∀ s ∈ r.1.names, 0 < s.size) (h : ToldR r ev v V) : ToldR r ev v (V.off gs) := by
  obtain ⟨A, n, c, h1, h2, h3⟩ := h
  exact ⟨A, n, c, h1, h2.off hc hp, h3⟩
/-- What a call's answer, and the box behind it, are. -/
def DoR (p : Nat) (r : BX × (TD × Int)) (v : Value) (V' : View) (Bs' : List Box) : Prop := ToldR r.2 (errV r.2.2) v V' ∧ BoxB V' p r.1 Bs'
theorem DoR.ch {p : Nat} {r : BX × Int} {v : Value} {V' : View} {Bs' : List Box} (hB : BoxB V' p r.1 Bs') (hv : v = .tuple #[tdV tdZ none 0 0, errV r.2]) : DoR p (chT r) v V' Bs' := ⟨by rw [hv]; exact ToldR.zero, hB⟩
attribute [local irreducible] AtQ GoC GoL GoW QO QP Fn RV OwnAt CellsFrom VLe SrcIs errV
set_option maxRecDepth 100000
end Go.Proofs.Ytejkmomfpidnbab

