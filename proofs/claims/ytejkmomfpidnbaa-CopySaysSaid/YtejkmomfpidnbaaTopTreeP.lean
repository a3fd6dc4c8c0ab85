/- Trees: what stays where something else is changed. -/
import Derived.Test.YtejkmomfpidnbaaTreeE13
import Derived.Test.YtejkmomfpidnbaaAttrP
namespace Go.Proofs.Ytejkmomfpidnbaa
open Go.RowKit
set_option linter.unusedSimpArgs false
set_option linter.unusedVariables false
/-- The first kid of a name. -/
def lookK : PKs → ByteArray → Option PN
  | [], _ => none
  | k :: ks, s => if k.1 = s then some k.2 else lookK ks s
theorem lookK_app : ∀ (a b : PKs) (s : ByteArray), lookK (a ++ b) s = (lookK a s).or (lookK b s)
  | [], b, s => by simp [lookK]
  | k :: a, b, s => by
    rw [List.cons_append, lookK, lookK]
    split
    · rfl
    · exact lookK_app a b s
theorem lookK_none : ∀ {ks : PKs} {s : ByteArray}, lookK ks s = none ↔ ∀ k ∈ ks, ¬ k.1 = s
  | [], s => by simp [lookK]
  | k :: ks, s => by
    rw [lookK]
    by_cases h : k.1 = s
    · rw [if_pos h]; simp [h]
    · rw [if_neg h, lookK_none]; simp [h]
theorem isAt_iff {ks : PKs} {s : ByteArray} : isAt ks s = true ↔ ∃ k ∈ ks, k.1 = s := by
  unfold isAt; rw [List.any_eq_true]; simp
theorem isAt_no {ks : PKs} {s : ByteArray} : isAt ks s = false ↔ lookK ks s = none := by
  rw [lookK_none]
  constructor
  · intro h k hk he
    have := isAt_iff.2 ⟨k, hk, he⟩; rw [h] at this; cases this
  · intro h
    cases hb : isAt ks s
    · rfl
    · obtain ⟨k, hk, he⟩ := isAt_iff.1 hb; exact absurd he (h k hk)
/-- Where a name is, the list parts. -/
theorem kid_split {ks : PKs} {s : ByteArray} (h : isAt ks s = true) : ∃ a x b, ks = a ++ (s, x) :: b ∧ lookK a s = none ∧ placeN ks s = a.length := by
  have hl := placeN_lt h
  have e : placeN ks s = atN ks s := by unfold placeN; rw [if_pos h]
  have h1 : (ks[placeN ks s]'hl).1 = s := by
    have := List.findIdx_getElem (p := fun k : ByteArray × PN => decide (k.1 = s)) (xs := ks) (w := by rw [← show atN ks s = ks.findIdx (fun k => decide (k.1 = s)) from rfl, ← e]; exact hl)
    have h2 := of_decide_eq_true this
    simp only [e]; exact h2
  refine ⟨ks.take (placeN ks s), (ks[placeN ks s]'hl).2, ks.drop (placeN ks s + 1), ?_, ?_, ?_⟩
  · have e2 : ((s, (ks[placeN ks s]'hl).2) : ByteArray × PN) = ks[placeN ks s]'hl := Prod.ext h1.symm rfl
    rw [e2, ← List.drop_eq_getElem_cons hl, List.take_append_drop]
  · rw [lookK_none]
    intro k hk he
    obtain ⟨i, hi, rfl⟩ := List.getElem_of_mem hk
    rw [List.length_take] at hi
    rw [List.getElem_take] at he
    have := List.not_of_lt_findIdx (p := fun k : ByteArray × PN => decide (k.1 = s)) (xs := ks) (i := i) (by rw [← show atN ks s = ks.findIdx (fun k => decide (k.1 = s)) from rfl, ← e]; omega)
    simp [he] at this
  · rw [List.length_take]; omega
theorem look_split {a b : PKs} {s : ByteArray} {x : PN} (ha : lookK a s = none) : lookK (a ++ (s, x) :: b) s = some x := by
  rw [lookK_app, ha]; simp [lookK]
theorem look_split_ne {a b : PKs} {s t : ByteArray} {x : PN} (h : ¬ s = t) : lookK (a ++ (s, x) :: b) t = lookK (a ++ b) t := by
  rw [lookK_app, lookK_app, lookK, if_neg h]
theorem edit_split {cut : Bool} {a b : PKs} {s : ByteArray} {x y : PN} (hp : placeN (a ++ (s, x) :: b) s = a.length) : editK cut y (a ++ (s, x) :: b) s = a ++ (if cut = true then [] else [(s, y)]) ++ b := by
  have hi : isAt (a ++ (s, x) :: b) s = true := isAt_iff.2 ⟨(s, x), by simp, rfl⟩
  unfold editK
  rw [if_pos hi, hp]
  congr 1
  · rw [List.take_left]
  · rw [show a.length + 1 = (a ++ [(s, x)]).length by simp, show a ++ (s, x) :: b = (a ++ [(s, x)]) ++ b by simp, List.drop_left]
theorem edit_new {cut : Bool} {ks : PKs} {s : ByteArray} {y : PN} (h : isAt ks s = false) : ∃ a b, ks = a ++ b ∧ editK cut y ks s = a ++ (if cut = true then [] else [(s, y)]) ++ b := by
  refine ⟨ks.take (placeN ks s), ks.drop (placeN ks s), (List.take_append_drop _ _).symm, ?_⟩
  unfold editK; rw [h]; rfl
theorem look_edit {ks : PKs} {s : ByteArray} {y : PN} : lookK (editK false y ks s) s = some y := by
  cases h : isAt ks s
  · obtain ⟨a, b, h1, h2⟩ := edit_new (cut := false) (y := y) h
    have h3 := isAt_no.1 h
    rw [h1, lookK_app] at h3
    have ha : lookK a s = none := by cases h4 : lookK a s <;> simp_all
    rw [h2]
    simp only [Bool.false_eq_true, if_false, List.append_assoc, List.cons_append, List.nil_append]
    exact look_split ha
  · obtain ⟨a, x, b, h1, h2, h3⟩ := kid_split h
    rw [h1] at h3 ⊢
    rw [edit_split h3]
    simp only [Bool.false_eq_true, if_false, List.append_assoc, List.cons_append, List.nil_append]
    exact look_split h2
theorem look_edit_ne {cut : Bool} {ks : PKs} {s t : ByteArray} {y : PN} (hst : ¬ s = t) : lookK (editK cut y ks s) t = lookK ks t := by
  have key : ∀ a b : PKs, lookK (a ++ (if cut = true then [] else [(s, y)]) ++ b) t = lookK (a ++ b) t := by
    intro a b
    cases cut
    · simp only [Bool.false_eq_true, if_false, List.append_assoc, List.cons_append, List.nil_append]
      exact look_split_ne hst
    · simp
  cases h : isAt ks s
  · obtain ⟨a, b, h1, h2⟩ := edit_new (cut := cut) (y := y) h
    rw [h2, key, ← h1]
  · obtain ⟨a, x, b, h1, h2, h3⟩ := kid_split h
    rw [h1] at h3 ⊢
    rw [edit_split h3, key, look_split_ne hst]
theorem findP_cons {n : PN} {s : ByteArray} {l : List ByteArray} : findP n (s :: l) = if n.h.kind = 2 then (lookK n.ks s).bind (fun m => findP m l) else none := by
  rw [findP]
  by_cases hk : n.h.kind = 2
  · rw [if_pos hk]
    cases h : isAt n.ks s
    · rw [if_neg (by rintro ⟨_, h2⟩; cases h2), isAt_no.1 h]; rfl
    · rw [if_pos ⟨hk, rfl⟩]
      obtain ⟨a, x, b, h1, h2, h3⟩ := kid_split h
      rw [h3, h1, look_split h2]
      simp
  · rw [if_neg hk, if_neg (fun h => hk h.1)]
theorem pF_cons {cut : Bool} {x n : PN} {s t : ByteArray} {l : List ByteArray} : pF cut x n (s :: t :: l) = 0 ↔ n.h.kind = 2 ∧ ∃ m, lookK n.ks s = some m ∧ pF cut x m (t :: l) = 0 := by
  rw [pF]
  by_cases hk : n.h.kind = 2
  · rw [if_neg (not_not_intro hk)]
    cases h : isAt n.ks s
    · rw [if_neg (by decide), isAt_no.1 h]; simp
    · rw [if_pos rfl]
      obtain ⟨a, y, b, h1, h2, h3⟩ := kid_split h
      rw [h3, h1, look_split h2]
      simp [hk]
  · rw [if_pos hk]; simp [hk]
theorem pN_cons {cut : Bool} {x n m : PN} {s t : ByteArray} {l : List ByteArray} (hm : lookK n.ks s = some m) : pN cut x n (s :: t :: l) = .mk n.h (editK false (pN cut x m (t :: l)) n.ks s) := by
  rw [pN]
  cases h : isAt n.ks s
  · rw [isAt_no.1 h] at hm; cases hm
  · obtain ⟨a, y, b, h1, h2, h3⟩ := kid_split h
    rw [h1, look_split h2] at hm
    cases hm
    rw [h3, h1]
    have h4 := h3; rw [h1] at h4
    rw [edit_split h4]
    simp
theorem put_find {x : PN} : ∀ {l : List ByteArray} {n : PN}, pF false x n l = 0 → findP (pN false x n l) l = some x
  | [], n, h => by simp [pF] at h
  | [s], n, h => by
    rw [pF] at h
    have hk : n.h.kind = 2 := by
      by_cases hk : n.h.kind = 2
      · exact hk
      · rw [if_neg hk] at h; omega
    rw [pN, findP_cons, PN.h_mk, if_pos hk, PN.ks_mk, look_edit]; rfl
  | s :: t :: l, n, h => by
    obtain ⟨hk, m, hm, h2⟩ := pF_cons.1 h
    rw [pN_cons hm, findP_cons, PN.h_mk, if_pos hk, PN.ks_mk, look_edit]
    exact put_find h2
theorem edit_apart {cut : Bool} {x : PN} : ∀ {l o : List ByteArray} {n : PN}, pF cut x n l = 0 → ¬ l <+: o → ¬ o <+: l → findP (pN cut x n l) o = findP n o
  | [], o, n, h, _, _ => by simp [pF] at h
  | l, [], n, h, _, h2 => absurd (List.nil_prefix) h2
  | [s], u :: o, n, h, h1, h2 => by
    have hsu : ¬ s = u := by
      rintro rfl; exact h1 (List.cons_prefix_cons.2 ⟨rfl, List.nil_prefix⟩)
    rw [pN, findP_cons, findP_cons, PN.ks_mk, PN.h_mk, look_edit_ne hsu]
  | s :: t :: l, u :: o, n, h, h1, h2 => by
    obtain ⟨hk, m, hm, h3⟩ := pF_cons.1 h
    rw [pN_cons hm, findP_cons, findP_cons, PN.ks_mk, PN.h_mk, if_pos hk, if_pos hk]
    by_cases hsu : s = u
    · subst hsu
      rw [look_edit, hm]
      exact edit_apart h3 (fun hp => h1 (List.cons_prefix_cons.2 ⟨rfl, hp⟩)) (fun hp => h2 (List.cons_prefix_cons.2 ⟨rfl, hp⟩))
    · rw [look_edit_ne hsu]
theorem cut_none {x : PN} : ∀ {l : List ByteArray} {n : PN}, ¬ pF true x n l = 0 → l = [] ∨ findP n l = none
  | [], n, h => .inl rfl
  | [s], n, h => by
    right
    rw [findP_cons]
    by_cases hk : n.h.kind = 2
    · rw [if_pos hk]
      rw [pF, if_pos hk] at h
      unfold editF at h
      rw [if_pos rfl] at h
      cases hi : isAt n.ks s
      · rw [isAt_no.1 hi]; rfl
      · rw [if_pos hi] at h; exact absurd rfl h
    · rw [if_neg hk]
  | s :: t :: l, n, h => by
    right
    rw [findP_cons]
    by_cases hk : n.h.kind = 2
    · rw [if_pos hk]
      cases hm : lookK n.ks s with
      | none => rfl
      | some m =>
        rcases cut_none (l := t :: l) (n := m) (x := x) (fun h2 => h (pF_cons.2 ⟨hk, m, hm, h2⟩)) with h3 | h3
        · cases h3
        · exact h3
    · rw [if_neg hk]
/-! ### Trees that may be -/
theorem countK_cons {u : Bool} {d so : Nat} {p : Option ByteArray} {k : ByteArray × PN} {ks : PKs} : (countK u d so p (k :: ks)).2 = 0 ↔ nameZ k.1.toList = true ∧ (∀ y, p = some y → y.toList < k.1.toList) ∧ (countF u (d + 1) so k.2).2 = 0 ∧ (countK u d (countF u (d + 1) so k.2).1 (some k.1) ks).2 = 0 := by
  by_cases h1 : nameZ k.1.toList = true
  · by_cases h2 : ∀ y, p = some y → y.toList < k.1.toList
    · by_cases h3 : (countF u (d + 1) so k.2).2 = 0
      · rw [countK_on h1 h2 h3]; simp [h1, h3]; exact fun _ => h2
      · rw [countK_bad h1 h2 h3]; simp [h3]
    · have : ∃ y, p = some y ∧ ¬ y.toList < k.1.toList := by
        refine Classical.byContradiction fun hn => h2 fun y hy => Classical.byContradiction fun hl => hn ⟨y, hy, hl⟩
      obtain ⟨y, rfl, hy⟩ := this
      rw [countK_down h1 hy]
      constructor
      · intro h; simp at h
      · intro h; exact absurd (h.2.1 y rfl) hy
  · have h1' : nameZ k.1.toList = false := by simpa using h1
    rw [countK_name h1']
    constructor
    · intro h; simp at h
    · intro h; exact absurd h.1 h1
theorem countF_ok {u : Bool} {d so : Nat} {n : PN} : (countF u d so n).2 = 0 ↔ (¬ so = 60 ∧ d ≤ 6) ∧ oneF n.h (decide (0 < n.ks.length)) u (decide (d = 0)) = 0 ∧ (countK u d (so + 1) none n.ks).2 = 0 := by
  by_cases h1 : so = 60 ∨ 6 < d
  · rw [countF_many h1]; simp; omega
  · by_cases h2 : oneF n.h (decide (0 < n.ks.length)) u (decide (d = 0)) = 0
    · rw [countF_kids h1 h2]; simp only [h2, true_and]; omega
    · rw [countF_one h1 h2]
      constructor
      · intro h; exact absurd h h2
      · intro h; exact absurd h.2.1 h2
/-- All that a check has found of kids. -/
theorem countK_all {u : Bool} {d : Nat} : ∀ {ks : PKs} {so : Nat} {p : Option ByteArray}, so ≤ 60 → (countK u d so p ks).2 = 0 → ks.Pairwise (fun a b => a.1.toList < b.1.toList) ∧ (∀ k ∈ ks, (∀ y, p = some y → y.toList < k.1.toList) ∧ nameZ k.1.toList = true ∧ ∃ so', so' ≤ 60 ∧ (countF u (d + 1) so' k.2).2 = 0)
  | [], so, p, _, _ => by simp
  | k :: ks, so, p, hs, h => by
    obtain ⟨h1, h2, h3, h4⟩ := countK_cons.1 h
    have hb := countF_bd u (d + 1) so k.2 hs
    obtain ⟨g1, g2⟩ := countK_all hb.1 h4
    refine ⟨List.pairwise_cons.2 ⟨fun b hb => (g2 b hb).1 _ rfl, g1⟩, fun b hb => ?_⟩
    rcases List.mem_cons.1 hb with rfl | hb
    · exact ⟨h2, h1, so, hs, h3⟩
    · exact ⟨fun y hy => lt_trans' (h2 y hy) ((g2 b hb).1 _ rfl), (g2 b hb).2⟩
theorem look_mem : ∀ {ks : PKs} {s : ByteArray} {m : PN}, lookK ks s = some m → (s, m) ∈ ks
  | [], s, m, h => by cases h
  | k :: ks, s, m, h => by
    rw [lookK] at h
    split at h
    · rename_i he; cases h; subst he; exact List.mem_cons_self
    · exact List.mem_cons_of_mem _ (look_mem h)
theorem cut_find {u : Bool} {x : PN} : ∀ {l : List ByteArray} {n : PN} {d so : Nat}, so ≤ 60 → (countF u d so n).2 = 0 → pF true x n l = 0 → findP (pN true x n l) l = none
  | [], n, d, so, _, _, h => by simp [pF] at h
  | [s], n, d, so, hs, hc, h => by
    obtain ⟨⟨h1, _⟩, _, h3⟩ := countF_ok.1 hc
    have hp := (countK_all (by omega) h3).1
    rw [pN, findP_cons, PN.ks_mk, PN.h_mk]
    by_cases hk : n.h.kind = 2
    · rw [if_pos hk]
      cases hi : isAt n.ks s
      · rw [pF, if_pos hk, editF_none hi] at h; omega
      · obtain ⟨a, y, b, g1, g2, g3⟩ := kid_split hi
        rw [g1] at g3 hp ⊢
        rw [edit_split g3, if_pos rfl, List.append_nil, lookK_app, g2]
        have : lookK b s = none := by
          rw [lookK_none]
          intro k hk he
          have h5 := (List.pairwise_append.1 hp).2.1
          have h6 := (List.pairwise_cons.1 h5).1 k hk
          rw [he] at h6; exact lt_irr _ h6
        rw [this]; rfl
    · rw [if_neg hk]
  | s :: t :: l, n, d, so, hs, hc, h => by
    obtain ⟨hk, m, hm, h3⟩ := pF_cons.1 h
    obtain ⟨⟨h1, _⟩, _, h4⟩ := countF_ok.1 hc
    obtain ⟨_, _, so', hs', hc'⟩ := (countK_all (by omega) h4).2 _ (look_mem hm)
    rw [pN_cons hm, findP_cons, PN.h_mk, if_pos hk, PN.ks_mk, look_edit]
    exact cut_find hs' hc' h3
mutual
theorem countF_ge (u : Bool) : ∀ (d so : Nat) (n : PN), so ≤ (countF u d so n).1
  | d, so, .mk h ks => by
    have := countK_ge u d (so + 1) none ks
    rw [countF]
    split
    · exact Nat.le_refl _
    · split
      · exact Nat.le_refl _
      · omega
theorem countK_ge (u : Bool) : ∀ (d so : Nat) (prev : Option ByteArray) (ks : PKs), so ≤ (countK u d so prev ks).1
  | d, so, prev, [] => by rw [countK]; exact Nat.le_refl _
  | d, so, prev, (nm, n) :: ks => by
    have h1 := countF_ge u (d + 1) so n
    have h2 := countK_ge u d (countF u (d + 1) so n).1 (some nm) ks
    rw [countK]
    split
    · exact Nat.le_refl _
    · split
      · exact Nat.le_refl _
      · split
        · exact h1
        · omega
end
/-- Kids of which some are less. -/
inductive LessK (u : Bool) (d : Nat) : PKs → PKs → Prop
  | nil : LessK u d [] []
  | drop {k a b} : LessK u d a b → LessK u d a (k :: b)
  | cons {s x y a b} : (∀ so so', so' ≤ so → so ≤ 60 → (countF u (d + 1) so x).2 = 0 → (countF u (d + 1) so' y).2 = 0 ∧ (countF u (d + 1) so' y).1 ≤ (countF u (d + 1) so x).1) → LessK u d a b → LessK u d ((s, y) :: a) ((s, x) :: b)
theorem LessK.count {u : Bool} {d : Nat} {a b : PKs} (h : LessK u d a b) : ∀ {so so' : Nat} {p p' : Option ByteArray}, so' ≤ so → so ≤ 60 → (∀ y, p' = some y → ∃ z, p = some z ∧ (y = z ∨ y.toList < z.toList)) → (countK u d so p b).2 = 0 → (countK u d so' p' a).2 = 0 ∧ (countK u d so' p' a).1 ≤ (countK u d so p b).1 := by
  induction h with
  | nil => intro so so' p p' hs _ _ _; rw [countK_nil, countK_nil]; exact ⟨rfl, hs⟩
  | @drop k a b h ih =>
    intro so so' p p' hs hs6 hp hc
    obtain ⟨h1, h2, h3, h4⟩ := countK_cons.1 hc
    have hb := countF_bd u (d + 1) so k.2 hs6
    have hge : so ≤ (countF u (d + 1) so k.2).1 := countF_ge u (d + 1) so k.2
    rw [countK_on h1 h2 h3]
    refine ih (by omega) hb.1 (fun y hy => ⟨k.1, rfl, .inr ?_⟩) h4
    obtain ⟨z, hz, hyz⟩ := hp y hy
    rcases hyz with rfl | hyz
    · exact h2 _ hz
    · exact lt_trans' hyz (h2 z hz)
  | @cons s x y a b hxy h ih =>
    intro so so' p p' hs hs6 hp hc
    obtain ⟨h1, h2, h3, h4⟩ := countK_cons.1 hc
    have hb := countF_bd u (d + 1) so x hs6
    obtain ⟨g1, g2⟩ := hxy so so' hs hs6 h3
    have h2' : ∀ z, p' = some z → z.toList < s.toList := by
      intro z hz
      obtain ⟨z2, hz2, he⟩ := hp z hz
      rcases he with rfl | he
      · exact h2 _ hz2
      · exact lt_trans' he (h2 z2 hz2)
    rw [countK_on (k := (s, x)) h1 h2 h3, countK_on (k := (s, y)) h1 h2' g1]
    exact ih g2 hb.1 (fun z hz => ⟨z, hz, .inl rfl⟩) h4
theorem node_less {u : Bool} {d so so' : Nat} {n n' : PN} (hh : n'.h = n.h) (ho : oneF n.h (decide (0 < n'.ks.length)) u (decide (d = 0)) = oneF n.h (decide (0 < n.ks.length)) u (decide (d = 0))) (hk : LessK u d n'.ks n.ks) (hs : so' ≤ so) (h6 : so ≤ 60) (hc : (countF u d so n).2 = 0) : (countF u d so' n').2 = 0 ∧ (countF u d so' n').1 ≤ (countF u d so n).1 := by
  obtain ⟨⟨a1, a2⟩, a3, a4⟩ := countF_ok.1 hc
  have := hk.count (so := so + 1) (so' := so' + 1) (p := none) (p' := none) (by omega) (by omega) (by simp) a4
  rw [countF_kids (n := n) (by omega) a3, countF_kids (n := n') (by omega) (by rw [hh, ho]; exact a3)]
  exact this
theorem LessK.of_all {u : Bool} {d : Nat} : ∀ {ks : PKs}, (∀ k ∈ ks, ∀ so so', so' ≤ so → so ≤ 60 → (countF u (d + 1) so k.2).2 = 0 → (countF u (d + 1) so' k.2).2 = 0 ∧ (countF u (d + 1) so' k.2).1 ≤ (countF u (d + 1) so k.2).1) → LessK u d ks ks
  | [], _ => .nil
  | k :: ks, h => .cons (h k List.mem_cons_self) (LessK.of_all fun k hk => h k (List.mem_cons_of_mem _ hk))
theorem countF_mono {u : Bool} (n : PN) : ∀ (d so so' : Nat), so' ≤ so → so ≤ 60 → (countF u d so n).2 = 0 → (countF u d so' n).2 = 0 ∧ (countF u d so' n).1 ≤ (countF u d so n).1 := by
  refine PN.ind (p := fun n => ∀ (d so so' : Nat), so' ≤ so → so ≤ 60 → (countF u d so n).2 = 0 → (countF u d so' n).2 = 0 ∧ (countF u d so' n).1 ≤ (countF u d so n).1) ?_ n
  intro h ks ih d so so' hs h6 hc
  exact node_less rfl rfl (LessK.of_all fun k hk => ih k hk (d + 1)) hs h6 hc
theorem LessK.same {u : Bool} {d : Nat} (ks : PKs) : LessK u d ks ks := LessK.of_all fun k _ so so' => countF_mono k.2 (d + 1) so so'
theorem LessK.app {u : Bool} {d : Nat} : ∀ (a : PKs) {b c : PKs}, LessK u d b c → LessK u d (a ++ b) (a ++ c)
  | [], _, _, h => h
  | k :: a, _, _, h => .cons (fun so so' => countF_mono k.2 (d + 1) so so') (LessK.app a h)
theorem oneF_dir {h : Hd} (hk : h.kind = 2) (a b u r : Bool) : oneF h a u r = oneF h b u r := by unfold oneF; simp [hk]
theorem cut_count {u : Bool} {x : PN} : ∀ {l : List ByteArray} {n : PN} {d so so' : Nat}, so' ≤ so → so ≤ 60 → (countF u d so n).2 = 0 → pF true x n l = 0 → (countF u d so' (pN true x n l)).2 = 0 ∧ (countF u d so' (pN true x n l)).1 ≤ (countF u d so n).1
  | [], n, d, so, so', _, _, _, h => by simp [pF] at h
  | [s], n, d, so, so', hs, h6, hc, h => by
    rw [pF] at h
    have hk : n.h.kind = 2 := by
      by_cases hk : n.h.kind = 2
      · exact hk
      · rw [if_neg hk] at h; omega
    rw [if_pos hk] at h
    have hi : isAt n.ks s = true := by
      cases hi : isAt n.ks s
      · rw [editF_none hi] at h; omega
      · rfl
    rw [pN]
    refine node_less rfl (oneF_dir hk _ _ _ _) ?_ hs h6 hc
    obtain ⟨a, y, b, g1, g2, g3⟩ := kid_split hi
    rw [PN.ks_mk, g1]; rw [g1] at g3
    rw [edit_split g3, if_pos rfl, List.append_nil]
    exact LessK.app a (.drop (LessK.same b))
  | s :: t :: l, n, d, so, so', hs, h6, hc, h => by
    obtain ⟨hk, m, hm, h3⟩ := pF_cons.1 h
    rw [pN_cons hm]
    refine node_less rfl (oneF_dir hk _ _ _ _) ?_ hs h6 hc
    have hi : isAt n.ks s = true := by
      cases hi : isAt n.ks s
      · rw [isAt_no.1 hi] at hm; cases hm
      · rfl
    obtain ⟨a, y, b, g1, g2, g3⟩ := kid_split hi
    rw [PN.ks_mk]
    rw [g1] at g3 hm ⊢
    rw [look_split g2] at hm; cases hm
    rw [edit_split g3]
    simp only [Bool.false_eq_true, if_false, List.append_assoc, List.cons_append, List.nil_append]
    exact LessK.app a (.cons (fun so so' e1 e2 e3 => cut_count e1 e2 e3 h3) (LessK.same b))
theorem treeF_ok {u : Bool} {n : PN} : treeF u n = 0 ↔ n.h.kind = 2 ∧ (countF u 0 0 n).2 = 0 := by
  unfold treeF; split <;> simp_all
theorem pN_h {cut : Bool} {x : PN} : ∀ {l : List ByteArray} {n : PN}, (pN cut x n l).h = n.h
  | [], n => rfl
  | [s], n => rfl
  | s :: t :: l, n => by rw [pN]; split <;> rfl
theorem cut_tree {u : Bool} {x n : PN} {l : List ByteArray} (h : treeF u n = 0) (hp : pF true x n l = 0) : treeF u (pN true x n l) = 0 := by
  obtain ⟨h1, h2⟩ := treeF_ok.1 h
  exact treeF_ok.2 ⟨by rw [pN_h]; exact h1, (cut_count (Nat.le_refl _) (by omega) h2 hp).1⟩
end Go.Proofs.Ytejkmomfpidnbaa
