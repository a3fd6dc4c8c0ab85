/- The walk of the reference's Put, by the engine. -/
import Derived.Test.YtejkmomfpidnbabTreeE8
namespace Go.Proofs.Ytejkmomfpidnbab
open Go.RowKit
set_option linter.unusedSimpArgs false
set_option linter.unusedVariables false
def editL (ins es : List LK) (p q k : Nat) : List LK := if k ≤ p then es.take k else es.take p ++ ins ++ (es.drop q).take (k - q)
theorem editL_low {ins es : List LK} {p q k : Nat} {e : LK} (he : es[k]? = some e) (h : k < p) : editL ins es p q (k + 1) = editL ins es p q k ++ [e] := by
  unfold editL; rw [if_pos (by omega), if_pos (by omega), List.take_add_one, he]; rfl
theorem editL_high {ins es : List LK} {p q k : Nat} {e : LK} (he : es[k]? = some e) (h : p < k) (hq : q ≤ k) : editL ins es p q (k + 1) = editL ins es p q k ++ [e] := by
  unfold editL; rw [if_neg (by omega), if_neg (by omega), show k + 1 - q = (k - q) + 1 by omega, List.take_add_one, List.getElem?_drop, show q + (k - q) = k by omega, he]
  simp [List.append_assoc]
theorem editL_at {ins es : List LK} {p : Nat} : editL ins es p (p + 1) (p + 1) = editL ins es p (p + 1) p ++ ins := by
  unfold editL; rw [if_neg (by omega), if_pos (Nat.le_refl _)]; simp
theorem editL_in {ins es : List LK} {p : Nat} {e : LK} (he : es[p]? = some e) : editL ins es p p (p + 1) = editL ins es p p p ++ ins ++ [e] := by
  unfold editL; rw [if_neg (by omega), if_pos (Nat.le_refl _), show p + 1 - p = 1 by omega, drop_get he]; simp
theorem editL_end {ins es : List LK} {p q k : Nat} (h : p < k) (hk : k = es.length) (hq : q ≤ k) : editL ins es p q k = es.take p ++ ins ++ es.drop q := by
  unfold editL; rw [if_neg (by omega), List.take_of_length_le (l := es.drop q) (by rw [List.length_drop]; omega)]
theorem editL_all {ins es : List LK} {p q k : Nat} (h : p = k) (hk : k = es.length) : editL ins es p q k = es := by
  unfold editL; rw [if_pos (by omega), List.take_of_length_le (by omega)]
theorem editL_zero {ins es : List LK} {p q : Nat} : editL ins es p q 0 = [] := by unfold editL; rw [if_pos (Nat.zero_le _)]; simp
theorem edit_map_p {x : LN} {es : List LK} {ks : PKs} (hks : ks = es.map kz) {s : ByteArray} (h : isAt ks s = true) : (es.take (placeN ks s) ++ [(⟨s, x⟩ : LK)] ++ es.drop (placeN ks s + 1)).map kz = editK false x.n ks s := by
  unfold editK; rw [if_pos h, hks]; simp [kz]
theorem edit_map_i {x : LN} {es : List LK} {ks : PKs} (hks : ks = es.map kz) {s : ByteArray} (h : isAt ks s = false) : (es.take (placeN ks s) ++ [(⟨s, x⟩ : LK)] ++ es.drop (placeN ks s)).map kz = editK false x.n ks s := by
  unfold editK; rw [if_neg (show ¬ isAt ks s = true by rw [h]; decide), hks]; simp [kz]
theorem edit_map_c {x : PN} {es : List LK} {ks : PKs} (hks : ks = es.map kz) {s : ByteArray} (h : isAt ks s = true) : (es.take (placeN ks s) ++ [] ++ es.drop (placeN ks s + 1)).map kz = editK true x ks s := by
  unfold editK; rw [if_pos h, hks]; simp
theorem edit_map_e {x : LN} {es : List LK} {ks : PKs} (hks : ks = es.map kz) {s : ByteArray} (h : isAt ks s = false) (hp : placeN ks s = es.length) : (es ++ [(⟨s, x⟩ : LK)]).map kz = editK false x.n ks s := by
  have := edit_map_i (x := x) hks h
  rw [hp, List.take_length, List.drop_length, List.append_nil] at this; exact this
theorem editL_mem {V : View} {K : Option Addr} {n p q k : Nat} {es : List LK} {s : ByteArray} {x : LN} {ins : List LK} (h : KidsV V K n es) (hs : s.size ≤ maxLen) (hx : NodeV V x) (hi : ∀ e ∈ ins, e = ⟨s, x⟩) : ∀ e ∈ editL ins es p q k, e.nm.size ≤ maxLen ∧ NodeV V e.x := by
  intro e he
  unfold editL at he
  split at he
  · exact h.2 e (List.mem_of_mem_take he)
  · rcases List.mem_append.1 he with he | he
    · rcases List.mem_append.1 he with he | he
      · exact h.2 e (List.mem_of_mem_take he)
      · rw [hi e he]; exact ⟨hs, hx⟩
    · exact h.2 e (List.mem_of_mem_drop (List.mem_of_mem_take he))
theorem gt_is {ks : PKs} {s : ByteArray} {k : Nat} {u : ByteArray × PN} (h : isAt ks s = false) (hu : ks[k]? = some u) (hg : s.toList < u.1.toList) : placeN ks s ≤ k := by
  unfold placeN
  rw [if_neg (by rw [h]; decide)]
  unfold gtN
  have hk := lt_of_get hu
  rcases Nat.lt_or_ge k (ks.findIdx fun k => decide (s.toList < k.1.toList)) with h2 | h2
  · have := List.not_of_lt_findIdx h2
    rw [List.getElem?_eq_getElem hk] at hu; injection hu with hu
    rw [hu] at this
    exact absurd (decide_eq_true hg) (by simpa using this)
  · exact h2
theorem gt_not {ks : PKs} {s : ByteArray} {k : Nat} {u : ByteArray × PN} (h : isAt ks s = false) (hu : ks[k]? = some u) (hg : ¬ s.toList < u.1.toList) : ¬ placeN ks s = k := by
  unfold placeN
  rw [if_neg (by rw [h]; decide)]
  unfold gtN
  have hk := lt_of_get hu
  intro e
  have := List.findIdx_getElem (xs := ks) (p := fun k => decide (s.toList < k.1.toList)) (w := by rw [e]; exact hk)
  rw [List.getElem?_eq_getElem hk] at hu; injection hu with hu
  simp only [e, hu] at this
  exact hg (of_decide_eq_true this)
def RPutR (cut : Bool) (x n : PN) (l : List ByteArray) (v : Value) (V' : View) : Prop := ∃ z : LN, v = .tuple #[lnV z, .int .i64 (pF cut x n l)] ∧ NodeV V' z ∧ z.n = putP cut x n l
theorem RPutR.bad {cut : Bool} {x n : PN} {l : List ByteArray} {V' : View} {e : Int} (h : pF cut x n l = e) (h0 : ¬ e = 0) : RPutR cut x n l (.tuple #[lnV lnZ, .int .i64 e]) V' :=
  ⟨lnZ, by rw [h], NodeV.zero, by unfold putP; rw [h, if_neg h0]; rfl⟩
theorem RPutR.good {cut : Bool} {x n : PN} {l : List ByteArray} {V' : View} {z : LN} (h : pF cut x n l = 0) (hz : NodeV V' z) (hn : z.n = pN cut x n l) : RPutR cut x n l (.tuple #[lnV z, .int .i64 0]) V' :=
  ⟨z, by rw [h], hz, by unfold putP; rw [if_pos h, hn]⟩
theorem ones_lk1 (e : LK) : ∀ u ∈ lkC e, isOne u = true := fun u hu => ones_lk [e] u (by simpa using hu)
attribute [local irreducible] AtQ GoC GoL GoW QO QP Fn RV OwnAt CellsFrom VLe SrcIs errV
set_option maxRecDepth 100000
theorem kidR_is {n : PN} {s : ByteArray} (h : n.h.kind = 2) (h2 : isAt n.ks s = true) : kidR n s = ((placeN n.ks s : Nat) : Int) := by unfold kidR; rw [if_pos ⟨h, h2⟩, placeN_yes h2]
theorem kidR_isnt {n : PN} {s : ByteArray} (h2 : isAt n.ks s = false) : kidR n s = -1 := by unfold kidR; rw [if_neg (fun hh => by rw [h2] at hh; cases hh.2)]
end Go.Proofs.Ytejkmomfpidnbab
