/- What lowers have becomes the upper's, in plain terms. -/
import Derived.Test.YtejkmomfpidnbaaMergeP
import Derived.Test.YtejkmomfpidnbaaIdmapE3
import Derived.Test.YtejkmomfpidnbaaTreeE6
namespace Go.Proofs.Ytejkmomfpidnbaa
open Go.RowKit
set_option linter.unusedSimpArgs false
set_option linter.unusedVariables false
/-- An id outside (out), within. -/
def hz (out : Bool) (m : List PR) (x : Int) : Option Int := if out = true then hostZ m x else fromZ m x
def movedP (out : Bool) (us gs : List PR) (n : PN) : Option PN :=
  match hz out us n.h.user, hz out gs n.h.group with
  | some u, some g => some (.mk { n.h with user := u, group := g } n.ks)
  | _, _ => none
theorem moved_some {out : Bool} {us gs : List PR} {n : PN} {u g : Int} (h1 : hz out us n.h.user = some u) (h2 : hz out gs n.h.group = some g) : movedP out us gs n = some (.mk { n.h with user := u, group := g } n.ks) := by unfold movedP; rw [h1, h2]
theorem moved_one {out : Bool} {us gs : List PR} {n : PN} (h1 : hz out us n.h.user = none) : movedP out us gs n = none := by unfold movedP; rw [h1]
theorem moved_two {out : Bool} {us gs : List PR} {n : PN} (h1 : hz out gs n.h.group = none) : movedP out us gs n = none := by unfold movedP; rw [h1]; cases hz out us n.h.user <;> rfl
def movF (r : Option PN) : Int := if r.isSome = true then 0 else 11
/-- A node without what is in it. -/
def bareP (n : PN) : PN := .mk { n.h with opq := false } []
/-- One name more. -/
def upOne (l : List PN) (us gs : List PR) (ss : List ByteArray) (u : PN) : PN × Int :=
  match walkP l ss with
  | [] => (u, 0)
  | f :: _ => if f.2 = 0 then (u, 0) else match movedP true us gs (bareP f.1) with
    | none => (pnZ, 11)
    | some x => if pF false x u ss = 0 then (pN false x u ss, 0) else (pnZ, pF false x u ss)
def upK (l : List PN) (us gs : List PR) (ss : List ByteArray) (u0 : PN) : Nat → PN × Int
  | 0 => (u0, 0)
  | i + 1 => if (upK l us gs ss u0 i).2 = 0 then upOne l us gs (ss.take (i + 1)) (upK l us gs ss u0 i).1 else upK l us gs ss u0 i
theorem upK_stop {l : List PN} {us gs : List PR} {ss : List ByteArray} {u0 : PN} {i : Nat} (h : ¬ (upK l us gs ss u0 i).2 = 0) : ∀ d, upK l us gs ss u0 (i + d) = upK l us gs ss u0 i
  | 0 => rfl
  | d + 1 => by
    have := upK_stop h d
    rw [← Nat.add_assoc, upK, this, if_neg h]
theorem upK_on {l : List PN} {us gs : List PR} {ss : List ByteArray} {u0 : PN} {i : Nat} (h : (upK l us gs ss u0 i).2 = 0) : upK l us gs ss u0 (i + 1) = upOne l us gs (ss.take (i + 1)) (upK l us gs ss u0 i).1 := by rw [upK, if_pos h]
def upP (l : List PN) (us gs : List PR) (ss : List ByteArray) : PN × Int :=
  if walkP l ss = [] then (pnZ, 5) else upK l us gs ss (l.headD pnZ) ss.length
theorem upOne_bd (l : List PN) (us gs : List PR) (ss : List ByteArray) (u : PN) : 0 ≤ (upOne l us gs ss u).2 ∧ (upOne l us gs ss u).2 ≤ 11 := by
  unfold upOne
  split
  · simp
  · split
    · simp
    · split
      · simp
      · rename_i x _
        have := pF_bd false x ss u
        split
        · simp
        · simp only []; omega
theorem upK_bd (l : List PN) (us gs : List PR) (ss : List ByteArray) (u0 : PN) : ∀ i, 0 ≤ (upK l us gs ss u0 i).2 ∧ (upK l us gs ss u0 i).2 ≤ 11
  | 0 => by simp [upK]
  | i + 1 => by
    rw [upK]; split
    · exact upOne_bd _ _ _ _ _
    · exact upK_bd l us gs ss u0 i
theorem upP_bd (l : List PN) (us gs : List PR) (ss : List ByteArray) : 0 ≤ (upP l us gs ss).2 ∧ (upP l us gs ss).2 ≤ 11 := by
  unfold upP; split
  · simp
  · exact upK_bd _ _ _ _ _ _
/-- No node has too many kids. -/
def boundP (b : Nat) (h : Hd) (ks : PKs) : Prop := h.attrs.length ≤ 1000 ∧ ks.length ≤ b
theorem bound_le {b c : Nat} (h : b ≤ c) {hd : Hd} {ks : PKs} (k : boundP b hd ks) : boundP c hd ks := ⟨k.1, Nat.le_trans k.2 h⟩
theorem bound_mid {b : Nat} (h : b ≤ 50000) {hd : Hd} {ks : PKs} (k : boundP b hd ks) : midP hd ks := ⟨by have := k.1; omega, Nat.le_trans k.2 h⟩
theorem edit_bound {b : Nat} {x : PN} {hd : Hd} {ks : PKs} {s : ByteArray} (hn : boundP b hd ks) (hk : ∀ k ∈ ks, AllN (boundP (b + 1)) k.2) (hx : AllN (boundP (b + 1)) x) : AllN (boundP (b + 1)) (.mk hd (editK false x ks s)) := by
  refine .mk ⟨hn.1, ?_⟩ fun k hk2 => ?_
  · have := edit_len (cut := false) (x := x) (ks := ks) (s := s)
    have := hn.2
    omega
  · rcases edit_mem' hk2 with h | h
    · exact hk k h
    · rw [h]; exact hx
theorem pN_bound {b : Nat} {x : PN} (hx : AllN (boundP b) x) : ∀ {l : List ByteArray} {n : PN}, pF false x n l = 0 → AllN (boundP b) n → AllN (boundP (b + 1)) (pN false x n l)
  | [], n, h, _ => by simp [pF] at h
  | [s], n, _, hm => by
    rw [pN]
    exact edit_bound hm.here (fun k hk => (hm.kid hk).imp fun _ _ => bound_le (by omega)) (hx.imp fun _ _ => bound_le (by omega))
  | s :: t :: l, n, h, hm => by
    obtain ⟨hk, m, hm2, h3⟩ := pF_cons.1 h
    rw [pN_cons hm2]
    exact edit_bound hm.here (fun k hk => (hm.kid hk).imp fun _ _ => bound_le (by omega)) (pN_bound hx h3 (hm.kid (look_mem hm2)))
end Go.Proofs.Ytejkmomfpidnbaa
