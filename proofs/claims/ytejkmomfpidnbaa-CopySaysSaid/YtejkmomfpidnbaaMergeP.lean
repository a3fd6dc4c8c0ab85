/- Layers, one above the other, in plain terms. -/
import Derived.Test.YtejkmomfpidnbaaTopTreeP
namespace Go.Proofs.Ytejkmomfpidnbaa
open Go.RowKit
set_option linter.unusedSimpArgs false
set_option linter.unusedVariables false
abbrev PF := PN × Int
def dirsP : List PF → List PF
  | [] => []
  | f :: l => if f.1.h.kind = 2 then (if f.1.h.opq = true then [f] else f :: dirsP l) else []
/-- What is seen of nodes one above the other. -/
def shownP : List PF → List PF
  | [] => []
  | f :: l => if f.1.h.kind = 1 then [f] else dirsP (f :: l)
def kidP (s : ByteArray) (f : PF) : Option PF := if f.1.h.kind = 2 then (lookK f.1.ks s).map (fun x => (x, f.2)) else none
def stepP (l : List PF) (s : ByteArray) : List PF := shownP (l.filterMap (kidP s))
def layP' : Int → List PN → List PF
  | _, [] => []
  | i, n :: l => (n, i) :: layP' (i + 1) l
def rootsP (l : List PN) : List PF := shownP (layP' 0 l)
def walkP (l : List PN) (ss : List ByteArray) : List PF := ss.foldl stepP (rootsP l)
theorem dirsP_len : ∀ l : List PF, (dirsP l).length ≤ l.length
  | [] => Nat.le_refl _
  | f :: l => by
    have := dirsP_len l
    rw [dirsP]; split
    · split <;> simp <;> omega
    · simp
theorem shownP_len (l : List PF) : (shownP l).length ≤ l.length := by
  cases l with
  | nil => exact Nat.le_refl _
  | cons f l =>
    rw [shownP]; split
    · simp
    · exact dirsP_len _
theorem stepP_len (l : List PF) (s : ByteArray) : (stepP l s).length ≤ l.length := Nat.le_trans (shownP_len _) (List.length_filterMap_le _ _)
theorem layP_len : ∀ (l : List PN) (i : Int), (layP' i l).length = l.length
  | [], _ => rfl
  | n :: l, i => by rw [layP', List.length_cons, layP_len l, List.length_cons]
theorem walkP_len (l : List PN) : ∀ (ss : List ByteArray), (walkP l ss).length ≤ l.length := by
  have key : ∀ (ss : List ByteArray) (at0 : List PF), (ss.foldl stepP at0).length ≤ at0.length := fun ss => by
    induction ss with
    | nil => intro a; exact Nat.le_refl _
    | cons s ss ih => intro a; exact Nat.le_trans (ih _) (stepP_len a s)
  intro ss
  refine Nat.le_trans (key ss _) ?_
  have := shownP_len (layP' 0 l)
  rw [layP_len] at this; exact this
theorem dirs_at {l : List PF} {i : Nat} {f : PF} (h : l[i]? = some f) (hk : f.1.h.kind = 2) (ho : f.1.h.opq = false) : dirsP (l.drop i) = f :: dirsP (l.drop (i + 1)) := by
  obtain ⟨hi, rfl⟩ := List.getElem?_eq_some_iff.1 h
  rw [List.drop_eq_getElem_cons hi, dirsP, if_pos hk, if_neg (by rw [ho]; decide)]
end Go.Proofs.Ytejkmomfpidnbaa
