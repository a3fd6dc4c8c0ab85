/- Walks and plain laws, part 10: what functions compute, proved once each (BxR, BxW, BxA, BxB, BxE, BxD, TopOwned, BxIn, TopOwned2, Open, Fn, Open2, OpenT, Open3, OpenN, OpenB). -/
import Derived.Test.YtejkmomfpidnbacGreatPart9
import Derived.Test.YtejkmomfpidnbacGreatPart5
import Derived.Test.YtejkmomfpidnbacGreatPart8
import Derived.Test.YtejkmomfpidnbacGreatPart7
import Derived.Test.YtejkmomfpidnbacGreatPart1
import Derived.ProofKit
import Derived.OpenShut
import Derived.ShutString
import Derived.ChangeOld
import Derived.Deep.Slices
import Derived.Test.YtejkmomfpidnbacGreatPart2
import Derived.Test.YtejkmomfpidnbacGreatChecked
set_option linter.unusedSimpArgs false
set_option linter.unusedVariables false
namespace Go.Proofs.YtejkmomfpidnbacGreat
open Go.RowKit
section
theorem look_bd9 {xs : List PR} (h : ∀ r ∈ xs, bdR r) {x y : Int} (hl : lookZ xs x = some y) : 0 ≤ y ∧ y ≤ 65535 := by
  obtain ⟨r, hr, hi, rfl⟩ := look_some hl
  have := h r hr
  unfold bdR at this; unfold inR at hi; omega
theorem host_bd9 {m : List PR} {x y : Int} (h : hostZ m x = some y) : 0 ≤ y ∧ y ≤ 65535 := by
  unfold hostZ at h
  by_cases hf : mapFaultZ m = 0
  · rw [if_pos hf] at h
    exact look_bd9 (fun r hr => (fault_zero hf).2.1 r hr) h
  · rw [if_neg hf] at h; cases h
theorem root_tree9 {u g : Int} (hu : 0 ≤ u ∧ u ≤ 65535) (hg : 0 ≤ g ∧ g ≤ 65535) : treeF true (.mk ⟨2, 493, u, g, false, [], ⟨#[]⟩⟩ []) = 0 := by
  have h0 : oneF ⟨2, 493, u, g, false, [], ⟨#[]⟩⟩ (decide (0 < ([] : PKs).length)) true (decide (0 = 0)) = 0 := by
    unfold oneF
    rw [if_neg (by show ¬ ¬ ((2 : Int) = 1 ∨ (2 : Int) = 2 ∨ (2 : Int) = 3); decide), if_neg (by show ¬ ¬ ((0 ≤ (493 : Int) ∧ (493 : Int) ≤ 4095) ∧ (0 ≤ u ∧ u ≤ 65535) ∧ (0 ≤ g ∧ g ≤ 65535)); omega)]
    rfl
  unfold treeF
  rw [if_neg (by show ¬ ¬ (2 : Int) = 2; decide), countF, if_neg (by omega), if_neg (not_not_intro h0), countK]
theorem root_tree {us gs : List PR} {c : CR} {z : PN} (h : movedP true us gs (.mk (rootH c) []) = some z) : treeF true z = 0 := by
  obtain ⟨u, g, rfl, h1, h2⟩ := moved_inv h
  exact root_tree9 (host_bd9 (m := us) h1) (host_bd9 (m := gs) h2)
theorem newOk {x : CF} {ls : List PN} (h : cfgF x ls = 0) : BoxOk (newB x.M.us x.M.gs x.c x.q ls) := by
  obtain ⟨k1, k2, k3, k4, k5, k6, k7⟩ := cfg_ok h
  obtain ⟨z, hz⟩ := root_moved k7
  refine ⟨k4, k5, by show 0 < ls.length + 1; omega, by show ls.length + 1 ≤ 4; omega, fun y hy => ?_, fun j y hj hy => ?_⟩
  · have hy : (((movedP true x.M.us x.M.gs (.mk (rootH x.c) [])).getD pnZ) :: ls)[0]? = some y := hy
    rw [hz] at hy
    cases hy
    exact root_tree hz
  · have hy : (((movedP true x.M.us x.M.gs (.mk (rootH x.c) [])).getD pnZ) :: ls)[j]? = some y := hy
    obtain ⟨i, rfl⟩ : ∃ i, j = i + 1 := ⟨j - 1, by omega⟩
    rw [List.getElem?_cons_succ] at hy
    exact k6 y (List.mem_of_getElem? hy)
end
section
/-- The same box, with all the quota. -/
def richB (b : BX) : BX := { b with q := 64 }
def upB (b : BX) : PN := b.ls.headD pnZ
theorem look_rich (b : BX) (ss : List ByteArray) (t : TH) : lookS (richB b) ss t = lookS b ss t := rfl
theorem spotK_rich (b : BX) (ss : List ByteArray) : ∀ k, spotK (richB b) ss k = spotK b ss k
  | 0 => rfl
  | k + 1 => by
    rw [spotK, spotK, spotK_rich b ss k, look_rich]
    rfl
theorem spotP_rich (b : BX) (ss : List ByteArray) : spotP (richB b) ss = spotP b ss := spotK_rich b ss _
theorem thereF_rich (b : BX) (l : List UInt8) : thereF (richB b) l = thereF b l := by unfold thereF; rw [spotP_rich]
theorem thereS_rich (b : BX) (l : List UInt8) : thereS (richB b) l = thereS b l := by unfold thereS; rw [spotP_rich]
theorem spotF_rich (b : BX) (l : List UInt8) : spotF (richB b) l = spotF b l := by unfold spotF; rw [spotP_rich]
structure Qt (b : BX) (r r' : BX × Int) : Prop where
  bad : ¬ r.2 = 0 → r.1 = b
  same : ¬ r'.2 = 0 → r.2 = r'.2
  over : r'.2 = 0 → b.q < blocksP (upB r'.1) → r.2 = 12
  fits : r'.2 = 0 → blocksP (upB r'.1) ≤ b.q → r.2 = 0 ∧ r'.1 = richB r.1
theorem Qt.err {b : BX} (hb : blocksP (upB b) ≤ b.q) (e : Int) : Qt b (b, e) (richB b, e) :=
  ⟨fun _ => rfl, fun _ => rfl, fun _ h => absurd hb (by have h : b.q < blocksP (upB b) := h; omega), fun h _ => ⟨h, rfl⟩⟩
theorem qt_grow {b : BX} (hq : b.q ≤ 64) (hb : blocksP (upB b) ≤ b.q) (u : PN) : Qt b (growP b u) (growP (richB b) u) := by
  unfold growP
  by_cases h1 : treeF true u = 0
  · rw [if_neg (not_not_intro h1), if_neg (not_not_intro h1)]
    by_cases h2 : b.q < blocksP u
    · rw [if_pos h2]
      by_cases h3 : (richB b).q < blocksP u
      · rw [if_pos h3]; exact Qt.err hb 12
      · rw [if_neg h3]
        exact ⟨fun _ => rfl, fun h => absurd rfl h, fun _ _ => rfl, fun _ h => absurd h2 (by have h : blocksP u ≤ b.q := h; omega)⟩
    · rw [if_neg h2, if_neg (by show ¬ (64 : Int) < _; omega)]
      exact ⟨fun h => absurd rfl h, fun h => absurd rfl h, fun _ h => absurd h h2, fun _ _ => ⟨rfl, rfl⟩⟩
  · rw [if_pos h1, if_pos h1]; exact Qt.err hb _
section
variable {b : BX} (hq : b.q ≤ 64) (hb : blocksP (upB b) ≤ b.q)
include hq hb
theorem qt_putG (x u : PN) (ss : List ByteArray) : Qt b (putG b x u ss) (putG (richB b) x u ss) := by
  unfold putG
  split
  · exact Qt.err hb _
  · exact qt_grow hq hb _
theorem qt_alter (ss : List ByteArray) (f : Hd → Hd) : Qt b (alterP b ss f) (alterP (richB b) ss f) := by
  have e1 : (richB b).ls = b.ls := rfl
  have e2 : (richB b).us = b.us := rfl
  have e3 : (richB b).gs = b.gs := rfl
  unfold alterP
  rw [e1, e2, e3]
  split
  · exact Qt.err hb _
  · split
    · exact qt_grow hq hb _
    · split
      · exact Qt.err hb _
      · exact qt_grow hq hb _
theorem qt_make (ss : List ByteArray) (par : TH) (kind mode : Int) (dt : ByteArray) : Qt b (makeP b ss par kind mode dt) (makeP (richB b) ss par kind mode dt) := by
  have e0 : (richB b).c = b.c := rfl
  have e1 : (richB b).ls = b.ls := rfl
  have e2 : (richB b).us = b.us := rfl
  have e3 : (richB b).gs = b.gs := rfl
  have e4 : makeH (richB b) par kind mode dt = makeH b par kind mode dt := rfl
  unfold makeP
  rw [e0, e2, e3, e4]
  split
  · exact Qt.err hb _
  · split
    · exact Qt.err hb _
    · cases hm : movedP true b.us b.gs (.mk (makeH b par kind mode dt) []) with
      | none => exact Qt.err hb _
      | some x =>
        show Qt b (make2 b ss kind x) (make2 (richB b) ss kind x)
        unfold make2
        rw [e1, e2, e3]
        split
        · exact Qt.err hb _
        · exact qt_putG hq hb _ _ _
theorem qt_put (c : CL) : Qt b (putP9 b c) (putP9 (richB b) c) := by
  have e0 : (richB b).c = b.c := rfl
  unfold putP9
  rw [spotF_rich, thereS_rich, e0]
  (repeat' split) <;> first | exact Qt.err hb _ | exact qt_make hq hb _ _ _ _ _ | exact qt_alter hq hb _ _
theorem qt_mkdir (c : CL) : Qt b (mkdirP b c) (mkdirP (richB b) c) := by
  unfold mkdirP
  rw [spotF_rich, thereS_rich]
  (repeat' split) <;> first | exact Qt.err hb _ | exact qt_make hq hb _ _ _ _ _
theorem qt_remove (s : ByteArray) : Qt b (removeP b s) (removeP (richB b) s) := by
  have e1 : (richB b).ls = b.ls := rfl
  have e2 : (richB b).us = b.us := rfl
  have e3 : (richB b).gs = b.gs := rfl
  have e4 : ∀ s, takeF9 (richB b) s = takeF9 b s := fun s => rfl
  have e5 : ∀ u ss, goneF (richB b) u ss = goneF b u ss := fun u ss => rfl
  have e6 : ∀ u ss, goneN (richB b) u ss = goneN b u ss := fun u ss => rfl
  unfold removeP gone2
  rw [thereF_rich, thereS_rich, e1, e2, e3, e4]
  (repeat' (first | rw [e5] | rw [e6]))
  (repeat' split) <;> first | exact Qt.err hb _ | exact qt_grow hq hb _
theorem qt_move (s t : ByteArray) : Qt b (moveP b s t) (moveP (richB b) s t) := by
  have e0 : (richB b).c = b.c := rfl
  have e1 : (richB b).ls = b.ls := rfl
  have e2 : (richB b).us = b.us := rfl
  have e3 : (richB b).gs = b.gs := rfl
  have e4 : ∀ s, takeF9 (richB b) s = takeF9 b s := fun s => rfl
  have e5 : ∀ u ss, goneF (richB b) u ss = goneF b u ss := fun u ss => rfl
  have e6 : ∀ u ss, goneN (richB b) u ss = goneN b u ss := fun u ss => rfl
  have h4 : ∀ dir n u ss other, Qt b (move4 b dir n u ss other) (move4 (richB b) dir n u ss other) := fun dir n u ss other => by
    unfold move4
    rw [e1, e5, e6]
    split
    · exact Qt.err hb _
    · exact qt_putG hq hb _ _ _
  have h3 : ∀ dir ss other, Qt b (move3 b dir ss other) (move3 (richB b) dir ss other) := fun dir ss other => by
    unfold move3
    rw [e1, e2, e3]
    split
    · exact Qt.err hb _
    · split
      · exact Qt.err hb _
      · exact h4 _ _ _ _ _
  have h2 : ∀ a to ss other, Qt b (move2 b a to ss other) (move2 (richB b) a to ss other) := fun a to ss other => by
    unfold move2
    rw [e1, e4]
    (repeat' split) <;> first | exact Qt.err hb _ | exact h3 _ _ _
  unfold moveP
  rw [thereF_rich, thereS_rich, thereS_rich, spotP_rich, e0, e4]
  (repeat' split) <;> first | exact Qt.err hb _ | exact h2 _ _ _ _
theorem qt_mode (l : List UInt8) (m : Int) : Qt b (chmodP b l m) (chmodP (richB b) l m) := by
  have e0 : (richB b).c = b.c := rfl
  unfold chmodP
  rw [thereF_rich, thereS_rich, e0]
  (repeat' split) <;> first | exact Qt.err hb _ | exact qt_alter hq hb _ _
theorem qt_own (l : List UInt8) (u g : Int) : Qt b (ownP b l u g) (ownP (richB b) l u g) := by
  have h2 : ∀ u g, Qt b (own2 b l u g) (own2 (richB b) l u g) := fun u g => by
    have e0 : ∀ t, ownM (richB b) t u g = ownM b t u g := fun _ => rfl
    have e2 : (richB b).us = b.us := rfl
    have e3 : (richB b).gs = b.gs := rfl
    by_cases hm : ownM b (thereS b l).th u g
    · have hm' : ownM (richB b) (thereS (richB b) l).th u g := by rw [thereS_rich]; exact hm
      unfold own2
      rw [if_neg (not_not_intro hm), if_neg (not_not_intro hm'), e2, e3]
      cases hx : movedP true b.us b.gs (idN u g) with
      | none => exact Qt.err hb _
      | some x => exact qt_alter hq hb _ _
    · have hm' : ¬ ownM (richB b) (thereS (richB b) l).th u g := by rw [thereS_rich]; exact hm
      unfold own2
      rw [if_pos hm, if_pos hm']
      exact Qt.err hb _
  unfold ownP
  rw [thereF_rich, thereS_rich]
  (repeat' split) <;> first | exact Qt.err hb _ | exact h2 _ _
theorem qt_be (u g : Int) : Qt b (beP b u g) (beP (richB b) u g) := by
  have _ := hq
  have e0 : (richB b).c = b.c := rfl
  have e2 : (richB b).us = b.us := rfl
  have e3 : (richB b).gs = b.gs := rfl
  unfold beP
  rw [e0, e2, e3]
  split
  · exact Qt.err hb _
  · split
    · exact Qt.err hb _
    · exact ⟨fun h => absurd rfl h, fun h => absurd rfl h, fun _ h => absurd (show blocksP (upB b) ≤ b.q from hb) (by have h : b.q < blocksP (upB b) := h; omega), fun _ _ => ⟨rfl, rfl⟩⟩
theorem qt_attr (l : List UInt8) (nm vl : ByteArray) (drop : Bool) : Qt b (attrP b l nm vl drop) (attrP (richB b) l nm vl drop) := by
  have e4 : ∀ t n w, attrsF (richB b) t n w = attrsF b t n w := fun _ _ _ => rfl
  unfold attrP
  rw [thereF_rich, thereS_rich, e4]
  (repeat' split) <;> first | exact Qt.err hb _ | exact qt_alter hq hb _ _
end
theorem lookT_rich (b : BX) (c : CL) : lookT (richB b) c = lookT b c := by
  have e0 : (richB b).c = b.c := rfl
  have e1 : (richB b).ls = b.ls := rfl
  unfold lookT
  rw [thereF_rich, thereS_rich, e0, e1]
theorem getP_rich (b : BX) (c : CL) : getP (richB b) c = getP b c := by
  have e4 : ∀ t n w, attrsF (richB b) t n w = attrsF b t n w := fun _ _ _ => rfl
  unfold getP
  rw [thereF_rich, thereS_rich, e4]
/-- What is told is the same, too. -/
theorem qt_do {b : BX} (hq : b.q ≤ 64) (hb : blocksP (upB b) ≤ b.q) (c : CL) : Qt b ((doP b c).1, (doP b c).2.2) ((doP (richB b) c).1, (doP (richB b) c).2.2) ∧ (doP (richB b) c).2.1 = (doP b c).2.1 := by
  have e1 : (richB b).ls = b.ls := rfl
  have ch : ∀ r r' : BX × Int, Qt b r r' → Qt b ((chT r).1, (chT r).2.2) ((chT r').1, (chT r').2.2) ∧ (chT r').2.1 = (chT r).2.1 := fun r r' h => ⟨h, rfl⟩
  unfold doP
  rw [lookT_rich, getP_rich, e1]
  by_cases o0 : 1 ≤ c.op ∧ c.op ≤ 3
  · rw [if_pos o0, if_pos o0]; exact ⟨Qt.err hb _, rfl⟩
  rw [if_neg o0, if_neg o0]
  by_cases o1 : c.op = 4
  · rw [if_pos o1, if_pos o1]; exact ch _ _ (qt_put hq hb c)
  rw [if_neg o1, if_neg o1]
  by_cases o2 : c.op = 5
  · rw [if_pos o2, if_pos o2]; exact ch _ _ (qt_mkdir hq hb c)
  rw [if_neg o2, if_neg o2]
  by_cases o3 : c.op = 6
  · rw [if_pos o3, if_pos o3]; exact ch _ _ (qt_remove hq hb _)
  rw [if_neg o3, if_neg o3]
  by_cases o4 : c.op = 7
  · rw [if_pos o4, if_pos o4]; exact ch _ _ (qt_move hq hb _ _)
  rw [if_neg o4, if_neg o4]
  by_cases o5 : c.op = 8
  · rw [if_pos o5, if_pos o5]; exact ch _ _ (qt_mode hq hb _ _)
  rw [if_neg o5, if_neg o5]
  by_cases o6 : c.op = 9
  · rw [if_pos o6, if_pos o6]; exact ch _ _ (qt_own hq hb _ _ _)
  rw [if_neg o6, if_neg o6]
  by_cases o7 : c.op = 10
  · rw [if_pos o7, if_pos o7]; exact ch _ _ (qt_attr hq hb _ _ _ _)
  rw [if_neg o7, if_neg o7]
  by_cases o8 : c.op = 11
  · rw [if_pos o8, if_pos o8]; exact ch _ _ (qt_attr hq hb _ _ _ _)
  rw [if_neg o8, if_neg o8]
  by_cases o9 : c.op = 12
  · rw [if_pos o9, if_pos o9]; exact ⟨Qt.err hb _, rfl⟩
  rw [if_neg o9, if_neg o9]
  by_cases o10 : c.op = 13
  · rw [if_pos o10, if_pos o10]; exact ch _ _ (qt_be hq hb _ _)
  rw [if_neg o10, if_neg o10]
  by_cases o11 : c.op = 14
  · rw [if_pos o11, if_pos o11]; exact ⟨Qt.err hb _, rfl⟩
  rw [if_neg o11, if_neg o11]
  exact ⟨Qt.err hb _, rfl⟩
/-- What a box has stays within its quota. -/
theorem Qt.room {b : BX} {r r' : BX × Int} (hb : blocksP (upB b) ≤ b.q) (h : Qt b r r') : blocksP (upB r.1) ≤ b.q := by
  by_cases h1 : r.2 = 0
  · by_cases h2 : r'.2 = 0
    · by_cases h3 : b.q < blocksP (upB r'.1)
      · have := h.over h2 h3; omega
      · obtain ⟨_, h4⟩ := h.fits h2 (by omega)
        have : upB r'.1 = upB r.1 := by rw [h4]; rfl
        rw [← this]; omega
    · have := h.same h2; omega
  · rw [h.bad h1]; exact hb
end
section
/-- No name twice. -/
def ndP (h : Hd) (ks : PKs) : Prop := ks.Pairwise fun a b => ¬ a.1 = b.1
theorem nd_ok {u : Bool} : ∀ (n : PN) (d so : Nat), so ≤ 60 → (countF u d so n).2 = 0 → AllN ndP n := by
  refine PN.ind (p := fun n => ∀ (d so : Nat), so ≤ 60 → (countF u d so n).2 = 0 → AllN ndP n) ?_
  intro h ks ih d so hs hc
  obtain ⟨⟨h1, _⟩, _, h3⟩ := countF_ok.1 hc
  obtain ⟨h5, h4⟩ := countK_all (by omega) h3
  exact .mk (h5.imp fun {a b} hab e => absurd (e ▸ hab) (List.lt_irrefl _)) fun k hk => by
    obtain ⟨so', hs', hc'⟩ := (h4 k hk).2.2
    exact ih k hk (d + 1) so' hs' hc'
theorem tree_nd {u : Bool} {n : PN} (h : treeF u n = 0) : AllN ndP n := nd_ok n 0 0 (by omega) (treeF_ok.1 h).2
theorem edit_nd {x : PN} {ks : PKs} {s : ByteArray} (h : ks.Pairwise fun a b => ¬ a.1 = b.1) : (editK false x ks s).Pairwise fun a b => ¬ a.1 = b.1 := by
  cases hi : isAt ks s
  · obtain ⟨a, b, rfl, e⟩ := edit_new (cut := false) (y := x) hi
    rw [e]
    have hno := lookK_none.1 (isAt_no.1 hi)
    rw [List.pairwise_append] at h
    obtain ⟨h1, h2, h3⟩ := h
    simp only [Bool.false_eq_true, if_false, List.append_assoc, List.singleton_append]
    rw [List.pairwise_append, List.pairwise_cons]
    refine ⟨h1, ⟨fun k hk => fun e => hno k (by simp [hk]) e.symm, h2⟩, fun k hk l hl => ?_⟩
    rcases List.mem_cons.1 hl with rfl | hl
    · exact hno k (by simp [hk])
    · exact h3 k hk l hl
  · obtain ⟨a, y, b, rfl, h1, h2⟩ := kid_split hi
    rw [edit_split h2]
    rw [List.pairwise_append, List.pairwise_cons] at h
    obtain ⟨k1, ⟨k2, k3⟩, k4⟩ := h
    simp only [Bool.false_eq_true, if_false, List.append_assoc, List.singleton_append]
    rw [List.pairwise_append, List.pairwise_cons]
    refine ⟨k1, ⟨k2, k3⟩, fun k hk l hl => ?_⟩
    rcases List.mem_cons.1 hl with rfl | hl
    · exact k4 k hk (s, y) (by simp)
    · exact k4 k hk l (by simp [hl])
theorem pN_nd {x : PN} (hx : AllN ndP x) : ∀ {l : List ByteArray} {n : PN}, pF false x n l = 0 → AllN ndP n → AllN ndP (pN false x n l)
  | [], n, h, _ => by simp [pF] at h
  | [s], n, _, hm => by
    rw [pN]
    refine .mk (edit_nd hm.here) fun k hk => ?_
    rcases edit_mem' hk with h | h
    · exact hm.kid h
    · rw [h]; exact hx
  | s :: t :: l, n, h, hm => by
    obtain ⟨hk, m, hm2, h3⟩ := pF_cons.1 h
    rw [pN_cons hm2]
    refine .mk (edit_nd hm.here) fun k hk => ?_
    rcases edit_mem' hk with h | h
    · exact hm.kid h
    · rw [h]; exact pN_nd hx h3 (hm.kid (look_mem hm2))
theorem upK_nd {l : List PN} {us gs : List PR} {ss : List ByteArray} {u0 : PN} (h0 : AllN ndP u0) : ∀ i, (upK l us gs ss u0 i).2 = 0 → AllN ndP (upK l us gs ss u0 i).1
  | 0, _ => h0
  | i + 1, h => by
    have hprev : (upK l us gs ss u0 i).2 = 0 := by
      by_cases hp : (upK l us gs ss u0 i).2 = 0
      · exact hp
      · rw [upK, if_neg hp] at h; exact absurd h hp
    have hup := upK_nd h0 i hprev
    rw [upK_on hprev] at h ⊢
    generalize (upK l us gs ss u0 i).1 = u at *
    cases hq : walkP l (ss.take (i + 1)) with
    | nil => rw [upOne_none hq]; exact hup
    | cons f r =>
      by_cases hf : f.2 = 0
      · rw [upOne_top hq hf]; exact hup
      · cases hm : movedP true us gs (bareP f.1) with
        | none => rw [upOne_un hq hf hm] at h; simp at h
        | some x =>
          by_cases hp : pF false x u (ss.take (i + 1)) = 0
          · rw [upOne_put hq hf hm hp]
            have hx : AllN ndP x := by
              have := (moved_in hm).1
              obtain ⟨hd, ks⟩ := x
              have : ks = [] := this
              subst this
              exact .mk (List.Pairwise.nil) (by simp)
            exact pN_nd hx hp hup
          · rw [upOne_bad hq hf hm hp] at h; exact absurd h hp
theorem upP_nd {n0 : PN} {t : List PN} {us gs : List PR} {ss : List ByteArray} (h0 : AllN ndP n0) (h : (upP (n0 :: t) us gs ss).2 = 0) : AllN ndP (upP (n0 :: t) us gs ss).1 := by
  unfold upP at h ⊢
  by_cases hw : walkP (n0 :: t) ss = []
  · rw [if_pos hw] at h; simp at h
  · rw [if_neg hw] at h ⊢
    exact upK_nd h0 _ h
theorem cut_gone {x : PN} : ∀ {ss : List ByteArray} {u : PN}, AllN ndP u → pF true x u ss = 0 → findP (pN true x u ss) ss = none
  | [], u, _, h => by simp [pF] at h
  | [s], u, hn, h => by
    have hk := pF_dir h
    rw [pF, if_pos hk] at h
    have hi : isAt u.ks s = true := by
      cases hi : isAt u.ks s
      · unfold editF at h; rw [if_pos rfl, hi] at h; simp at h
      · rfl
    obtain ⟨a, y, b, e, h1, h2⟩ := kid_split hi
    have hnd : u.ks.Pairwise fun a b => ¬ a.1 = b.1 := hn.here
    rw [e] at hnd h2
    rw [List.pairwise_append, List.pairwise_cons] at hnd
    obtain ⟨k1, ⟨k2, k3⟩, k4⟩ := hnd
    rw [findP_cons, pN, PN.ks_mk, e, edit_split h2, if_pos (by exact hk), if_pos rfl, List.append_nil, lookK_app, h1, lookK_none.2 fun k hk e => k2 k hk e.symm]
    rfl
  | s :: s2 :: l, u, hn, h => by
    obtain ⟨hk, m, hlm, hp2⟩ := pF_cons.1 h
    rw [findP_cons, if_pos (by rw [pN_h]; exact hk), pN_cons hlm, PN.ks_mk, look_edit]
    exact cut_gone (hn.kid (look_mem hlm)) hp2
/-! What the walk finds in the upper -/
theorem d0_pos (u : PN) (t : List PN) : ∀ g ∈ d0P u t, 0 < g.2 := fun g hg => by
  unfold d0P at hg
  split at hg
  · cases hg
  · exact lay_pos t 1 (by omega) g ((dirsP_subl _).subset hg)
theorem low_pos {D : List PF} (h : ∀ g ∈ D, 0 < g.2) (s : ByteArray) (m : PN) : ∀ g ∈ lowK D s m, 0 < g.2 := fun g hg => by
  unfold lowK at hg
  split at hg
  · cases hg
  · exact step_pos h g ((dirsP_subl _).subset hg)
/-- What is the top layer's is found there, and one came to it by the top layer. -/
theorem walk_top : ∀ (ss : List ByteArray) (u : PN) (D : List PF) (f : PF) (r : List PF), u.h.kind = 2 → (∀ g ∈ D, 0 < g.2) → ss.foldl stepP ((u, 0) :: D) = f :: r → f.2 = 0 → findP u ss = some f.1 ∧ ∀ i, i ≤ ss.length → ∃ g r', (ss.take i).foldl stepP ((u, 0) :: D) = g :: r' ∧ g.2 = 0
  | [], u, D, f, r, hk, hD, hw, hf => by
    rw [List.foldl_nil] at hw
    injection hw with h1 h2
    subst h1
    exact ⟨find_nil u, fun i hi => ⟨(u, 0), D, by rw [List.take_nil, List.foldl_nil], rfl⟩⟩
  | s :: ss, u, D, f, r, hk, hD, hw, hf => by
    rw [List.foldl_cons] at hw
    have bad : ∀ (E : List PF), (∀ g ∈ E, 0 < g.2) → ss.foldl stepP E = f :: r → False := fun E hE hh => by
      have := fold_pos ss hE f (by rw [hh]; simp)
      omega
    cases hl : lookK u.ks s with
    | none =>
      rw [step_top hk hl] at hw
      exact (bad _ (fun g hg => step_pos hD g (shownP_sub hg)) hw).elim
    | some m =>
      by_cases hm : m.h.kind = 2
      · rw [step_dir hk hl hm] at hw
        obtain ⟨h1, h2⟩ := walk_top ss m _ f r hm (low_pos hD s m) hw hf
        refine ⟨by rw [findP_cons, if_pos hk, hl]; exact h1, fun i hi => ?_⟩
        cases i with
        | zero => exact ⟨(u, 0), D, by rw [List.take_zero, List.foldl_nil], rfl⟩
        | succ i =>
          obtain ⟨g, r', h3, h4⟩ := h2 i (by simp at hi; omega)
          exact ⟨g, r', by rw [List.take_succ_cons, List.foldl_cons, step_dir hk hl hm]; exact h3, h4⟩
      · rw [step_has hk hl] at hw
        by_cases h1 : m.h.kind = 1
        · rw [shown_one (by exact h1)] at hw
          cases ss with
          | nil =>
            rw [List.foldl_nil] at hw
            injection hw with h2 h3
            subst h2
            refine ⟨by rw [findP_cons, if_pos hk, hl]; exact find_nil m, fun i hi => ?_⟩
            cases i with
            | zero => exact ⟨(u, 0), D, by rw [List.take_zero, List.foldl_nil], rfl⟩
            | succ i =>
              refine ⟨(m, 0), [], ?_, rfl⟩
              rw [List.take_succ_cons, List.take_nil, List.foldl_cons, List.foldl_nil, step_has hk hl, shown_one (by exact h1)]
          | cons s2 ss => rw [fold_step_file (by exact h1) _ (by simp)] at hw; cases hw
        · rw [shown_not (by exact h1), dirsP, if_neg (by exact hm), fold_nil] at hw; cases hw
theorem walk_d0 {u : PN} {t : List PN} (hk : u.h.kind = 2) (ss : List ByteArray) : walkP (u :: t) ss = ss.foldl stepP ((u, 0) :: d0P u t) := by
  unfold walkP; rw [roots_cons hk]; rfl
theorem below_bl {u : PN} {t : List PN} (hk : u.h.kind = 2) (p : List ByteArray) (s : ByteArray) : belowP (u :: t) (p ++ [s]) = decide (0 < (stepP (blP (d0P u t) u p) s).length) := by
  rw [below_yes (k := p.length) (s := s) (r := walkP (u :: t) p) (by simp) (by simp) (by rw [List.take_left]), walk_d0 hk]; rfl
theorem below_ne {u : PN} {t : List PN} (hk : u.h.kind = 2) {p : List ByteArray} {s : ByteArray} : belowP (u :: t) (p ++ [s]) = true ↔ stepP (blP (d0P u t) u p) s ≠ [] := by
  rw [below_bl hk, decide_eq_true_iff, List.length_pos_iff]
/-! What a box does -/
def OwnB (b : BX) : Prop := Own2 b.us b.gs (upB b) b.ls.tail
theorem OwnB.grow {b : BX} (h : OwnB b) {u : PN} (hu : Own2 b.us b.gs u b.ls.tail) : OwnB (growP b u).1 := by
  unfold growP
  split
  · exact h
  · split
    · exact h
    · exact hu
structure BoxT (b : BX) : Prop where
  e : b.ls = upB b :: b.ls.tail
  k : (upB b).h.kind = 2
  nd : AllN ndP (upB b)
theorem BoxOk.t {b : BX} (hok : BoxOk b) : BoxT b := by
  have hl := hok.l1
  cases hb : b.ls with
  | nil => rw [hb] at hl; simp at hl
  | cons n0 t =>
    have e : upB b = n0 := by unfold upB; rw [hb]; rfl
    have ht := hok.up n0 (by rw [hb]; rfl)
    exact ⟨by rw [e, hb]; rfl, by rw [e]; exact (treeF_ok.1 ht).1, by rw [e]; exact tree_nd ht⟩
section
variable {b : BX} (hT : BoxT b) (hO : OwnB b)
include hT hO
theorem own_up {ss : List ByteArray} (h : (upP b.ls b.us b.gs ss).2 = 0) : Own2 b.us b.gs (upP b.ls b.us b.gs ss).1 b.ls.tail ∧ (upP b.ls b.us b.gs ss).1.h = (upB b).h ∧ (∀ p s, stepP (blP (d0P (upB b) b.ls.tail) (upP b.ls b.us b.gs ss).1 p) s = stepP (blP (d0P (upB b) b.ls.tail) (upB b) p) s) ∧ AllN ndP (upP b.ls b.us b.gs ss).1 := by
  have h2 : (upP (upB b :: b.ls.tail) b.us b.gs ss).2 = 0 := by rw [← hT.e]; exact h
  obtain ⟨h3, h4, h5⟩ := upP_own2 hT.k hO h2
  rw [← hT.e] at h3 h4 h5
  have h6 := upP_nd hT.nd h2
  rw [← hT.e] at h6
  exact ⟨h3, h4, h5, h6⟩
/-- What comes up is found. -/
theorem own_find {ss : List ByteArray} (h : (upP b.ls b.us b.gs ss).2 = 0) : ∃ m, findP (upP b.ls b.us b.gs ss).1 ss = some m ∧ (m.h.kind = 1 ∨ m.h.kind = 2) := by
  obtain ⟨_, h4, _⟩ := own_up hT hO h
  have h2 : (upP (upB b :: b.ls.tail) b.us b.gs ss).2 = 0 := by rw [← hT.e]; exact h
  obtain ⟨⟨f, r, h5, h6⟩, _⟩ := up_law hT.k h2
  rw [← hT.e] at h5
  obtain ⟨X, hX⟩ := walk_shown ((upP b.ls b.us b.gs ss).1 :: b.ls.tail) ss
  rw [h5] at hX
  have hk2 : (upP b.ls b.us b.gs ss).1.h.kind = 2 := by rw [h4]; exact hT.k
  rw [walk_d0 hk2] at h5
  obtain ⟨h7, _⟩ := walk_top ss _ _ f r hk2 (d0_pos _ _) h5 h6
  exact ⟨f.1, h7, (shown_head hX.symm).1.imp And.left id⟩
theorem own_putG {x u : PN} {ss : List ByteArray} (h : pF false x u ss = 0 → Own2 b.us b.gs (pN false x u ss) b.ls.tail) : OwnB (putG b x u ss).1 := by
  have _ := hT
  unfold putG
  split
  · exact hO
  · rename_i hp; exact hO.grow (h (Decidable.not_not.1 hp))
theorem own_alter (ss : List ByteArray) (φ : Hd → Hd) (hk : ∀ h, (φ h).kind = h.kind) (ho : ∀ h, (φ h).opq = h.opq) (hid : ∀ h, okH b.us b.gs h → okH b.us b.gs (φ h)) : OwnB (alterP b ss φ).1 := by
  unfold alterP
  split
  · exact hO
  · rename_i h0
    have h0 := Decidable.not_not.1 h0
    obtain ⟨h1, h2, h3, _⟩ := own_up hT hO h0
    obtain ⟨m, hm, hmk⟩ := own_find hT hO h0
    generalize (upP b.ls b.us b.gs ss).1 = u at *
    split
    · rename_i hss
      subst hss
      refine hO.grow ⟨fun p y hf hy => ?_, fun p s y hf hy => ?_⟩
      · cases p with
        | nil => rw [find_nil] at hf; cases hf; exact hid _ (h1.own [] u (find_nil u) (by have : ¬ (φ u.h).kind = 3 := hy; rw [hk] at this; exact this))
        | cons a p =>
          rw [findP_cons, PN.h_mk, PN.ks_mk, hk] at hf
          exact h1.own (a :: p) y (by rw [findP_cons]; exact hf) hy
      · have hf2 : findP u (p ++ [s]) = some y := by
          cases p with
          | nil => rw [List.nil_append, findP_cons, PN.h_mk, PN.ks_mk, hk] at hf; rw [List.nil_append, findP_cons]; exact hf
          | cons a p => rw [List.cons_append, findP_cons, PN.h_mk, PN.ks_mk, hk] at hf; rw [List.cons_append, findP_cons]; exact hf
        have h9 := h1.wht p s y hf2 hy
        have e1 : d0P (.mk (φ u.h) u.ks) b.ls.tail = d0P u b.ls.tail := by unfold d0P; rw [PN.h_mk, ho]
        rw [e1]
        have e2 : blP (d0P u b.ls.tail) (.mk (φ u.h) u.ks) p = blP (d0P u b.ls.tail) u p := by
          cases p with
          | nil => rw [bl_nil, bl_nil]
          | cons a p =>
            have hku : u.h.kind = 2 := by rw [h2]; exact hT.k
            exact bl_oth (u' := .mk (φ u.h) u.ks) hku (by rw [PN.h_mk, hk]; exact hku) rfl p
        rw [e2]; exact h9
    · rw [hm]
      split
      · exact hO
      · rename_i hp
        have hp := Decidable.not_not.1 hp
        have hx : ∀ q y, findP (.mk (φ m.h) m.ks) q = some y → (q = [] ∧ y = .mk (φ m.h) m.ks) ∨ (q ≠ [] ∧ findP m q = some y) := fun q y hf => by
          cases q with
          | nil => rw [find_nil] at hf; cases hf; exact .inl ⟨rfl, rfl⟩
          | cons a q => rw [findP_cons, PN.h_mk, PN.ks_mk, hk] at hf; exact .inr ⟨by simp, by rw [findP_cons]; exact hf⟩
        have hunder : ∀ q y, findP m q = some y → findP u (ss ++ q) = some y := fun q y hf => by rw [find_app, hm]; exact hf
        refine hO.grow (own2_put h1 hp (fun q y hf hy => ?_) fun q p s y hf hy he => ?_)
        · rcases hx q y hf with ⟨_, rfl⟩ | ⟨_, h9⟩
          · exact hid _ (h1.own ss m hm (by rcases hmk with h | h <;> omega))
          · exact h1.own _ y (hunder q y h9) hy
        · rcases hx q y hf with ⟨_, rfl⟩ | ⟨_, h9⟩
          · exfalso
            have hy : (φ m.h).kind = 3 := hy
            rw [hk] at hy
            rcases hmk with h | h <;> omega
          · have h8 : findP u (p ++ [s]) = some y := by rw [← he]; exact hunder q y h9
            have e := alter_bl (x := .mk (φ m.h) m.ks) (m := m) (hk m.h) (ho m.h) rfl ss u (d0P u b.ls.tail) hm hp p
            have h7 := h1.wht p s y h8 hy
            rw [← e] at h7
            exact h7
theorem own_make (ss : List ByteArray) (par : TH) (kind mode : Int) (dt : ByteArray) (hkd : ¬ kind = 3) : OwnB (makeP b ss par kind mode dt).1 := by
  unfold makeP
  split
  · exact hO
  · split
    · exact hO
    · cases hm : movedP true b.us b.gs (.mk (makeH b par kind mode dt) []) with
      | none => exact hO
      | some x =>
        show OwnB (make2 b ss kind x).1
        unfold make2
        split
        · exact hO
        · rename_i h0
          obtain ⟨h1, h2, h3, _⟩ := own_up hT hO (Decidable.not_not.1 h0)
          have hoh := moved_okH hm
          obtain ⟨u, g, rfl, _, _⟩ := moved_inv hm
          exact own_putG hT hO fun hp => own2_leaf h1 hp rfl hoh hkd
theorem own_put9 (c : CL) : OwnB (putP9 b c).1 := by
  unfold putP9
  (repeat' split) <;> first | exact hO | exact own_make hT hO _ _ _ _ _ (by decide) | exact own_alter hT hO _ _ (fun _ => rfl) (fun _ => rfl) (fun _ h => h)
theorem own_mkdir (c : CL) : OwnB (mkdirP b c).1 := by
  unfold mkdirP
  (repeat' split) <;> first | exact hO | exact own_make hT hO _ _ _ _ _ (by decide)
theorem own_mode (l : List UInt8) (m : Int) : OwnB (chmodP b l m).1 := by
  unfold chmodP
  (repeat' split) <;> first | exact hO | exact own_alter hT hO _ _ (fun _ => rfl) (fun _ => rfl) (fun _ h => h)
theorem own_attr (l : List UInt8) (nm vl : ByteArray) (drop : Bool) : OwnB (attrP b l nm vl drop).1 := by
  unfold attrP
  (repeat' split) <;> first | exact hO | exact own_alter hT hO _ _ (fun _ => rfl) (fun _ => rfl) (fun _ h => h)
theorem own_own (l : List UInt8) (u g : Int) : OwnB (ownP b l u g).1 := by
  have h2 : ∀ u g, OwnB (own2 b l u g).1 := fun u g => by
    unfold own2
    split
    · exact hO
    · cases hx : movedP true b.us b.gs (idN u g) with
      | none => exact hO
      | some x =>
        have hok := moved_okH hx
        exact own_alter hT hO _ _ (fun _ => rfl) (fun _ => rfl) (fun _ _ => hok)
  unfold ownP
  (repeat' split) <;> first | exact hO | exact h2 _ _
theorem own_be (u g : Int) : OwnB (beP b u g).1 := by
  have _ := hT
  unfold beP
  split
  · exact hO
  · split
    · exact hO
    · exact hO
/-- What is cut away, or hidden. -/
theorem own_gone {u : PN} {ss : List ByteArray} (h1 : Own2 b.us b.gs u b.ls.tail) (h2 : u.h = (upB b).h) (h3 : ∀ p s, stepP (blP (d0P (upB b) b.ls.tail) u p) s = stepP (blP (d0P (upB b) b.ls.tail) (upB b) p) s) (h4 : AllN ndP u) (h : goneF b u ss = 0) : Own2 b.us b.gs (goneN b u ss) b.ls.tail := by
  have _ := hO
  unfold goneF at h
  unfold goneN
  by_cases hb : belowP b.ls ss = true
  · rw [if_pos hb] at h ⊢
    refine own2_put h1 h (fun q m hf hk => ?_) fun q p s m hf hk he => ?_
    · rw [(find_leaf (x := whiteN) rfl hf).1] at hk; exact absurd rfl hk
    · obtain ⟨_, rfl⟩ := find_leaf (x := whiteN) rfl hf
      rw [List.append_nil] at he
      subst he
      rw [edit_bl _ u _ p h (fun e => by have := e.length_le; simp at this; omega), d0_eq h2, h3]
      rw [hT.e] at hb
      exact (below_ne hT.k).1 hb
  · rw [if_neg hb] at h ⊢
    exact own2_cut h1 h (cut_gone h4 h)
end
end
section
theorem goneF_no {b : BX} {u : PN} : ¬ goneF b u [] = 0 := by
  unfold goneF
  split <;> simp [pF]
theorem own_remove {b : BX} (hT : BoxT b) (hO : OwnB b) (s : ByteArray) : OwnB (removeP b s).1 := by
  unfold removeP
  split
  · exact hO
  split
  · exact hO
  split
  · exact hO
  split
  · exact hO
  split
  · exact hO
  rename_i h0
  obtain ⟨h1, h2, h3, h4⟩ := own_up hT hO (Decidable.not_not.1 h0)
  unfold gone2
  split
  · exact hO
  · rename_i h9
    exact hO.grow (own_gone hT hO h1 h2 h3 h4 (Decidable.not_not.1 h9))
theorem lone_bl : ∀ (q : List ByteArray) (g : PF) (s : ByteArray), g.2 = 0 → stepP (cutP (q.foldl stepP [g])) s = []
  | [], g, s, h => by rw [List.foldl_nil, cutP, if_pos h]; rfl
  | b :: q, g, s, h => by
    rw [List.foldl_cons]
    have : stepP [g] b = shownP (kidP b g).toList := by
      unfold stepP; rw [List.filterMap_cons, List.filterMap_nil]
      cases kidP b g <;> rfl
    rw [this]
    cases hk : kidP b g with
    | none =>
      show stepP (cutP (q.foldl stepP (shownP []))) s = []
      rw [show shownP [] = [] from rfl, fold_nil]; rfl
    | some g' =>
      have h2 : g'.2 = 0 := by rw [kidP_lay hk]; exact h
      show stepP (cutP (q.foldl stepP (shownP [g']))) s = []
      by_cases h1 : g'.1.h.kind = 1
      · rw [shown_one h1]; exact lone_bl q g' s h2
      · rw [shown_not h1, dirsP]
        split
        · have : (if g'.1.h.opq = true then [g'] else g' :: dirsP []) = [g'] := by split <;> rfl
          rw [this]; exact lone_bl q g' s h2
        · rw [fold_nil]; rfl
theorem shown_no {X : List PF} (h : shownP X = []) : dirsP X = [] := by
  cases X with
  | nil => rfl
  | cons f X =>
    by_cases h1 : f.1.h.kind = 1
    · rw [shown_one h1] at h; cases h
    · rw [shown_not h1] at h; exact h
/-- Nothing below is seen with it. -/
theorem low_none {u : PN} {t : List PN} {p : List ByteArray} {s : ByteArray} {f : PF} {r : List PF} (hk : u.h.kind = 2) (hw : walkP (u :: t) (p ++ [s]) = f :: r) (hf : f.2 = 0) (hb : belowP (u :: t) (p ++ [s]) = false) : r = [] := by
  have hb2 : stepP (blP (d0P u t) u p) s = [] := by
    rw [below_bl hk, decide_eq_false_iff_not] at hb
    exact List.eq_nil_of_length_eq_zero (by omega)
  rw [walk_d0 hk] at hw
  obtain ⟨_, h2⟩ := walk_top (p ++ [s]) u _ f r hk (d0_pos u t) hw hf
  obtain ⟨g, r', h3, h4⟩ := h2 p.length (by simp)
  rw [List.take_left] at h3
  rw [List.foldl_append, h3, List.foldl_cons, List.foldl_nil] at hw
  have e : blP (d0P u t) u p = r' := by unfold blP; rw [h3, cutP, if_pos h4]
  rw [e] at hb2
  unfold stepP at hb2 hw
  rw [fm_cons] at hw
  cases hg : kidP s g with
  | none =>
    rw [hg] at hw
    have hw : shownP (r'.filterMap (kidP s)) = f :: r := hw
    rw [hb2] at hw; cases hw
  | some f0 =>
    rw [hg] at hw
    have hw : shownP (f0 :: r'.filterMap (kidP s)) = f :: r := hw
    by_cases h1 : f0.1.h.kind = 1
    · rw [shown_one h1] at hw; cases hw; rfl
    · rw [shown_not h1, dirsP, shown_no hb2] at hw
      split at hw
      · split at hw
        · cases hw; rfl
        · cases hw; rfl
      · cases hw
theorem spotK_look {b : BX} {ss : List ByteArray} : ∀ k, (spotK b ss k).2 = 0 → ∃ par, (spotK b ss k).1 = lookS b (ss.take k) par
  | 0, _ => ⟨thZ, by rw [spotK, List.take_zero]⟩
  | k + 1, h => by
    rw [spotK] at h ⊢
    split at h
    · rename_i h1; exact absurd h h1
    · split at h
      · simp at h
      · split at h
        · simp at h
        · split at h
          · simp at h
          · rename_i h1 h2 h3 h4
            rw [if_neg h1, if_neg h2, if_neg h3, if_neg h4]
            exact ⟨_, rfl⟩
theorem there_walk {b : BX} {l : List UInt8} (h : thereF b l = 0) : ∃ f r, walkP b.ls (pathN l) = f :: r ∧ (thereS b l).n = f.1 ∧ (thereS b l).lay = f.2 ∧ (thereS b l).th.dir = decide (f.1.h.kind = 2) := by
  unfold thereF at h
  split at h
  · rename_i h1; exact absurd h h1
  · split at h
    · rename_i h1; exact absurd h h1
    · split at h
      · omega
      · rename_i h1 h2 h3
        obtain ⟨par, hp⟩ := spotK_look (pathN l).length (Decidable.not_not.1 h2)
        rw [List.take_length] at hp
        have e : thereS b l = lookS b (pathN l) par := hp
        have h3 : ¬ (thereS b l).is = false := h3
        rw [e] at h3 ⊢
        unfold lookS at h3 ⊢
        cases hw : walkP b.ls (pathN l) with
        | nil => rw [hw] at h3; exact absurd rfl h3
        | cons f r => exact ⟨f, r, rfl, rfl, rfl, rfl⟩
theorem own_move4 {b : BX} (hT : BoxT b) (hO : OwnB b) {ss other : List ByteArray} {f : PF} {r : List PF} (hw : walkP b.ls ss = f :: r) {dir : Bool} (h14 : ¬ (f.1.h.kind = 2 ∧ (0 < f.2 ∨ (f.1.h.opq = false ∧ belowP b.ls ss = true)))) : OwnB (move3 b dir ss other).1 := by
  unfold move3
  split
  · exact hO
  rename_i h0
  have h0 := Decidable.not_not.1 h0
  obtain ⟨h1, h2, h3, h4⟩ := own_up hT hO h0
  obtain ⟨m, hm, hmk⟩ := own_find hT hO h0
  have hk1 : (upP b.ls b.us b.gs ss).1.h.kind = 2 := by rw [h2]; exact hT.k
  generalize (upP b.ls b.us b.gs ss).1 = u1 at *
  split
  · exact hO
  rename_i h5
  have h5 := Decidable.not_not.1 h5
  obtain ⟨k1, k2, k3⟩ := upP_own2 hk1 h1 h5
  have k4 := upP_nd h4 h5
  generalize (upP (u1 :: b.ls.tail) b.us b.gs (other.take (other.length - 1))).1 = u2 at *
  rw [hm]
  show OwnB (move4 b dir m u2 ss other).1
  unfold move4
  split
  · exact hO
  rename_i h6
  have h6 := Decidable.not_not.1 h6
  have k3' : ∀ p s, stepP (blP (d0P (upB b) b.ls.tail) u2 p) s = stepP (blP (d0P (upB b) b.ls.tail) (upB b) p) s := fun p s => by
    rw [← h3 p s]
    have := k3 p s
    rw [d0_eq h2] at this
    exact this
  have g1 := own_gone hT hO k1 (k2.trans h2) k3' k4 h6
  have hss : ss ≠ [] := fun e => by rw [e] at h6; exact goneF_no h6
  have hf0 : 0 ≤ f.2 := walk_lay b.ls ss f (by rw [hw]; simp)
  refine own_putG hT hO fun hp => ?_
  have hx : ∀ q y, findP (.mk { m.h with opq := dir && belowP b.ls other } m.ks) q = some y → (q = [] ∧ y.h.kind = m.h.kind ∧ y.h.user = m.h.user ∧ y.h.group = m.h.group) ∨ (q ≠ [] ∧ findP m q = some y) := fun q y hf => by
    cases q with
    | nil => rw [find_nil] at hf; cases hf; exact .inl ⟨rfl, rfl, rfl, rfl⟩
    | cons a q => rw [findP_cons, PN.h_mk, PN.ks_mk] at hf; exact .inr ⟨by simp, by rw [findP_cons]; exact hf⟩
  have hunder : ∀ q y, findP m q = some y → findP u1 (ss ++ q) = some y := fun q y hf => by rw [find_app, hm]; exact hf
  refine own2_put g1 hp (fun q y hf hy => ?_) fun q p s y hf hy he => ?_
  · rcases hx q y hf with ⟨_, e1, e2, e3⟩ | ⟨_, h9⟩
    · have := h1.own ss m hm (by rcases hmk with h | h <;> omega)
      exact ⟨by rw [e2]; exact this.1, by rw [e3]; exact this.2⟩
    · exact h1.own _ y (hunder q y h9) hy
  · rcases hx q y hf with ⟨_, e1, _, _⟩ | ⟨hq, h9⟩
    · exfalso; rw [e1] at hy; rcases hmk with h | h <;> omega
    · exfalso
      obtain ⟨q1, s1, rfl⟩ : ∃ q1 s1, q = q1 ++ [s1] := by
        rcases List.eq_nil_or_concat q with e | ⟨a, c, e⟩
        · exact absurd e hq
        · exact ⟨a, c, by rw [e, List.concat_eq_append]⟩
      have w1 := h1.wht (ss ++ q1) s1 y (by rw [List.append_assoc]; exact hunder _ y h9) hy
      rw [d0_eq h2, h3] at w1
      apply w1
      rw [hT.e, walk_d0 hT.k] at hw
      have e9 : blP (d0P (upB b) b.ls.tail) (upB b) (ss ++ q1) = cutP (q1.foldl stepP (f :: r)) := by unfold blP; rw [List.foldl_append, hw]
      rw [e9]
      obtain ⟨X, hX⟩ := walk_shown (upB b :: b.ls.tail) ss
      rw [walk_d0 hT.k, hw] at hX
      rcases (shown_head hX.symm).1 with ⟨k9, rfl⟩ | k9
      · cases q1 with
        | nil =>
          rw [List.foldl_nil, cutP]
          split
          · rfl
          · exact step_file k9 s1
        | cons a q1 => rw [fold_step_file k9 _ (by simp)]; rfl
      · have hf2 : f.2 = 0 := by
          by_cases h : 0 < f.2
          · exact absurd ⟨k9, .inl h⟩ h14
          · omega
        have hr : r = [] := by
          cases ho : f.1.h.opq
          · obtain ⟨p1, s2, rfl⟩ : ∃ q1 s1, ss = q1 ++ [s1] := by
              rcases List.eq_nil_or_concat ss with e | ⟨a, c, e⟩
              · exact absurd e hss
              · exact ⟨a, c, by rw [e, List.concat_eq_append]⟩
            refine low_none hT.k (by rw [walk_d0 hT.k]; exact hw) hf2 ?_
            cases hb : belowP (upB b :: b.ls.tail) (p1 ++ [s2])
            · rfl
            · rw [← hT.e] at hb; exact absurd ⟨k9, .inr ⟨ho, hb⟩⟩ h14
          · exact shown_opq hX.symm ho
        subst hr
        exact lone_bl q1 f s1 hf2
theorem own_move {b : BX} (hT : BoxT b) (hO : OwnB b) (s t : ByteArray) : OwnB (moveP b s t).1 := by
  unfold moveP
  split
  · exact hO
  split
  · exact hO
  split
  · exact hO
  split
  · exact hO
  rename_i h0
  obtain ⟨f, r, hw, e1, e2, e3⟩ := there_walk (Decidable.not_not.1 h0)
  split
  · exact hO
  split
  · exact hO
  split
  · exact hO
  split
  · exact hO
  split
  · exact hO
  unfold move2
  split
  · exact hO
  split
  · exact hO
  split
  · exact hO
  rename_i h14
  split
  · exact hO
  rw [e1, e2, e3, decide_eq_true_iff] at h14
  exact own_move4 hT hO hw h14
/-- Whatever a box is asked. -/
theorem own_do {b : BX} (hok : BoxOk b) (hO : OwnB b) (c : CL) : OwnB (doP b c).1 := by
  have hT := hok.t
  have ch : ∀ r : BX × Int, OwnB r.1 → OwnB (chT r).1 := fun r h => h
  unfold doP
  by_cases o0 : 1 ≤ c.op ∧ c.op ≤ 3
  · rw [if_pos o0]; exact hO
  rw [if_neg o0]
  by_cases o1 : c.op = 4
  · rw [if_pos o1]; exact ch _ (own_put9 hT hO c)
  rw [if_neg o1]
  by_cases o2 : c.op = 5
  · rw [if_pos o2]; exact ch _ (own_mkdir hT hO c)
  rw [if_neg o2]
  by_cases o3 : c.op = 6
  · rw [if_pos o3]; exact ch _ (own_remove hT hO _)
  rw [if_neg o3]
  by_cases o4 : c.op = 7
  · rw [if_pos o4]; exact ch _ (own_move hT hO _ _)
  rw [if_neg o4]
  by_cases o5 : c.op = 8
  · rw [if_pos o5]; exact ch _ (own_mode hT hO _ _)
  rw [if_neg o5]
  by_cases o6 : c.op = 9
  · rw [if_pos o6]; exact ch _ (own_own hT hO _ _ _)
  rw [if_neg o6]
  by_cases o7 : c.op = 10
  · rw [if_pos o7]; exact ch _ (own_attr hT hO _ _ _ _)
  rw [if_neg o7]
  by_cases o8 : c.op = 11
  · rw [if_pos o8]; exact ch _ (own_attr hT hO _ _ _ _)
  rw [if_neg o8]
  by_cases o9 : c.op = 12
  · rw [if_pos o9]; exact hO
  rw [if_neg o9]
  by_cases o10 : c.op = 13
  · rw [if_pos o10]; exact ch _ (own_be hT hO _ _)
  rw [if_neg o10]
  by_cases o11 : c.op = 14
  · rw [if_pos o11]; exact hO
  rw [if_neg o11]
  exact hO
/-- A new box. -/
theorem own_new {x : CF} {ls : List PN} (h : cfgF x ls = 0) : OwnB (newB x.M.us x.M.gs x.c x.q ls) := by
  obtain ⟨_, _, _, _, _, _, k7⟩ := cfg_ok h
  obtain ⟨z, hz⟩ := root_moved k7
  have e : upB (newB x.M.us x.M.gs x.c x.q ls) = z := by
    show (movedP true x.M.us x.M.gs (.mk (rootH x.c) [])).getD pnZ = z
    rw [hz]; rfl
  obtain ⟨u, g, hze, _, _⟩ := moved_inv hz
  have hzk : z.ks = [] := by rw [hze]; rfl
  have hkd : z.h.kind = 2 := by rw [hze]; rfl
  unfold OwnB
  rw [e]
  refine ⟨fun p m hf hk => ?_, fun p s m hf hk => ?_⟩
  · rw [(find_leaf hzk hf).1]; exact moved_okH hz
  · have := (find_leaf hzk hf).2; simp at this
end
section
/-- What one gets of an upper. -/
def NodeR (n : PN) (v : Value) (V' : View) : Prop := ∃ y : LN, v = lnV y ∧ NodeV V' y ∧ y.n = n
theorem BoxI.head {V : View} {b : BX} {I : BI} (hok : BoxOk b) (h : BoxI V b I) : ∃ (q o : Nat) (x0 : LN), I.K = some ⟨q, o, none⟩ ∧ 0 < I.m ∧ CellsFrom V q (o + 0 * 8) (lnC x0) ∧ NodeV V x0 ∧ b.ls.headD pnZ = x0.n ∧ ∃ t, I.xs = x0 :: t := by
  have hm : 0 < I.m := by rw [← h.len]; exact hok.l1
  obtain ⟨q, o, x0, hA, hx, hc, hN⟩ := h.ls.at_ hm
  obtain ⟨t, ht⟩ : ∃ t, I.xs = x0 :: t := by
    cases hxs : I.xs with
    | nil => rw [hxs] at hx; cases hx
    | cons a t => rw [hxs] at hx; simp at hx; exact ⟨t, by rw [hx]⟩
  exact ⟨q, o, x0, hA, hm, hc, hN, by rw [← h.eq, ht]; rfl, t, ht⟩
attribute [local irreducible] AtQ GoC GoL GoW QO QP Fn RV OwnAt CellsFrom VLe SrcIs errV
set_option maxRecDepth 100000
set_option maxRecDepth 100000 in
set_option maxHeartbeats 4000000 in
theorem Upper_v (V : View) (p : Nat) (b : BX) (I : BI) (hok : BoxOk b) (h : BoxV V p b I) : Fn Tryz.prog 14 [.pointer (some ⟨p, 0, none⟩)] V (NodeR (b.ls.headD pnZ)) := by
  obtain ⟨hcM, hcC, hcq, hcl⟩ := h.parts
  obtain ⟨q, o, x0, hK, hm0, hc0, hN0, hhd, t, ht⟩ := h.2.head hok
  have hO := fun V2 (hV2 : VLe V V2) => Own_v V2 x0 (hN0.le hV2) (hok.smallL h.2 x0 (by rw [ht]; simp))
  rw [hhd]
  (refine fn_enter Tryz.func14 rfl Tryz.ntmps14 rfl ?_; intro w0)
  repeat' (first | (refine k_gw ?_; (first | (refine k_alloc ?_; (first | (refine gw_alloc rfl zer_50 rfl ?_; intro γ))) | refine gwg9 ?_ | (refine k_fieldAddr ?_; (first | refine gwq9 (q_fieldAddr fld_90_3 rfl) ?_)) | (refine k_load ?_; (first | refine gwq9 (q_load_v one_30 rfl (by assumption)) ?_ | refine gwq9 (q_loadA_v agg_50 rfl (by assumption) (by exact rfl)) ?_)) | (refine k_indexAddr ?_; (first | refine gwq9 (q_indexAddr_e (k := 0) und_30 siz_50 rfl hK rfl hm0) ?_)) | (refine k_call ?_; (first | (refine gw_call rfl ⟨Tryz.call39⟩ rfl rfl (hO _ vl9) ?_; rintro v V2 hV2 ⟨y, rfl, hyn, hyN⟩))) | (refine k_store ?_; (first | refine gw_store rfl siz_50 rfl rfl rfl rfl one9 put9 rfl ?_)))) | (refine k_gl ?_; (first | refine gl_nil rfl ?_ | refine gl_go rfl rfl ?_)) | (refine k_gc ?_; (first | refine gc_seq ?_ | refine gc_region ?_ | refine gc_ret ?_)) | (refine k_at ?_; (first | refine at_seq ?_ | refine ats9 rfl ?_)))
  all_goals
    (refine at_ret1 Tryz.results14 (rv_cellA agg_50 rfl own9 (by exact rfl)) ?_)
    exact ⟨y, rfl, hyN, hyn⟩
theorem Upper_b {V : View} {p : Nat} {b : BX} {Bs : List Box} (hok : BoxOk b) (h : BoxB V p b Bs) : FnB Tryz.prog 14 [.pointer (some ⟨p, 0, none⟩)] V Bs fun v V' Bs' => Bs' = Bs ∧ NodeR (b.ls.headD pnZ) v V' :=
  BoxB.read hok h (fun v V gs hc ⟨y, h1, h2, h3⟩ => ⟨y, h1, h2.off hc, h3⟩) fun V' I hV hB => Upper_v V' p b I hok hB
end
section
attribute [local irreducible] AtQ GoC GoL GoW QO QP Fn RV OwnAt CellsFrom VLe SrcIs errV
set_option maxRecDepth 100000
set_option maxRecDepth 100000 in
set_option maxHeartbeats 4000000 in
theorem LightConfig_c (V : View) (x : CF) : Fn Tryz.prog 9 [cfV x] V fun v _ => ∃ b : Bool, v = .bool b := by
  (refine fn_enter Tryz.func9 rfl Tryz.ntmps9 rfl ?_; intro w0)
  repeat' (first | (refine k_gw ?_; (first | (refine k_box ?_; (first | (refine gw_box rfl rfl rfl rfl ?_; intro γ))) | refine gwg9 ?_ | (refine k_fieldAddr ?_; (first | refine gwq9 (q_fieldAddr fld_29_0 rfl) ?_ | refine gwq9 (q_fieldAddr fld_24_0 rfl) ?_ | refine gwq9 (q_fieldAddr fld_24_1 rfl) ?_ | refine gwq9 (q_fieldAddr fld_29_1 rfl) ?_ | refine gwq9 (q_fieldAddr fld_27_2 rfl) ?_ | refine gwq9 (q_fieldAddr fld_29_3 rfl) ?_)) | (refine k_load ?_; (first | refine gwq9 (q_load_o one_22 rfl own9 (by exact rfl)) ?_ | refine gwq9 (q_load_o one_25 rfl own9 (by exact rfl)) ?_)) | (refine k_call ?_; (first | refine gwq9 (q_len rfl und_22 rfl) ?_ | refine gwq9 (q_len rfl und_25 rfl) ?_)) | (refine k_binOp ?_; refine gwb9 ?_))) | (refine k_gl ?_; (first | refine gl_nil rfl ?_ | refine gl_go rfl rfl ?_ | refine gl_yes rfl rfl rfl rfl rfl ?_ | refine gl_no rfl rfl rfl rfl rfl rfl rfl ?_ | (refine gl_split_p rfl rfl rfl ?_ ?_ <;> intro hq <;> try (exfalso; first | exact hq rfl | omega)))) | (refine k_gc ?_; (first | refine gc_seq ?_ | refine gc_region ?_ | refine gc_ret ?_)) | (refine k_at ?_; (first | refine at_seq ?_ | refine ats9 rfl ?_)))
  all_goals
    (refine at_ret1 Tryz.results9 (rv_tmp rfl) ?_)
    exact ⟨_, rfl⟩
/-- A call's texts are not long. -/
def clLt (c : CL) : Prop := c.path.size ≤ 200 ∧ c.other.size ≤ 200 ∧ c.name.size ≤ 60 ∧ c.data.size ≤ 300
theorem clLt.ok {c : CL} (h : clLt c) : clOk c := ⟨by have := h.1; omega, by have := h.2.1; omega, by have := h.2.2.1; omega, by have := h.2.2.2; omega⟩
set_option maxRecDepth 100000 in
set_option maxHeartbeats 4000000 in
theorem LightCalls_c (V : View) (A : Option Addr) (n c : Nat) (xs : List CL) (h : ElsV V 7 clC A n xs) : Fn Tryz.prog 11 [.slice A n c] V fun v _ => ∃ b : Bool, v = .bool b ∧ (b = true → n ≤ 40 ∧ ∀ y ∈ xs, clLt y) := by
  have hl := h.1
  have hm := h.max
  (refine fn_enter Tryz.func11 rfl Tryz.ntmps11 rfl ?_; intro w0)
  repeat' (first | (refine k_gw ?_; (first | refine gwg9 ?_ | (refine k_call ?_; (first | refine gwq9 (q_len rfl und_31 rfl) ?_ | refine gwq9 (q_slen rfl und_9 rfl) ?_)) | (refine k_binOp ?_; refine gwb9 ?_))) | (refine k_gl ?_; (first | refine gl_nil rfl ?_ | refine gl_go rfl rfl ?_)) | (refine k_gc ?_; (first | refine gc_seq ?_ | refine gc_region ?_ | (refine gc_cond_p rfl ?_ ?_ <;> intro hq <;> try (exfalso; first | exact hq rfl | omega)) | refine gc_block ?_ | refine gc_ret ?_ | refine gc_skip ?_)) | (refine k_at ?_; (first | refine at_seq ?_ | refine ats9 rfl ?_)))
  · (refine at_ret1 Tryz.results11 (rv_tmp rfl) ?_)
    exact ⟨_, rfl, fun h => by cases h⟩
  · have hn40 : n ≤ 40 := by omega
    refine gc_loop (fun F V' L' m => ∃ k : Nat, V = V' ∧ [] = L' ∧ k ≤ n ∧ (∀ y ∈ xs.take k, clLt y) ∧ m = n - k ∧ F = [(0, .slice A n c), (3, .int .i64 (k : Int))]) (m := n) ⟨0, rfl, rfl, Nat.zero_le _, by simp, by omega, rfl⟩ sub9 rfl sl9 ?_
    rintro F V' L' m ⟨k, rfl, rfl, hkn, hf, rfl, rfl⟩
    by_cases hlt : k < n
    · obtain ⟨b, off, e, rfl, he, hc⟩ := h.at_ hlt
      have g1 := cells_at9 (j := 1) hc rfl
      have g2 := cells_at9 (j := 2) hc rfl
      have g3 := cells_at9 (j := 3) hc rfl
      have g4 := cells_at9 (j := 4) hc rfl
      repeat' (first | (refine k_gw ?_; (first | refine gwg9 ?_ | (refine k_call ?_; (first | refine gwq9 (q_len rfl und_31 rfl) ?_ | refine gwq9 (q_slen rfl und_9 rfl) ?_)) | (refine k_binOp ?_; refine gwb9 ?_) | (refine k_indexAddr ?_; (first | refine gwq9 (q_indexAddr und_31 siz_46 rfl rfl (by omega)) ?_)) | (refine k_fieldAddr ?_; (first | refine gwq9 (q_fieldAddr fld_46_1 rfl) ?_ | refine gwq9 (q_fieldAddr fld_46_2 rfl) ?_ | refine gwq9 (q_fieldAddr fld_46_3 rfl) ?_ | refine gwq9 (q_fieldAddr fld_46_4 rfl) ?_)) | (refine k_load ?_; (first | refine gwq9 (q_load_o one_9 rfl own9 (by exact rfl)) ?_ | refine gwq9 (q_load_o one_9 rfl own9 (by assumption)) ?_ | refine gwq9 (q_load_v one_9 rfl (by assumption)) ?_)))) | (refine k_gl ?_; (first | refine gl_nil rfl ?_ | refine gl_go rfl rfl ?_ | refine gl_yes rfl rfl rfl rfl rfl ?_ | refine gl_no rfl rfl rfl rfl rfl rfl rfl ?_ | (refine gl_split_p rfl rfl rfl ?_ ?_ <;> intro hq <;> try (exfalso; first | exact hq rfl | omega)))) | (refine k_gc ?_; (first | refine gc_seq ?_ | refine gc_region ?_ | refine gc_cond_t rfl ?_ | (refine gc_cond_p rfl ?_ ?_ <;> intro hq <;> try (exfalso; first | exact hq rfl | omega)) | refine gc_block ?_ | refine gc_ret ?_ | refine gc_skip ?_)) | (refine k_at ?_; (first | refine at_seq ?_ | refine ats9 rfl ?_)))
      all_goals first
        | (refine k_rt ?_; (refine at_ret1 Tryz.results11 (rv_tmp rfl) ?_); exact ⟨_, rfl, fun h => by cases h⟩)
        | (refine k_nm ?_
           refine at_round _ (n - (k + 1)) ⟨k + 1, rfl, rfl, by omega, fun y hy => ?_, rfl, rfl⟩ (by omega) sub9 sl9
           rw [List.take_add_one, he] at hy
           rcases List.mem_append.1 hy with h | h
           · exact hf y h
           · simp at h; subst h; exact ⟨by omega, by omega, by omega, by omega⟩)
        | skip
    · repeat' (first | (refine k_gw ?_; (first | refine gwg9 ?_ | (refine k_call ?_; (first | refine gwq9 (q_len rfl und_31 rfl) ?_ | refine gwq9 (q_slen rfl und_9 rfl) ?_)) | (refine k_binOp ?_; refine gwb9 ?_))) | (refine k_gl ?_; (first | refine gl_nil rfl ?_ | refine gl_go rfl rfl ?_)) | (refine k_gc ?_; (first | refine gc_seq ?_ | refine gc_region ?_ | (refine gc_cond_p rfl ?_ ?_ <;> intro hq <;> try (exfalso; first | exact hq rfl | omega)) | refine gc_exit ?_ | refine gc_ret ?_)) | (refine k_at ?_; (first | refine at_seq ?_ | refine ats9 rfl ?_)))
      all_goals
        (refine at_ret1 Tryz.results11 (rv_tmp rfl) ?_)
        exact ⟨_, rfl, fun _ => ⟨hn40, by rw [List.take_of_length_le (by omega)] at hf; exact hf⟩⟩
end
section
theorem from_some {m : List PR} {x : Int} (h : (fromZ m x).isSome = true) : ∃ y, fromZ m x = some y := Option.isSome_iff_exists.1 h
/-- A kid is found by its name: no name stands there twice. -/
theorem look_of : ∀ {ks : PKs} {k : ByteArray × PN}, ks.Pairwise (fun a b => ¬ a.1 = b.1) → k ∈ ks → lookK ks k.1 = some k.2
  | a :: ks, k, h, hk => by
    rw [List.pairwise_cons] at h
    rw [lookK]
    rcases List.mem_cons.1 hk with rfl | hk
    · rw [if_pos rfl]
    · rw [if_neg (h.1 k hk)]; exact look_of h.2 hk
theorem all_find {q : Hd → PKs → Prop} : ∀ {p : List ByteArray} {u m : PN}, AllN q u → findP u p = some m → AllN q m
  | [], u, m, h, hf => by rw [find_nil] at hf; cases hf; exact h
  | s :: p, u, m, h, hf => by
    rw [findP_cons] at hf
    split at hf
    · cases hl : lookK u.ks s with
      | none => rw [hl] at hf; cases hf
      | some z => rw [hl] at hf; exact all_find (h.kid (look_mem hl)) hf
    · cases hf
/-- What is no directory has no kids. -/
def lfP (h : Hd) (ks : PKs) : Prop := h.kind = 2 ∨ ks = []
theorem one_lf {h : Hd} {many up root : Bool} (h0 : oneF h many up root = 0) : h.kind = 2 ∨ many = false := by
  by_cases hk : h.kind = 2
  · exact .inl hk
  · refine .inr ?_
    unfold oneF at h0
    split at h0
    · omega
    · split at h0
      · omega
      · split at h0
        · rename_i h9; exact absurd h0 h9
        · split at h0
          · omega
          · split at h0
            · omega
            · rename_i h9
              cases many
              · rfl
              · exact absurd (.inr (.inr (.inl ⟨hk, .inl rfl⟩))) h9
theorem lf_ok {u : Bool} : ∀ (n : PN) (d so : Nat), so ≤ 60 → (countF u d so n).2 = 0 → AllN lfP n := by
  refine PN.ind (p := fun n => ∀ (d so : Nat), so ≤ 60 → (countF u d so n).2 = 0 → AllN lfP n) ?_
  intro h ks ih d so hs hc
  obtain ⟨⟨h1, _⟩, h2, h3⟩ := countF_ok.1 hc
  obtain ⟨_, h4⟩ := countK_all (by omega) h3
  refine .mk ((one_lf h2).imp id fun h9 => ?_) fun k hk => by
    obtain ⟨so', hs', hc'⟩ := (h4 k hk).2.2
    exact ih k hk (d + 1) so' hs' hc'
  have h9 : ¬ 0 < ks.length := of_decide_eq_false h9
  exact List.eq_nil_of_length_eq_zero (by omega)
theorem tree_lf {u : Bool} {n : PN} (h : treeF u n = 0) : AllN lfP n := lf_ok n 0 0 (by omega) (treeF_ok.1 h).2
theorem find_kid {u m : PN} {p : List ByteArray} {k : ByteArray × PN} (hn : AllN ndP u) (hf : findP u p = some m) (hk : m.h.kind = 2) (hm : k ∈ m.ks) : findP u (p ++ [k.1]) = some k.2 := by
  rw [find_app, hf]
  show findP m [k.1] = some k.2
  rw [findP_cons, if_pos hk, look_of (all_find hn hf).here hm]
  exact find_nil _
attribute [local irreducible] AtQ GoC GoL GoW QO QP Fn RV OwnAt CellsFrom VLe SrcIs errV
set_option maxRecDepth 100000
set_option maxRecDepth 100000 in
set_option maxHeartbeats 4000000 in
theorem ours_c (M : LM) (u : PN) (t : List PN) (hO : Own2 M.us M.gs u t) (hnd : AllN ndP u) (hku : u.h.kind = 2) (hlf : AllN lfP u) : ∀ (d : Nat) (V : View) (hM : MapsV V M) (A : Option Addr) (n c : Nat) (xs : List LN) (hN : NodesV V A n xs) (hxs : xs.map LN.n = u :: t) (hn : n ≤ 1000) (B : Option Addr) (m e : Nat) (ss : List ByteArray) (hs : StrsV V B m ss) (hme : m ≤ e) (hmd : m + d ≤ 100) (x : LN) (hx : NodeV V x) (hd : Deep d x.n) (hf : findP u ss = some x.n), Fn Tryz.prog 15 [lnV x, .slice B m e, .slice A n c, lmV M] V fun v _ => v = .bool true := by
  intro d
  induction d with
  | zero => intro _ _ _ _ _ _ _ _ _ _ _ _ _ _ _ _ x _ hd; exact hd.zero.elim
  | succ d ih =>
    intro V hM A n c xs hN hxs hn B m e ss hs hme hmd x hx hd hf
    by_cases hk3 : x.h.kind = 3
    · have hB := fun V2 (hV2 : VLe V V2) => Below_c V2 A n c xs (hN.le hV2) hn B m e ss (hs.le hV2) hme
      have hbl : belowP (xs.map LN.n) ss = true := by
        rw [hxs]
        rcases List.eq_nil_or_concat ss with e1 | ⟨p, s, e1⟩
        · rw [e1, find_nil] at hf; cases hf
          exact absurd (show x.n.h.kind = 2 from hku) (by show ¬ x.h.kind = 2; omega)
        · rw [e1, List.concat_eq_append] at hf ⊢
          exact (below_ne hku).2 (hO.wht p s x.n hf hk3)
      rw [hbl] at hB
      (refine fn_enter Tryz.func15 rfl Tryz.ntmps15 rfl ?_; intro w0)
      repeat' (first | (refine k_gw ?_; (first | (refine k_box ?_; (first | (refine gw_box rfl rfl rfl rfl ?_; intro γ))) | refine gwg9 ?_ | (refine k_fieldAddr ?_; (first | refine gwq9 (q_fieldAddr fld_50_0 rfl) ?_)) | (refine k_load ?_; (first | refine gwq9 (q_load_o one_3 rfl own9 (by exact rfl)) ?_)) | (refine k_binOp ?_; refine gwb9 ?_) | (refine k_call ?_; (first | refine gwq9 (q_len rfl und_48 rfl) ?_ | refine gw_q' rfl (q_call ⟨Tryz.call50⟩ rfl (hB _ vl9)) ?_)))) | (refine k_gl ?_; (first | refine gl_nil rfl ?_ | refine gl_go rfl rfl ?_)) | (refine k_gc ?_; (first | refine gc_seq ?_ | refine gc_region ?_ | (refine gc_cond_p rfl ?_ ?_ <;> intro hq <;> try (exfalso; first | exact hq rfl | omega)) | refine gc_ret ?_)) | (refine k_at ?_; (first | refine at_seq ?_ | refine ats9 rfl ?_)))
      all_goals first
        | (exfalso; exact absurd hk3 (by assumption))
        | skip
      all_goals
        (refine at_ret1 Tryz.results15 (rv_tmp rfl) ?_)
        rfl
    · obtain ⟨y1, hy1⟩ := from_some (hO.own ss x.n hf hk3).1
      obtain ⟨y2, hy2⟩ := from_some (hO.own ss x.n hf hk3).2
      have c1 := fun V2 (hV2 : VLe V V2) => FromHost_c V2 M.A M.n M.c M.us (hM.1.le hV2) hM.2.1 x.h.user
      have c2 := fun V2 (hV2 : VLe V V2) => FromHost_c V2 M.B M.m M.e M.gs (hM.2.2.1.le hV2) hM.2.2.2 x.h.group
      have hy1 : fromZ M.us x.h.user = some y1 := hy1
      have hy2 : fromZ M.gs x.h.group = some y2 := hy2
      rw [hy1] at c1
      rw [hy2] at c2
      obtain ⟨ha, hca, hdt, hck, es, hk, hks⟩ := hx.inv
      have hl := hk.len
      have hm := hk.max
      have hz : x.ks.length = x.nk := by rw [hks, List.length_map, hl]
      have hdk : ∀ e ∈ es, Deep d e.x.n := fun e he => hd.kid (kz e) (by show kz e ∈ x.ks; rw [hks]; exact List.mem_map_of_mem he)
      (refine fn_enter Tryz.func15 rfl Tryz.ntmps15 rfl ?_; intro w0)
      repeat' (first | (refine k_gw ?_; (first | (refine k_box ?_; (first | (refine gw_box rfl rfl rfl rfl ?_; intro γ))) | refine gwg9 ?_)) | (refine k_gl ?_; (first | refine gl_nil rfl ?_ | refine gl_go rfl rfl ?_)) | (refine k_gc ?_; (first | refine gc_seq ?_ | refine gc_region (id := 0) ?_)) | (refine k_at ?_; (first | refine at_seq ?_ | refine ats9 rfl ?_)))
      rename_i g4
      obtain ⟨g7, rfl⟩ : ∃ g7, g7 = γ := ⟨γ, rfl⟩
      repeat' (first | (refine k_gw ?_; (first | refine gwg9 ?_ | (refine k_fieldAddr ?_; (first | refine gwq9 (q_fieldAddr fld_50_0 rfl) ?_ | refine gwq9 (q_fieldAddr fld_24_0 rfl) ?_ | refine gwq9 (q_fieldAddr fld_50_2 rfl) ?_ | refine gwq9 (q_fieldAddr fld_24_1 rfl) ?_ | refine gwq9 (q_fieldAddr fld_50_3 rfl) ?_)) | (refine k_load ?_; (first | refine gwq9 (q_load_o one_3 rfl own9 (by exact rfl)) ?_ | refine gwq9 (q_load_o one_22 rfl own9 (by exact rfl)) ?_)) | (refine k_binOp ?_; refine gwb9 ?_) | (refine k_call ?_; (first | refine gwq9 (q_len rfl und_48 rfl) ?_ | refine gw_q' rfl (q_call ⟨Tryz.call51⟩ rfl (c1 _ vl9)) ?_ | refine gw_q' rfl (q_call ⟨Tryz.call51⟩ rfl (c2 _ vl9)) ?_)))) | (refine k_gl ?_; (first | refine gl_nil rfl ?_ | refine gl_go rfl rfl ?_ | refine gl_yes rfl rfl rfl rfl rfl ?_)) | (refine k_gc ?_; (first | refine gc_seq ?_ | refine gc_region ?_ | refine gc_cond_f rfl ?_ | (refine gc_cond_p rfl ?_ ?_ <;> intro hq <;> try (exfalso; first | exact hq rfl | omega)) | refine gc_block ?_ | refine gc_skip ?_)) | (refine k_at ?_; (first | refine at_seq ?_ | refine ats9 rfl ?_)))
      all_goals first
        | (exfalso; exact absurd (by assumption) hk3)
        | skip
      refine gc_loop (fun F V2 L' m' => ∃ k : Nat, VLe V V2 ∧ [⟨g7, 24, mC M⟩, ⟨g4, 50, lnC x⟩] = L' ∧ k ≤ x.nk ∧ m' = x.nk - k ∧ F = [(1, .slice B m e), (2, .slice A n c), (4, .pointer (some ⟨g4, 0, none⟩)), (7, .pointer (some ⟨g7, 0, none⟩)), (13, .int .i64 (k : Int))]) (m := x.nk) ⟨0, VLe.refl _, rfl, Nat.zero_le _, by omega, rfl⟩ sub9 rfl sl9 ?_
      rintro F V2 L' m' ⟨k, hV2, rfl, hkn, rfl, rfl⟩
      by_cases hlt : k < x.nk
      · obtain ⟨b1, o1, e1, hK1, he1, hem, hck, c0, c1', hms, hne⟩ := (hk.le hV2).at_ hlt
        have hsrc := (hs.le hV2).1.cells (fun _ => rfl)
        rw [str_cells] at hsrc
        have hon := ones_strs ss
        have hkey : kz e1 ∈ x.n.ks := by show kz e1 ∈ x.ks; rw [hks]; exact List.mem_map_of_mem hem
        have hxk : x.n.h.kind = 2 := by
          rcases (all_find hlf hf).here with h9 | h9
          · exact h9
          · rw [h9] at hkey; cases hkey
        have hfk : findP u (ss ++ [e1.nm]) = some e1.x.n := find_kid (k := kz e1) hnd hf hxk hkey
        have hsl := hs.1.1
        repeat' (first | (refine k_gw ?_; (first | (refine k_fieldAddr ?_; (first | refine gwq9 (q_fieldAddr fld_50_7 rfl) ?_)) | (refine k_load ?_; (first | refine gwq9 (q_load_o one_48 rfl own9 (by exact rfl)) ?_)) | (refine k_binOp ?_; refine gwb9 ?_) | refine gwg9 ?_ | (refine k_call ?_; (first | refine gwq9 (q_len rfl und_48 rfl) ?_)))) | (refine k_gl ?_; (first | refine gl_nil rfl ?_ | refine gl_go rfl rfl ?_)) | (refine k_gc ?_; (first | refine gc_seq ?_ | refine gc_region ?_ | (refine gc_cond_p rfl ?_ ?_ <;> intro hq <;> try (exfalso; first | exact hq rfl | omega)) | refine gc_block ?_ | refine gc_skip ?_)) | (refine k_at ?_; (first | refine at_seq ?_ | refine ats9 rfl ?_)))
        refine gc_meet (fun F V' L' => ∃ (A9 : Option Addr) (n9 c9 : Nat), VLe V2 V' ∧ n9 = m + 1 ∧ StrsV V' A9 n9 (ss ++ [e1.nm]) ∧ n9 ≤ c9 ∧ [⟨g7, 24, mC M⟩, ⟨g4, 50, lnC x⟩] = L' ∧ F = [(1, .slice B m e), (2, .slice A n c), (4, .pointer (some ⟨g4, 0, none⟩)), (7, .pointer (some ⟨g7, 0, none⟩)), (13, .int .i64 (k : Int)), (14, .slice A9 n9 c9)]) ?_ ?_
        · refine gc_held (id := 10) _ mixed (List.Sublist.refl _) ?_; (first | refine gtk9 0 rfl rfl (q_move rfl) ?_); (first | refine gtk9 2 rfl rfl (q_fieldAddr fld_50_7 rfl) ?_); (first | refine gtk9 3 rfl rfl (q_load_o one_48 rfl own9 (by exact rfl)) ?_); (first | refine gtk9 4 rfl rfl (q_move rfl) ?_); (first | refine gtk9 5 rfl rfl (q_indexAddr_e und_48 siz_104 rfl hK1 rfl hlt) ?_); (first | refine gtk9 6 rfl rfl (q_fieldAddr fld_104_0 rfl) ?_); (first | refine gtk9 7 rfl rfl (q_load_v one_9 rfl (by assumption)) ?_); (refine gh_two (i := 1) (j := 8) (by kernel_rfl) rfl rfl rfl rfl vl9 vl9 slb9 ?_ ?_ <;> first | ((first | (refine gw_append rfl und_40 inf_9 rfl rfl rfl RowL.nil repl_nil (src_v hsrc) one9 (by omega) rfl rfl ?_; intro A7 c7 L7 hr7)); refine gon9 (i := 8) rfl ?_; (first | (refine gw_buildSlice rfl und_40 siz_9 zec_9 rfl rfl rfl rfl rfl rfl rfl ?_; intro γ)); refine gon9 (i := 9) rfl ?_; (first | (refine gw_append rfl und_40 inf_9 rfl rfl rfl hr7 rep9 (src_o own9 rfl) one9 (by omega) rfl rfl ?_; intro A8 c8 L8 hr8)); (first | refine gtk9 10 rfl rfl (q_assign rfl) ?_); refine gh_done (by kernel_rfl) vl9 vl9 slb9 ?_) | ((first | (refine gw_buildSlice rfl und_40 siz_9 zec_9 rfl rfl rfl rfl rfl rfl rfl ?_; intro γ)); refine gon9 (i := 1) rfl ?_; (first | (refine gw_append rfl und_40 inf_9 rfl rfl rfl RowL.nil repl_nil (src_v hsrc) one9 (by omega) rfl rfl ?_; intro A7 c7 L7 hr7)); refine gon9 (i := 9) rfl ?_; (first | (refine gw_append rfl und_40 inf_9 rfl rfl rfl hr7 rep9 (src_o own9 rfl) one9 (by omega) rfl rfl ?_; intro A8 c8 L8 hr8)); (first | refine gtk9 10 rfl rfl (q_assign rfl) ?_); refine gh_done (by kernel_rfl) vl9 vl9 slb9 ?_))
          all_goals
            have hcap := hr8.cap
            refine at_shut hr8 rep9 ?_
            intro V8 hV8 hc8
            have hS8 : StrsV V8 A8 (0 + m + 1) (ss ++ [e1.nm]) := StrsV.of (by rw [List.map_append]; exact hc8) (by simp; omega) (by unfold maxLen; omega) (fun s hs9 => by
              rcases List.mem_append.1 hs9 with h9 | h9
              · exact hs.2 s h9
              · rw [List.mem_singleton.1 h9]; unfold maxLen; omega)
            exact at_meetP _ ⟨A8, _, c8, hV8, by omega, hS8, hcap, rfl, rfl⟩ sub9 sp9
        rintro F V3 L' ⟨A9, n9, c9, hV3, rfl, hS9, hc9, rfl, rfl⟩
        have hIH := fun V9 (h9 : VLe V3 V9) => ih V9 (hM.le ((hV2.trans hV3).trans h9)) A n c xs (hN.le ((hV2.trans hV3).trans h9)) hxs hn A9 (m + 1) c9 (ss ++ [e1.nm]) (hS9.le h9) hc9 (by omega) e1.x (hne.le (hV3.trans h9)) (hdk e1 hem) hfk
        repeat' (first | (refine k_gw ?_; (first | refine gwg9 ?_ | (refine k_fieldAddr ?_; (first | refine gwq9 (q_fieldAddr fld_50_7 rfl) ?_ | refine gwq9 (q_fieldAddr fld_104_1 rfl) ?_)) | (refine k_load ?_; (first | refine gwq9 (q_loadA_v agg_50 rfl (c1'.le hV3) (by exact rfl)) ?_ | refine gwq9 (q_load_o one_48 rfl own9 (by exact rfl)) ?_ | refine gwq9 (q_loadA_o agg_24 rfl own9 (by exact rfl)) ?_)) | (refine k_binOp ?_; refine gwb9 ?_) | (refine k_call ?_; (first | refine gwq9 (q_len rfl und_48 rfl) ?_ | refine gw_q' rfl (q_call ⟨Tryz.call15⟩ rfl (hIH _ vl9)) ?_)) | (refine k_indexAddr ?_; (first | refine gwq9 (q_indexAddr_e und_48 siz_104 rfl hK1 rfl hlt) ?_)))) | (refine k_gl ?_; (first | refine gl_nil rfl ?_ | refine gl_go rfl rfl ?_)) | (refine k_gc ?_; (first | refine gc_seq ?_ | refine gc_region ?_ | refine gc_cond_f rfl ?_ | refine gc_skip ?_ | refine gc_quiet (id := 11) mixed (by kernel_rfl) ?_)) | (refine k_at ?_; (first | refine at_seq ?_ | refine ats9 rfl ?_)))
        all_goals first
          | (exfalso; exact absurd hq (by decide))
          | (refine at_round _ (x.nk - (k + 1)) ⟨k + 1, vl9, rfl, by omega, rfl, rfl⟩ (by omega) sub9 sl9)
      · repeat' (first | (refine k_gw ?_; (first | refine gwg9 ?_ | (refine k_fieldAddr ?_; (first | refine gwq9 (q_fieldAddr fld_50_7 rfl) ?_)) | (refine k_load ?_; (first | refine gwq9 (q_load_o one_48 rfl own9 (by exact rfl)) ?_)) | (refine k_binOp ?_; refine gwb9 ?_) | (refine k_call ?_; (first | refine gwq9 (q_len rfl und_48 rfl) ?_)))) | (refine k_gl ?_; (first | refine gl_nil rfl ?_ | refine gl_go rfl rfl ?_)) | (refine k_gc ?_; (first | refine gc_seq ?_ | refine gc_region ?_ | (refine gc_cond_p rfl ?_ ?_ <;> intro hq <;> try (exfalso; first | exact hq rfl | omega)) | refine gc_exit ?_ | refine gc_ret ?_)) | (refine k_at ?_; (first | refine at_seq ?_ | refine ats9 rfl ?_)))
        all_goals
          (refine at_ret1 Tryz.results15 (rv_tmp rfl) ?_)
          rfl
end
section
theorem grow_tail {b : BX} (u : PN) : (growP b u).1.ls.tail = b.ls.tail := by
  unfold growP; (repeat' split) <;> rfl
theorem tail_putG {b : BX} (x u : PN) (ss : List ByteArray) : (putG b x u ss).1.ls.tail = b.ls.tail := by
  unfold putG; (repeat' split) <;> first | rfl | exact grow_tail _
theorem tail_alter {b : BX} (ss : List ByteArray) (φ : Hd → Hd) : (alterP b ss φ).1.ls.tail = b.ls.tail := by
  unfold alterP; (repeat' split) <;> first | rfl | exact grow_tail _
theorem tail_make {b : BX} (ss : List ByteArray) (par : TH) (kind mode : Int) (dt : ByteArray) : (makeP b ss par kind mode dt).1.ls.tail = b.ls.tail := by
  unfold makeP make2; (repeat' split) <;> first | rfl | exact tail_putG _ _ _
theorem tail_do (b : BX) (c : CL) : (doP b c).1.ls.tail = b.ls.tail := by
  have ch : ∀ r : BX × Int, r.1.ls.tail = b.ls.tail → (chT r).1.ls.tail = b.ls.tail := fun r h => h
  have m4 : ∀ dir n u ss other, (move4 b dir n u ss other).1.ls.tail = b.ls.tail := fun dir n u ss other => by
    unfold move4; (repeat' split) <;> first | rfl | exact tail_putG _ _ _
  have m3 : ∀ dir ss other, (move3 b dir ss other).1.ls.tail = b.ls.tail := fun dir ss other => by
    unfold move3; (repeat' split) <;> first | rfl | exact m4 _ _ _ _ _
  have m2 : ∀ a t ss other, (move2 b a t ss other).1.ls.tail = b.ls.tail := fun a t ss other => by
    unfold move2; (repeat' split) <;> first | rfl | exact m3 _ _ _
  have o2 : ∀ l u g, (own2 b l u g).1.ls.tail = b.ls.tail := fun l u g => by
    unfold own2; (repeat' split) <;> first | rfl | exact tail_alter _ _
  unfold doP
  by_cases o0 : 1 ≤ c.op ∧ c.op ≤ 3
  · rw [if_pos o0]
  rw [if_neg o0]
  by_cases o1 : c.op = 4
  · rw [if_pos o1]; refine ch _ ?_; unfold putP9; (repeat' split) <;> first | rfl | exact tail_make _ _ _ _ _ | exact tail_alter _ _
  rw [if_neg o1]
  by_cases o2' : c.op = 5
  · rw [if_pos o2']; refine ch _ ?_; unfold mkdirP; (repeat' split) <;> first | rfl | exact tail_make _ _ _ _ _
  rw [if_neg o2']
  by_cases o3 : c.op = 6
  · rw [if_pos o3]; refine ch _ ?_; unfold removeP gone2; (repeat' split) <;> first | rfl | exact grow_tail _
  rw [if_neg o3]
  by_cases o4 : c.op = 7
  · rw [if_pos o4]; refine ch _ ?_; unfold moveP; (repeat' split) <;> first | rfl | exact m2 _ _ _ _
  rw [if_neg o4]
  by_cases o5 : c.op = 8
  · rw [if_pos o5]; refine ch _ ?_; unfold chmodP; (repeat' split) <;> first | rfl | exact tail_alter _ _
  rw [if_neg o5]
  by_cases o6 : c.op = 9
  · rw [if_pos o6]; refine ch _ ?_; unfold ownP; (repeat' split) <;> first | rfl | exact o2 _ _ _
  rw [if_neg o6]
  by_cases o7 : c.op = 10
  · rw [if_pos o7]; refine ch _ ?_; unfold attrP; (repeat' split) <;> first | rfl | exact tail_alter _ _
  rw [if_neg o7]
  by_cases o8 : c.op = 11
  · rw [if_pos o8]; refine ch _ ?_; unfold attrP; (repeat' split) <;> first | rfl | exact tail_alter _ _
  rw [if_neg o8]
  by_cases o9 : c.op = 12
  · rw [if_pos o9]
  rw [if_neg o9]
  by_cases o10 : c.op = 13
  · rw [if_pos o10]; refine ch _ ?_; unfold beP; (repeat' split) <;> rfl
  rw [if_neg o10]
  by_cases o11 : c.op = 14
  · rw [if_pos o11]
  rw [if_neg o11]
/-- A box of a config, over lower layers. -/
structure InB (x : CF) (ls : List PN) (b : BX) : Prop where
  ok : BoxOk b
  us : b.us = x.M.us
  gs : b.gs = x.M.gs
  q : b.q = x.q
  tl : b.ls.tail = ls
  room : blocksP (upB b) ≤ b.q
theorem InB.step {x : CF} {ls : List PN} {b : BX} (h : InB x ls b) (c : CL) : InB x ls (doP b c).1 := by
  have g := good_do h.ok c
  have hq := (qt_do h.ok.q.2 h.room c).1.room h.room
  exact ⟨g.ok, g.us.trans h.us, g.gs.trans h.gs, g.q.trans h.q, (tail_do b c).trans h.tl, by rw [show (doP b c).1.q = b.q from g.q]; exact hq⟩
theorem blocks_root {u g : Int} (hu : 0 ≤ u ∧ u ≤ 65535) (hg : 0 ≤ g ∧ g ≤ 65535) : blocksP (.mk ⟨2, 493, u, g, false, [], ⟨#[]⟩⟩ []) ≤ 1 := by
  have hl : (layP (.mk ⟨2, 493, u, g, false, [], ⟨#[]⟩⟩ [])).length ≤ 20 := by
    rw [layP_eq, layK]
    simp [layH, layA, layT, b16]
  unfold blocksP bytesP
  rw [if_pos (root_tree9 hu hg)]
  omega
theorem InB.new {x : CF} {ls : List PN} (h : cfgF x ls = 0) : InB x ls (newB x.M.us x.M.gs x.c x.q ls) := by
  obtain ⟨_, _, _, _, k5, _, k7⟩ := cfg_ok h
  obtain ⟨z, hz⟩ := root_moved k7
  refine ⟨newOk h, rfl, rfl, rfl, rfl, ?_⟩
  have e : upB (newB x.M.us x.M.gs x.c x.q ls) = z := by
    show (movedP true x.M.us x.M.gs (.mk (rootH x.c) [])).getD pnZ = z
    rw [hz]; rfl
  rw [e]
  obtain ⟨u, g, rfl, h1, h2⟩ := moved_inv hz
  have := blocks_root (host_bd9 (m := x.M.us) h1) (host_bd9 (m := x.M.gs) h2)
  show blocksP (.mk ⟨2, 493, u, g, false, [], ⟨#[]⟩⟩ []) ≤ x.q
  omega
end
section
theorem ptr_box : PtrIs Tryz.prog 35 := ⟨by kernel_rfl⟩
theorem DoR.inv9 {p : Nat} {b : BX} {t : TD} {e : Int} {v : Value} {V : View} {Bs : List Box} (h : DoR p (b, t, e) v V Bs) : ∃ (A : Option Addr) (n c : Nat), v = .tuple #[tdV t A n c, errV e] ∧ StrsV V A n t.names ∧ n ≤ c ∧ BoxB V p b Bs := by
  obtain ⟨⟨A, n, c, h1, h2, h3⟩, h4⟩ := h
  exact ⟨A, n, c, h1, h2, h3, h4⟩
theorem up0_9 {b : BX} (hok : BoxOk b) : treeF true (upB b) = 0 := by
  have hl := hok.l1
  cases hb : b.ls with
  | nil => rw [hb] at hl; simp at hl
  | cons n0 t => unfold upB; rw [hb]; exact hok.up n0 (by rw [hb]; rfl)
attribute [local irreducible] AtQ GoC GoL GoW QO QP Fn RV OwnAt CellsFrom VLe SrcIs errV
set_option maxRecDepth 100000
attribute [local irreducible] FnB BoxB ToldR DoR
set_option maxRecDepth 100000 in
set_option maxHeartbeats 40000000 in
theorem TopOwned_c (V : View) (x : CF) (hx : CfV V x) (A : Option Addr) (n c : Nat) (ls : List LN) (h : NodesV V A n ls) (hnc : n ≤ c) (B : Option Addr) (m e : Nat) (xs : List CL) (hc : ElsV V 7 clC B m xs) : Fn Tryz.prog 3 [cfV x, .slice A n c, .slice B m e] V fun v _ => v = .bool true := by
  have hNew := fun V2 (hV2 : VLe V V2) => New_bx V2 x (hx.le hV2) A n c ls (h.le hV2)
  have hin := fun h9 => InB.new (x := x) (ls := ls.map LN.n) h9
  have hown := fun h9 => own_new (x := x) (ls := ls.map LN.n) h9
  have hcf := fun h9 => (cfg_ok (x := x) (ls := ls.map LN.n) h9).1
  rw [List.length_map, h.1.1] at hcf
  have hmx := hc.max
  have hcl := hc.1
  have hL := fun V2 (hV2 : VLe V V2) => Lights_c V2 A n c ls (h.le hV2)
  have hLC := fun V2 (hV2 : VLe V V2) => LightCalls_c V2 B m e xs (hc.le hV2)
  generalize cfgF x (ls.map LN.n) = cf at *
  generalize newB x.M.us x.M.gs x.c x.q (ls.map LN.n) = bx at *
  (refine fn_enter Tryz.func3 rfl Tryz.ntmps3 rfl ?_; intro w0)
  repeat' (first | (refine k_gw ?_; (first | (refine k_box ?_; (first | (refine gw_box rfl rfl rfl rfl ?_; intro γ))) | refine gwg9 ?_)) | (refine k_gl ?_; (first | refine gl_nil rfl ?_ | refine gl_go rfl rfl ?_)) | (refine k_gc ?_; (first | refine gc_seq ?_ | refine gc_region (id := 0) ?_)) | (refine k_at ?_; (first | refine at_seq ?_ | refine ats9 rfl ?_)))
  obtain ⟨g3, rfl⟩ : ∃ g3, g3 = γ := ⟨γ, rfl⟩
  repeat' (first | (refine k_gw ?_; (first | refine gwg9 ?_ | (refine k_load ?_; (first | refine gwq9 (q_loadA_o agg_29 rfl own9 (by exact rfl)) ?_)) | (refine k_call ?_; (first | (refine gw_call rfl ⟨Tryz.call9⟩ rfl rfl (LightConfig_c _ x) ?_; rintro v V1 hV1 ⟨b1, rfl⟩) | (refine gw_call rfl ⟨Tryz.call10⟩ rfl rfl (hL _ vl9) ?_; rintro v V1 hV1 ⟨b2, rfl, hb2⟩) | (refine gw_call rfl ⟨Tryz.call11⟩ rfl rfl (hLC _ vl9) ?_; rintro v V1 hV1 ⟨b3, rfl, hb3⟩) | (refine gw_callB rfl ⟨Tryz.call12⟩ rfl rep9 rfl (hNew _ vl9) ?_; rintro v V3 B3 hV3 (⟨hn, rfl, rfl⟩ | ⟨hn, p, rfl, hB⟩)))) | (refine k_binOp ?_; (first | refine gwq9 (q_pnil_eql ptr_box rfl) ?_ | refine gwq9 (q_eneq rfl) ?_ | refine gwb9 ?_)))) | (refine k_gl ?_; (first | refine gl_nil rfl ?_ | refine gl_go rfl rfl ?_ | refine gl_yes rfl rfl rfl rfl rfl ?_ | refine gl_no rfl rfl rfl rfl rfl rfl rfl ?_ | (refine gl_split_b rfl rfl rfl ?_ ?_ <;> intro hq))) | (refine k_gc ?_; (first | refine gc_seq ?_ | refine gc_region ?_ | refine gc_cond_t rfl ?_ | refine gc_cond_f rfl ?_ | (refine gc_cond_p rfl ?_ ?_ <;> intro hq <;> try (exfalso; first | exact hq rfl | omega)) | (refine gc_cond_b rfl ?_ ?_ <;> intro hq) | refine gc_block ?_ | refine gc_ret ?_ | refine gc_skip ?_)) | (refine k_at ?_; (first | refine at_seq ?_ | refine ats9 rfl ?_)))
  · (refine at_ret1 Tryz.results3 (rv_tmp rfl) ?_)
    rfl
  · (refine at_ret1 Tryz.results3 (rv_tmp rfl) ?_)
    rfl
  · (refine at_ret1 Tryz.results3 (rv_tmp rfl) ?_)
    rfl
  · (refine at_ret1 Tryz.results3 (rv_tmp rfl) ?_)
    rfl
  have hb3t : b3 = true := by simpa using hq
  have hlt3 := hb3 hb3t
  have hV03 : VLe V V3 := vl9
  have hn3 := hcf hn
  clear hb3 hL hLC hNew hcf
  refine gc_loop (fun F V' L' m' => ∃ (k : Nat) (b : BX) (Bs : List Box), VLe V3 V' ∧ ⟨g3, 29, cfC x⟩ :: Bs = L' ∧ BoxB V' p b Bs ∧ InB x (ls.map LN.n) b ∧ OwnB b ∧ k ≤ m ∧ m' = m - k ∧ F = [(1, .slice A n c), (2, .slice B m e), (3, .pointer (some ⟨g3, 0, none⟩)), (7, .pointer (some ⟨p, 0, none⟩)), (9, .int .i64 (k : Int))]) (m := m) ⟨0, bx, B3, VLe.refl _, rfl, hB, hin hn, hown hn, Nat.zero_le _, by omega, rfl⟩ sub9 rfl sl9 ?_
  clear hin hB hown
  rintro F V' L' m' ⟨k, b, Bs, hV', rfl, hB, hI, hO, hkm, rfl, rfl⟩
  by_cases hlt : k < m
  · have hok := hI.ok
    obtain ⟨bb, off, y, rfl, hy, hcy⟩ := ((hc.le hV03).le hV').at_ hlt
    have hcl9 := (hlt3.2 y (List.mem_of_getElem? hy)).ok
    have hD1 := fun V2 (hV2 : VLe V' V2) => Do_c V2 p b Bs hok (hB.le hV2) y hcl9
    have hI2 := hI.step y
    have hO2 := own_do hok hO y
    generalize doP b y = r at *
    obtain ⟨rb, rt, re⟩ := r
    replace hI2 : InB x (ls.map LN.n) rb := hI2
    replace hO2 : OwnB rb := hO2
    have okr := hI2.ok
    have hUp := up0_9 okr
    have hOw : Own2 x.M.us x.M.gs (upB rb) (ls.map LN.n) := by
      have := hO2
      unfold OwnB at this
      rw [hI2.us, hI2.gs, hI2.tl] at this
      exact this
    have hroom := hI2.room
    have hxq : rb.q = x.q := hI2.q
    have hl1 := h.1.1
    have hls := h.1.cells ln_len
    have honl := ones_ln ls
    repeat' (first | (refine k_gw ?_; (first | (refine k_load ?_; (first | refine gwq9 (q_loadA_v agg_46 rfl (by assumption) (by exact rfl)) ?_)) | (refine k_call ?_; (first | refine gwq9 (q_len rfl und_31 rfl) ?_ | (refine gw_callB rfl ⟨Tryz.call13⟩ rfl rep9 rfl (hD1 _ vl9) ?_; rintro v V5 B5 hV5 hR5; obtain ⟨A5, n5, c5, rfl, hS5, hnc5, hB5⟩ := DoR.inv9 hR5) | (refine gw_callB rfl ⟨Tryz.call14⟩ rfl rep9 rfl (Upper_b okr (hB5.le vl9)) ?_; rintro v V7 B7 hV7 hU; obtain ⟨rfl, yu, rfl, hyN, hyn⟩ := hU))) | refine gwg9 ?_ | (refine k_binOp ?_; (first | refine gwq9 (q_eneq rfl) ?_ | refine gwb9 ?_)) | (refine k_indexAddr ?_; (first | refine gwq9 (q_indexAddr und_31 siz_46 rfl rfl (by omega)) ?_)) | (refine k_alloc ?_; (first | (refine gw_alloc rfl zer_50 rfl ?_; intro γ))) | (refine k_store ?_; (first | refine gw_store rfl siz_50 rfl rfl rfl rfl one9 put9 rfl ?_)))) | (refine k_gl ?_; (first | refine gl_nil rfl ?_ | refine gl_go rfl rfl ?_)) | (refine k_gc ?_; (first | refine gc_seq ?_ | refine gc_region ?_ | (refine gc_cond_p rfl ?_ ?_ <;> intro hq <;> try (exfalso; first | exact hq rfl | omega)) | refine gc_block ?_ | refine gc_skip ?_)) | (refine k_at ?_; (first | refine at_seq ?_ | refine ats9 rfl ?_)))
    obtain ⟨g10, rfl⟩ : ∃ g10, g10 = γ := ⟨γ, rfl⟩
    have hyu : yu.n = upB rb := hyn
    have hV37 : VLe V3 V7 := vl9
    have hVV7 : VLe V V7 := hV03.trans hV37
    have hdp : Deep 7 yu.n := by rw [hyu]; exact tree_deep hUp
    have hlow : ∀ w ∈ yu :: ls, NodeV V7 w := fun w hw => by
      rcases List.mem_cons.1 hw with rfl | hw
      · exact hyN
      · exact (h.2 w hw).le hVV7
    have hsrc := hls.le hVV7
    have hours := fun (V8 : View) (h8 : VLe V7 V8) (A3 : Option Addr) (c3 : Nat) (hc8 : CellsV V8 8 A3 (1 + n) ([yu].flatMap lnC ++ ls.flatMap lnC)) => ours_c x.M (upB rb) (ls.map LN.n) hOw (tree_nd hUp) (treeF_ok.1 hUp).1 (tree_lf hUp) 7 V8 (hx.M.le (hVV7.trans h8)) A3 (1 + n) c3 (yu :: ls) (NodesV.of (by rw [List.flatMap_cons]; simpa using hc8) (by simp; omega) (by unfold maxLen; omega) (fun w hw => (hlow w hw).le h8)) (by rw [List.map_cons, hyu]) (by omega) none 0 0 [] StrsV.nil (Nat.le_refl _) (by omega) yu (hyN.le h8) hdp (by rw [find_nil, hyu])
    refine gc_meet (fun F V' L' => ∃ Bz : List Box, VLe V7 V' ∧ BoxB V' p rb Bz ∧ ⟨g10, 50, lnC yu⟩ :: ⟨g3, 29, cfC x⟩ :: Bz = L' ∧ F = [(1, .slice A n c), (2, .slice (some ⟨bb, off, none⟩) m e), (3, .pointer (some ⟨g3, 0, none⟩)), (7, .pointer (some ⟨p, 0, none⟩)), (9, .int .i64 (k : Int)), (10, .pointer (some ⟨g10, 0, none⟩)), (11, .bool true)]) ?_ ?_
    · refine gc_held (id := 13) _ mixed (List.Sublist.refl _) ?_; (first | refine gtk9 0 rfl rfl (q_loadA_o agg_50 rfl own9 (by exact rfl)) ?_); (first | refine gtk9 1 rfl rfl (q_loadA_o agg_50 rfl own9 (by exact rfl)) ?_); (first | refine gtk9 3 rfl rfl (q_move rfl) ?_); (first | refine gtk9 5 rfl rfl (q_fieldAddr fld_29_0 rfl) ?_); (first | refine gtk9 6 rfl rfl (q_loadA_p agg_24 rfl own9 (by exact rfl) (by exact rfl)) ?_); refine gon9 (i := 2) rfl ?_; (first | (refine gw_buildSlice rfl und_30 siz_50 zec_50 rfl rfl rfl rfl rfl rfl rfl ?_; intro γ)); refine gon9 (i := 4) rfl ?_; (first | (refine gw_append rfl und_30 inf_50 rfl rfl rfl (RowL.close (f := lnC) (xs := [yu]) (rest := []) ln_len rfl rfl (Nat.le_refl _) (by unfold maxLen; omega)) rep9 (src_v hsrc) one9 (by omega) rfl rfl ?_; intro A3 c3 L3 hr3)); refine gon9 (i := 7) rfl ?_; (first | (refine gw_shut rfl hr3 rep9 ?_; intro V8 hV8 hc8; refine gw_q' rfl (q_call ⟨Tryz.call15⟩ rfl (hours V8 hV8 A3 c3 hc8)) ?_)); (first | refine gtk9 8 rfl rfl (q_assign rfl) ?_); refine gh_done (by kernel_rfl) vl9 vl9 slb9 ?_
      all_goals exact at_meetP _ ⟨_, vl9, hB5.le vl9, rfl, rfl⟩ sub9 sp9
    rintro F V9 L' ⟨Bz, hV9, hB9, rfl, rfl⟩
    have hT := fun V2 (hV2 : VLe V9 V2) => TCheck_c V2 yu (hyN.le (hV9.trans hV2)) true
    rw [hyu, hUp] at hT
    have hQ := fun V2 (hV2 : VLe V9 V2) => QBlocks_c V2 yu (hyN.le (hV9.trans hV2))
    rw [hyu] at hQ
    rw [hxq] at hroom
    repeat' (first | (refine k_gw ?_; (first | refine gwg9 ?_ | (refine k_load ?_; (first | refine gwq9 (q_loadA_o agg_50 rfl own9 (by exact rfl)) ?_ | refine gwq9 (q_load_o one_3 rfl own9 (by exact rfl)) ?_)) | (refine k_call ?_; (first | refine gwq9 (q_len rfl und_31 rfl) ?_ | refine gw_q' rfl (q_call ⟨Tryz.call16⟩ rfl (hT _ vl9)) ?_ | refine gw_q' rfl (q_call ⟨Tryz.call17⟩ rfl (hQ _ vl9)) ?_)) | (refine k_binOp ?_; (first | refine gwq9 (q_eneq rfl) ?_ | refine gwb9 ?_)) | (refine k_fieldAddr ?_; (first | refine gwq9 (q_fieldAddr fld_29_0 rfl) ?_ | refine gwq9 (q_fieldAddr fld_29_2 rfl) ?_)))) | (refine k_gl ?_; (first | refine gl_nil rfl ?_ | refine gl_go rfl rfl ?_ | refine gl_yes rfl rfl rfl rfl rfl ?_)) | (refine k_gc ?_; (first | refine gc_seq ?_ | refine gc_region ?_ | (refine gc_cond_p rfl ?_ ?_ <;> intro hq <;> try (exfalso; first | exact hq rfl | omega)) | refine gc_skip ?_ | refine gc_quiet (id := 14) mixed (by kernel_rfl) ?_)) | (refine k_at ?_; (first | refine at_seq ?_ | refine ats9 rfl ?_)))
    all_goals first
      | (exfalso; omega)
      | (refine at_round _ (m - (k + 1)) ⟨k + 1, rb, Bz, hV37.trans hV9, rfl, hB9, hI2, hO2, by omega, rfl, rfl⟩ (by omega) sub9 slb9)
  · repeat' (first | (refine k_gw ?_; (first | refine gwg9 ?_ | (refine k_call ?_; (first | refine gwq9 (q_len rfl und_31 rfl) ?_)) | (refine k_binOp ?_; (first | refine gwq9 (q_eneq rfl) ?_ | refine gwb9 ?_)))) | (refine k_gl ?_; (first | refine gl_nil rfl ?_ | refine gl_go rfl rfl ?_)) | (refine k_gc ?_; (first | refine gc_seq ?_ | refine gc_region ?_ | (refine gc_cond_p rfl ?_ ?_ <;> intro hq <;> try (exfalso; first | exact hq rfl | omega)) | refine gc_exit ?_ | refine gc_ret ?_)) | (refine k_at ?_; (first | refine at_seq ?_ | refine ats9 rfl ?_)))
    all_goals
      (refine at_ret1 Tryz.results3 (rv_tmp rfl) ?_)
      rfl
end
section
open Go.ChangeShapes Go.WideShapes Go.ChangeAt Go.RowKit
open Go.Deep

section
variable {H : Type} {enc : TypeId × Value → H} {P : Program} {w : World} {base : Nat} {spare : Nat → Bool} {held : Bool}

/-- Two values that are of an int's bounds. -/
theorem i64_of_wf {x : Int} (h : (Lit.int .i64 x).wf = true) : -9223372036854775808 ≤ x ∧ x ≤ 9223372036854775807 := by
  simp [Lit.wf, IntKind.min, IntKind.max, IntKind.signed, IntKind.bits] at h
  exact ⟨by omega, by omega⟩

theorem ints_of_trod {t e : TypeId} {fuel : Nat} {v : Value} {x : DataW H × List MemPlace} (ht : P.underlying t = some (.slice e)) (he : P.underlying e = some (.int .i64)) (hc : P.cellsOf e = 1)
    (h : DataW.trod enc P w base spare held fuel t [v] = some x) : ∃ A n c xs, v = .slice A n c ∧ IntsAt w A n xs ∧ ∀ z ∈ xs, -9223372036854775808 ≤ z ∧ z ≤ 9223372036854775807 := by
  rcases open_ints ht he hc h with ⟨hcs, _⟩ | ⟨a, len, cap, zs, hcs, _, hl, hm, hz, _, hcell, hwz⟩
  · obtain rfl : v = .slice none 0 0 := by simpa using hcs
    exact ⟨none, 0, 0, [], rfl, IntsAt.nil w, by simp⟩
  · obtain rfl : v = .slice (some a) len cap := by simpa using hcs
    have hlz : len ≤ zs.length := by rw [hz]; split <;> omega
    refine ⟨some a, len, cap, zs.take len, rfl, ⟨by simp; omega, by omega, fun hn => ?_⟩, fun z hz' => i64_of_wf (hwz z (List.mem_of_mem_take hz'))⟩
    obtain ⟨b, off, spot⟩ := a
    have hc0 := hcell 0 (by omega)
    have hs : spot = none := by simpa [Addr.add] using World.cell?_spot hc0
    subst hs
    refine ⟨b, off, rfl, fun j z hj => ?_⟩
    have hjl : j < len := by
      rcases Nat.lt_or_ge j len with h | h
      · exact h
      · rw [List.getElem?_eq_none (by simp; omega)] at hj; cases hj
    rw [List.getElem?_take_of_lt hjl] at hj
    have hcj := hcell j (by omega)
    rw [List.getD_eq_getElem?_getD, hj] at hcj
    have ha : (⟨b, off, none⟩ : Addr).add j = ⟨b, off + j, none⟩ := by unfold Addr.add; split <;> simp_all
    rw [ha] at hcj
    exact hcj

/-- A struct's cells, and each field's reading off its own part of them. -/
def FieldsRead {H : Type} (enc : TypeId × Value → H) (P : Program) (w : World) (base : Nat) (spare : Nat → Bool) (held : Bool) (fs : Array Field) (cs : List Value) : Prop :=
  ∃ n, ∀ (j : Nat) (f : Field), fs[j]? = some f → ∃ y, DataW.trod enc P w base spare held n f.type ((cs.drop f.offset).take (P.cellsOf f.type)) = some y

theorem fields_of_trod {t : TypeId} {fs : Array Field} {fuel : Nat} {cs : List Value} {x : DataW H × List MemPlace} (hs : P.underlying t = some (.struct fs))
    (h : DataW.trod enc P w base spare held fuel t cs = some x) : cs.length = P.cellsOf t ∧ FieldsRead enc P w base spare held fs cs := by
  obtain ⟨xs, n, _, _, hl, hxl, hg⟩ := DataW.trod_struct hs h
  refine ⟨hl, n, fun j f hj => ?_⟩
  have hjl : j < xs.length := by rw [hxl]; exact (Array.getElem?_eq_some_iff.1 hj).1
  exact ⟨xs[j], (hg j f hj).trans (List.getElem?_eq_getElem hjl)⟩

/-- One field that is an int. -/
theorem FieldsRead.int {fs : Array Field} {cs : List Value} (h : FieldsRead enc P w base spare held fs cs) (j : Nat) {f : Field} (hj : fs[j]? = some f) {k : IntKind} (ht : P.underlying f.type = some (.int k)) (hc : P.cellsOf f.type = 1) {v : Value} (hv : cs[f.offset]? = some v) :
    ∃ n, v = .int k n ∧ (Lit.int k n).wf = true := by
  obtain ⟨m, hm⟩ := h
  obtain ⟨y, hy⟩ := hm j f hj
  obtain ⟨n, he, _, hwf⟩ := DataW.trod_int ht hy
  rw [hc, drop_at (Lib.hid hv)] at he
  exact ⟨n, by simpa using he, hwf⟩
theorem FieldsRead.bool {fs : Array Field} {cs : List Value} (h : FieldsRead enc P w base spare held fs cs) (j : Nat) {f : Field} (hj : fs[j]? = some f) (ht : P.underlying f.type = some .bool) (hc : P.cellsOf f.type = 1) {v : Value} (hv : cs[f.offset]? = some v) :
    ∃ b, v = .bool b := by
  obtain ⟨m, hm⟩ := h
  obtain ⟨y, hy⟩ := hm j f hj
  obtain ⟨n, he, _⟩ := DataW.trod_bool ht hy
  rw [hc, drop_at (Lib.hid hv)] at he
  exact ⟨n, by simpa using he⟩
theorem FieldsRead.string {fs : Array Field} {cs : List Value} (h : FieldsRead enc P w base spare held fs cs) (j : Nat) {f : Field} (hj : fs[j]? = some f) (ht : P.underlying f.type = some .string) (hc : P.cellsOf f.type = 1) {v : Value} (hv : cs[f.offset]? = some v) :
    ∃ s, v = .string s ∧ s.size ≤ maxLen := by
  obtain ⟨m, hm⟩ := h
  obtain ⟨y, hy⟩ := hm j f hj
  obtain ⟨n, he, hx⟩ := DataW.trod_string ht hy
  rw [hc, drop_at (Lib.hid hv)] at he
  exact ⟨n, by simpa using he, by simpa using hx.2⟩
theorem FieldsRead.ints {fs : Array Field} {cs : List Value} (h : FieldsRead enc P w base spare held fs cs) (j : Nat) {f : Field} (hj : fs[j]? = some f) {e : TypeId} (ht : P.underlying f.type = some (.slice e)) (he : P.underlying e = some (.int .i64)) (hc : P.cellsOf f.type = 1) (hce : P.cellsOf e = 1) {v : Value} (hv : cs[f.offset]? = some v) :
    ∃ A n c xs, v = .slice A n c ∧ IntsAt w A n xs ∧ ∀ z ∈ xs, -9223372036854775808 ≤ z ∧ z ≤ 9223372036854775807 := by
  obtain ⟨m, hm⟩ := h
  obtain ⟨y, hy⟩ := hm j f hj
  rw [hc, drop_at (Lib.hid hv)] at hy
  exact ints_of_trod ht he hce hy

/-- All arguments read behind the call as they read before. -/
theorem trodAll_below (hl : laidOutB P = true) {W W' : World} (hb : Below W.heap.size W W') : ∀ {ts : List TypeId} {vs : List Value} {ds : List (DataW H)} {ps : List MemPlace}, (ts.all fun t => P.readableRec t && decide (t < P.types.size)) = true →
    DataW.TrodAll enc P W 0 (fun _ => true) true ts vs ds ps → DataW.TrodAll enc P W' 0 (fun b => decide (b < W.heap.size)) true ts vs ds ps
  | [], [], [], _, _, h => h
  | [], _ :: _, _, _, _, h => h.elim
  | [], [], _ :: _, _, _, h => h.elim
  | _ :: _, [], _, _, _, h => h.elim
  | _ :: _, _ :: _, [], _, _, h => h.elim
  | t :: ts, v :: vs, d :: ds, ps, hr, h => by
    obtain ⟨p, q, h1, h2, rfl⟩ := h
    simp only [List.all_cons, Bool.and_eq_true, decide_eq_true_eq] at hr
    have h1' := h1
    obtain ⟨m, hm⟩ := h1'
    exact ⟨p, q, Below.trod hl hr.1.1 hr.1.2 h1 hb (fun x hx => DataW.trod_lt m _ _ _ hm x hx), trodAll_below hl hb (by simpa using hr.2) h2, rfl⟩
end
end
section

/-- All that a world has. -/
def fullV (w : World) : View := fun p => w.cell? p
theorem fullV_in (w : World) : VIn (fullV w) w := fun p x h => h
theorem Fn.any {P : Program} {f : FuncId} {args : List Value} {w : World} {v : Value} (h : Fn P f args (fullV w) fun u _ => u = v) : Calls P f args.toArray w fun e w' => e = .returned v ∧ Ext w w' :=
  (h w (fullV_in w)).mono fun e w' ⟨u, he, hx, _, _, _, _, hu⟩ => ⟨by rw [he, hu], hx⟩
theorem IntsAt.view {w : World} {A : Option Addr} {n : Nat} {xs : List Int} (h : IntsAt w A n xs) : IntsV (fullV w) A n xs := by
  refine ⟨h.1, h.2.1, h.cells.1, fun hn => ?_⟩
  obtain ⟨b, off, ha, hc⟩ := h.cells.2 hn
  exact ⟨b, off, ha, hc⟩
end
section
open Go.ChangeShapes Go.WideShapes Go.ChangeAt Go.RowKit
open Go.Deep
section
variable {H : Type} {enc : TypeId × Value → H} {P : Program} {w : World} {base : Nat} {spare : Nat → Bool} {held : Bool}
theorem els_of_trod {α : Type} (f : α → List Value) (good : α → Prop) {t e : TypeId} {fuel : Nat} {v : Value} {x : DataW H × List MemPlace} (ht : P.underlying t = some (.slice e)) (hsz : 0 < P.cellsOf e)
    (hel : ∀ (n : Nat) (cs : List Value) (y : DataW H × List MemPlace), n < fuel → cs.length = P.cellsOf e → DataW.trod enc P w base spare held n e cs = some y → ∃ a : α, cs = f a ∧ good a)
    (h : DataW.trod enc P w base spare held fuel t [v] = some x) : ∃ A n c xs, v = .slice A n c ∧ n ≤ c ∧ ElsV (fullV w) (P.cellsOf e) f A n xs ∧ ∀ a ∈ xs, good a := by
  rcases DataW.trod_slice ht h with ⟨hcs, _⟩ | ⟨a, len, cap, elems, rest, n, rfl, hcs, _, _, hl, hm, hlen, hat, _, _⟩
  · obtain rfl : v = .slice none 0 0 := by simpa using hcs
    exact ⟨none, 0, 0, [], rfl, Nat.le_refl _, ElsV.nil, by simp⟩
  · obtain rfl : v = .slice (some a) len cap := by simpa using hcs
    have key : ∀ i, i < len → ∃ z : α, (∀ j u, (f z)[j]? = some u → w.cell? ((a.add (i * P.cellsOf e)).add j) = some u) ∧ (f z).length = P.cellsOf e ∧ good z := by
      intro i hi
      have := hat i hi
      rw [List.getElem?_eq_getElem (by omega)] at this
      obtain ⟨cs', h1, h2⟩ := Option.bind_eq_some_iff.1 this
      obtain ⟨_, h3, h4⟩ := World.cells?_some h1
      obtain ⟨z, rfl, hz⟩ := hel n cs' _ (Nat.lt_succ_self n) h3 h2
      refine ⟨z, fun j u hj => ?_, h3, hz⟩
      have hjl : j < (f z).length := by
        rcases Nat.lt_or_ge j (f z).length with h | h
        · exact h
        · rw [List.getElem?_eq_none h] at hj; cases hj
      rw [h4 j (by omega)]; exact hj
    by_cases h0 : len = 0
    · subst h0
      exact ⟨some a, 0, cap, [], rfl, Nat.zero_le _, ElsV.nil, by simp⟩
    · obtain ⟨z0, _, _, _⟩ := key 0 (by omega)
      haveI : Inhabited α := ⟨z0⟩
      obtain ⟨Z, hZ⟩ := choose_lt (α := α) (p := fun i z => (∀ j u, (f z)[j]? = some u → w.cell? ((a.add (i * P.cellsOf e)).add j) = some u) ∧ (f z).length = P.cellsOf e ∧ good z) (fun i hi => key i hi)
      refine ⟨some a, len, cap, (List.range len).map Z, rfl, hl, ⟨by simp, Nat.le_trans hl hm, fun _ => ?_⟩, ?_⟩
      · obtain ⟨b, off, spot⟩ := a
        have hspot : spot = none := by
          obtain ⟨h1, h2, _⟩ := hZ 0 (by omega)
          have := h1 0 (f (Z 0))[0] (List.getElem?_eq_getElem (by omega))
          simpa [Addr.add] using World.cell?_spot this
        subst hspot
        refine ⟨b, off, rfl, fun k z hk j u hj => ?_⟩
        have hkl : k < len := by
          rcases Nat.lt_or_ge k len with h | h
          · exact h
          · rw [List.getElem?_eq_none (by simp; omega)] at hk; cases hk
        simp [hkl] at hk
        subst hk
        have := (hZ k hkl).1 j u hj
        rw [add_none, add_none] at this
        exact this
      · intro z hz
        obtain ⟨i, hi, rfl⟩ := List.mem_map.1 hz
        exact (hZ i (List.mem_range.1 hi)).2.2
theorem open_arg {t : TypeId} {v : Value} {d : DataW H} {p : List MemPlace} (h : DataW.Trod enc P w base spare held t v d p) (hv : v.cells = #[v]) : ∃ fuel x, DataW.trod enc P w base spare held fuel t [v] = some x := by
  obtain ⟨fuel, hf⟩ := h
  rw [hv] at hf
  exact ⟨fuel, _, by simpa using hf⟩
end
end
section
open Go.ChangeShapes Go.WideShapes Go.ChangeAt Go.RowKit
open Go.Deep
section
variable {H : Type} {enc : TypeId × Value → H} {w : World} {base : Nat} {spare : Nat → Bool} {held : Bool}
def inI (x : Int) : Prop := -9223372036854775808 ≤ x ∧ x ≤ 9223372036854775807
/-- A node's numbers are numbers of 64 bits. -/
def intsP (h : Hd) (_ : PKs) : Prop := inI h.kind ∧ inI h.mode ∧ inI h.user ∧ inI h.group
theorem fields_at {P : Program} {t : TypeId} {fs : Array Field} {fuel : Nat} {cs : List Value} {x : DataW H × List MemPlace} (hs : P.underlying t = some (.struct fs))
    (h : DataW.trod enc P w base spare held fuel t cs = some x) : ∃ n, fuel = n + 1 ∧ cs.length = P.cellsOf t ∧ FieldsRead enc P w base spare held fs cs ∧ ∀ (j : Nat) (f : Field), fs[j]? = some f → ∃ y, DataW.trod enc P w base spare held n f.type ((cs.drop f.offset).take (P.cellsOf f.type)) = some y := by
  obtain ⟨xs, n, hn, _, hl, hxl, hg⟩ := DataW.trod_struct hs h
  have key : ∀ (j : Nat) (f : Field), fs[j]? = some f → ∃ y, DataW.trod enc P w base spare held n f.type ((cs.drop f.offset).take (P.cellsOf f.type)) = some y := fun j f hj => by
    have hjl : j < xs.length := by rw [hxl]; exact (Array.getElem?_eq_some_iff.1 hj).1
    exact ⟨xs[j], (hg j f hj).trans (List.getElem?_eq_getElem hjl)⟩
  exact ⟨n, hn, hl, ⟨n, key⟩, key⟩
set_option maxRecDepth 100000 in
theorem tattr_of_trod {n : Nat} {cs : List Value} {y : DataW H × List MemPlace} (h : DataW.trod enc Tryz.prog w base spare held n 222 cs = some y) : ∃ a : PA, cs = paC a ∧ a.n.size ≤ maxLen ∧ a.v.size ≤ maxLen := by
  obtain ⟨hl, hF⟩ := fields_of_trod Tryz.underlying222 h
  match cs, hl.trans (show Tryz.prog.cellsOf 222 = 2 by kernel_rfl) with
  | [c0, c1], _ =>
    obtain ⟨a, rfl, wa⟩ := hF.string 0 rfl Tryz.underlying9 (by kernel_rfl) rfl
    obtain ⟨b, rfl, wb⟩ := hF.string 1 rfl Tryz.underlying9 (by kernel_rfl) rfl
    exact ⟨⟨a, b⟩, rfl, wa, wb⟩
theorem tattr_cells : Tryz.prog.cellsOf 222 = 2 := by kernel_rfl
theorem kid_cells : Tryz.prog.cellsOf 104 = 9 := by kernel_rfl
theorem node_cells : Tryz.prog.cellsOf 50 = 8 := by kernel_rfl
theorem list8 {α : Type} {l : List α} (h : l.length = 8) : ∃ a b c d e f g i, l = [a, b, c, d, e, f, g, i] := by
  match l, h with
  | [a, b, c, d, e, f, g, i], _ => exact ⟨a, b, c, d, e, f, g, i, rfl⟩
theorem list9 {α : Type} {l : List α} (h : l.length = 9) : ∃ a b c d e f g i j, l = [a, b, c, d, e, f, g, i, j] := by
  match l, h with
  | [a, b, c, d, e, f, g, i, j], _ => exact ⟨a, b, c, d, e, f, g, i, j, rfl⟩
set_option maxRecDepth 100000 in
theorem node_of_trod : ∀ (fuel : Nat) {cs : List Value} {y : DataW H × List MemPlace}, DataW.trod enc Tryz.prog w base spare held fuel 50 cs = some y → ∃ x : LN, cs = lnC x ∧ NodeV (fullV w) x ∧ AllN intsP x.n := by
  intro fuel
  induction fuel using Nat.strongRecOn with
  | _ fuel ih =>
    intro cs y h
    obtain ⟨m, rfl, hl, hF, hat⟩ := fields_at Tryz.underlying50 h
    obtain ⟨c0, c1, c2, c3, c4, c5, c6, c7, rfl⟩ := list8 (hl.trans node_cells)
    obtain ⟨kind, rfl, w0⟩ := hF.int 0 rfl Tryz.underlying3 (by kernel_rfl) rfl
    obtain ⟨mode, rfl, w1⟩ := hF.int 1 rfl Tryz.underlying3 (by kernel_rfl) rfl
    obtain ⟨user, rfl, w2⟩ := hF.int 2 rfl Tryz.underlying3 (by kernel_rfl) rfl
    obtain ⟨group, rfl, w3⟩ := hF.int 3 rfl Tryz.underlying3 (by kernel_rfl) rfl
    obtain ⟨opq, rfl⟩ := hF.bool 4 rfl Tryz.underlying4 (by kernel_rfl) rfl
    obtain ⟨y5, h5⟩ := hat 5 _ rfl
    obtain ⟨data, rfl, w6⟩ := hF.string 6 rfl Tryz.underlying9 (by kernel_rfl) rfl
    obtain ⟨y7, h7⟩ := hat 7 _ rfl
    replace h5 : DataW.trod enc Tryz.prog w base spare held m 47 [c5] = some y5 := h5
    replace h7 : DataW.trod enc Tryz.prog w base spare held m 48 [c7] = some y7 := h7
    obtain ⟨A, na, ca, al, rfl, ga, hA, hAg⟩ := els_of_trod paC (fun a => a.n.size ≤ maxLen ∧ a.v.size ≤ maxLen) Tryz.underlying47 (by rw [tattr_cells]; omega) (fun m' cs y _ _ hy => tattr_of_trod hy) h5
    obtain ⟨K, nk, ck, es, rfl, gk, hK, hKg⟩ := els_of_trod lkC (fun e => e.nm.size ≤ maxLen ∧ NodeV (fullV w) e.x ∧ AllN intsP e.x.n) Tryz.underlying48 (by rw [kid_cells]; omega) (fun m' cs y hm' hcl hy => by
      obtain ⟨m2, rfl, hl2, hF2, hat2⟩ := fields_at Tryz.underlying104 hy
      obtain ⟨d0, d1, d2, d3, d4, d5, d6, d7, d8, rfl⟩ := list9 (hl2.trans kid_cells)
      obtain ⟨nm, rfl, wn⟩ := hF2.string 0 rfl Tryz.underlying9 (by kernel_rfl) rfl
      obtain ⟨y1, h1⟩ := hat2 1 _ rfl
      replace h1 : DataW.trod enc Tryz.prog w base spare held m2 50 [d1, d2, d3, d4, d5, d6, d7, d8] = some y1 := h1
      obtain ⟨x, hx, hN, hI⟩ := ih m2 (by omega) h1
      refine ⟨⟨nm, x⟩, ?_, wn, hN, hI⟩
      simp only [List.cons.injEq] at hx
      obtain ⟨rfl, rfl, rfl, rfl, rfl, rfl, rfl, rfl, _⟩ := hx
      rfl) h7
    rw [tattr_cells] at hA
    rw [kid_cells] at hK
    refine ⟨⟨⟨kind, mode, user, group, opq, al, data⟩, A, na, ca, K, nk, ck, es.map kz⟩, rfl, NodeV.of ⟨hA, hAg⟩ ga w6 gk ⟨hK, fun e he => ⟨(hKg e he).1, (hKg e he).2.1⟩⟩ rfl, .mk ⟨i64_of_wf w0, i64_of_wf w1, i64_of_wf w2, i64_of_wf w3⟩ fun k hk => ?_⟩
    obtain ⟨e, he, rfl⟩ := List.mem_map.1 hk
    exact (hKg e he).2.2
end
end
section
open Go.ChangeShapes Go.WideShapes Go.ChangeAt Go.RowKit
open Go.Deep
section
variable {H : Type} {enc : TypeId × Value → H} {w : World} {base : Nat} {spare : Nat → Bool} {held : Bool}
theorem list3 {α : Type} {l : List α} (h : l.length = 3) : ∃ a b c, l = [a, b, c] := by
  match l, h with
  | [a, b, c], _ => exact ⟨a, b, c, rfl⟩
theorem list2 {α : Type} {l : List α} (h : l.length = 2) : ∃ a b, l = [a, b] := by
  match l, h with
  | [a, b], _ => exact ⟨a, b, rfl⟩
theorem range_of_trod {n : Nat} {cs : List Value} {y : DataW H × List MemPlace} (h : DataW.trod enc Tryz.prog w base spare held n 190 cs = some y) : ∃ r : PR, cs = prC r ∧ inR64 r := by
  obtain ⟨hl, hF⟩ := fields_of_trod Tryz.underlying190 h
  obtain ⟨c0, c1, c2, rfl⟩ := list3 (hl.trans (by kernel_rfl))
  obtain ⟨a, rfl, wa⟩ := hF.int 0 rfl Tryz.underlying3 (by kernel_rfl) rfl
  obtain ⟨b, rfl, wb⟩ := hF.int 1 rfl Tryz.underlying3 (by kernel_rfl) rfl
  obtain ⟨c, rfl, wc⟩ := hF.int 2 rfl Tryz.underlying3 (by kernel_rfl) rfl
  exact ⟨⟨a, b, c⟩, rfl, i64_of_wf wa, i64_of_wf wb, i64_of_wf wc⟩
theorem range_cells : Tryz.prog.cellsOf 190 = 3 := by kernel_rfl
theorem maps_of_trod {fuel : Nat} {v : Value} {x : DataW H × List MemPlace} (h : DataW.trod enc Tryz.prog w base spare held fuel 22 [v] = some x) : ∃ A n c xs, v = .slice A n c ∧ n ≤ c ∧ MapV (fullV w) A n xs := by
  obtain ⟨A, n, c, xs, h1, h2, h3, h4⟩ := els_of_trod prC inR64 Tryz.underlying22 (by rw [range_cells]; omega) (fun m cs y _ _ hy => range_of_trod hy) h
  rw [range_cells] at h3
  exact ⟨A, n, c, xs, h1, h2, h3, h4⟩
end
end
section
open Go.ChangeShapes Go.WideShapes Go.ChangeAt Go.RowKit
open Go.Deep
section
variable {H : Type} {enc : TypeId × Value → H} {w : World} {base : Nat} {spare : Nat → Bool} {held : Bool}
set_option maxRecDepth 100000 in
theorem nodes_arg {r : Reach} {b0 : Nat} {v : Value} {d : DataW H} {p : List MemPlace} (hv : Value.okWide Tryz.prog w r b0 30 v) (h : DataW.Trod enc Tryz.prog w base spare held 30 v d p) : ∃ A n c xs, v = .slice A n c ∧ n ≤ c ∧ NodesV (fullV w) A n xs := by
  obtain ⟨A, n, c, rfl⟩ := okWide_slice Tryz.underlying30 hv
  obtain ⟨fuel, y, hf⟩ := open_arg h rfl
  obtain ⟨A', n', c', xs, he, hnc, hE, hg⟩ := els_of_trod lnC (fun x => NodeV (fullV w) x) Tryz.underlying30 (by rw [node_cells]; omega) (fun m' cs y _ hcl hy => by
    obtain ⟨x, hx, hN, _⟩ := node_of_trod m' hy
    exact ⟨x, hx, hN⟩) hf
  simp only [List.cons.injEq, Value.slice.injEq, and_true] at he
  obtain ⟨rfl, rfl, rfl⟩ := he
  rw [node_cells] at hE
  exact ⟨A, n, c, xs, rfl, hnc, hE, hg⟩
set_option maxRecDepth 100000 in
theorem maps2_of_trod {fuel : Nat} {cs : List Value} {y : DataW H × List MemPlace} (h : DataW.trod enc Tryz.prog w base spare held fuel 24 cs = some y) : ∃ M : LM, cs = [.slice M.A M.n M.c, .slice M.B M.m M.e] ∧ MapsV (fullV w) M := by
  obtain ⟨m, rfl, hl, hF, hat⟩ := fields_at Tryz.underlying24 h
  obtain ⟨c0, c1, rfl⟩ := list2 (hl.trans (by kernel_rfl))
  obtain ⟨y0, h0⟩ := hat 0 _ rfl
  obtain ⟨y1, h1⟩ := hat 1 _ rfl
  replace h0 : DataW.trod enc Tryz.prog w base spare held m 22 [c0] = some y0 := h0
  replace h1 : DataW.trod enc Tryz.prog w base spare held m 22 [c1] = some y1 := h1
  obtain ⟨A, n, c, us, rfl, k1, m1⟩ := maps_of_trod h0
  obtain ⟨B, m', e, gs, rfl, k2, m2⟩ := maps_of_trod h1
  exact ⟨⟨A, n, c, us, B, m', e, gs⟩, rfl, m1, k1, m2, k2⟩
end
end
section
open Go.ChangeShapes Go.WideShapes Go.ChangeAt Go.RowKit
open Go.Deep
section
variable {H : Type} {enc : TypeId × Value → H} {w : World} {base : Nat} {spare : Nat → Bool} {held : Bool}
theorem list7 {α : Type} {l : List α} (h : l.length = 7) : ∃ a b c d e f g, l = [a, b, c, d, e, f, g] := by
  match l, h with
  | [a, b, c, d, e, f, g], _ => exact ⟨a, b, c, d, e, f, g, rfl⟩
theorem list4b {α : Type} {l : List α} (h : l.length = 4) : ∃ a b c d, l = [a, b, c, d] := by
  match l, h with
  | [a, b, c, d], _ => exact ⟨a, b, c, d, rfl⟩
theorem cred_of_trod {n : Nat} {cs : List Value} {y : DataW H × List MemPlace} (h : DataW.trod enc Tryz.prog w base spare held n 27 cs = some y) : ∃ (c : CR) (A : Option Addr) (n k : Nat), cs = [.int .i64 c.u, .int .i64 c.g, .slice A n k, .int .i64 c.d] ∧ IntsV (fullV w) A n c.xs := by
  obtain ⟨hl, hF⟩ := fields_of_trod Tryz.underlying27 h
  obtain ⟨c0, c1, c2, c3, rfl⟩ := list4b (hl.trans (by kernel_rfl))
  obtain ⟨a, rfl, _⟩ := hF.int 0 rfl Tryz.underlying3 (by kernel_rfl) rfl
  obtain ⟨b, rfl, _⟩ := hF.int 1 rfl Tryz.underlying3 (by kernel_rfl) rfl
  obtain ⟨A, n, c, xs, rfl, hI, _⟩ := hF.ints 2 rfl Tryz.underlying25 Tryz.underlying3 (by kernel_rfl) (by kernel_rfl) rfl
  obtain ⟨d, rfl, _⟩ := hF.int 3 rfl Tryz.underlying3 (by kernel_rfl) rfl
  exact ⟨⟨a, b, d, xs⟩, A, n, c, rfl, hI.view⟩
set_option maxRecDepth 100000 in
theorem config_of_trod {fuel : Nat} {cs : List Value} {y : DataW H × List MemPlace} (h : DataW.trod enc Tryz.prog w base spare held fuel 29 cs = some y) : ∃ x : CF, cs = cfC x ∧ CfV (fullV w) x := by
  obtain ⟨m, rfl, hl, hF, hat⟩ := fields_at Tryz.underlying29 h
  obtain ⟨c0, c1, c2, c3, c4, c5, c6, c7, rfl⟩ := list8 (hl.trans (by kernel_rfl))
  obtain ⟨y0, h0⟩ := hat 0 _ rfl
  obtain ⟨y1, h1⟩ := hat 1 _ rfl
  replace h0 : DataW.trod enc Tryz.prog w base spare held m 24 [c0, c1] = some y0 := h0
  replace h1 : DataW.trod enc Tryz.prog w base spare held m 27 [c2, c3, c4, c5] = some y1 := h1
  obtain ⟨M, e0, hM⟩ := maps2_of_trod h0
  obtain ⟨c, A, n, k, e1, hI⟩ := cred_of_trod h1
  obtain ⟨q, rfl, _⟩ := hF.int 2 rfl Tryz.underlying3 (by kernel_rfl) rfl
  obtain ⟨B, m', e, lo, rfl, hL, _⟩ := hF.ints 3 rfl Tryz.underlying25 Tryz.underlying3 (by kernel_rfl) (by kernel_rfl) rfl
  simp only [List.cons.injEq, and_true] at e0 e1
  obtain ⟨rfl, rfl⟩ := e0
  obtain ⟨rfl, rfl, rfl, rfl⟩ := e1
  exact ⟨⟨M, c, A, n, k, q, B, m', e, lo⟩, rfl, hM, hI, hL.view⟩
set_option maxRecDepth 100000 in
theorem config_arg {r : Reach} {b0 : Nat} {v : Value} {d : DataW H} {p : List MemPlace} (hv : Value.okWide Tryz.prog w r b0 29 v) (h : DataW.Trod enc Tryz.prog w base spare held 29 v d p) : ∃ x : CF, v = cfV x ∧ CfV (fullV w) x := by
  obtain ⟨cs, rfl, hsz⟩ := okWide_struct Tryz.underlying29 hv
  obtain ⟨fuel, hf⟩ := h
  obtain ⟨x, hx, hX⟩ := config_of_trod hf
  refine ⟨x, ?_, hX⟩
  have : cs.toList = cfC x := by simpa [Value.cells] using hx
  show Value.agg cs = Value.agg (cfC x).toArray
  rw [← this]
/-- Its texts are texts of a machine. -/
def clSz (c : CL) : Prop := c.path.size ≤ maxLen ∧ c.other.size ≤ maxLen ∧ c.name.size ≤ maxLen ∧ c.data.size ≤ maxLen
theorem call_of_trod {n : Nat} {cs : List Value} {y : DataW H × List MemPlace} (h : DataW.trod enc Tryz.prog w base spare held n 46 cs = some y) : ∃ c : CL, cs = clC c ∧ clSz c := by
  obtain ⟨hl, hF⟩ := fields_of_trod Tryz.underlying46 h
  obtain ⟨c0, c1, c2, c3, c4, c5, c6, rfl⟩ := list7 (hl.trans (by kernel_rfl))
  obtain ⟨a0, rfl, _⟩ := hF.int 0 rfl Tryz.underlying3 (by kernel_rfl) rfl
  obtain ⟨a1, rfl, w1⟩ := hF.string 1 rfl Tryz.underlying9 (by kernel_rfl) rfl
  obtain ⟨a2, rfl, w2⟩ := hF.string 2 rfl Tryz.underlying9 (by kernel_rfl) rfl
  obtain ⟨a3, rfl, w3⟩ := hF.string 3 rfl Tryz.underlying9 (by kernel_rfl) rfl
  obtain ⟨a4, rfl, w4⟩ := hF.string 4 rfl Tryz.underlying9 (by kernel_rfl) rfl
  obtain ⟨a5, rfl, _⟩ := hF.int 5 rfl Tryz.underlying3 (by kernel_rfl) rfl
  obtain ⟨a6, rfl, _⟩ := hF.int 6 rfl Tryz.underlying3 (by kernel_rfl) rfl
  exact ⟨⟨a0, a1, a2, a3, a4, a5, a6⟩, rfl, w1, w2, w3, w4⟩
theorem call_cells : Tryz.prog.cellsOf 46 = 7 := by kernel_rfl
set_option maxRecDepth 100000 in
theorem calls_arg {r : Reach} {b0 : Nat} {v : Value} {d : DataW H} {p : List MemPlace} (hv : Value.okWide Tryz.prog w r b0 31 v) (h : DataW.Trod enc Tryz.prog w base spare held 31 v d p) : ∃ A n c xs, v = .slice A n c ∧ n ≤ c ∧ ElsV (fullV w) 7 clC A n xs ∧ ∀ a ∈ xs, clSz a := by
  obtain ⟨A, n, c, rfl⟩ := okWide_slice Tryz.underlying31 hv
  obtain ⟨fuel, x, hf⟩ := open_arg h rfl
  obtain ⟨A, n, c, xs, h1, h2, h3, h4⟩ := els_of_trod clC clSz Tryz.underlying31 (by rw [call_cells]; omega) (fun m cs y _ _ hy => call_of_trod hy) hf
  rw [call_cells] at h3
  exact ⟨A, n, c, xs, h1, h2, h3, h4⟩
end
end
end Go.Proofs.YtejkmomfpidnbacGreat
