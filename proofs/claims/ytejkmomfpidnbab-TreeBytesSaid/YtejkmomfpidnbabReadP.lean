/- Reading a tree's bytes, in plain terms. No program is named here. -/
import Derived.Test.YtejkmomfpidnbabLayP
import Derived.Test.YtejkmomfpidnbabLay
namespace Go.Proofs.Ytejkmomfpidnbab
open Go.RowKit
set_option linter.unusedSimpArgs false
set_option linter.unusedVariables false
/-- What is left to be read; bad: there was too little. -/
structure Rd where
  l : List UInt8
  bad : Bool
def takeR (st : Rd) (n : Nat) : List UInt8 × Rd := if st.bad = true ∨ st.l.length < n then ([], ⟨st.l, true⟩) else (st.l.take n, ⟨st.l.drop n, false⟩)
def oneV : List UInt8 → Int
  | [] => 0
  | b :: _ => (b.toNat : Int)
def pairV : List UInt8 → Int
  | [a, b] => (a.toNat : Int) * 256 + (b.toNat : Int)
  | _ => 0
def byteR (st : Rd) : Int × Rd := (oneV (takeR st 1).1, (takeR st 1).2)
def twoR (st : Rd) : Int × Rd := ((byteR st).1 * 256 + (byteR (byteR st).2).1, (byteR (byteR st).2).2)
def twoQ (st : Rd) : Int × Rd := (pairV (takeR st 2).1, (takeR st 2).2)
def textR (st : Rd) : ByteArray × Rd := (⟨(takeR (byteR st).2 (byteR st).1.toNat).1.toArray⟩, (takeR (byteR st).2 (byteR st).1.toNat).2)
def attrsR : Nat → Rd → List PA × Rd
  | 0, st => ([], st)
  | k + 1, st => if st.bad = true then ([], st) else (⟨(textR st).1, (textR (textR st).2).1⟩ :: (attrsR k (textR (textR st).2).2).1, (attrsR k (textR (textR st).2).2).2)
def kidsR (rd : Rd → PN × Rd) : Nat → Rd → PKs × Rd
  | 0, st => ([], st)
  | k + 1, st => if st.bad = true then ([], st) else (((textR st).1, (rd (textR st).2).1) :: (kidsR rd k (rd (textR st).2).2).1, (kidsR rd k (rd (textR st).2).2).2)
def hdR (k m u g : Int) (as : List PA) (d : ByteArray) : Hd := ⟨if 7 < k then k - 8 else k, m, u, g, decide (7 < k), as, d⟩
/-- A node that is read, where two bytes are read as 'two' does; the first number: how deep one may go yet. -/
def nodeG (two : Rd → Int × Rd) : Nat → Rd → PN × Rd
  | 0, st => (pnZ, ⟨st.l, true⟩)
  | f + 1, st =>
    let k := byteR st
    let m := two k.2
    let u := two m.2
    let g := two u.2
    let an := byteR g.2
    let as := attrsR an.1.toNat an.2
    let d := textR as.2
    let kn := byteR d.2
    let ks := kidsR (nodeG two f) kn.1.toNat kn.2
    (.mk (hdR k.1 m.1 u.1 g.1 as.1 d.1) ks.1, ks.2)
/-! ### What is read was laid so -/
theorem takeR_ok {st : Rd} {n : Nat} (h : (takeR st n).2.bad = false) : st.bad = false ∧ st.l = (takeR st n).1 ++ (takeR st n).2.l ∧ (takeR st n).1.length = n := by
  unfold takeR at h ⊢
  split at h
  · simp at h
  · rename_i h1
    rw [if_neg h1]
    have h2 : ¬ st.bad = true := fun e => h1 (.inl e)
    refine ⟨by simpa using h2, by simp, ?_⟩
    simp only [List.length_take]; omega
theorem takeR_of {a r : List UInt8} {n : Nat} (h : a.length = n) : takeR ⟨a ++ r, false⟩ n = (a, ⟨r, false⟩) := by
  unfold takeR
  rw [if_neg (by simp; omega)]
  subst h; simp
theorem b8_of {v : Int} (h : 0 ≤ v ∧ v ≤ 255) : ((b8 v).toNat : Int) = v := by rw [b8_nat]; omega
theorem b8_back (b : UInt8) : b8 (b.toNat : Int) = b := by
  apply UInt8.toNat_inj.1
  have h1 := b8_nat (b.toNat : Int)
  have h2 := b.toNat_lt
  omega
theorem byteR_ok {st : Rd} (h : (byteR st).2.bad = false) : st.bad = false ∧ st.l = b8 (byteR st).1 :: (byteR st).2.l ∧ 0 ≤ (byteR st).1 ∧ (byteR st).1 ≤ 255 := by
  unfold byteR at h ⊢
  obtain ⟨h1, h2, h3⟩ := takeR_ok h
  refine ⟨h1, ?_⟩
  cases ht : (takeR st 1).1 with
  | nil => rw [ht] at h3; simp at h3
  | cons b l =>
    rw [ht] at h2 h3
    obtain rfl : l = [] := by cases l with
      | nil => rfl
      | cons _ _ => simp at h3
    have := b.toNat_lt
    simp only [oneV]
    refine ⟨by rw [b8_back]; exact h2, by omega, by omega⟩
theorem byteR_of {v : Int} {r : List UInt8} (h : 0 ≤ v ∧ v ≤ 255) : byteR ⟨b8 v :: r, false⟩ = (v, ⟨r, false⟩) := by
  unfold byteR
  have e := takeR_of (a := [b8 v]) (r := r) (n := 1) rfl
  rw [show ([b8 v] ++ r : List UInt8) = b8 v :: r from rfl] at e
  rw [e]
  simp only [oneV, b8_of h]
structure TwoOk (two : Rd → Int × Rd) : Prop where
  ok : ∀ st, (two st).2.bad = false → st.bad = false ∧ st.l = b16 (two st).1 ++ (two st).2.l ∧ 0 ≤ (two st).1 ∧ (two st).1 ≤ 65535
  of : ∀ v r, 0 ≤ v → v ≤ 65535 → two ⟨b16 v ++ r, false⟩ = (v, ⟨r, false⟩)
theorem b8_eq {x y : Int} (h : x % 256 = y % 256) : b8 x = b8 y := by unfold b8; rw [h]
theorem twoR_is : TwoOk twoR where
  ok := fun st h => by
    unfold twoR at h ⊢
    obtain ⟨h1, h2, h3, h4⟩ := byteR_ok h
    obtain ⟨g1, g2, g3, g4⟩ := byteR_ok h1
    refine ⟨g1, ?_, by simp only []; omega, by simp only []; omega⟩
    rw [g2, h2]
    simp only [b16, List.cons_append, List.nil_append]
    rw [b8_eq (x := ((byteR st).1 * 256 + (byteR (byteR st).2).1) / 256) (y := (byteR st).1) (by omega), b8_eq (x := (byteR st).1 * 256 + (byteR (byteR st).2).1) (y := (byteR (byteR st).2).1) (by omega)]
  of := fun v r h1 h2 => by
    unfold twoR
    have e1 : byteR ⟨b16 v ++ r, false⟩ = (v / 256, ⟨b8 v :: r, false⟩) := byteR_of (v := v / 256) (by omega)
    have e2 : byteR ⟨b8 v :: r, false⟩ = (v % 256, ⟨r, false⟩) := by
      rw [b8_eq (x := v) (y := v % 256) (by omega)]; exact byteR_of (by omega)
    simp only [e1, e2]
    rw [show v / 256 * 256 + v % 256 = v by omega]
theorem twoQ_is : TwoOk twoQ where
  ok := fun st h => by
    unfold twoQ at h ⊢
    obtain ⟨h1, h2, h3⟩ := takeR_ok h
    match ht : (takeR st 2).1, h3 with
    | [a, b], _ =>
      rw [ht] at h2
      have ha := a.toNat_lt
      have hb := b.toNat_lt
      refine ⟨h1, ?_, by simp only [pairV]; omega, by simp only [pairV]; omega⟩
      rw [h2]
      simp only [b16, pairV]
      rw [b8_eq (x := ((a.toNat : Int) * 256 + (b.toNat : Int)) / 256) (y := a.toNat) (by omega), b8_eq (x := (a.toNat : Int) * 256 + (b.toNat : Int)) (y := b.toNat) (by omega), b8_back, b8_back]
  of := fun v r h1 h2 => by
    unfold twoQ
    rw [takeR_of (a := b16 v) (n := 2) rfl]
    have e1 := b8_of (v := v / 256) (by omega)
    have e2 := b8_nat v
    simp only [b16, pairV]
    rw [e1, e2, show v / 256 * 256 + v % 256 = v by omega]
theorem textR_ok {st : Rd} (h : (textR st).2.bad = false) : st.bad = false ∧ st.l = layT (textR st).1 ++ (textR st).2.l ∧ (textR st).1.size ≤ 255 := by
  unfold textR at h ⊢
  obtain ⟨h1, h2, h3⟩ := takeR_ok h
  obtain ⟨g1, g2, g3, g4⟩ := byteR_ok h1
  have hs : ((takeR (byteR st).2 (byteR st).1.toNat).1.length : Int) = (byteR st).1 := by rw [h3]; omega
  refine ⟨g1, ?_, by simp only [ba_sz]; omega⟩
  rw [g2, h2]
  simp only [layT, ba_sz, ba_of, hs, List.cons_append]
theorem textR_of {s : ByteArray} {r : List UInt8} (h : s.size ≤ 255) : textR ⟨layT s ++ r, false⟩ = (s, ⟨r, false⟩) := by
  unfold textR
  have e1 : byteR ⟨layT s ++ r, false⟩ = ((s.size : Int), ⟨s.toList ++ r, false⟩) := byteR_of (by omega)
  have e2 : takeR ⟨s.toList ++ r, false⟩ (s.size : Int).toNat = (s.toList, ⟨r, false⟩) := takeR_of (by rw [Lib.toList_data]; simp)
  simp only [e1, e2]
  rw [← ba_is s]
theorem attrsR_ok : ∀ {k : Nat} {st : Rd}, (attrsR k st).2.bad = false → st.bad = false ∧ st.l = layA (attrsR k st).1 ++ (attrsR k st).2.l ∧ (attrsR k st).1.length = k ∧ ∀ a ∈ (attrsR k st).1, a.n.size ≤ 255 ∧ a.v.size ≤ 255
  | 0, st, h => by simp only [attrsR] at h ⊢; exact ⟨h, by simp [layA], rfl, by simp⟩
  | k + 1, st, h => by
    rw [attrsR] at h ⊢
    split at h
    · rename_i h1; rw [h1] at h; cases h
    · rename_i h1
      rw [if_neg h1]
      obtain ⟨a1, a2, a3, a4⟩ := attrsR_ok h
      obtain ⟨b1, b2, b3⟩ := textR_ok a1
      obtain ⟨c1, c2, c3⟩ := textR_ok b1
      refine ⟨c1, ?_, by simp only [List.length_cons, a3], fun a ha => ?_⟩
      · rw [c2, b2, a2]; simp [layA]
      · rcases List.mem_cons.1 ha with rfl | ha
        · exact ⟨c3, b3⟩
        · exact a4 a ha
theorem attrsR_of : ∀ {l : List PA} {r : List UInt8}, (∀ a ∈ l, a.n.size ≤ 255 ∧ a.v.size ≤ 255) → attrsR l.length ⟨layA l ++ r, false⟩ = (l, ⟨r, false⟩)
  | [], r, _ => by simp [attrsR, layA]
  | a :: l, r, h => by
    have ha := h a (by simp)
    have e : layA (a :: l) ++ r = layT a.n ++ (layT a.v ++ (layA l ++ r)) := by simp [layA]
    rw [List.length_cons, attrsR, if_neg (by simp), e, textR_of ha.1]
    simp only []
    rw [textR_of ha.2]
    simp only []
    rw [attrsR_of fun b hb => h b (by simp [hb])]
def RdOk (rd : Rd → PN × Rd) (G : PN → Prop) : Prop := ∀ st, (rd st).2.bad = false → st.bad = false ∧ st.l = layP (rd st).1 ++ (rd st).2.l ∧ G (rd st).1
theorem kidsR_ok {rd : Rd → PN × Rd} {G : PN → Prop} (hr : RdOk rd G) : ∀ {k : Nat} {st : Rd}, (kidsR rd k st).2.bad = false → st.bad = false ∧ st.l = layK (kidsR rd k st).1 ++ (kidsR rd k st).2.l ∧ (kidsR rd k st).1.length = k ∧ ∀ a ∈ (kidsR rd k st).1, a.1.size ≤ 255 ∧ G a.2
  | 0, st, h => by simp only [kidsR] at h ⊢; exact ⟨h, by simp [layK], rfl, by simp⟩
  | k + 1, st, h => by
    rw [kidsR] at h ⊢
    split at h
    · rename_i h1; rw [h1] at h; cases h
    · rename_i h1
      rw [if_neg h1]
      obtain ⟨a1, a2, a3, a4⟩ := kidsR_ok hr h
      obtain ⟨b1, b2, b3⟩ := hr _ a1
      obtain ⟨c1, c2, c3⟩ := textR_ok b1
      refine ⟨c1, ?_, by simp only [List.length_cons, a3], fun a ha => ?_⟩
      · rw [c2, b2, a2, layK]; simp
      · rcases List.mem_cons.1 ha with rfl | ha
        · exact ⟨c3, b3⟩
        · exact a4 a ha
theorem kidsR_of {rd : Rd → PN × Rd} {G : PN → Prop} (hr : ∀ n r, G n → rd ⟨layP n ++ r, false⟩ = (n, ⟨r, false⟩)) : ∀ {l : PKs} {r : List UInt8}, (∀ a ∈ l, a.1.size ≤ 255 ∧ G a.2) → kidsR rd l.length ⟨layK l ++ r, false⟩ = (l, ⟨r, false⟩)
  | [], r, _ => by simp [kidsR, layK]
  | (nm, n) :: l, r, h => by
    have ha := h (nm, n) (by simp)
    have e : layK ((nm, n) :: l) ++ r = layT nm ++ (layP n ++ (layK l ++ r)) := by rw [layK]; simp
    rw [List.length_cons, kidsR, if_neg (by simp), e, textR_of ha.1]
    simp only []
    rw [hr _ _ ha.2]
    simp only []
    rw [kidsR_of hr fun b hb => h b (by simp [hb])]
def fitH (h : Hd) : Prop := (h.opq = false → 0 ≤ h.kind ∧ h.kind ≤ 7) ∧ (h.opq = true → 0 ≤ h.kind ∧ h.kind ≤ 247) ∧ (0 ≤ h.mode ∧ h.mode ≤ 65535) ∧ (0 ≤ h.user ∧ h.user ≤ 65535) ∧ (0 ≤ h.group ∧ h.group ≤ 65535) ∧ (h.attrs.length ≤ 255 ∧ ∀ a ∈ h.attrs, a.n.size ≤ 255 ∧ a.v.size ≤ 255) ∧ h.data.size ≤ 255
def FitR : Nat → PN → Prop
  | 0, _ => False
  | f + 1, n => fitH n.h ∧ n.ks.length ≤ 255 ∧ ∀ k ∈ n.ks, k.1.size ≤ 255 ∧ FitR f k.2
theorem nodeG_ok {two : Rd → Int × Rd} (ht : TwoOk two) : ∀ (f : Nat), RdOk (nodeG two f) (FitR f)
  | 0 => fun st h => by simp [nodeG] at h
  | f + 1 => fun st h => by
    simp only [nodeG] at h ⊢
    generalize hk : byteR st = k at *
    generalize hm : two k.2 = m at *
    generalize hu : two m.2 = u at *
    generalize hg : two u.2 = g at *
    generalize han : byteR g.2 = an at *
    generalize has : attrsR an.1.toNat an.2 = as at *
    generalize hd : textR as.2 = d at *
    generalize hkn : byteR d.2 = kn at *
    generalize hks : kidsR (nodeG two f) kn.1.toNat kn.2 = ks at *
    obtain ⟨a1, a2, a3, a4⟩ := kidsR_ok (nodeG_ok ht f) (k := kn.1.toNat) (st := kn.2) (by rw [hks]; exact h)
    obtain ⟨b1, b2, b3, b4⟩ := byteR_ok (st := d.2) (by rw [hkn]; exact a1)
    obtain ⟨c1, c2, c3⟩ := textR_ok (st := as.2) (by rw [hd]; exact b1)
    obtain ⟨d1, d2, d3, d4⟩ := attrsR_ok (k := an.1.toNat) (st := an.2) (by rw [has]; exact c1)
    obtain ⟨e1, e2, e3, e4⟩ := byteR_ok (st := g.2) (by rw [han]; exact d1)
    obtain ⟨f1, f2, f3, f4⟩ := ht.ok u.2 (by rw [hg]; exact e1)
    obtain ⟨g1, g2, g3, g4⟩ := ht.ok m.2 (by rw [hu]; exact f1)
    obtain ⟨h1, h2, h3, h4⟩ := ht.ok k.2 (by rw [hm]; exact g1)
    obtain ⟨i1, i2, i3, i4⟩ := byteR_ok (st := st) (by rw [hk]; exact h1)
    rw [hk] at i2 i3 i4
    rw [hm] at h2 h3 h4
    rw [hu] at g2 g3 g4
    rw [hg] at f2 f3 f4
    rw [han] at e2 e3 e4
    rw [has] at d2 d3 d4
    rw [hd] at c2 c3
    rw [hkn] at b2 b3 b4
    rw [hks] at a2 a3 a4
    have hfl : flagN (hdR k.1 m.1 u.1 g.1 as.1 d.1) = k.1 := by
      unfold flagN hdR
      by_cases h7 : 7 < k.1
      · simp [h7]
      · simp [h7]
    refine ⟨i1, ?_, ?_, ?_, ?_⟩
    · rw [layP_eq, i2, h2, g2, f2, e2, d2, c2, b2, a2]
      unfold layH
      rw [hfl]
      have z1 : ((hdR k.1 m.1 u.1 g.1 as.1 d.1).attrs.length : Int) = an.1 := by show (as.1.length : Int) = an.1; omega
      have z2 : (ks.1.length : Int) = kn.1 := by omega
      rw [z1, z2]
      simp [hdR]
    · refine ⟨fun ho => ?_, fun ho => ?_, ⟨h3, h4⟩, ⟨g3, g4⟩, ⟨f3, f4⟩, ⟨by show as.1.length ≤ 255; omega, d4⟩, c3⟩
      · have h7 : ¬ 7 < k.1 := of_decide_eq_false ho
        show 0 ≤ (if 7 < k.1 then k.1 - 8 else k.1) ∧ (if 7 < k.1 then k.1 - 8 else k.1) ≤ 7
        rw [if_neg h7]; omega
      · have h7 : 7 < k.1 := of_decide_eq_true ho
        show 0 ≤ (if 7 < k.1 then k.1 - 8 else k.1) ∧ (if 7 < k.1 then k.1 - 8 else k.1) ≤ 247
        rw [if_pos h7]; omega
    · show ks.1.length ≤ 255; omega
    · exact a4
theorem nodeG_of {two : Rd → Int × Rd} (ht : TwoOk two) : ∀ (f : Nat) (n : PN) (r : List UInt8), FitR f n → nodeG two f ⟨layP n ++ r, false⟩ = (n, ⟨r, false⟩)
  | 0, n, r, h => h.elim
  | f + 1, .mk h ks, r, hf => by
    obtain ⟨⟨h1, h2, h3, h4, h5, ⟨h6, h7⟩, h8⟩, hk, hks⟩ := hf
    simp only [PN.h_mk, PN.ks_mk] at h1 h2 h3 h4 h5 h6 h7 h8 hk hks
    have hfb : 0 ≤ flagN h ∧ flagN h ≤ 255 ∧ hdR (flagN h) h.mode h.user h.group h.attrs h.data = h := by
      unfold flagN
      cases ho : h.opq with
      | true =>
        have := h2 ho
        rw [if_pos rfl]
        refine ⟨by omega, by omega, ?_⟩
        unfold hdR
        rw [if_pos (by omega), decide_eq_true (by omega), show h.kind + 8 - 8 = h.kind by omega, ← ho]
      | false =>
        have := h1 ho
        rw [if_neg (by decide)]
        refine ⟨by omega, by omega, ?_⟩
        unfold hdR
        rw [if_neg (by omega), decide_eq_false (by omega), ← ho]
    have e : layP (.mk h ks) ++ r = b8 (flagN h) :: (b16 h.mode ++ (b16 h.user ++ (b16 h.group ++ (b8 (h.attrs.length : Int) :: (layA h.attrs ++ (layT h.data ++ (b8 (ks.length : Int) :: (layK ks ++ r)))))))) := by
      rw [layP_eq]; unfold layH; simp
    rw [e]
    simp only [nodeG]
    rw [byteR_of ⟨hfb.1, hfb.2.1⟩]
    simp only []
    rw [ht.of _ _ h3.1 h3.2]
    simp only []
    rw [ht.of _ _ h4.1 h4.2]
    simp only []
    rw [ht.of _ _ h5.1 h5.2]
    simp only []
    rw [byteR_of (v := (h.attrs.length : Int)) (by omega)]
    simp only [Int.toNat_natCast]
    rw [attrsR_of h7]
    simp only []
    rw [textR_of h8]
    simp only []
    rw [byteR_of (v := (ks.length : Int)) (by omega)]
    simp only [Int.toNat_natCast]
    rw [kidsR_of (G := FitR f) (nodeG_of ht f) hks]
    simp only [hfb.2.2]
/-! ### What may be, fits -/
theorem nodeG_eq {t1 t2 : Rd → Int × Rd} (h1 : TwoOk t1) (h2 : TwoOk t2) {f : Nat} {l : List UInt8} (h : (nodeG t1 f ⟨l, false⟩).2.bad = false) : nodeG t2 f ⟨l, false⟩ = nodeG t1 f ⟨l, false⟩ := by
  obtain ⟨_, a2, a3⟩ := nodeG_ok h1 f _ h
  simp only [] at a2
  have := nodeG_of h2 f _ (nodeG t1 f ⟨l, false⟩).2.l a3
  rw [← a2] at this
  rw [this]
  generalize nodeG t1 f ⟨l, false⟩ = q at *
  obtain ⟨n, r, b⟩ := q
  simp only [] at h; subst h; rfl
mutual
theorem countF_deep (upper : Bool) : ∀ (deep so : Nat) (n : PN), (countF upper deep so n).2 = 0 → deep ≤ 6 ∧ (AllN fitP n → FitR (7 - deep) n)
  | deep, so, .mk h ks, h0 => by
    rw [countF] at h0
    by_cases h1 : so = 60 ∨ 6 < deep
    · rw [if_pos h1] at h0; simp at h0
    · rw [if_neg h1] at h0
      by_cases h2 : oneF h (decide (0 < ks.length)) upper (decide (deep = 0)) = 0
      · rw [if_neg (not_not_intro h2)] at h0
        have hk := countK_deep upper deep (so + 1) none ks h0
        refine ⟨by omega, fun hA => ?_⟩
        obtain ⟨f, hf⟩ : ∃ f, 7 - deep = f + 1 := ⟨6 - deep, by omega⟩
        obtain ⟨p1, p2, p3, p4, p5, p6, p7, p8⟩ := hA.here
        simp only [PN.h_mk, PN.ks_mk] at p1 p2 p3 p4 p5 p6 p7 p8
        rw [hf]
        refine ⟨⟨fun _ => by show 0 ≤ h.kind ∧ h.kind ≤ 7; omega, fun _ => by show 0 ≤ h.kind ∧ h.kind ≤ 247; omega, by show 0 ≤ h.mode ∧ h.mode ≤ 65535; omega, p3, p4, ⟨by show h.attrs.length ≤ 255; omega, fun a ha => ?_⟩, by show h.data.size ≤ 255; omega⟩, by show ks.length ≤ 255; omega, fun k hk' => ⟨by have := p8 k hk'; omega, ?_⟩⟩
        · have := p5.2 a ha; omega
        · have := (hk k hk').2 (hA.kid hk')
          rw [show 7 - (deep + 1) = f by omega] at this; exact this
      · rw [if_pos h2] at h0; exact absurd h0 h2
theorem countK_deep (upper : Bool) : ∀ (deep so : Nat) (prev : Option ByteArray) (ks : PKs), (countK upper deep so prev ks).2 = 0 → ∀ k ∈ ks, deep + 1 ≤ 6 ∧ (AllN fitP k.2 → FitR (7 - (deep + 1)) k.2)
  | deep, so, prev, [], h0 => fun k hk => by cases hk
  | deep, so, prev, (nm, n) :: ks, h0 => by
    rw [countK] at h0
    by_cases h1 : nameZ nm.toList = true
    · rw [if_neg (not_not_intro h1)] at h0
      split at h0
      · simp at h0
      · by_cases h3 : (countF upper (deep + 1) so n).2 = 0
        · rw [if_neg (not_not_intro h3)] at h0
          intro k hk
          rcases List.mem_cons.1 hk with rfl | hk
          · exact countF_deep upper (deep + 1) so n h3
          · exact countK_deep upper deep _ _ ks h0 k hk
        · rw [if_pos h3] at h0; exact absurd h0 h3
    · rw [if_pos h1] at h0; simp at h0
end
theorem treeF_reads {upper : Bool} {n : PN} (h : treeF upper n = 0) : FitR 7 n := by
  have h1 := (treeF_fit h).1
  unfold treeF at h
  split at h
  · omega
  · exact (countF_deep upper 0 0 n h).2 h1
theorem oneF_up {h : Hd} {many root : Bool} (h0 : oneF h many false root = 0) : oneF h many true root = 0 := by
  unfold oneF at h0 ⊢
  split at h0
  · omega
  · rename_i c1
    rw [if_neg c1]
    split at h0
    · omega
    · rename_i c2
      rw [if_neg c2]
      split at h0
      · rename_i c3; exact absurd h0 c3
      · rename_i c3
        rw [if_neg c3]
        split at h0
        · omega
        · rename_i c4
          rw [if_neg c4]
          split at h0
          · omega
          · rename_i c5
            rw [if_neg]
            intro c6; apply c5
            rcases c6 with ⟨a, _⟩ | c6 | c6 | ⟨a, _⟩
            · exact .inl ⟨a, .inl rfl⟩
            · exact .inr (.inl c6)
            · exact .inr (.inr (.inl c6))
            · exact .inr (.inr (.inr ⟨a, .inl rfl⟩))
mutual
theorem countF_up : ∀ (deep so : Nat) (n : PN), (countF false deep so n).2 = 0 → countF true deep so n = countF false deep so n
  | deep, so, .mk h ks, h0 => by
    rw [countF] at h0 ⊢
    rw [countF]
    by_cases h1 : so = 60 ∨ 6 < deep
    · rw [if_pos h1] at h0; simp at h0
    · rw [if_neg h1] at h0
      rw [if_neg h1, if_neg h1]
      by_cases h2 : oneF h (decide (0 < ks.length)) false (decide (deep = 0)) = 0
      · rw [if_neg (not_not_intro h2)] at h0
        rw [if_neg (not_not_intro h2), if_neg (not_not_intro (oneF_up h2))]
        exact countK_up deep (so + 1) none ks h0
      · rw [if_pos h2] at h0; exact absurd h0 h2
theorem countK_up : ∀ (deep so : Nat) (prev : Option ByteArray) (ks : PKs), (countK false deep so prev ks).2 = 0 → countK true deep so prev ks = countK false deep so prev ks
  | deep, so, prev, [], h0 => by rw [countK, countK]
  | deep, so, prev, (nm, n) :: ks, h0 => by
    rw [countK] at h0 ⊢
    rw [countK]
    by_cases h1 : nameZ nm.toList = true
    · rw [if_neg (not_not_intro h1)] at h0
      rw [if_neg (not_not_intro h1), if_neg (not_not_intro h1)]
      by_cases h2 : ∃ y, prev = some y ∧ ¬ y.toList < nm.toList
      · rw [if_pos h2] at h0; simp at h0
      · rw [if_neg h2] at h0
        rw [if_neg h2, if_neg h2]
        by_cases h3 : (countF false (deep + 1) so n).2 = 0
        · rw [if_neg (not_not_intro h3)] at h0
          have e := countF_up (deep + 1) so n h3
          rw [e, if_neg (not_not_intro h3), if_neg (not_not_intro h3)]
          exact countK_up deep _ _ ks h0
        · rw [if_pos h3] at h0; exact absurd h0 h3
    · rw [if_pos h1] at h0; simp at h0
end
theorem treeF_up {upper : Bool} {n : PN} (h : treeF upper n = 0) : treeF true n = 0 := by
  cases upper with
  | true => exact h
  | false =>
    unfold treeF at h ⊢
    split at h
    · omega
    · rename_i c
      rw [if_neg c, countF_up 0 0 n h]; exact h
end Go.Proofs.Ytejkmomfpidnbab
