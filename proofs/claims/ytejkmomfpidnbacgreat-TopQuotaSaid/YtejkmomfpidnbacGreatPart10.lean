/- Walks and plain laws, part 10: what functions compute, proved once each (ReadP, ReadE, ReadE2, ReadE3, ReadQ, BxX, BxZ, IsE, TopQuota, Open, Fn, Open2, OpenT, Open3, OpenN, OpenB). -/
import Derived.Test.YtejkmomfpidnbacGreatPart4
import Derived.Test.YtejkmomfpidnbacGreatPart6
import Derived.Test.YtejkmomfpidnbacGreatPart3
import Derived.Test.YtejkmomfpidnbacGreatPart9
import Derived.Test.YtejkmomfpidnbacGreatPart2
import Derived.Test.YtejkmomfpidnbacGreatPart7
import Derived.Test.YtejkmomfpidnbacGreatPart1
import Derived.ProofKit
import Derived.OpenShut
import Derived.ShutString
import Derived.ChangeOld
import Derived.Deep.Slices
import Derived.Test.YtejkmomfpidnbacGreatChecked
import Derived.Test.YtejkmomfpidnbacGreatPart5
set_option linter.unusedSimpArgs false
set_option linter.unusedVariables false
namespace Go.Proofs.YtejkmomfpidnbacGreat
open Go.RowKit
section
/-- What is left to be read; bad: there was too little. -/
structure Rd where
  l : List UInt8
  bad : Bool
def takeR (st : Rd) (n : Nat) : List UInt8 × Rd := if st.bad = true ∨ st.l.length < n then ([], ⟨st.l, true⟩) else (st.l.take n, ⟨st.l.drop n, false⟩)
def oneV : List UInt8 → Int
  | [] => 0
  | b :: _ => (b.toNat : Int)
def byteR (st : Rd) : Int × Rd := (oneV (takeR st 1).1, (takeR st 1).2)
def twoR (st : Rd) : Int × Rd := ((byteR st).1 * 256 + (byteR (byteR st).2).1, (byteR (byteR st).2).2)
def textR (st : Rd) : ByteArray × Rd := (⟨(takeR (byteR st).2 (byteR st).1.toNat).1.toArray⟩, (takeR (byteR st).2 (byteR st).1.toNat).2)
def attrsR : Nat → Rd → List PA × Rd
  | 0, st => ([], st)
  | k + 1, st => if st.bad = true then ([], st) else (⟨(textR st).1, (textR (textR st).2).1⟩ :: (attrsR k (textR (textR st).2).2).1, (attrsR k (textR (textR st).2).2).2)
def kidsR (rd : Rd → PN × Rd) : Nat → Rd → PKs × Rd
  | 0, st => ([], st)
  | k + 1, st => if st.bad = true then ([], st) else (((textR st).1, (rd (textR st).2).1) :: (kidsR rd k (rd (textR st).2).2).1, (kidsR rd k (rd (textR st).2).2).2)
def hdR (k m u g : Int) (as9 : List PA) (d : ByteArray) : Hd := ⟨if 7 < k then k - 8 else k, m, u, g, decide (7 < k), as9, d⟩
/-- A node that is read, where two bytes are read as 'two' does; the first number: how deep one may go yet. -/
def nodeG (two : Rd → Int × Rd) : Nat → Rd → PN × Rd
  | 0, st => (pnZ, ⟨st.l, true⟩)
  | f + 1, st =>
    let k := byteR st
    let m := two k.2
    let u := two m.2
    let g := two u.2
    let an := byteR g.2
    let as9 := attrsR an.1.toNat an.2
    let d := textR as9.2
    let kn := byteR d.2
    let ks := kidsR (nodeG two f) kn.1.toNat kn.2
    (.mk (hdR k.1 m.1 u.1 g.1 as9.1 d.1) ks.1, ks.2)
/-! ### What is read was laid so -/
theorem takeR_ok {st : Rd} {n : Nat} (h : (takeR st n).2.bad = false) : st.bad = false ∧ st.l = (takeR st n).1 ++ (takeR st n).2.l ∧ (takeR st n).1.length = n := by
  unfold takeR at h ⊢
  split at h
  · simp at h
  · rename_i h1
    rw [if_neg h1]
    have h2 : ¬ st.bad = true := fun e => h1 (.inl e)
    refine ⟨by simpa using h2, by simp, ?_⟩
    simp only [List.length_take]; omega
theorem takeR_of {a r : List UInt8} {n : Nat} (h : a.length = n) : takeR ⟨a ++ r, false⟩ n = (a, ⟨r, false⟩) := by
  unfold takeR
  rw [if_neg (by simp; omega)]
  subst h; simp
theorem b8_of {v : Int} (h : 0 ≤ v ∧ v ≤ 255) : ((b8 v).toNat : Int) = v := by rw [b8_nat]; omega
theorem b8_back (b : UInt8) : b8 (b.toNat : Int) = b := by
  apply UInt8.toNat_inj.1
  have h1 := b8_nat (b.toNat : Int)
  have h2 := b.toNat_lt
  omega
theorem byteR_ok {st : Rd} (h : (byteR st).2.bad = false) : st.bad = false ∧ st.l = b8 (byteR st).1 :: (byteR st).2.l ∧ 0 ≤ (byteR st).1 ∧ (byteR st).1 ≤ 255 := by
  unfold byteR at h ⊢
  obtain ⟨h1, h2, h3⟩ := takeR_ok h
  refine ⟨h1, ?_⟩
  cases ht : (takeR st 1).1 with
  | nil => rw [ht] at h3; simp at h3
  | cons b l =>
    rw [ht] at h2 h3
    obtain rfl : l = [] := by cases l with
      | nil => rfl
      | cons _ _ => simp at h3
    have := b.toNat_lt
    simp only [oneV]
    refine ⟨by rw [b8_back]; exact h2, by omega, by omega⟩
theorem byteR_of {v : Int} {r : List UInt8} (h : 0 ≤ v ∧ v ≤ 255) : byteR ⟨b8 v :: r, false⟩ = (v, ⟨r, false⟩) := by
  unfold byteR
  have e := takeR_of (a := [b8 v]) (r := r) (n := 1) rfl
  rw [show ([b8 v] ++ r : List UInt8) = b8 v :: r from rfl] at e
  rw [e]
  simp only [oneV, b8_of h]
structure TwoOk (two : Rd → Int × Rd) : Prop where
  ok : ∀ st, (two st).2.bad = false → st.bad = false ∧ st.l = b16 (two st).1 ++ (two st).2.l ∧ 0 ≤ (two st).1 ∧ (two st).1 ≤ 65535
  of : ∀ v r, 0 ≤ v → v ≤ 65535 → two ⟨b16 v ++ r, false⟩ = (v, ⟨r, false⟩)
theorem b8_eq {x y : Int} (h : x % 256 = y % 256) : b8 x = b8 y := by unfold b8; rw [h]
theorem twoR_is : TwoOk twoR where
  ok := fun st h => by
    unfold twoR at h ⊢
    obtain ⟨h1, h2, h3, h4⟩ := byteR_ok h
    obtain ⟨g1, g2, g3, g4⟩ := byteR_ok h1
    refine ⟨g1, ?_, by simp only []; omega, by simp only []; omega⟩
    rw [g2, h2]
    simp only [b16, List.cons_append, List.nil_append]
    rw [b8_eq (x := ((byteR st).1 * 256 + (byteR (byteR st).2).1) / 256) (y := (byteR st).1) (by omega), b8_eq (x := (byteR st).1 * 256 + (byteR (byteR st).2).1) (y := (byteR (byteR st).2).1) (by omega)]
  of := fun v r h1 h2 => by
    unfold twoR
    have e1 : byteR ⟨b16 v ++ r, false⟩ = (v / 256, ⟨b8 v :: r, false⟩) := byteR_of (v := v / 256) (by omega)
    have e2 : byteR ⟨b8 v :: r, false⟩ = (v % 256, ⟨r, false⟩) := by
      rw [b8_eq (x := v) (y := v % 256) (by omega)]; exact byteR_of (by omega)
    simp only [e1, e2]
    rw [show v / 256 * 256 + v % 256 = v by omega]
theorem textR_of {s : ByteArray} {r : List UInt8} (h : s.size ≤ 255) : textR ⟨layT s ++ r, false⟩ = (s, ⟨r, false⟩) := by
  unfold textR
  have e1 : byteR ⟨layT s ++ r, false⟩ = ((s.size : Int), ⟨s.toList ++ r, false⟩) := byteR_of (by omega)
  have e2 : takeR ⟨s.toList ++ r, false⟩ (s.size : Int).toNat = (s.toList, ⟨r, false⟩) := takeR_of (by rw [Lib.toList_data]; simp)
  simp only [e1, e2]
  rw [← ba_is s]
theorem attrsR_of : ∀ {l : List PA} {r : List UInt8}, (∀ a ∈ l, a.n.size ≤ 255 ∧ a.v.size ≤ 255) → attrsR l.length ⟨layA l ++ r, false⟩ = (l, ⟨r, false⟩)
  | [], r, _ => by simp [attrsR, layA]
  | a :: l, r, h => by
    have ha := h a (by simp)
    have e : layA (a :: l) ++ r = layT a.n ++ (layT a.v ++ (layA l ++ r)) := by simp [layA]
    rw [List.length_cons, attrsR, if_neg (by simp), e, textR_of ha.1]
    simp only []
    rw [textR_of ha.2]
    simp only []
    rw [attrsR_of fun b hb => h b (by simp [hb])]
theorem kidsR_of {rd : Rd → PN × Rd} {G : PN → Prop} (hr : ∀ n r, G n → rd ⟨layP n ++ r, false⟩ = (n, ⟨r, false⟩)) : ∀ {l : PKs} {r : List UInt8}, (∀ a ∈ l, a.1.size ≤ 255 ∧ G a.2) → kidsR rd l.length ⟨layK l ++ r, false⟩ = (l, ⟨r, false⟩)
  | [], r, _ => by simp [kidsR, layK]
  | (nm, n) :: l, r, h => by
    have ha := h (nm, n) (by simp)
    have e : layK ((nm, n) :: l) ++ r = layT nm ++ (layP n ++ (layK l ++ r)) := by rw [layK]; simp
    rw [List.length_cons, kidsR, if_neg (by simp), e, textR_of ha.1]
    simp only []
    rw [hr _ _ ha.2]
    simp only []
    rw [kidsR_of hr fun b hb => h b (by simp [hb])]
def fitH (h : Hd) : Prop := (h.opq = false → 0 ≤ h.kind ∧ h.kind ≤ 7) ∧ (h.opq = true → 0 ≤ h.kind ∧ h.kind ≤ 247) ∧ (0 ≤ h.mode ∧ h.mode ≤ 65535) ∧ (0 ≤ h.user ∧ h.user ≤ 65535) ∧ (0 ≤ h.group ∧ h.group ≤ 65535) ∧ (h.attrs.length ≤ 255 ∧ ∀ a ∈ h.attrs, a.n.size ≤ 255 ∧ a.v.size ≤ 255) ∧ h.data.size ≤ 255
def FitR : Nat → PN → Prop
  | 0, _ => False
  | f + 1, n => fitH n.h ∧ n.ks.length ≤ 255 ∧ ∀ k ∈ n.ks, k.1.size ≤ 255 ∧ FitR f k.2
theorem nodeG_of {two : Rd → Int × Rd} (ht : TwoOk two) : ∀ (f : Nat) (n : PN) (r : List UInt8), FitR f n → nodeG two f ⟨layP n ++ r, false⟩ = (n, ⟨r, false⟩)
  | 0, n, r, h => h.elim
  | f + 1, .mk h ks, r, hf => by
    obtain ⟨⟨h1, h2, h3, h4, h5, ⟨h6, h7⟩, h8⟩, hk, hks⟩ := hf
    simp only [PN.h_mk, PN.ks_mk] at h1 h2 h3 h4 h5 h6 h7 h8 hk hks
    have hfb : 0 ≤ flagN h ∧ flagN h ≤ 255 ∧ hdR (flagN h) h.mode h.user h.group h.attrs h.data = h := by
      unfold flagN
      cases ho : h.opq with
      | true =>
        have := h2 ho
        rw [if_pos rfl]
        refine ⟨by omega, by omega, ?_⟩
        unfold hdR
        rw [if_pos (by omega), decide_eq_true (by omega), show h.kind + 8 - 8 = h.kind by omega, ← ho]
      | false =>
        have := h1 ho
        rw [if_neg (by decide)]
        refine ⟨by omega, by omega, ?_⟩
        unfold hdR
        rw [if_neg (by omega), decide_eq_false (by omega), ← ho]
    have e : layP (.mk h ks) ++ r = b8 (flagN h) :: (b16 h.mode ++ (b16 h.user ++ (b16 h.group ++ (b8 (h.attrs.length : Int) :: (layA h.attrs ++ (layT h.data ++ (b8 (ks.length : Int) :: (layK ks ++ r)))))))) := by
      rw [layP_eq]; unfold layH; simp
    rw [e]
    simp only [nodeG]
    rw [byteR_of ⟨hfb.1, hfb.2.1⟩]
    simp only []
    rw [ht.of _ _ h3.1 h3.2]
    simp only []
    rw [ht.of _ _ h4.1 h4.2]
    simp only []
    rw [ht.of _ _ h5.1 h5.2]
    simp only []
    rw [byteR_of (v := (h.attrs.length : Int)) (by omega)]
    simp only [Int.toNat_natCast]
    rw [attrsR_of h7]
    simp only []
    rw [textR_of h8]
    simp only []
    rw [byteR_of (v := (ks.length : Int)) (by omega)]
    simp only [Int.toNat_natCast]
    rw [kidsR_of (G := FitR f) (nodeG_of ht f) hks]
    simp only [hfb.2.2]
/-! ### What may be, fits -/
mutual
theorem countF_deep (upper : Bool) : ∀ (deep so : Nat) (n : PN), (countF upper deep so n).2 = 0 → deep ≤ 6 ∧ (AllN fitP n → FitR (7 - deep) n)
  | deep, so, .mk h ks, h0 => by
    rw [countF] at h0
    by_cases h1 : so = 60 ∨ 6 < deep
    · rw [if_pos h1] at h0; simp at h0
    · rw [if_neg h1] at h0
      by_cases h2 : oneF h (decide (0 < ks.length)) upper (decide (deep = 0)) = 0
      · rw [if_neg (not_not_intro h2)] at h0
        have hk := countK_deep upper deep (so + 1) none ks h0
        refine ⟨by omega, fun hA => ?_⟩
        obtain ⟨f, hf⟩ : ∃ f, 7 - deep = f + 1 := ⟨6 - deep, by omega⟩
        obtain ⟨p1, p2, p3, p4, p5, p6, p7, p8⟩ := hA.here
        simp only [PN.h_mk, PN.ks_mk] at p1 p2 p3 p4 p5 p6 p7 p8
        rw [hf]
        refine ⟨⟨fun _ => by show 0 ≤ h.kind ∧ h.kind ≤ 7; omega, fun _ => by show 0 ≤ h.kind ∧ h.kind ≤ 247; omega, by show 0 ≤ h.mode ∧ h.mode ≤ 65535; omega, p3, p4, ⟨by show h.attrs.length ≤ 255; omega, fun a ha => ?_⟩, by show h.data.size ≤ 255; omega⟩, by show ks.length ≤ 255; omega, fun k hk' => ⟨by have := p8 k hk'; omega, ?_⟩⟩
        · have := p5.2 a ha; omega
        · have := (hk k hk').2 (hA.kid hk')
          rw [show 7 - (deep + 1) = f by omega] at this; exact this
      · rw [if_pos h2] at h0; exact absurd h0 h2
theorem countK_deep (upper : Bool) : ∀ (deep so : Nat) (prev : Option ByteArray) (ks : PKs), (countK upper deep so prev ks).2 = 0 → ∀ k ∈ ks, deep + 1 ≤ 6 ∧ (AllN fitP k.2 → FitR (7 - (deep + 1)) k.2)
  | deep, so, prev, [], h0 => fun k hk => by cases hk
  | deep, so, prev, (nm, n) :: ks, h0 => by
    rw [countK] at h0
    by_cases h1 : nameZ nm.toList = true
    · rw [if_neg (not_not_intro h1)] at h0
      split at h0
      · simp at h0
      · by_cases h3 : (countF upper (deep + 1) so n).2 = 0
        · rw [if_neg (not_not_intro h3)] at h0
          intro k hk
          rcases List.mem_cons.1 hk with rfl | hk
          · exact countF_deep upper (deep + 1) so n h3
          · exact countK_deep upper deep _ _ ks h0 k hk
        · rw [if_pos h3] at h0; exact absurd h0 h3
    · rw [if_pos h1] at h0; simp at h0
end
theorem treeF_reads {upper : Bool} {n : PN} (h : treeF upper n = 0) : FitR 7 n := by
  have h1 := (treeF_fit h).1
  unfold treeF at h
  split at h
  · omega
  · exact (countF_deep upper 0 0 n h).2 h1
end
section
abbrev rdBox (r : Nat) (st : Rd) : Box := ⟨r, 200, [.string ⟨st.l.toArray⟩, .bool st.bad]⟩
theorem ex_take (l : List UInt8) (n : Nat) : (⟨l.toArray⟩ : ByteArray).extract 0 n = ⟨(l.take n).toArray⟩ := by
  rw [ba_is ((⟨l.toArray⟩ : ByteArray).extract 0 n), Lib.toList_data]
  simp [ByteArray.data_extract]
theorem ex_drop (l : List UInt8) (n : Nat) : (⟨l.toArray⟩ : ByteArray).extract n (⟨l.toArray⟩ : ByteArray).size = ⟨(l.drop n).toArray⟩ := by
  rw [ba_is ((⟨l.toArray⟩ : ByteArray).extract n (⟨l.toArray⟩ : ByteArray).size), Lib.toList_data]
  simp [ByteArray.data_extract, ba_sz]
  exact List.take_of_length_le (by rw [List.length_drop]; omega)
theorem q_shl8 {P : Program} {B : Base} {N : Nat} {F : List (Nat × Value)} {V : View} {L : List Box} {d : Option Tmp} {ty : TypeId} {pos : String} {af : Array Edge} {gd : Option (Nat × Bool)} {x y : Operand} {k : IntKind} {t ty2 : TypeId} {a : Int} (hx : evF F x = some (.int .i64 a)) (hy : evF F y = some (.int k 8)) (h : 0 ≤ a ∧ a ≤ 1000000000) : QP P B N V L ⟨d, .binOp .shl t x y ty2, ty, pos, af, gd⟩ F (.int .i64 (a * 256)) := by
  refine q_bin hx hy (fun w => by simp [eqGuard]) (fun w => ?_)
  have e : IntKind.i64.wrap (a * 256) = a * 256 := wrap_i64 (by omega)
  simp [binOp, Op.shift, IntKind.bits, e]
theorem takeR_no {st : Rd} {n : Nat} (h : st.bad = true ∨ st.l.length < n) : takeR st n = ([], ⟨st.l, true⟩) := by unfold takeR; rw [if_pos h]
theorem takeR_yes {st : Rd} {n : Nat} (h : ¬ (st.bad = true ∨ st.l.length < n)) : takeR st n = (st.l.take n, ⟨st.l.drop n, false⟩) := by unfold takeR; rw [if_neg h]
theorem takeR_len (st : Rd) (n : Nat) : (takeR st n).2.l.length ≤ st.l.length ∧ (takeR st n).1.length ≤ n := by
  unfold takeR; split
  · simp
  · simp; omega
attribute [local irreducible] AtQ GoC GoL GoW QO QP Fn RV OwnAt CellsFrom VLe SrcIs errV
set_option maxRecDepth 100000
theorem take_c (V : View) (r : Nat) (st : Rd) (n : Nat) (hl : st.l.length ≤ 1000000) (hn : n ≤ 1000000) :
    FnB Tryz.prog 188 [.pointer (some ⟨r, 0, none⟩), .int .i64 n] V [rdBox r st] fun v _ Bs' => v = .string ⟨(takeR st n).1.toArray⟩ ∧ Bs' = [rdBox r (takeR st n).2] := by
  have hsz := ba_sz st.l
  have ht : (((n : Int).toNat) : Nat) = n := by omega
  (refine fn_enterB Tryz.func188 rfl Tryz.ntmps188 rfl ?_; intro w0)
  repeat' (first | (refine k_gw ?_; (first | refine gwg9 ?_ | (refine k_fieldAddr ?_; (first | refine gwq9 (q_fieldAddr fld_200_0 rfl) ?_ | refine gwq9 (q_fieldAddr fld_200_1 rfl) ?_)) | (refine k_load ?_; (first | refine gwq9 (q_load_o one_9 rfl own9 (by exact rfl)) ?_ | refine gwq9 (q_load_o one_4 rfl own9 (by exact rfl)) ?_)) | (refine k_call ?_; (first | refine gwq9 (q_slen rfl und_9 rfl) ?_)) | (refine k_binOp ?_; refine gwb9 ?_) | (refine k_store ?_; (first | refine gw_store rfl siz_4 rfl rfl rfl rfl one9 put9 rfl ?_ | refine gw_store rfl siz_9 rfl rfl rfl rfl one9 put9 rfl ?_)) | (refine k_slice ?_; (first | refine gwq9 (q_sslice_li und_9 rfl rfl (by omega)) ?_ | refine gwq9 (q_sslice_ni und_9 rfl rfl (by omega)) ?_)))) | (refine k_gl ?_; (first | refine gl_nil rfl ?_ | refine gl_go rfl rfl ?_)) | (refine k_gc ?_; (first | refine gc_seq ?_ | refine gc_region ?_ | refine gc_cond_t rfl ?_ | (refine gc_cond_p rfl ?_ ?_ <;> intro hq <;> try (exfalso; first | exact hq rfl | omega)) | (refine gc_cond_b rfl ?_ ?_ <;> intro hq) | refine gc_ret ?_ | refine gc_skip ?_)) | (refine k_at ?_; (first | refine at_seq ?_ | refine ats9 rfl ?_)))
  · (refine atB_ret1 Tryz.results188 (rv_tmp rfl) (List.Sublist.refl _) ?_)
    rw [takeR_no (.inr (by omega))]; exact ⟨rfl, rfl⟩
  · (refine atB_ret1 Tryz.results188 (rv_tmp rfl) (List.Sublist.refl _) ?_)
    rw [takeR_no (.inl hq)]
    exact ⟨rfl, by unfold rdBox; rw [hq]⟩
  · (refine atB_ret1 Tryz.results188 (rv_tmp rfl) (List.Sublist.refl _) ?_)
    rw [takeR_yes (by rw [hq]; simp; omega), ht, ex_take, ex_drop, hq]
    exact ⟨rfl, rfl⟩
theorem byte_c (V : View) (r : Nat) (st : Rd) (hl : st.l.length ≤ 1000000) :
    FnB Tryz.prog 164 [.pointer (some ⟨r, 0, none⟩)] V [rdBox r st] fun v _ Bs' => v = .int .i64 (byteR st).1 ∧ Bs' = [rdBox r (byteR st).2] := by
  have hT := take_c V r st 1 hl (by omega)
  unfold byteR
  cases ht : (takeR st 1).1 with
  | nil =>
    rw [ht] at hT
    (refine fn_enterB Tryz.func164 rfl Tryz.ntmps164 rfl ?_; intro w0)
    repeat' (first | (refine k_gw ?_; (first | refine gwg9 ?_ | (refine k_call ?_; (first | (refine gw_callB rfl ⟨Tryz.call188⟩ rfl rep9 rfl (hT) ?_; rintro v V2 B2 hV2 ⟨rfl, rfl⟩))) | (refine k_binOp ?_; (first | refine gwq9 (q_seql rfl rfl) ?_)) | (refine k_index ?_; (first | refine gwq9 (q_sindex und_9 rfl rfl (by omega) (by assumption)) ?_)))) | (refine k_gl ?_; (first | refine gl_nil rfl ?_ | refine gl_go rfl rfl ?_ | refine gl_yes rfl rfl rfl rfl rfl ?_ | refine gl_no rfl rfl rfl rfl rfl rfl rfl ?_ | refine gl_nou rfl rfl rfl rfl rfl rfl ?_ | (refine gl_split_p rfl rfl rfl ?_ ?_ <;> intro hq <;> try (exfalso; first | exact hq rfl | omega)) | (refine gl_split_b rfl rfl rfl ?_ ?_ <;> intro hq))) | (refine k_gc ?_; (first | refine gc_seq ?_ | refine gc_region ?_ | refine gc_cond_t rfl ?_ | refine gc_cond_f rfl ?_ | (refine gc_cond_p rfl ?_ ?_ <;> intro hq <;> try (exfalso; first | exact hq rfl | omega)) | (refine gc_cond_b rfl ?_ ?_ <;> intro hq) | refine gc_block ?_ | refine gc_exit ?_ | refine gc_ret ?_ | refine gc_skip ?_)) | (refine k_at ?_; (first | refine at_seq ?_ | refine ats9 rfl ?_)))
    all_goals first
      | ((refine atB_ret1 Tryz.results164 (rv_tmp rfl) (List.Sublist.refl _) ?_); exact ⟨rfl, rfl⟩)
      | (exfalso; exact hq rfl)
  | cons b l =>
    rw [ht] at hT
    have hc : (⟨(b :: l).toArray⟩ : ByteArray)[(0 : Int).toNat]? = some b := by rfl
    have hb := b.toNat_lt
    have hne : ¬ (⟨(b :: l).toArray⟩ : ByteArray) = ⟨#[]⟩ := fun e => by have := congrArg ByteArray.size e; simp [ba_sz] at this
    (refine fn_enterB Tryz.func164 rfl Tryz.ntmps164 rfl ?_; intro w0)
    repeat' (first | (refine k_gw ?_; (first | refine gwg9 ?_ | (refine k_call ?_; (first | (refine gw_callB rfl ⟨Tryz.call188⟩ rfl rep9 rfl (hT) ?_; rintro v V2 B2 hV2 ⟨rfl, rfl⟩))) | (refine k_binOp ?_; (first | refine gwq9 (q_seql rfl rfl) ?_)) | (refine k_index ?_; (first | refine gwq9 (q_sindex und_9 rfl rfl (by omega) (by assumption)) ?_)) | (refine k_convert ?_; (first | refine gwq9 (q_conv und_5 und_3 rfl (wrap_i64 (by omega))) ?_)))) | (refine k_gl ?_; (first | refine gl_nil rfl ?_ | refine gl_go rfl rfl ?_)) | (refine k_gc ?_; (first | refine gc_seq ?_ | refine gc_region ?_ | refine gc_cond_f rfl ?_ | refine gc_ret ?_ | refine gc_skip ?_)) | (refine k_at ?_; (first | refine at_seq ?_ | refine ats9 rfl ?_)))
    all_goals first
      | ((refine atB_ret1 Tryz.results164 (rv_tmp rfl) (List.Sublist.refl _) ?_); exact ⟨rfl, rfl⟩)
      | (exfalso; exact hne hq)
theorem byteR_bd (st : Rd) : 0 ≤ (byteR st).1 ∧ (byteR st).1 ≤ 255 := by
  unfold byteR
  cases (takeR st 1).1 with
  | nil => simp [oneV]
  | cons b l => have hb := b.toNat_lt; simp only [oneV]; omega
theorem byteR_len (st : Rd) : (byteR st).2.l.length ≤ st.l.length := (takeR_len st 1).1
theorem twoR_len (st : Rd) : (twoR st).2.l.length ≤ st.l.length := Nat.le_trans (byteR_len _) (byteR_len st)
theorem textR_len (st : Rd) : (textR st).2.l.length ≤ st.l.length ∧ (textR st).1.size ≤ 255 := by
  have h := takeR_len (byteR st).2 (byteR st).1.toNat
  have hb := byteR_bd st
  exact ⟨Nat.le_trans h.1 (byteR_len st), by have := h.2; show (takeR (byteR st).2 (byteR st).1.toNat).1.length ≤ 255; omega⟩
theorem rtwo_c (V : View) (r : Nat) (st : Rd) (hl : st.l.length ≤ 1000000) :
    FnB Tryz.prog 165 [.pointer (some ⟨r, 0, none⟩)] V [rdBox r st] fun v _ Bs' => v = .int .i64 (twoR st).1 ∧ Bs' = [rdBox r (twoR st).2] := by
  have h1 := byteR_bd st
  have h2 := byteR_bd (byteR st).2
  have h3 := byteR_len st
  (refine fn_enterB Tryz.func165 rfl Tryz.ntmps165 rfl ?_; intro w0)
  repeat' (first | (refine k_gw ?_; (first | refine gwg9 ?_ | (refine k_call ?_; (first | (refine gw_callB rfl ⟨Tryz.call164⟩ rfl rep9 rfl (byte_c _ r st hl) ?_; rintro v V2 B2 hV2 ⟨rfl, rfl⟩) | (refine gw_callB rfl ⟨Tryz.call164⟩ rfl rep9 rfl (byte_c _ r (byteR st).2 (by omega)) ?_; rintro v V3 B3 hV3 ⟨rfl, rfl⟩))) | (refine k_binOp ?_; (first | refine gwq9 (q_shl8 rfl rfl (by omega)) ?_ | refine gwq9 (q_shl rfl rfl (by omega)) ?_ | refine gwb9 ?_)))) | (refine k_gl ?_; (first | refine gl_nil rfl ?_ | refine gl_go rfl rfl ?_)) | (refine k_gc ?_; (first | refine gc_seq ?_ | refine gc_region ?_ | refine gc_ret ?_)) | (refine k_at ?_; (first | refine at_seq ?_ | refine ats9 rfl ?_)))
  all_goals
    (refine atB_ret1 Tryz.results165 (rv_tmp rfl) (List.Sublist.refl _) ?_)
    exact ⟨rfl, rfl⟩
theorem rtext_c (V : View) (r : Nat) (st : Rd) (hl : st.l.length ≤ 1000000) :
    FnB Tryz.prog 166 [.pointer (some ⟨r, 0, none⟩)] V [rdBox r st] fun v _ Bs' => v = .string (textR st).1 ∧ Bs' = [rdBox r (textR st).2] := by
  have h1 := byteR_bd st
  have h3 := byteR_len st
  have hT := fun V => take_c V r (byteR st).2 (byteR st).1.toNat (by omega) (by omega)
  rw [show (((byteR st).1.toNat : Nat) : Int) = (byteR st).1 by omega] at hT
  (refine fn_enterB Tryz.func166 rfl Tryz.ntmps166 rfl ?_; intro w0)
  repeat' (first | (refine k_gw ?_; (first | refine gwg9 ?_ | (refine k_call ?_; (first | (refine gw_callB rfl ⟨Tryz.call164⟩ rfl rep9 rfl (byte_c _ r st hl) ?_; rintro v V2 B2 hV2 ⟨rfl, rfl⟩) | (refine gw_callB rfl ⟨Tryz.call188⟩ rfl rep9 rfl (hT _) ?_; rintro v V3 B3 hV3 ⟨rfl, rfl⟩))))) | (refine k_gl ?_; (first | refine gl_nil rfl ?_ | refine gl_go rfl rfl ?_ | refine gl_yes rfl rfl rfl rfl rfl ?_ | refine gl_no rfl rfl rfl rfl rfl rfl rfl ?_ | refine gl_nou rfl rfl rfl rfl rfl rfl ?_ | (refine gl_split_p rfl rfl rfl ?_ ?_ <;> intro hq <;> try (exfalso; first | exact hq rfl | omega)) | (refine gl_split_b rfl rfl rfl ?_ ?_ <;> intro hq))) | (refine k_gc ?_; (first | refine gc_seq ?_ | refine gc_region ?_ | refine gc_cond_t rfl ?_ | refine gc_cond_f rfl ?_ | (refine gc_cond_p rfl ?_ ?_ <;> intro hq <;> try (exfalso; first | exact hq rfl | omega)) | (refine gc_cond_b rfl ?_ ?_ <;> intro hq) | refine gc_block ?_ | refine gc_exit ?_ | refine gc_ret ?_ | refine gc_skip ?_)) | (refine k_at ?_; (first | refine at_seq ?_ | refine ats9 rfl ?_)))
  all_goals
    (refine atB_ret1 Tryz.results166 (rv_tmp rfl) (List.Sublist.refl _) ?_)
    exact ⟨rfl, rfl⟩
end
section
theorem ones_k1 (e : LK) : ∀ u ∈ lkC e, isOne u = true := fun u hu => ones_lk [e] u (by simpa using hu)
theorem attrsR_step {j : Nat} {s : Rd} (h : s.bad = false) : attrsR (j + 1) s = (⟨(textR s).1, (textR (textR s).2).1⟩ :: (attrsR j (textR (textR s).2).2).1, (attrsR j (textR (textR s).2).2).2) := by rw [attrsR, if_neg (by rw [h]; decide)]
theorem attrsR_end {j : Nat} {s : Rd} (h : ¬ (0 < j ∧ s.bad = false)) : attrsR j s = ([], s) := by
  cases j with
  | zero => rfl
  | succ j =>
    rw [attrsR, if_pos]
    cases hb : s.bad with
    | true => rfl
    | false => exact absurd ⟨by omega, hb⟩ h
theorem kidsR_step {rd : Rd → PN × Rd} {j : Nat} {s : Rd} (h : s.bad = false) : kidsR rd (j + 1) s = (((textR s).1, (rd (textR s).2).1) :: (kidsR rd j (rd (textR s).2).2).1, (kidsR rd j (rd (textR s).2).2).2) := by rw [kidsR, if_neg (by rw [h]; decide)]
theorem kidsR_end {rd : Rd → PN × Rd} {j : Nat} {s : Rd} (h : ¬ (0 < j ∧ s.bad = false)) : kidsR rd j s = ([], s) := by
  cases j with
  | zero => rfl
  | succ j =>
    rw [kidsR, if_pos]
    cases hb : s.bad with
    | true => rfl
    | false => exact absurd ⟨by omega, hb⟩ h
theorem attrsR_len : ∀ (j : Nat) (s : Rd), (attrsR j s).2.l.length ≤ s.l.length
  | 0, s => Nat.le_refl _
  | j + 1, s => by
    rw [attrsR]; split
    · exact Nat.le_refl _
    · exact Nat.le_trans (attrsR_len j _) (Nat.le_trans (textR_len _).1 (textR_len s).1)
theorem kidsR_len {rd : Rd → PN × Rd} (hr : ∀ s, (rd s).2.l.length ≤ s.l.length) : ∀ (j : Nat) (s : Rd), (kidsR rd j s).2.l.length ≤ s.l.length
  | 0, s => Nat.le_refl _
  | j + 1, s => by
    rw [kidsR]; split
    · exact Nat.le_refl _
    · exact Nat.le_trans (kidsR_len hr j _) (Nat.le_trans (hr _) (textR_len s).1)
theorem nodeG_len {two : Rd → Int × Rd} (ht : ∀ s, (two s).2.l.length ≤ s.l.length) : ∀ (f : Nat) (s : Rd), (nodeG two f s).2.l.length ≤ s.l.length
  | 0, s => Nat.le_refl _
  | f + 1, s => by
    simp only [nodeG]
    refine Nat.le_trans (kidsR_len (nodeG_len ht f) _ _) (Nat.le_trans (byteR_len _) (Nat.le_trans (textR_len _).1 (Nat.le_trans (attrsR_len _ _) (Nat.le_trans (byteR_len _) (Nat.le_trans (ht _) (Nat.le_trans (ht _) (Nat.le_trans (ht _) (byteR_len _))))))))
section
variable {P : Program} {B : Base} {N : Nat} {Q : Exit → Act → World → Prop} {k : List Cont} {F : List (Nat × Value)} {V : View} {L L' : List Box} {c : Code}
/-- What lies behind a part of the code is walked once, whatever way one came. -/
theorem gc_join (J : List (Nat × Value) → View → List Box → Prop) (h1 : GoC P B N c Q (.thn (fun a w => ∃ F V L, J F V L ∧ Kn N F a ∧ St B V L w) :: k) F V L) (h2 : ∀ F V L, J F V L → AtQ P B N Q k .normal F V L) : GoC P B N c Q k F V L :=
  fun a w ha hs => Code.wp_mono (fun e a w q => by
    cases e with
    | normal => obtain ⟨F, V, L, hJ, ha, hs⟩ := q; exact h2 F V L hJ a w ha hs
    | exit i => exact q
    | goto l => exact q
    | ret => exact q
    | panic ch => exact q
    | outgrown => exact q) (h1 a w ha hs)
theorem sub_of_eq (h : L = L') : L'.Sublist L := h ▸ List.Sublist.refl _
end
attribute [local irreducible] AtQ GoC GoL GoW QO QP Fn RV OwnAt CellsFrom VLe SrcIs errV
set_option maxRecDepth 100000
set_option maxRecDepth 100000 in
set_option maxHeartbeats 4000000 in
theorem rnode_c (r : Nat) : ∀ (f deep : Nat) (V : View) (st : Rd), deep + f = 7 → st.l.length ≤ 1000000 →
    FnB Tryz.prog 123 [.pointer (some ⟨r, 0, none⟩), .int .i64 deep] V [rdBox r st] fun v V' Bs' => ∃ y : LN, v = lnV y ∧ NodeV V' y ∧ y.n = (nodeG twoR f st).1 ∧ Bs' = [rdBox r (nodeG twoR f st).2] := by
  intro f
  induction f with
  | zero =>
    intro deep V st hdf hl
    (refine fn_enterB Tryz.func123 rfl Tryz.ntmps123 rfl ?_; intro w0)
    repeat' (first | (refine k_gw ?_; (first | (refine k_alloc ?_; (first | (refine gw_alloc rfl zer_50 rfl ?_; intro γ))) | refine gwg9 ?_ | (refine k_binOp ?_; refine gwb9 ?_) | (refine k_fieldAddr ?_; (first | refine gwq9 (q_fieldAddr fld_200_1 rfl) ?_)) | (refine k_store ?_; (first | refine gw_store rfl siz_4 rfl rfl rfl rfl one9 put9 rfl ?_ | refine gw_store rfl siz_50 rfl rfl rfl rfl one9 put9 rfl ?_)) | (refine k_build ?_; (first | refine gwq9 (q_build bld_50 rfl rfl) ?_ | refine gwq9 (q_build bld_222 rfl rfl) ?_ | refine gwq9 (q_build bld_104 rfl rfl) ?_)))) | (refine k_gl ?_; (first | refine gl_nil rfl ?_ | refine gl_go rfl rfl ?_)) | (refine k_gc ?_; (first | refine gc_seq ?_ | refine gc_region ?_ | (refine gc_cond_p rfl ?_ ?_ <;> intro hq <;> try (exfalso; first | exact hq rfl | omega)) | refine gc_ret ?_)) | (refine k_at ?_; (first | refine at_seq ?_ | refine ats9 rfl ?_)))
    all_goals
      (refine atB_ret1 Tryz.results123 (rv_cellA agg_50 rfl own9 (by exact rfl)) (List.Sublist.cons _ (List.Sublist.refl _)) ?_)
      exact ⟨lnZ, rfl, NodeV.zero, rfl, rfl⟩
  | succ f ih =>
    intro deep V st hdf hl
    simp only [nodeG]
    have l1 := byteR_len st
    have d1 := byteR_bd st
    have c1 := fun V => byte_c V r st hl
    generalize byteR st = k at *
    have l2 := twoR_len k.2
    have c2 := fun V => rtwo_c V r k.2 (by omega)
    generalize twoR k.2 = m at *
    have l3 := twoR_len m.2
    have c3 := fun V => rtwo_c V r m.2 (by omega)
    generalize twoR m.2 = u at *
    have l4 := twoR_len u.2
    have c4 := fun V => rtwo_c V r u.2 (by omega)
    generalize twoR u.2 = g at *
    have l5 := byteR_len g.2
    have d5 := byteR_bd g.2
    have c5 := fun V => byte_c V r g.2 (by omega)
    generalize byteR g.2 = an at *
    (refine fn_enterB Tryz.func123 rfl Tryz.ntmps123 rfl ?_; intro w0)
    repeat' (first | (refine k_gw ?_; (first | (refine k_alloc ?_; (first | (refine gw_alloc rfl zer_50 rfl ?_; intro γ))) | refine gwg9 ?_ | (refine k_binOp ?_; refine gwb9 ?_))) | (refine k_gl ?_; (first | refine gl_nil rfl ?_ | refine gl_go rfl rfl ?_)) | (refine k_gc ?_; (first | refine gc_seq ?_ | refine gc_region ?_ | refine gc_block ?_ | refine gc_exit ?_ | refine gc_ret ?_ | refine gc_skip ?_)) | (refine k_at ?_; (first | refine at_seq ?_ | refine ats9 rfl ?_)))
    refine gc_cond_p rfl ?_ ?_ <;> intro hd6
    · exfalso; omega
    repeat' (first | (refine k_gw ?_; (first | (refine k_alloc ?_; (first | (refine gw_alloc rfl zer_50 rfl ?_; intro γ))) | refine gwg9 ?_ | (refine k_binOp ?_; refine gwb9 ?_) | (refine k_fieldAddr ?_; (first | refine gwq9 (q_fieldAddr fld_50_0 rfl) ?_)) | (refine k_store ?_; (first | refine gw_store rfl siz_3 rfl rfl rfl rfl one9 put9 rfl ?_)) | (refine k_call ?_; (first | (refine gw_callB rfl ⟨Tryz.call164⟩ rfl rep9 rfl (c1 _) ?_; rintro v V1 B1 hV1 ⟨rfl, rfl⟩))) | (refine k_load ?_; (first | refine gwq9 (q_load_o one_3 rfl own9 (by exact rfl)) ?_)))) | (refine k_gl ?_; (first | refine gl_nil rfl ?_ | refine gl_go rfl rfl ?_)) | (refine k_gc ?_; (first | refine gc_seq ?_ | refine gc_region ?_ | refine gc_block ?_ | refine gc_exit ?_ | refine gc_ret ?_ | refine gc_skip ?_)) | (refine k_at ?_; (first | refine at_seq ?_ | refine ats9 rfl ?_)))
    rename_i γ4
    refine gc_join (fun F V' L' => V1 = V' ∧ [⟨γ, 50, [.int .i64 (if 7 < k.1 then k.1 - 8 else k.1), .int .i64 0, .int .i64 0, .int .i64 0, .bool (decide (7 < k.1)), .slice none 0 0, .string ⟨#[]⟩, .slice none 0 0]⟩, ⟨γ4, 50, [.int .i64 0, .int .i64 0, .int .i64 0, .int .i64 0, .bool false, .slice none 0 0, .string ⟨#[]⟩, .slice none 0 0]⟩, rdBox r k.2] = L' ∧ F = [(0, .pointer (some ⟨r, 0, none⟩)), (1, .int .i64 deep), (4, .pointer (some ⟨γ4, 0, none⟩)), (5, .pointer (some ⟨γ, 0, none⟩))]) ?_ ?_
    · repeat' (first | (refine k_gw ?_; (first | (refine k_binOp ?_; refine gwb9 ?_) | (refine k_fieldAddr ?_; (first | refine gwq9 (q_fieldAddr fld_50_0 rfl) ?_ | refine gwq9 (q_fieldAddr fld_50_4 rfl) ?_)) | (refine k_store ?_; (first | refine gw_store rfl siz_4 rfl rfl rfl rfl one9 put9 rfl ?_ | refine gw_store rfl siz_3 rfl rfl rfl rfl one9 put9 rfl ?_)) | (refine k_load ?_; (first | refine gwq9 (q_load_o one_3 rfl own9 (by exact rfl)) ?_)))) | (refine k_gl ?_; (first | refine gl_nil rfl ?_ | refine gl_go rfl rfl ?_)) | (refine k_gc ?_; (first | refine gc_seq ?_ | refine gc_region ?_ | (refine gc_cond_p rfl ?_ ?_ <;> intro hq <;> try (exfalso; first | exact hq rfl | omega)) | refine gc_skip ?_)) | (refine k_at ?_; (first | refine at_seq ?_ | refine ats9 rfl ?_)))
      all_goals exact at_meet _ ⟨rfl, rfl, rfl⟩ sub9 (sub_of_eq (by first | (rw [if_pos hq, decide_eq_true hq]; rfl) | (rw [if_neg hq, decide_eq_false hq]; rfl)))
    · rintro F V' L' ⟨rfl, rfl, rfl⟩
      repeat' (first | (refine k_gw ?_; (first | refine gwg9 ?_ | (refine k_fieldAddr ?_; (first | refine gwq9 (q_fieldAddr fld_50_1 rfl) ?_ | refine gwq9 (q_fieldAddr fld_50_2 rfl) ?_ | refine gwq9 (q_fieldAddr fld_50_3 rfl) ?_)) | (refine k_store ?_; (first | refine gw_store rfl siz_3 rfl rfl rfl rfl one9 put9 rfl ?_)) | (refine k_call ?_; (first | (refine gw_callB rfl ⟨Tryz.call165⟩ rfl rep9 rfl (c2 _) ?_; rintro v V2 B2 hV2 ⟨rfl, rfl⟩) | (refine gw_callB rfl ⟨Tryz.call165⟩ rfl rep9 rfl (c3 _) ?_; rintro v V3 B3 hV3 ⟨rfl, rfl⟩) | (refine gw_callB rfl ⟨Tryz.call165⟩ rfl rep9 rfl (c4 _) ?_; rintro v V4 B4 hV4 ⟨rfl, rfl⟩) | (refine gw_callB rfl ⟨Tryz.call164⟩ rfl rep9 rfl (c5 _) ?_; rintro v V5 B5 hV5 ⟨rfl, rfl⟩))))) | (refine k_gl ?_; (first | refine gl_nil rfl ?_ | refine gl_go rfl rfl ?_)) | (refine k_gc ?_; (first | refine gc_seq ?_ | refine gc_region ?_)) | (refine k_at ?_; (first | refine at_seq ?_ | refine ats9 rfl ?_)))
      have l6 := attrsR_len an.1.toNat an.2
      refine gc_join (fun F V' L' => ∃ (A : Option Addr) (na ca : Nat), AttrV V' A na (attrsR an.1.toNat an.2).1 ∧ na ≤ ca ∧ VLe V V' ∧ [⟨γ, 50, [.int .i64 (if 7 < k.1 then k.1 - 8 else k.1), .int .i64 m.1, .int .i64 u.1, .int .i64 g.1, .bool (decide (7 < k.1)), .slice A na ca, .string ⟨#[]⟩, .slice none 0 0]⟩, ⟨γ4, 50, [.int .i64 0, .int .i64 0, .int .i64 0, .int .i64 0, .bool false, .slice none 0 0, .string ⟨#[]⟩, .slice none 0 0]⟩, rdBox r (attrsR an.1.toNat an.2).2] = L' ∧ F = [(0, .pointer (some ⟨r, 0, none⟩)), (1, .int .i64 deep), (4, .pointer (some ⟨γ4, 0, none⟩)), (5, .pointer (some ⟨γ, 0, none⟩))]) ?_ ?_
      · refine gc_block ?_
        refine gc_loop (fun F V' L' m' => ∃ (j : Nat) (s : Rd) (acc : List PA) (A : Option Addr) (na ca : Nat) (LA : List Box) (S : Int), VLe V V' ∧ (⟨γ, 50, [.int .i64 (if 7 < k.1 then k.1 - 8 else k.1), .int .i64 m.1, .int .i64 u.1, .int .i64 g.1, .bool (decide (7 < k.1)), .slice A na ca, .string ⟨#[]⟩, .slice none 0 0]⟩ :: ⟨γ4, 50, [.int .i64 0, .int .i64 0, .int .i64 0, .int .i64 0, .bool false, .slice none 0 0, .string ⟨#[]⟩, .slice none 0 0]⟩ :: rdBox r s :: LA : List Box) = L' ∧ RowL A na ca 222 2 (acc.flatMap paC) LA ∧ acc.length = na ∧ (attrsR an.1.toNat an.2).1 = acc ++ (attrsR j s).1 ∧ (attrsR an.1.toNat an.2).2 = (attrsR j s).2 ∧ s.l.length ≤ 1000000 ∧ (∀ a ∈ acc, a.n.size ≤ 255 ∧ a.v.size ≤ 255) ∧ na + j ≤ 255 ∧ S = j ∧ j = m' ∧ F = [(0, .pointer (some ⟨r, 0, none⟩)), (1, .int .i64 deep), (4, .pointer (some ⟨γ4, 0, none⟩)), (5, .pointer (some ⟨γ, 0, none⟩)), (6, .int .i64 S)]) (m := an.1.toNat) ⟨an.1.toNat, an.2, [], none, 0, 0, [], an.1, vl9, rfl, RowL.nil, rfl, rfl, rfl, by omega, by simp, by omega, by omega, rfl, rfl⟩ sub9 rfl (List.Sublist.refl _) ?_
        rintro F V' L' m' ⟨j, s, acc, A, na, ca, LA, S, hV', rfl, hr, hacc, ha1, ha2, hsl, has, hnj, hS, rfl, rfl⟩
        by_cases hlt : 0 < j ∧ s.bad = false
        · obtain ⟨hj, hsb⟩ := hlt
          obtain ⟨j, rfl⟩ : ∃ i, j = i + 1 := ⟨j - 1, by omega⟩
          rw [attrsR_step hsb] at ha1 ha2
          have t1 := textR_len s
          have t2 := textR_len (textR s).2
          obtain ⟨sl, rfl⟩ : ∃ sl, s = ⟨sl, false⟩ := ⟨s.l, by cases s; simp_all⟩
          repeat' (first | (refine k_gw ?_; (first | refine gwg9 ?_ | (refine k_binOp ?_; refine gwb9 ?_) | (refine k_fieldAddr ?_; (first | refine gwq9 (q_fieldAddr fld_200_1 rfl) ?_)) | (refine k_load ?_; (first | refine gwq9 (q_load_o one_4 rfl own9 (by exact rfl)) ?_)))) | (refine k_gl ?_; (first | refine gl_nil rfl ?_ | refine gl_go rfl rfl ?_ | refine gl_yes rfl rfl rfl rfl rfl ?_ | (refine gl_split_p rfl rfl rfl ?_ ?_ <;> intro hq <;> try (exfalso; first | exact hq rfl | omega)))) | (refine k_gc ?_; (first | refine gc_seq ?_ | refine gc_region ?_ | refine gc_cond_t rfl ?_ | refine gc_block ?_ | refine gc_skip ?_)) | (refine k_at ?_; (first | refine at_seq ?_ | refine ats9 rfl ?_)))
          refine gc_held (id := 13) _ mixed (List.nil_sublist _) ?_; (first | refine gtk9 0 rfl rfl (q_fieldAddr fld_50_5 rfl) ?_); (first | refine gtk9 2 rfl rfl (q_move rfl) ?_); (first | refine gtk9 4 rfl rfl (q_move rfl) ?_); (refine gh_two (i := 1) (j := 3) (by kernel_rfl) rfl rfl rfl rfl vl9 vl9 slb9 ?_ ?_ <;> first | ((first | refine gwq9 (q_load_o one_47 rfl own9 (by exact rfl)) ?_ | refine gwq9 (q_load_o one_47 rfl own9 (by assumption)) ?_ | refine gwq9 (q_load_v one_47 rfl (by assumption)) ?_); refine gon9 (i := 3) rfl ?_; (first | (refine gw_callB rfl ⟨Tryz.call166⟩ rfl rep9 rfl (rtext_c _ r ⟨sl, false⟩ hsl) ?_; rintro v V6 B6 hV6 ⟨rfl, rfl⟩)); refine gon9 (i := 5) rfl ?_; (first | (refine gw_callB rfl ⟨Tryz.call166⟩ rfl rep9 rfl (rtext_c _ r (textR ⟨sl, false⟩).2 (by omega)) ?_; rintro v V7 B7 hV7 ⟨rfl, rfl⟩)); (first | refine gtk9 6 rfl rfl (q_build bld_222 rfl rfl) ?_); refine gon9 (i := 7) rfl ?_; (first | (refine gw_buildSlice rfl und_47 siz_222 zec_222 rfl rfl rfl rfl rfl rfl rfl ?_; intro γ)); refine gon9 (i := 8) rfl ?_; (first | (refine gw_append rfl und_47 inf_222 rfl rfl rfl hr rep9 (src_o own9 rfl) one9 (by omega) rfl rfl ?_; intro A2 c2 L2 hr2)); (first | refine gtk9 9 rfl rfl (q_fieldAddr fld_50_5 rfl) ?_); refine gon9 (i := 10) rfl ?_; (first | refine gw_store rfl siz_47 rfl rfl rfl rfl one9 put9 rfl ?_); refine gh_done (by kernel_rfl) vl9 vl9 slb9 ?_) | ((first | (refine gw_callB rfl ⟨Tryz.call166⟩ rfl rep9 rfl (rtext_c _ r ⟨sl, false⟩ hsl) ?_; rintro v V6 B6 hV6 ⟨rfl, rfl⟩)); (refine gh_two (i := 1) (j := 5) (by kernel_rfl) rfl rfl rfl rfl vl9 vl9 slb9 ?_ ?_ <;> first | ((first | refine gwq9 (q_load_o one_47 rfl own9 (by exact rfl)) ?_ | refine gwq9 (q_load_o one_47 rfl own9 (by assumption)) ?_ | refine gwq9 (q_load_v one_47 rfl (by assumption)) ?_); refine gon9 (i := 5) rfl ?_; (first | (refine gw_callB rfl ⟨Tryz.call166⟩ rfl rep9 rfl (rtext_c _ r (textR ⟨sl, false⟩).2 (by omega)) ?_; rintro v V7 B7 hV7 ⟨rfl, rfl⟩)); (first | refine gtk9 6 rfl rfl (q_build bld_222 rfl rfl) ?_); refine gon9 (i := 7) rfl ?_; (first | (refine gw_buildSlice rfl und_47 siz_222 zec_222 rfl rfl rfl rfl rfl rfl rfl ?_; intro γ)); refine gon9 (i := 8) rfl ?_; (first | (refine gw_append rfl und_47 inf_222 rfl rfl rfl hr rep9 (src_o own9 rfl) one9 (by omega) rfl rfl ?_; intro A2 c2 L2 hr2)); (first | refine gtk9 9 rfl rfl (q_fieldAddr fld_50_5 rfl) ?_); refine gon9 (i := 10) rfl ?_; (first | refine gw_store rfl siz_47 rfl rfl rfl rfl one9 put9 rfl ?_); refine gh_done (by kernel_rfl) vl9 vl9 slb9 ?_) | ((first | (refine gw_callB rfl ⟨Tryz.call166⟩ rfl rep9 rfl (rtext_c _ r (textR ⟨sl, false⟩).2 (by omega)) ?_; rintro v V7 B7 hV7 ⟨rfl, rfl⟩)); (first | refine gtk9 6 rfl rfl (q_build bld_222 rfl rfl) ?_); (refine gh_two (i := 1) (j := 7) (by kernel_rfl) rfl rfl rfl rfl vl9 vl9 slb9 ?_ ?_ <;> first | ((first | refine gwq9 (q_load_o one_47 rfl own9 (by exact rfl)) ?_ | refine gwq9 (q_load_o one_47 rfl own9 (by assumption)) ?_ | refine gwq9 (q_load_v one_47 rfl (by assumption)) ?_); refine gon9 (i := 7) rfl ?_; (first | (refine gw_buildSlice rfl und_47 siz_222 zec_222 rfl rfl rfl rfl rfl rfl rfl ?_; intro γ)); refine gon9 (i := 8) rfl ?_; (first | (refine gw_append rfl und_47 inf_222 rfl rfl rfl hr rep9 (src_o own9 rfl) one9 (by omega) rfl rfl ?_; intro A2 c2 L2 hr2)); (first | refine gtk9 9 rfl rfl (q_fieldAddr fld_50_5 rfl) ?_); refine gon9 (i := 10) rfl ?_; (first | refine gw_store rfl siz_47 rfl rfl rfl rfl one9 put9 rfl ?_); refine gh_done (by kernel_rfl) vl9 vl9 slb9 ?_) | ((first | (refine gw_buildSlice rfl und_47 siz_222 zec_222 rfl rfl rfl rfl rfl rfl rfl ?_; intro γ)); refine gon9 (i := 1) rfl ?_; (first | refine gwq9 (q_load_o one_47 rfl own9 (by exact rfl)) ?_ | refine gwq9 (q_load_o one_47 rfl own9 (by assumption)) ?_ | refine gwq9 (q_load_v one_47 rfl (by assumption)) ?_); refine gon9 (i := 8) rfl ?_; (first | (refine gw_append rfl und_47 inf_222 rfl rfl rfl hr rep9 (src_o own9 rfl) one9 (by omega) rfl rfl ?_; intro A2 c2 L2 hr2)); (first | refine gtk9 9 rfl rfl (q_fieldAddr fld_50_5 rfl) ?_); refine gon9 (i := 10) rfl ?_; (first | refine gw_store rfl siz_47 rfl rfl rfl rfl one9 put9 rfl ?_); refine gh_done (by kernel_rfl) vl9 vl9 slb9 ?_))))))
          all_goals
            repeat' (first | (refine k_gw ?_; (first | refine gwg9 ?_ | (refine k_binOp ?_; refine gwb9 ?_))) | (refine k_gl ?_; (first | refine gl_nil rfl ?_ | refine gl_go rfl rfl ?_)) | (refine k_gc ?_; (first | refine gc_region ?_)) | (refine k_at ?_; (first | refine at_seq ?_ | refine ats9 rfl ?_)))
            refine at_round _ j ⟨j, (textR (textR ⟨sl, false⟩).2).2, acc ++ [⟨(textR ⟨sl, false⟩).1, (textR (textR ⟨sl, false⟩).2).1⟩], A2, na + 1, c2, L2, S - 1, vl9, rfl, by rw [List.flatMap_append]; exact hr2, by rw [List.length_append, hacc]; rfl, by rw [ha1]; simp, ha2, by omega, fun a ha => ?_, by omega, by omega, rfl, rfl⟩ (by omega) sub9 sl9
            rcases List.mem_append.1 ha with ha | ha
            · exact has a ha
            · obtain rfl := List.mem_singleton.1 ha; exact ⟨t1.2, t2.2⟩
        · rw [attrsR_end hlt, List.append_nil] at ha1
          rw [attrsR_end hlt] at ha2
          have hcap := hr.cap
          rw [ha1, ha2]
          refine gc_shut hr rep9 ?_ (by intro x hx; simp [gsOf] at hx; subst hx; exact ⟨_, own9⟩)
          intro V8 hV8 hc8
          have hatt : AttrV V8 A na acc := attrs_of_cells hc8 hacc (by unfold maxLen; omega) (fun a ha => by have := has a ha; unfold maxLen; omega)
          rcases (show j = 0 ∨ s.bad = true by rcases Nat.eq_zero_or_pos j with h | h; exact .inl h; exact .inr (by cases hb : s.bad; exact absurd ⟨h, hb⟩ hlt; rfl)) with h0 | h0
          · subst h0; subst hS
            repeat' (first | (refine k_gw ?_; (first | refine gwg9 ?_ | (refine k_binOp ?_; refine gwb9 ?_))) | (refine k_gl ?_; (first | refine gl_nil rfl ?_ | refine gl_go rfl rfl ?_ | refine gl_no rfl rfl rfl rfl rfl rfl rfl ?_)) | (refine k_gc ?_; (first | refine gc_seq ?_ | refine gc_region ?_ | refine gc_cond_f rfl ?_ | refine gc_exit ?_)) | (refine k_at ?_; (first | refine at_seq ?_ | refine ats9 rfl ?_)))
            all_goals exact at_meet _ ⟨A, na, ca, hatt, hcap, vl9, rfl, rfl⟩ sub9 sl9
          · obtain ⟨sl, rfl⟩ : ∃ sl, s = ⟨sl, true⟩ := ⟨s.l, by cases s; simp_all⟩
            repeat' (first | (refine k_gw ?_; (first | refine gwg9 ?_ | (refine k_binOp ?_; refine gwb9 ?_) | (refine k_fieldAddr ?_; (first | refine gwq9 (q_fieldAddr fld_200_1 rfl) ?_)) | (refine k_load ?_; (first | refine gwq9 (q_load_o one_4 rfl own9 (by exact rfl)) ?_)))) | (refine k_gl ?_; (first | refine gl_nil rfl ?_ | refine gl_go rfl rfl ?_ | refine gl_yes rfl rfl rfl rfl rfl ?_ | refine gl_no rfl rfl rfl rfl rfl rfl rfl ?_ | (refine gl_split_p rfl rfl rfl ?_ ?_ <;> intro hq <;> try (exfalso; first | exact hq rfl | omega)))) | (refine k_gc ?_; (first | refine gc_seq ?_ | refine gc_region ?_ | refine gc_cond_f rfl ?_ | refine gc_exit ?_)) | (refine k_at ?_; (first | refine at_seq ?_ | refine ats9 rfl ?_)))
            all_goals exact at_meet _ ⟨A, na, ca, hatt, hcap, vl9, rfl, rfl⟩ sub9 sl9
      · generalize attrsR an.1.toNat an.2 = at9 at *
        rintro F V' L' ⟨A, na, ca, hatt, hna, hV', rfl, rfl⟩
        have l7 := textR_len at9.2
        have c7 := fun V => rtext_c V r at9.2 (by omega)
        generalize textR at9.2 = d at *
        have l8 := byteR_len d.2
        have d8 := byteR_bd d.2
        have c8 := fun V => byte_c V r d.2 (by omega)
        generalize byteR d.2 = kn at *
        repeat' (first | (refine k_gw ?_; (first | refine gwg9 ?_ | (refine k_fieldAddr ?_; (first | refine gwq9 (q_fieldAddr fld_50_6 rfl) ?_)) | (refine k_store ?_; (first | refine gw_store rfl siz_9 rfl rfl rfl rfl one9 put9 rfl ?_)) | (refine k_call ?_; (first | (refine gw_callB rfl ⟨Tryz.call166⟩ rfl rep9 rfl (c7 _) ?_; rintro v V2 B2 hV2 ⟨rfl, rfl⟩) | (refine gw_callB rfl ⟨Tryz.call164⟩ rfl rep9 rfl (c8 _) ?_; rintro v V3 B3 hV3 ⟨rfl, rfl⟩))))) | (refine k_gl ?_; (first | refine gl_nil rfl ?_ | refine gl_go rfl rfl ?_)) | (refine k_gc ?_; (first | refine gc_seq ?_ | refine gc_region ?_)) | (refine k_at ?_; (first | refine at_seq ?_ | refine ats9 rfl ?_)))
        have hV3' : VLe V' V3 := hV2.trans hV3
        refine gc_block ?_
        refine gc_loop (fun F V4 L' m' => ∃ (j : Nat) (s : Rd) (es : List LK) (K : Option Addr) (nk ck : Nat) (LK0 : List Box) (S : Int), VLe V3 V4 ∧ (⟨γ, 50, [.int .i64 (if 7 < k.1 then k.1 - 8 else k.1), .int .i64 m.1, .int .i64 u.1, .int .i64 g.1, .bool (decide (7 < k.1)), .slice A na ca, .string d.1, .slice K nk ck]⟩ :: ⟨γ4, 50, [.int .i64 0, .int .i64 0, .int .i64 0, .int .i64 0, .bool false, .slice none 0 0, .string ⟨#[]⟩, .slice none 0 0]⟩ :: rdBox r s :: LK0 : List Box) = L' ∧ RowL K nk ck 104 9 (es.flatMap lkC) LK0 ∧ es.length = nk ∧ (kidsR (nodeG twoR f) kn.1.toNat kn.2).1 = es.map kz ++ (kidsR (nodeG twoR f) j s).1 ∧ (kidsR (nodeG twoR f) kn.1.toNat kn.2).2 = (kidsR (nodeG twoR f) j s).2 ∧ s.l.length ≤ 1000000 ∧ (∀ e ∈ es, e.nm.size ≤ maxLen ∧ NodeV V4 e.x) ∧ nk + j ≤ 255 ∧ S = j ∧ j = m' ∧ F = [(0, .pointer (some ⟨r, 0, none⟩)), (1, .int .i64 deep), (4, .pointer (some ⟨γ4, 0, none⟩)), (5, .pointer (some ⟨γ, 0, none⟩)), (7, .int .i64 S)]) (m := kn.1.toNat) ⟨kn.1.toNat, kn.2, [], none, 0, 0, [], kn.1, vl9, rfl, RowL.nil, rfl, rfl, rfl, by omega, by simp, by omega, by omega, rfl, rfl⟩ sub9 rfl (List.Sublist.refl _) ?_
        rintro F V4 L' m' ⟨j, s, es, K, nk, ck, LK0, S, hV4, rfl, hr, hes, ha1, ha2, hsl, hg, hnj, hS, rfl, rfl⟩
        by_cases hlt : 0 < j ∧ s.bad = false
        · obtain ⟨hj, hsb⟩ := hlt
          obtain ⟨j, rfl⟩ : ∃ i, j = i + 1 := ⟨j - 1, by omega⟩
          rw [kidsR_step hsb] at ha1 ha2
          have t1 := textR_len s
          have t2 := nodeG_len twoR_len f (textR s).2
          obtain ⟨sl, rfl⟩ : ∃ sl, s = ⟨sl, false⟩ := ⟨s.l, by cases s; simp_all⟩
          have ht := fun V => rtext_c V r ⟨sl, false⟩ hsl
          have hcall := fun V => ih (deep + 1) V (textR ⟨sl, false⟩).2 (by omega) (by omega)
          rw [Int.natCast_add, Int.natCast_one] at hcall
          generalize textR ⟨sl, false⟩ = tx at *
          generalize nodeG twoR f tx.2 = nd at *
          repeat' (first | (refine k_gw ?_; (first | refine gwg9 ?_ | (refine k_binOp ?_; refine gwb9 ?_) | (refine k_fieldAddr ?_; (first | refine gwq9 (q_fieldAddr fld_200_1 rfl) ?_)) | (refine k_call ?_; (first | (refine gw_callB rfl ⟨Tryz.call166⟩ rfl rep9 rfl (ht _) ?_; rintro v V5 B5 hV5 ⟨rfl, rfl⟩))) | (refine k_load ?_; (first | refine gwq9 (q_load_o one_4 rfl own9 (by exact rfl)) ?_)))) | (refine k_gl ?_; (first | refine gl_nil rfl ?_ | refine gl_go rfl rfl ?_ | refine gl_yes rfl rfl rfl rfl rfl ?_ | (refine gl_split_p rfl rfl rfl ?_ ?_ <;> intro hq <;> try (exfalso; first | exact hq rfl | omega)))) | (refine k_gc ?_; (first | refine gc_seq ?_ | refine gc_region ?_ | refine gc_cond_t rfl ?_ | refine gc_block ?_ | refine gc_skip ?_)) | (refine k_at ?_; (first | refine at_seq ?_ | refine ats9 rfl ?_)))
          refine gc_held (id := 19) _ mixed (List.nil_sublist _) ?_; (first | refine gtk9 0 rfl rfl (q_fieldAddr fld_50_7 rfl) ?_); (first | refine gtk9 2 rfl rfl (q_move rfl) ?_); (first | refine gtk9 3 rfl rfl (q_move rfl) ?_); (first | refine gtk9 4 rfl rfl (q_move rfl) ?_); (first | refine gtk9 5 rfl rfl (q_add rfl rfl (by omega)) ?_); (refine gh_two (i := 1) (j := 6) (by kernel_rfl) rfl rfl rfl rfl vl9 vl9 slb9 ?_ ?_ <;> first | ((first | refine gwq9 (q_load_o one_48 rfl own9 (by exact rfl)) ?_ | refine gwq9 (q_load_o one_48 rfl own9 (by assumption)) ?_ | refine gwq9 (q_load_v one_48 rfl (by assumption)) ?_); refine gon9 (i := 6) rfl ?_; (first | (refine gw_callB rfl ⟨Tryz.call123⟩ rfl rep9 rfl (hcall _) ?_; rintro v V6 B6 hV6 ⟨y, rfl, hyN, hyn, rfl⟩; have ho1 := ones_k1 ⟨tx.1, y⟩)); (first | refine gtk9 7 rfl rfl (q_build bld_104 rfl rfl) ?_); refine gon9 (i := 8) rfl ?_; (first | (refine gw_buildSlice rfl und_48 siz_104 zec_104 rfl rfl rfl rfl rfl rfl rfl ?_; intro γ)); refine gon9 (i := 9) rfl ?_; (first | (refine gw_append rfl und_48 inf_104 rfl rfl rfl hr rep9 (src_o own9 rfl) one9 (by omega) rfl rfl ?_; intro A2 c2 L2 hr2)); (first | refine gtk9 10 rfl rfl (q_fieldAddr fld_50_7 rfl) ?_); refine gon9 (i := 11) rfl ?_; (first | refine gw_store rfl siz_48 rfl rfl rfl rfl one9 put9 rfl ?_); refine gh_done (by kernel_rfl) vl9 vl9 slb9 ?_) | ((first | (refine gw_callB rfl ⟨Tryz.call123⟩ rfl rep9 rfl (hcall _) ?_; rintro v V6 B6 hV6 ⟨y, rfl, hyN, hyn, rfl⟩; have ho1 := ones_k1 ⟨tx.1, y⟩)); (first | refine gtk9 7 rfl rfl (q_build bld_104 rfl rfl) ?_); (refine gh_two (i := 1) (j := 8) (by kernel_rfl) rfl rfl rfl rfl vl9 vl9 slb9 ?_ ?_ <;> first | ((first | refine gwq9 (q_load_o one_48 rfl own9 (by exact rfl)) ?_ | refine gwq9 (q_load_o one_48 rfl own9 (by assumption)) ?_ | refine gwq9 (q_load_v one_48 rfl (by assumption)) ?_); refine gon9 (i := 8) rfl ?_; (first | (refine gw_buildSlice rfl und_48 siz_104 zec_104 rfl rfl rfl rfl rfl rfl rfl ?_; intro γ)); refine gon9 (i := 9) rfl ?_; (first | (refine gw_append rfl und_48 inf_104 rfl rfl rfl hr rep9 (src_o own9 rfl) one9 (by omega) rfl rfl ?_; intro A2 c2 L2 hr2)); (first | refine gtk9 10 rfl rfl (q_fieldAddr fld_50_7 rfl) ?_); refine gon9 (i := 11) rfl ?_; (first | refine gw_store rfl siz_48 rfl rfl rfl rfl one9 put9 rfl ?_); refine gh_done (by kernel_rfl) vl9 vl9 slb9 ?_) | ((first | (refine gw_buildSlice rfl und_48 siz_104 zec_104 rfl rfl rfl rfl rfl rfl rfl ?_; intro γ)); refine gon9 (i := 1) rfl ?_; (first | refine gwq9 (q_load_o one_48 rfl own9 (by exact rfl)) ?_ | refine gwq9 (q_load_o one_48 rfl own9 (by assumption)) ?_ | refine gwq9 (q_load_v one_48 rfl (by assumption)) ?_); refine gon9 (i := 9) rfl ?_; (first | (refine gw_append rfl und_48 inf_104 rfl rfl rfl hr rep9 (src_o own9 rfl) one9 (by omega) rfl rfl ?_; intro A2 c2 L2 hr2)); (first | refine gtk9 10 rfl rfl (q_fieldAddr fld_50_7 rfl) ?_); refine gon9 (i := 11) rfl ?_; (first | refine gw_store rfl siz_48 rfl rfl rfl rfl one9 put9 rfl ?_); refine gh_done (by kernel_rfl) vl9 vl9 slb9 ?_))))
          all_goals
            repeat' (first | (refine k_gw ?_; (first | refine gwg9 ?_ | (refine k_binOp ?_; refine gwb9 ?_))) | (refine k_gl ?_; (first | refine gl_nil rfl ?_ | refine gl_go rfl rfl ?_)) | (refine k_gc ?_; (first | refine gc_region ?_)) | (refine k_at ?_; (first | refine at_seq ?_ | refine ats9 rfl ?_)))
            refine at_round _ j ⟨j, nd.2, es ++ [⟨tx.1, y⟩], A2, nk + 1, c2, L2, S - 1, vl9, rfl, by rw [List.flatMap_append]; exact hr2, by rw [List.length_append, hes]; rfl, by rw [ha1, List.map_append, ← hyn]; simp [kz], ha2, by omega, fun e he => ?_, by omega, by omega, rfl, rfl⟩ (by omega) sub9 sl9
            rcases List.mem_append.1 he with he | he
            · exact ⟨(hg e he).1, (hg e he).2.le vl9⟩
            · obtain rfl := List.mem_singleton.1 he; exact ⟨by have := t1.2; unfold maxLen; show tx.1.size ≤ _; omega, hyN⟩
        · rw [kidsR_end hlt, List.append_nil] at ha1
          rw [kidsR_end hlt] at ha2
          have hcap := hr.cap
          rw [ha1, ha2]
          refine gc_shut hr rep9 ?_ (by intro x hx; simp [gsOf] at hx; subst hx; exact ⟨_, own9⟩)
          intro V8 hV8 hc8
          have hkids : KidsV V8 K nk es := KidsV.of hc8 hes (by unfold maxLen; omega) (fun e he => ⟨(hg e he).1, (hg e he).2.le hV8⟩)
          have hN : NodeV V8 ⟨hdR k.1 m.1 u.1 g.1 at9.1 d.1, A, na, ca, K, nk, ck, es.map kz⟩ := NodeV.of (hatt.le (hV3'.trans (hV4.trans hV8))) hna (by have := l7.2; unfold maxLen; show d.1.size ≤ _; omega) hcap hkids rfl
          rcases (show j = 0 ∨ s.bad = true by rcases Nat.eq_zero_or_pos j with h | h; exact .inl h; exact .inr (by cases hb : s.bad; exact absurd ⟨h, hb⟩ hlt; rfl)) with h0 | h0
          · subst h0; subst hS
            repeat' (first | (refine k_gw ?_; (first | refine gwg9 ?_ | (refine k_binOp ?_; refine gwb9 ?_) | (refine k_store ?_; (first | refine gw_store rfl siz_50 rfl rfl rfl rfl one9 put9 rfl ?_)) | (refine k_load ?_; (first | refine gwq9 (q_loadA_o agg_50 rfl own9 (by exact rfl)) ?_)))) | (refine k_gl ?_; (first | refine gl_nil rfl ?_ | refine gl_go rfl rfl ?_ | refine gl_no rfl rfl rfl rfl rfl rfl rfl ?_)) | (refine k_gc ?_; (first | refine gc_seq ?_ | refine gc_region ?_ | refine gc_cond_f rfl ?_ | refine gc_exit ?_ | refine gc_ret ?_)) | (refine k_at ?_; (first | refine at_seq ?_ | refine ats9 rfl ?_)))
            all_goals
              (refine atB_ret1 Tryz.results123 (rv_cellA agg_50 rfl own9 (by exact rfl)) (List.Sublist.cons _ (List.Sublist.cons _ (List.Sublist.refl _))) ?_)
              exact ⟨_, rfl, hN, rfl, rfl⟩
          · obtain ⟨sl, rfl⟩ : ∃ sl, s = ⟨sl, true⟩ := ⟨s.l, by cases s; simp_all⟩
            repeat' (first | (refine k_gw ?_; (first | refine gwg9 ?_ | (refine k_binOp ?_; refine gwb9 ?_) | (refine k_fieldAddr ?_; (first | refine gwq9 (q_fieldAddr fld_200_1 rfl) ?_)) | (refine k_store ?_; (first | refine gw_store rfl siz_50 rfl rfl rfl rfl one9 put9 rfl ?_)) | (refine k_load ?_; (first | refine gwq9 (q_load_o one_4 rfl own9 (by exact rfl)) ?_ | refine gwq9 (q_loadA_o agg_50 rfl own9 (by exact rfl)) ?_)))) | (refine k_gl ?_; (first | refine gl_nil rfl ?_ | refine gl_go rfl rfl ?_ | refine gl_yes rfl rfl rfl rfl rfl ?_ | refine gl_no rfl rfl rfl rfl rfl rfl rfl ?_ | (refine gl_split_p rfl rfl rfl ?_ ?_ <;> intro hq <;> try (exfalso; first | exact hq rfl | omega)))) | (refine k_gc ?_; (first | refine gc_seq ?_ | refine gc_region ?_ | refine gc_cond_f rfl ?_ | refine gc_exit ?_ | refine gc_ret ?_)) | (refine k_at ?_; (first | refine at_seq ?_ | refine ats9 rfl ?_)))
            all_goals
              (refine atB_ret1 Tryz.results123 (rv_cellA agg_50 rfl own9 (by exact rfl)) (List.Sublist.cons _ (List.Sublist.cons _ (List.Sublist.refl _))) ?_)
              exact ⟨_, rfl, hN, rfl, rfl⟩
end
section
/-- Are these a tree's bytes? -/
def okB (two : Rd → Int × Rd) (upper : Bool) (l : List UInt8) : Bool := !(nodeG two 7 ⟨l, false⟩).2.bad && ((nodeG two 7 ⟨l, false⟩).2.l.isEmpty && decide (treeF upper (nodeG two 7 ⟨l, false⟩).1 = 0))
def ParseR (two : Rd → Int × Rd) (upper : Bool) (l : List UInt8) (ok no : Value) (v : Value) (V' : View) : Prop :=
  (okB two upper l = true ∧ ∃ y : LN, v = .tuple #[lnV y, ok] ∧ NodeV V' y ∧ y.n = (nodeG two 7 ⟨l, false⟩).1) ∨ (okB two upper l = false ∧ v = .tuple #[lnV lnZ, no])
attribute [local irreducible] AtQ GoC GoL GoW QO QP Fn RV OwnAt CellsFrom VLe SrcIs errV
set_option maxRecDepth 100000
theorem TParse_c (V : View) (l : List UInt8) (upper : Bool) (hl : l.length ≤ 100000) : Fn Tryz.prog 57 [.string ⟨l.toArray⟩, .bool upper] V (ParseR twoR upper l (errV 0) (errV 17)) := by
  have hsz := ba_sz l
  have hcall := fun r V => rnode_c r 7 0 V ⟨l, false⟩ rfl (by show l.length ≤ 1000000; omega)
  unfold ParseR okB
  generalize nodeG twoR 7 ⟨l, false⟩ = q at *
  obtain ⟨n, rest, bad⟩ := q
  simp only [] at hcall ⊢
  (refine fn_enter Tryz.func57 rfl Tryz.ntmps57 rfl ?_; intro w0)
  repeat' (first | (refine k_gw ?_; (first | (refine k_alloc ?_; (first | (refine gw_alloc rfl zer_50 rfl ?_; intro γ))) | refine gwg9 ?_ | (refine k_call ?_; (first | refine gwq9 (q_slen rfl und_9 rfl) ?_ | (refine gw_callB rfl ⟨Tryz.call123⟩ rfl rep9 rfl (hcall _ _) ?_; rintro v V2 B2 hV2 ⟨y, rfl, hyN, hyn, rfl⟩) | refine gw_q' rfl (q_call ⟨Tryz.call16⟩ rfl (TCheck_c _ y hyN upper)) ?_)) | (refine k_binOp ?_; (first | refine gwq9 (q_gtr rfl rfl) ?_ | refine gwq9 (q_sneq rfl rfl) ?_ | refine gwq9 (q_eneq rfl) ?_)) | (refine k_build ?_; (first | refine gwq9 (q_build bld_50 rfl rfl) ?_ | refine gwq9 (q_build bld_200 rfl rfl) ?_)) | (refine k_makeInterface ?_; (first | refine gwq9 (q_mkiface und_99 rfl rfl) ?_)) | (refine k_store ?_; (first | refine gw_store rfl siz_50 rfl rfl rfl rfl one9 put9 rfl ?_)) | (refine k_box ?_; (first | (refine gw_box rfl rfl rfl rfl ?_; intro γ))) | (refine k_fieldAddr ?_; (first | refine gwq9 (q_fieldAddr fld_200_1 rfl) ?_ | refine gwq9 (q_fieldAddr fld_200_0 rfl) ?_)) | (refine k_load ?_; (first | refine gwq9 (q_load_o one_4 rfl own9 (by exact rfl)) ?_ | refine gwq9 (q_load_o one_9 rfl own9 (by exact rfl)) ?_ | refine gwq9 (q_loadA_o agg_50 rfl own9 (by exact rfl)) ?_)))) | (refine k_gl ?_; (first | refine gl_nil rfl ?_ | refine gl_go rfl rfl ?_ | refine gl_yes rfl rfl rfl rfl rfl ?_ | refine gl_no rfl rfl rfl rfl rfl rfl rfl ?_ | (refine gl_split_p rfl rfl rfl ?_ ?_ <;> intro hq <;> try (exfalso; first | exact hq rfl | omega)) | (refine gl_split_b rfl rfl rfl ?_ ?_ <;> intro hq))) | (refine k_gc ?_; (first | refine gc_seq ?_ | refine gc_region ?_ | refine gc_cond_t rfl ?_ | (refine gc_cond_p rfl ?_ ?_ <;> intro hq <;> try (exfalso; first | exact hq rfl | omega)) | refine gc_ret ?_ | refine gc_skip ?_)) | (refine k_at ?_; (first | refine at_seq ?_ | refine ats9 rfl ?_)))
  all_goals (refine at_ret2 Tryz.results57 (rv_cellA agg_50 rfl own9 (by exact rfl)) (rv_tmp rfl) ?_)
  · replace hq : bad = true := hq
    refine .inr ⟨by rw [hq]; rfl, by rw [errV_pos (by decide)]; rfl⟩
  · rename_i hb
    have hne : ¬ rest = [] := fun e => hq (by rw [e])
    refine .inr ⟨?_, by rw [errV_pos (by decide)]; rfl⟩
    cases rest with
    | nil => exact absurd rfl hne
    | cons _ _ => simp
  · rename_i hb hr
    replace hb : bad = false := hb
    rw [hyn] at hq
    refine .inr ⟨by simp [hq], by rw [errV_pos (by decide)]; rfl⟩
  · rename_i hb hr
    replace hb : bad = false := hb
    rw [hyn] at hq
    have h0 : treeF upper n = 0 := Decidable.not_not.1 hq
    have hr' : rest = [] := by
      have := congrArg ByteArray.size (Decidable.not_not.1 hr)
      simpa [ba_sz] using this
    refine .inl ⟨by rw [hb, hr', h0]; rfl, y, by rw [errV_zero]; rfl, hyN, hyn⟩
end
section
theorem okB_lay {upper : Bool} {n : PN} (h : treeF true n = 0) : okB twoR upper (layP n) = decide (treeF upper n = 0) ∧ nodeG twoR 7 ⟨layP n, false⟩ = (n, ⟨[], false⟩) := by
  have := nodeG_of twoR_is 7 n [] (treeF_reads h)
  rw [List.append_nil] at this
  refine ⟨?_, this⟩
  unfold okB; rw [this]; rfl
end
section
def at8 (l : List UInt8) (i : Nat) : Int := ((l[i]?.getD 0).toNat : Int)
def at16 (l : List UInt8) (i : Nat) : Int := at8 l i * 256 + at8 l (i + 1)
def loadK (l : List UInt8) : Nat := (l[5]?.getD 0).toNat
def loadXs (l : List UInt8) (k : Nat) : List Int := (List.range k).map fun i => at16 l (6 + 2 * i)
def loadC (l : List UInt8) : CR := ⟨at16 l 0, at16 l 2, at8 l 4, loadXs l (loadK l)⟩
def loadT (l : List UInt8) : List UInt8 := l.drop (6 + 2 * loadK l)
def loadN (l : List UInt8) : PN := (nodeG twoR 7 ⟨loadT l, false⟩).1
def loadOk (q : Int) (l : List UInt8) : Prop := 6 + 2 * loadK l ≤ l.length ∧ 6 ≤ l.length ∧ okB twoR true (loadT l) = true ∧ credF (loadC l).u (loadC l).g (loadC l).d (loadC l).xs = 0 ∧ blocksP (loadN l) ≤ q
def loadB (b : BX) (l : List UInt8) : BX := { b with c := loadC l, ls := loadN l :: b.ls.tail }
theorem loadXs_succ (l : List UInt8) (k : Nat) : loadXs l (k + 1) = loadXs l k ++ [at16 l (6 + 2 * k)] := by unfold loadXs; rw [List.range_succ, List.map_append]; rfl
theorem loadXs_len (l : List UInt8) (k : Nat) : (loadXs l k).length = k := by unfold loadXs; simp
theorem flat16_get : ∀ (xs : List Int) (i : Nat) (n : Int) (r : List UInt8), xs[i]? = some n → (xs.flatMap b16 ++ r)[2 * i]? = some (b8 (n / 256)) ∧ (xs.flatMap b16 ++ r)[2 * i + 1]? = some (b8 n)
  | [], i, n, r, h => by simp at h
  | x :: xs, 0, n, r, h => by
    simp at h; subst h
    exact ⟨rfl, rfl⟩
  | x :: xs, i + 1, n, r, h => by
    rw [List.getElem?_cons_succ] at h
    have e : (x :: xs).flatMap b16 ++ r = b8 (x / 256) :: b8 x :: (xs.flatMap b16 ++ r) := rfl
    rw [e, show 2 * (i + 1) = 2 * i + 1 + 1 by omega, show 2 * i + 1 + 1 + 1 = (2 * i + 1) + 1 + 1 by omega, List.getElem?_cons_succ, List.getElem?_cons_succ, List.getElem?_cons_succ, List.getElem?_cons_succ]
    exact flat16_get xs i n r h
theorem b16_back {n : Int} (h : 0 ≤ n ∧ n ≤ 65535) : ((b8 (n / 256)).toNat : Int) * 256 + ((b8 n).toNat : Int) = n := by
  rw [b8_nat, b8_nat]; omega
theorem boxL_eq (b : BX) : boxL b = b8 (b.c.u / 256) :: b8 b.c.u :: b8 (b.c.g / 256) :: b8 b.c.g :: b8 b.c.d :: b8 (b.c.xs.length : Int) :: (b.c.xs.flatMap b16 ++ bytesP (upB b)) := by
  unfold boxL credB upB; rfl
theorem loadK_box {b : BX} (hok : BoxOk b) : loadK (boxL b) = b.c.xs.length := by
  have hz := credF_zero hok.c
  have : ((b8 (b.c.xs.length : Int)).toNat : Int) = (b.c.xs.length : Int) := b8_of (by omega)
  rw [boxL_eq]
  show (b8 (b.c.xs.length : Int)).toNat = _
  omega
theorem load_back {b : BX} (hok : BoxOk b) : loadC (boxL b) = b.c := by
  obtain ⟨h1, h2, h3, h4, h5⟩ := credF_zero hok.c
  have hx := gF_ids _ _ h5
  have e1 : at16 (boxL b) 0 = b.c.u := by rw [boxL_eq]; exact b16_back h1
  have e2 : at16 (boxL b) 2 = b.c.g := by rw [boxL_eq]; exact b16_back h2
  have e3 : at8 (boxL b) 4 = b.c.d := by rw [boxL_eq]; exact b8_of (by omega)
  have e4 : loadXs (boxL b) (loadK (boxL b)) = b.c.xs := by
    rw [loadK_box hok]
    refine List.ext_getElem? fun i => ?_
    unfold loadXs
    by_cases hi : i < b.c.xs.length
    · rw [List.getElem?_map, List.getElem?_range hi, List.getElem?_eq_getElem hi]
      obtain ⟨f1, f2⟩ := flat16_get b.c.xs i b.c.xs[i] (bytesP (upB b)) (List.getElem?_eq_getElem hi)
      have g1 : (boxL b)[6 + 2 * i]? = some (b8 (b.c.xs[i] / 256)) := by
        rw [boxL_eq, show 6 + 2 * i = 2 * i + 1 + 1 + 1 + 1 + 1 + 1 by omega]
        simp only [List.getElem?_cons_succ]; exact f1
      have g2 : (boxL b)[6 + 2 * i + 1]? = some (b8 b.c.xs[i]) := by
        rw [boxL_eq, show 6 + 2 * i + 1 = (2 * i + 1) + 1 + 1 + 1 + 1 + 1 + 1 by omega]
        simp only [List.getElem?_cons_succ]; exact f2
      show some (at16 (boxL b) (6 + 2 * i)) = some b.c.xs[i]
      unfold at16 at8
      rw [g1, g2]
      exact congrArg some (b16_back (hx _ (List.getElem_mem hi)))
    · rw [List.getElem?_eq_none (by simp; omega), List.getElem?_eq_none (by omega)]
  unfold loadC
  rw [e1, e2, e3, e4]
theorem drop_box (b : BX) : (boxL b).drop (6 + 2 * b.c.xs.length) = bytesP (upB b) := by
  have e : boxL b = (credB b.c ++ b.c.xs.flatMap b16) ++ bytesP (upB b) := rfl
  rw [e, List.drop_left' (by rw [List.length_append, flat16_len]; rfl)]
theorem BoxOk.up0 {b : BX} (hok : BoxOk b) : treeF true (upB b) = 0 := by
  have hl := hok.l1
  cases hb : b.ls with
  | nil => rw [hb] at hl; simp at hl
  | cons n0 t => unfold upB; rw [hb]; exact hok.up n0 (by rw [hb]; rfl)
theorem loadT_box {b : BX} (hok : BoxOk b) : loadT (boxL b) = layP (upB b) := by
  unfold loadT
  rw [loadK_box hok, drop_box]
  unfold bytesP
  rw [if_pos hok.up0]
theorem loadN_box {b : BX} (hok : BoxOk b) : loadN (boxL b) = upB b := by
  unfold loadN
  rw [loadT_box hok, (okB_lay (upper := true) hok.up0).2]
/-- What a box wrote may be read, if there is room. -/
theorem loadOk_of {b : BX} (hok : BoxOk b) {q : Int} (h : blocksP (upB b) ≤ q) : loadOk q (boxL b) := by
  have hz := hok.c
  refine ⟨?_, ?_, ?_, ?_, ?_⟩
  · rw [loadK_box hok, boxL_eq]
    have := flat16_len b.c.xs
    simp only [List.length_cons, List.length_append]; omega
  · rw [boxL_eq]; simp only [List.length_cons]; omega
  · rw [loadT_box hok, (okB_lay (upper := true) hok.up0).1, hok.up0]; rfl
  · rw [load_back hok]; exact hz
  · rw [loadN_box hok]; exact h
theorem cfgF_rich {x : CF} {ls : List PN} (h : cfgF x ls = 0) : cfgF { x with q := 64 } ls = 0 := by
  obtain ⟨h1, h2, h3, h4, h5, h6, h7⟩ := cfg_ok h
  have e : cfgL { x with q := 64 } ls = cfgL x ls := by
    unfold cfgL cfg1
    have e1 : (if x.q < 1 ∨ 64 < x.q then [1] else ([] : List Int)) = [] := if_neg (by omega)
    have e2 : (if (64 : Int) < 1 ∨ (64 : Int) < 64 then [1] else ([] : List Int)) = [] := if_neg (by omega)
    simp only [e1]
    show (if 3 < ls.length then ([mapFaultZ x.M.us, mapFaultZ x.M.gs, credF x.c.u x.c.g x.c.d x.c.xs] ++ (if (64 : Int) < 1 ∨ (64 : Int) < 64 then [1] else [])) ++ [2] else _) = _
    rw [e2]
  unfold cfgF at h ⊢
  rw [e]; exact h
/-- A box that is loaded with all the quota is the same box, with all the quota. -/
theorem load_rich {x : CF} {ls : List PN} {b : BX} (hok : BoxOk b) (e1 : b.us = x.M.us) (e2 : b.gs = x.M.gs) (e3 : b.ls.tail = ls) : loadB (newB x.M.us x.M.gs x.c 64 ls) (boxL b) = richB b := by
  have hl := hok.l1
  cases hb : b.ls with
  | nil => rw [hb] at hl; simp at hl
  | cons n0 t =>
    have e4 : upB b = n0 := by unfold upB; rw [hb]; rfl
    have e5 : t = ls := by rw [← e3, hb]; rfl
    unfold loadB richB newB
    rw [load_back hok, loadN_box hok, e4]
    show BX.mk x.M.us x.M.gs b.c 64 (n0 :: ls) = BX.mk b.us b.gs b.c 64 b.ls
    rw [hb, e1, e2, e5]
end
section
section
variable {P : Program} {B : Base} {N : Nat} {F : List (Nat × Value)} {V : View} {L : List Box} {d : Option Tmp} {ty : TypeId} {pos : String} {af : Array Edge} {gd : Option (Nat × Bool)} {x : Operand}
theorem q_sslice_le {lo : Operand} {i : Int} {s r : ByteArray} {t : TypeId} (hu : UnderIs P t .string) (hx : evF F x = some (.string s)) (hl : evF F lo = some (.int .i64 i)) (h : 0 ≤ i ∧ i ≤ (s.size : Int)) (he : s.extract i.toNat s.size = r) : QP P B N V L ⟨d, .slice t x (some lo) none none, ty, pos, af, gd⟩ F (.string r) := by
  subst he; exact q_sslice_li hu hx hl h
theorem q_conv_e {k0 k1 : IntKind} {s t : TypeId} {a z : Int} (hs : UnderIs P s (.int k0)) (ht : UnderIs P t (.int k1)) (hx : evF F x = some (.int k0 a)) (hw : k1.wrap a = a) (he : a = z) : QP P B N V L ⟨d, .convert s t x, ty, pos, af, gd⟩ F (.int k1 z) := by
  subst he; exact q_conv hs ht hx hw
end
theorem ba_nth {l : List UInt8} {k : Nat} {i : Int} (hi : i = k) (h : k < l.length) : ∃ c : UInt8, (⟨l.toArray⟩ : ByteArray)[i.toNat]? = some c ∧ l[k]? = some c := by
  have e : (⟨l.toArray⟩ : ByteArray)[i.toNat]? = l[k]? := by rw [ba_get9, ba_of, hi, Int.toNat_natCast]
  rw [e, List.getElem?_eq_getElem h]
  exact ⟨_, rfl, rfl⟩
attribute [local irreducible] AtQ GoC GoL GoW QO QP Fn RV OwnAt CellsFrom VLe SrcIs errV
set_option maxRecDepth 100000
set_option maxRecDepth 100000 in
set_option maxHeartbeats 4000000 in
theorem num_c (V : View) (g : Nat) (l : List UInt8) (hg : V ⟨g, 0, none⟩ = some (.string ⟨l.toArray⟩)) (k : Nat) (i : Int) (hi : i = k) (h : k + 1 < l.length) (hl : l.length ≤ 100000) : Fn Tryz.prog 56 [.int .i64 i, .pointer (some ⟨g, 0, none⟩)] V fun v _ => v = .int .i64 (at16 l k) := by
  obtain ⟨a, ha, ha2⟩ := ba_nth (l := l) (k := k) (i := i) hi (by omega)
  obtain ⟨b, hb, hb2⟩ := ba_nth (l := l) (k := k + 1) (i := i + 1) (by omega) h
  have hal := a.toNat_lt
  have hbl := b.toNat_lt
  have e : at16 l k = (a.toNat : Int) * 256 + (b.toNat : Int) := by unfold at16 at8; rw [ha2, hb2]; rfl
  (refine fn_enter Tryz.func56 rfl Tryz.ntmps56 rfl ?_; intro w0)
  repeat' (first | (refine k_gw ?_; (first | refine gwg9 ?_ | (refine k_load ?_; (first | refine gwq9 (q_load_o one_9 rfl own9 (by exact rfl)) ?_ | refine gwq9 (q_load_o one_9 rfl own9 (by assumption)) ?_ | refine gwq9 (q_load_v one_9 rfl (by assumption)) ?_)) | (refine k_index ?_; (first | refine gwq9 (q_sindex und_9 rfl rfl (by omega) (by assumption)) ?_)) | (refine k_convert ?_; (first | refine gwq9 (q_conv und_5 und_3 rfl (wrap_i64 (by omega))) ?_)) | (refine k_binOp ?_; (first | refine gwq9 (q_shl8 rfl rfl (by omega)) ?_ | refine gwq9 (q_shl rfl rfl (by omega)) ?_ | refine gwb9 ?_)))) | (refine k_gl ?_; (first | refine gl_nil rfl ?_ | refine gl_go rfl rfl ?_)) | (refine k_gc ?_; (first | refine gc_seq ?_ | refine gc_region ?_ | refine gc_ret ?_ | refine gc_quiet (id := 1) mixed (by kernel_rfl) ?_)) | (refine k_at ?_; (first | refine at_seq ?_ | refine ats9 rfl ?_)))
  all_goals
    (refine at_ret1 Tryz.results56 (rv_tmp rfl) ?_)
    rw [e]
set_option maxRecDepth 100000 in
set_option maxHeartbeats 40000000 in
theorem Load_bx (V : View) (x : CF) (hx : CfV V x) (A : Option Addr) (n c : Nat) (ls : List LN) (h : NodesV V A n ls) (l : List UInt8) (hl : l.length ≤ 100000) : FnB Tryz.prog 19 [cfV x, .slice A n c, .string ⟨l.toArray⟩] V [] fun v V' Bs' => (¬ cfgF x (ls.map LN.n) = 0 ∧ v = .tuple #[.pointer none, errV (cfgF x (ls.map LN.n))] ∧ Bs' = []) ∨ (cfgF x (ls.map LN.n) = 0 ∧ ¬ loadOk x.q l ∧ v = .tuple #[.pointer none, errV 17] ∧ Bs' = []) ∨ (cfgF x (ls.map LN.n) = 0 ∧ loadOk x.q l ∧ ∃ p, v = .tuple #[.pointer (some ⟨p, 0, none⟩), errV 0] ∧ BoxB V' p (loadB (newB x.M.us x.M.gs x.c x.q (ls.map LN.n)) l) Bs') := by
  have hsz := ba_sz l
  have hNew := fun V2 (hV2 : VLe V V2) => New_bx V2 x (hx.le hV2) A n c ls (h.le hV2)
  have hok9 := fun h9 => newOk (x := x) (ls := ls.map LN.n) h9
  generalize cfgF x (ls.map LN.n) = cf at *
  (refine fn_enterB Tryz.func19 rfl Tryz.ntmps19 rfl ?_; intro w0)
  repeat' (first | (refine k_gw ?_; (first | (refine k_box ?_; (first | (refine gw_box rfl rfl rfl rfl ?_; intro γ))) | refine gwg9 ?_)) | (refine k_gl ?_; (first | refine gl_nil rfl ?_ | refine gl_go rfl rfl ?_)) | (refine k_gc ?_; (first | refine gc_seq ?_ | refine gc_region (id := 0) ?_)) | (refine k_at ?_; (first | refine at_seq ?_ | refine ats9 rfl ?_)))
  rename_i g3
  obtain ⟨g5, rfl⟩ : ∃ g5, g5 = γ := ⟨γ, rfl⟩
  have hfl0 : ∀ (V9 : View) (L9 : List Box), ∀ x9 ∈ (Base.mk V9 w0 (gsOf [])).fl, ∃ cs, OwnAt L9 x9 cs := fun _ _ x9 h9 => absurd h9 (by simp [gsOf])
  refine gc_retire (Drop1.here _ _ _ _) ?_ (hfl0 _ _)
  intro V1 hV1 hcs
  refine gc_retire (Drop1.here _ _ _ _) ?_ (hfl0 _ _)
  intro V2 hV2 hcx
  have hs0 := vle_at9 hV2 (cells_at0 (j := 0) hcs rfl)
  clear hcs
  by_cases h6 : 6 ≤ l.length
  · obtain ⟨k5, hk5, hk5'⟩ := ba_nth (l := l) (k := 5) (i := 5) rfl (by omega)
    have hkl := k5.toNat_lt
    have hK : loadK l = k5.toNat := by unfold loadK; rw [hk5']; rfl
    repeat' (first | (refine k_gw ?_; (first | refine gwg9 ?_ | (refine k_load ?_; (first | refine gwq9 (q_load_v one_9 rfl (vle_at9 vl9 hs0)) ?_ | refine gwq9 (q_loadA_v agg_29 rfl (by assumption) (by exact rfl)) ?_)) | (refine k_call ?_; (first | refine gwq9 (q_slen rfl und_9 rfl) ?_ | refine gwq9 (q_len rfl und_25 rfl) ?_ | (refine gw_callB rfl ⟨Tryz.call12⟩ rfl rep9 rfl (hNew _ vl9) ?_; rintro v V3 B3 hV3 (⟨hn, rfl, rfl⟩ | ⟨hn, p, rfl, hB⟩)))) | (refine k_binOp ?_; (first | refine gwq9 (q_eneq rfl) ?_ | refine gwb9 ?_)) | (refine k_index ?_; (first | refine gwq9 (q_sindex und_9 rfl rfl (by omega) (by assumption)) ?_)) | (refine k_convert ?_; (first | refine gwq9 (q_conv und_5 und_3 rfl (wrap_i64 (by omega))) ?_)) | (refine k_makeInterface ?_; (first | refine gwq9 (q_mkiface und_99 rfl rfl) ?_)) | (refine k_makeFunc ?_; (first | refine gwq9 (q_makeFunc rfl rfl) ?_)))) | (refine k_gl ?_; (first | refine gl_nil rfl ?_ | refine gl_go rfl rfl ?_ | refine gl_yes rfl rfl rfl rfl rfl ?_ | (refine gl_split_p rfl rfl rfl ?_ ?_ <;> intro hq <;> try (exfalso; first | exact hq rfl | omega)))) | (refine k_gc ?_; (first | refine gc_seq ?_ | refine gc_region ?_ | refine gc_cond_f rfl ?_ | (refine gc_cond_p rfl ?_ ?_ <;> intro hq <;> try (exfalso; first | exact hq rfl | omega)) | refine gc_ret ?_ | refine gc_skip ?_ | refine gc_quiet (id := 4) mixed (by kernel_rfl) ?_)) | (refine k_at ?_; (first | refine at_seq ?_ | refine ats9 rfl ?_)))
    · (refine atB_ret2 Tryz.results19 (rv_tmp rfl) (rv_tmp rfl) (List.nil_sublist _) ?_)
      exact .inl ⟨hn, rfl, rfl⟩
    · (refine atB_ret2 Tryz.results19 (rv_tmp rfl) (rv_tmp rfl) (List.nil_sublist _) ?_)
      exact .inr (.inl ⟨hn, fun h9 => by have := h9.1; omega, by rw [errV_pos (show ¬ (17 : Int) = 0 by decide)], rfl⟩)
    have hok := hok9 hn
    generalize newB x.M.us x.M.gs x.c x.q (ls.map LN.n) = bx at *
    have hn0 := fun V9 (h9 : VLe V2 V9) => num_c V9 g5 l (vle_at9 h9 hs0) 0 0 rfl (by omega) hl
    have hn2 := fun V9 (h9 : VLe V2 V9) => num_c V9 g5 l (vle_at9 h9 hs0) 2 2 rfl (by omega) hl
    obtain ⟨k4, hk4, hk4'⟩ := ba_nth (l := l) (k := 4) (i := 4) rfl (by omega)
    have hk4l := k4.toNat_lt
    have h4 : at8 l 4 = (k4.toNat : Int) := by unfold at8; rw [hk4']; rfl
    refine gc_meet (fun F V' L' => ∃ (γ11 : Nat), VLe V3 V' ∧ (⟨γ11, 27, [.int .i64 (at16 l 0), .int .i64 (at16 l 2), .slice none 0 0, .int .i64 (at8 l 4)]⟩ :: B3) = L' ∧ F = [(3, .pointer (some ⟨g3, 0, none⟩)), (5, .pointer (some ⟨g5, 0, none⟩)), (8, .pointer (some ⟨p, 0, none⟩)), (10, .func (.func 56) #[] #[.pointer (some ⟨g5, 0, none⟩)]), (11, .pointer (some ⟨γ11, 0, none⟩))]) ?_ ?_
    · refine gc_held (id := 7) _ mixed (List.Sublist.refl _) ?_; (first | refine gtk9 0 rfl rfl (q_move rfl) ?_); (first | refine gtk9 2 rfl rfl (q_move rfl) ?_); (first | refine gtk9 4 rfl rfl (q_load_v one_9 rfl (vle_at9 vl9 hs0)) ?_); (first | refine gtk9 5 rfl rfl (q_sindex und_9 rfl rfl (by omega) (by assumption)) ?_); (first | refine gtk9 6 rfl rfl (q_conv_e und_5 und_3 rfl (wrap_i64 (by omega)) h4.symm) ?_); (refine gh_two (i := 1) (j := 8) (by kernel_rfl) rfl rfl rfl rfl vl9 vl9 slb9 ?_ ?_ <;> first | ((first | refine gw_q' rfl (q_callv ⟨Tryz.call56⟩ rfl rfl (hn0 _ vl9)) ?_ | refine gw_q' rfl (q_callv ⟨Tryz.call56⟩ rfl rfl (hn2 _ vl9)) ?_); (refine gh_two (i := 3) (j := 8) (by kernel_rfl) rfl rfl rfl rfl vl9 vl9 slb9 ?_ ?_ <;> first | ((first | refine gw_q' rfl (q_callv ⟨Tryz.call56⟩ rfl rfl (hn0 _ vl9)) ?_ | refine gw_q' rfl (q_callv ⟨Tryz.call56⟩ rfl rfl (hn2 _ vl9)) ?_); (first | refine gtk9 7 rfl rfl (q_build bld_27 rfl rfl) ?_); refine gon9 (i := 8) rfl ?_; (first | (refine gw_alloc rfl zer_27 rfl ?_; intro γ)); refine gon9 (i := 9) rfl ?_; (first | refine gw_store rfl siz_27 rfl rfl rfl rfl one9 put9 rfl ?_); refine gh_done (by kernel_rfl) vl9 vl9 slb9 ?_) | ((first | (refine gw_alloc rfl zer_27 rfl ?_; intro γ)); refine gon9 (i := 3) rfl ?_; (first | refine gw_q' rfl (q_callv ⟨Tryz.call56⟩ rfl rfl (hn0 _ vl9)) ?_ | refine gw_q' rfl (q_callv ⟨Tryz.call56⟩ rfl rfl (hn2 _ vl9)) ?_); (first | refine gtk9 7 rfl rfl (q_build bld_27 rfl rfl) ?_); refine gon9 (i := 9) rfl ?_; (first | refine gw_store rfl siz_27 rfl rfl rfl rfl one9 put9 rfl ?_); refine gh_done (by kernel_rfl) vl9 vl9 slb9 ?_))) | ((first | (refine gw_alloc rfl zer_27 rfl ?_; intro γ)); refine gon9 (i := 1) rfl ?_; (first | refine gw_q' rfl (q_callv ⟨Tryz.call56⟩ rfl rfl (hn0 _ vl9)) ?_ | refine gw_q' rfl (q_callv ⟨Tryz.call56⟩ rfl rfl (hn2 _ vl9)) ?_); refine gon9 (i := 3) rfl ?_; (first | refine gw_q' rfl (q_callv ⟨Tryz.call56⟩ rfl rfl (hn0 _ vl9)) ?_ | refine gw_q' rfl (q_callv ⟨Tryz.call56⟩ rfl rfl (hn2 _ vl9)) ?_); (first | refine gtk9 7 rfl rfl (q_build bld_27 rfl rfl) ?_); refine gon9 (i := 9) rfl ?_; (first | refine gw_store rfl siz_27 rfl rfl rfl rfl one9 put9 rfl ?_); refine gh_done (by kernel_rfl) vl9 vl9 slb9 ?_))
      all_goals exact at_meetP _ ⟨_, vl9, rfl, rfl⟩ sub9 sp9
    rintro F V4 L' ⟨γ11, hV4, rfl, rfl⟩
    have hV24 : VLe V2 V4 := vl9
    repeat' (first | (refine k_gw ?_; (first | (refine k_load ?_; (first | refine gwq9 (q_load_v one_9 rfl (vle_at9 vl9 hs0)) ?_)) | refine gwg9 ?_ | (refine k_index ?_; (first | refine gwq9 (q_sindex und_9 rfl rfl (by omega) (by assumption)) ?_)) | (refine k_convert ?_; (first | refine gwq9 (q_conv und_5 und_3 rfl (wrap_i64 (by omega))) ?_)))) | (refine k_gl ?_; (first | refine gl_nil rfl ?_ | refine gl_go rfl rfl ?_)) | (refine k_gc ?_; (first | refine gc_seq ?_ | refine gc_region ?_ | refine gc_block ?_)) | (refine k_at ?_; (first | refine at_seq ?_ | refine ats9 rfl ?_)))
    have hnK := fun V9 (h9 : VLe V4 V9) (k : Nat) (i : Int) (hi : i = ((6 + 2 * k : Nat) : Int)) (h8 : 6 + 2 * k + 1 < l.length) => num_c V9 g5 l (vle_at9 (hV24.trans h9) hs0) (6 + 2 * k) i hi h8 hl
    refine gc_loop (fun F V' L' m => ∃ (k : Nat) (A9 : Option Addr) (c9 : Nat) (Lg : List Box), V4 = V' ∧ (⟨γ11, 27, [.int .i64 (at16 l 0), .int .i64 (at16 l 2), .slice A9 k c9, .int .i64 (at8 l 4)]⟩ :: (Lg ++ B3)) = L' ∧ RowL A9 k c9 3 1 ((loadXs l k).map (.int .i64)) Lg ∧ k ≤ k5.toNat ∧ m = k5.toNat - k ∧ F = [(3, .pointer (some ⟨g3, 0, none⟩)), (5, .pointer (some ⟨g5, 0, none⟩)), (8, .pointer (some ⟨p, 0, none⟩)), (10, .func (.func 56) #[] #[.pointer (some ⟨g5, 0, none⟩)]), (11, .pointer (some ⟨γ11, 0, none⟩)), (48, .int .i64 k5.toNat), (49, .int .i64 (k : Int))]) (m := k5.toNat) ⟨0, none, 0, [], rfl, rfl, RowL.nil, Nat.zero_le _, by omega, rfl⟩ sub9 rfl sl9 ?_
    rintro F V' L' m ⟨k, A9, c9, Lg, rfl, rfl, hr, hk, rfl, rfl⟩
    by_cases hlt : k < k5.toNat
    · have hnk := fun V9 (h9 : VLe V4 V9) => hnK V9 h9 k (6 + 2 * (k : Int)) (by omega) (by omega)
      have hkc := hr.cap
      repeat' (first | (refine k_gw ?_; (first | refine gwg9 ?_ | (refine k_binOp ?_; (first | refine gwq9 (q_eneq rfl) ?_ | refine gwb9 ?_)))) | (refine k_gl ?_; (first | refine gl_nil rfl ?_ | refine gl_go rfl rfl ?_)) | (refine k_gc ?_; (first | refine gc_seq ?_ | refine gc_region ?_ | (refine gc_cond_p rfl ?_ ?_ <;> intro hq <;> try (exfalso; first | exact hq rfl | omega)) | refine gc_block ?_ | refine gc_skip ?_)) | (refine k_at ?_; (first | refine at_seq ?_ | refine ats9 rfl ?_)))
      refine gc_held (id := 11) _ mixed (List.Sublist.cons _ (List.sublist_append_of_sublist_right (List.Sublist.refl _))) ?_; (first | refine gtk9 0 rfl rfl (q_fieldAddr fld_27_2 rfl) ?_); (first | refine gtk9 2 rfl rfl (q_move rfl) ?_); (first | refine gtk9 3 rfl rfl (q_move rfl) ?_); (first | refine gtk9 4 rfl rfl (q_mul rfl rfl (by omega)) ?_); (first | refine gtk9 5 rfl rfl (q_add rfl rfl (by omega)) ?_); (refine gh_two (i := 1) (j := 6) (by kernel_rfl) rfl rfl rfl rfl vl9 vl9 slb9 ?_ ?_ <;> first | ((first | refine gwq9 (q_load_o one_25 rfl own9 (by exact rfl)) ?_ | refine gwq9 (q_load_o one_25 rfl own9 (by assumption)) ?_ | refine gwq9 (q_load_v one_25 rfl (by assumption)) ?_); refine gon9 (i := 6) rfl ?_; (first | refine gw_q' rfl (q_callv ⟨Tryz.call56⟩ rfl rfl (hnk _ vl9)) ?_); refine gon9 (i := 7) rfl ?_; (first | (refine gw_buildSlice rfl und_25 siz_3 zec_3 rfl rfl rfl rfl rfl rfl rfl ?_; intro γ)); refine gon9 (i := 8) rfl ?_; (first | (refine gw_append rfl und_25 inf_3 rfl rfl rfl hr rep9 (src_o own9 rfl) one9 (by omega) rfl rfl ?_; intro A8 c8 L8 hr8)); (first | refine gtk9 9 rfl rfl (q_fieldAddr fld_27_2 rfl) ?_); refine gon9 (i := 10) rfl ?_; (first | refine gw_store rfl siz_25 rfl rfl rfl rfl one9 put9 rfl ?_); refine gh_done (by kernel_rfl) vl9 vl9 slb9 ?_) | ((first | refine gw_q' rfl (q_callv ⟨Tryz.call56⟩ rfl rfl (hnk _ vl9)) ?_); (refine gh_two (i := 1) (j := 7) (by kernel_rfl) rfl rfl rfl rfl vl9 vl9 slb9 ?_ ?_ <;> first | ((first | refine gwq9 (q_load_o one_25 rfl own9 (by exact rfl)) ?_ | refine gwq9 (q_load_o one_25 rfl own9 (by assumption)) ?_ | refine gwq9 (q_load_v one_25 rfl (by assumption)) ?_); refine gon9 (i := 7) rfl ?_; (first | (refine gw_buildSlice rfl und_25 siz_3 zec_3 rfl rfl rfl rfl rfl rfl rfl ?_; intro γ)); refine gon9 (i := 8) rfl ?_; (first | (refine gw_append rfl und_25 inf_3 rfl rfl rfl hr rep9 (src_o own9 rfl) one9 (by omega) rfl rfl ?_; intro A8 c8 L8 hr8)); (first | refine gtk9 9 rfl rfl (q_fieldAddr fld_27_2 rfl) ?_); refine gon9 (i := 10) rfl ?_; (first | refine gw_store rfl siz_25 rfl rfl rfl rfl one9 put9 rfl ?_); refine gh_done (by kernel_rfl) vl9 vl9 slb9 ?_) | ((first | (refine gw_buildSlice rfl und_25 siz_3 zec_3 rfl rfl rfl rfl rfl rfl rfl ?_; intro γ)); refine gon9 (i := 1) rfl ?_; (first | refine gwq9 (q_load_o one_25 rfl own9 (by exact rfl)) ?_ | refine gwq9 (q_load_o one_25 rfl own9 (by assumption)) ?_ | refine gwq9 (q_load_v one_25 rfl (by assumption)) ?_); refine gon9 (i := 8) rfl ?_; (first | (refine gw_append rfl und_25 inf_3 rfl rfl rfl hr rep9 (src_o own9 rfl) one9 (by omega) rfl rfl ?_; intro A8 c8 L8 hr8)); (first | refine gtk9 9 rfl rfl (q_fieldAddr fld_27_2 rfl) ?_); refine gon9 (i := 10) rfl ?_; (first | refine gw_store rfl siz_25 rfl rfl rfl rfl one9 put9 rfl ?_); refine gh_done (by kernel_rfl) vl9 vl9 slb9 ?_))))
      all_goals repeat' (first | (refine k_gw ?_; (first | refine gwg9 ?_ | (refine k_binOp ?_; (first | refine gwq9 (q_eneq rfl) ?_ | refine gwb9 ?_)))) | (refine k_gl ?_; (first | refine gl_nil rfl ?_ | refine gl_go rfl rfl ?_)) | (refine k_gc ?_; (first | refine gc_region ?_)) | (refine k_at ?_; (first | refine at_seq ?_ | refine ats9 rfl ?_)))
      all_goals
        refine at_round _ (k5.toNat - (k + 1)) ⟨k + 1, A8, c8, L8, rfl, rfl, ?_, by omega, rfl, rfl⟩ (by omega) sub9 slc9
        rw [loadXs_succ, List.map_append]; exact hr8
    · obtain rfl : k = k5.toNat := by omega
      have hkc := hr.cap
      have hXs : loadXs l k5.toNat = (loadC l).xs := by rw [← hK]; rfl
      have hlen : (loadXs l k5.toNat).length = k5.toNat := loadXs_len l _
      refine gc_shut hr rep9 ?_ (hfl0 _ _)
      intro V5 hV5 hc5
      have hI : IntsV V5 A9 k5.toNat (loadC l).xs := by rw [← hXs]; exact ints_of_cells hlen (by omega) (by rw [Nat.zero_add, List.nil_append]; exact hc5)
      have hT : loadT l = l.drop (6 + 2 * k5.toNat) := by unfold loadT; rw [hK]
      have htl : (loadT l).length ≤ 100000 := by rw [hT, List.length_drop]; omega
      have hP := fun V9 (h9 : VLe V5 V9) => TParse_c V9 (loadT l) true htl
      have hex : (⟨l.toArray⟩ : ByteArray).extract (6 + 2 * (k5.toNat : Int)).toNat (⟨l.toArray⟩ : ByteArray).size = ⟨(loadT l).toArray⟩ := by rw [hT, show (6 + 2 * (k5.toNat : Int)).toNat = 6 + 2 * k5.toNat by omega]; exact ex_drop l _
      have hV25 : VLe V2 V5 := vl9
      have hV35 : VLe V3 V5 := hV4.trans hV5
      have gq := vle_at9 hV25 (cells_at0 (j := 6) hcx rfl)
      have hC := fun V9 (h9 : VLe V5 V9) => Check_c V9 (at16 l 0) (at16 l 2) (at8 l 4) A9 k5.toNat c9 (loadC l).xs (hI.le h9)
      have hCe : credF (at16 l 0) (at16 l 2) (at8 l 4) (loadC l).xs = credF (loadC l).u (loadC l).g (loadC l).d (loadC l).xs := rfl
      rw [hCe] at hC
      obtain ⟨I, L1, rfl, hW⟩ := hB
      obtain ⟨q, x0, xt, rest, hKq, hx9, rfl, hlen9, hme, hml, hm⟩ := hW.open_ hok
      repeat' (first | (refine k_gw ?_; (first | refine gwg9 ?_ | (refine k_load ?_; (first | refine gwq9 (q_load_v one_9 rfl (vle_at9 vl9 hs0)) ?_ | refine gwq9 (q_load_o one_25 rfl own9 (by exact rfl)) ?_)) | (refine k_call ?_; (first | refine gwq9 (q_slen rfl und_9 rfl) ?_ | refine gwq9 (q_len rfl und_25 rfl) ?_ | (refine gw_call rfl ⟨Tryz.call57⟩ rfl rfl (hP _ vl9) ?_; rintro v V6 hV6 (⟨hob, y, rfl, hyN, hyn⟩ | ⟨hob, rfl⟩)))) | (refine k_binOp ?_; (first | refine gwq9 (q_eneq rfl) ?_ | refine gwb9 ?_)) | (refine k_alloc ?_; (first | (refine gw_alloc rfl zer_27 rfl ?_; intro γ) | (refine gw_alloc rfl zer_50 rfl ?_; intro γ))) | (refine k_store ?_; (first | refine gw_store rfl siz_50 rfl rfl rfl rfl one9 put9 rfl ?_)) | (refine k_fieldAddr ?_; (first | refine gwq9 (q_fieldAddr fld_27_2 rfl) ?_ | refine gwq9 (q_fieldAddr fld_29_2 rfl) ?_ | refine gwq9 (q_fieldAddr fld_90_1 rfl) ?_ | refine gwq9 (q_fieldAddr fld_90_3 rfl) ?_)) | (refine k_slice ?_; (first | refine gwq9 (q_sslice_le und_9 rfl rfl (by omega) hex) ?_ | refine gwq9 (q_sslice_l und_9 rfl rfl (by omega)) ?_ | refine gwq9 (q_sslice_li und_9 rfl rfl (by omega)) ?_)))) | (refine k_gl ?_; (first | refine gl_nil rfl ?_ | refine gl_go rfl rfl ?_)) | (refine k_gc ?_; (first | refine gc_seq ?_ | refine gc_region ?_ | (refine gc_cond_p rfl ?_ ?_ <;> intro hq <;> try (exfalso; first | exact hq rfl | omega)) | refine gc_exit ?_)) | (refine k_at ?_; (first | refine at_seq ?_ | refine ats9 rfl ?_)))
      · have hBl := fun V9 (h9 : VLe V6 V9) => QBlocks_c V9 y (hyN.le h9)
        have hyn9 : y.n = loadN l := hyn
        rw [hyn9] at hBl
        have hgq6 := vle_at9 hV6 gq
        repeat' (first | (refine k_gw ?_; (first | refine gwg9 ?_ | (refine k_load ?_; (first | refine gwq9 (q_load_v one_3 rfl (vle_at9 vl9 gq)) ?_ | refine gwq9 (q_loadA_o agg_27 rfl own9 (by exact rfl)) ?_ | refine gwq9 (q_loadA_o agg_50 rfl own9 (by exact rfl)) ?_)) | (refine k_call ?_; (first | refine gwq9 (q_slen rfl und_9 rfl) ?_ | refine gwq9 (q_len rfl und_25 rfl) ?_ | refine gw_q' rfl (q_call ⟨Tryz.call58⟩ rfl (hC _ vl9)) ?_ | refine gw_q' rfl (q_call ⟨Tryz.call17⟩ rfl (hBl _ vl9)) ?_)) | (refine k_binOp ?_; (first | refine gwq9 (q_eneq rfl) ?_ | refine gwb9 ?_)) | (refine k_makeInterface ?_; (first | refine gwq9 (q_mkiface und_99 rfl rfl) ?_)) | (refine k_store ?_; (first | refine gw_store rfl siz_27 rfl rfl rfl rfl one9 put9 rfl ?_)) | (refine k_fieldAddr ?_; (first | refine gwq9 (q_fieldAddr fld_27_2 rfl) ?_ | refine gwq9 (q_fieldAddr fld_29_2 rfl) ?_ | refine gwq9 (q_fieldAddr fld_90_1 rfl) ?_ | refine gwq9 (q_fieldAddr fld_90_3 rfl) ?_)))) | (refine k_gl ?_; (first | refine gl_nil rfl ?_ | refine gl_go rfl rfl ?_ | refine gl_yes rfl rfl rfl rfl rfl ?_ | refine gl_no rfl rfl rfl rfl rfl rfl rfl ?_ | (refine gl_split_p rfl rfl rfl ?_ ?_ <;> intro hq <;> try (exfalso; first | exact hq rfl | omega)))) | (refine k_gc ?_; (first | refine gc_seq ?_ | refine gc_region ?_ | refine gc_cond_t rfl ?_ | (refine gc_cond_p rfl ?_ ?_ <;> intro hq <;> try (exfalso; first | exact hq rfl | omega)) | refine gc_ret ?_ | refine gc_skip ?_ | refine gc_quiet (id := 14) mixed (by kernel_rfl) ?_)) | (refine k_at ?_; (first | refine at_seq ?_ | refine ats9 rfl ?_)))
        · (refine atB_ret2 Tryz.results19 (rv_tmp rfl) (rv_tmp rfl) (List.nil_sublist _) ?_)
          exact .inr (.inl ⟨hn, fun h9 => hq h9.2.2.2.1, by rw [errV_pos (show ¬ (17 : Int) = 0 by decide)], rfl⟩)
        · (refine atB_ret2 Tryz.results19 (rv_tmp rfl) (rv_tmp rfl) (List.nil_sublist _) ?_)
          exact .inr (.inl ⟨hn, fun h9 => by have := h9.2.2.2.2; omega, by rw [errV_pos (show ¬ (17 : Int) = 0 by decide)], rfl⟩)
        · refine gc_held (id := 17) _ mixed (List.Sublist.cons_cons _ (List.Sublist.cons_cons _ (List.Sublist.cons_cons _ (List.nil_sublist _)))) ?_; (first | refine gtk9 0 rfl rfl (q_move rfl) ?_); (first | refine gtk9 1 rfl rfl (q_nilCheck_p rfl) ?_); (first | refine gtk9 2 rfl rfl (q_fieldAddr fld_90_3 rfl) ?_); (first | refine gtk9 3 rfl rfl (q_load_o one_30 rfl own9 (by exact rfl)) ?_); (first | refine gtk9 4 rfl rfl (q_loadA_o agg_50 rfl own9 (by exact rfl)) ?_); (first | refine gtk9 5 rfl rfl (q_indexAddr_e (k := 0) und_30 siz_50 rfl hKq rfl hm) ?_); refine gon9 (i := 6) rfl ?_; (first | refine gw_store rfl siz_50 rfl rfl rfl rfl one9 put9 rfl ?_); refine gh_done (by kernel_rfl) vl9 vl9 slb9 ?_
          all_goals
            repeat' (first | (refine k_gw ?_; (first | refine gwg9 ?_)) | (refine k_gl ?_; (first | refine gl_nil rfl ?_ | refine gl_go rfl rfl ?_)) | (refine k_gc ?_; (first | refine gc_seq ?_ | refine gc_region ?_ | refine gc_ret ?_)) | (refine k_at ?_; (first | refine at_seq ?_ | refine ats9 rfl ?_)))
            (refine atB_ret2 Tryz.results19 (rv_tmp rfl) (rv_tmp rfl) (List.Sublist.cons _ (List.Sublist.cons _ (List.Sublist.refl _))) ?_)
            refine .inr (.inr ⟨hn, ⟨by omega, h6, hob, by first | assumption | exact Decidable.not_not.1 (by assumption) | omega, by omega⟩, p, by rw [errV_zero], { I with A := A9, n := k5.toNat, k := c9, xs := y :: xt }, _, rfl, hW.M.le vl9, hW.us, hW.gs, hI.le vl9, trivial, ?_, ?_, ?_, ?_⟩)
            · show RowL I.K I.m I.e _ 8 _ _
              rw [hKq]
              exact RowL.close (f := lnC) ln_len (by rw [← hW.len, hx9]; rfl) (show ((y :: xt).flatMap lnC ++ rest).length = I.e * 8 by rw [← hlen9]; simp) hme hml
            · intro z hz
              rcases List.mem_cons.1 hz with rfl | hz
              · exact hyN.le vl9
              · exact (hW.ls z (by rw [hx9]; exact List.mem_cons_of_mem _ hz)).le vl9
            · show (y :: xt).length = I.m
              rw [← hW.len, hx9]; rfl
            · show y.n :: xt.map LN.n = loadN l :: bx.ls.tail
              rw [← hW.eq, hx9, hyn9]; rfl
      · repeat' (first | (refine k_gw ?_; (first | refine gwg9 ?_ | (refine k_binOp ?_; (first | refine gwq9 (q_eneq rfl) ?_ | refine gwb9 ?_)) | (refine k_makeInterface ?_; (first | refine gwq9 (q_mkiface und_99 rfl rfl) ?_)))) | (refine k_gl ?_; (first | refine gl_nil rfl ?_ | refine gl_go rfl rfl ?_ | refine gl_no rfl rfl rfl rfl rfl rfl rfl ?_)) | (refine k_gc ?_; (first | refine gc_seq ?_ | refine gc_region ?_ | refine gc_cond_t rfl ?_ | refine gc_ret ?_ | refine gc_quiet (id := 14) mixed (by kernel_rfl) ?_)) | (refine k_at ?_; (first | refine at_seq ?_ | refine ats9 rfl ?_)))
        (refine atB_ret2 Tryz.results19 (rv_tmp rfl) (rv_tmp rfl) (List.nil_sublist _) ?_)
        exact .inr (.inl ⟨hn, fun h9 => by have h8 := h9.2.2.1; rw [hob] at h8; exact absurd h8 (by decide), by rw [errV_pos (show ¬ (17 : Int) = 0 by decide)], rfl⟩)
  · repeat' (first | (refine k_gw ?_; (first | refine gwg9 ?_ | (refine k_load ?_; (first | refine gwq9 (q_load_v one_9 rfl (vle_at9 vl9 hs0)) ?_ | refine gwq9 (q_loadA_v agg_29 rfl (by assumption) (by exact rfl)) ?_)) | (refine k_call ?_; (first | refine gwq9 (q_slen rfl und_9 rfl) ?_ | refine gwq9 (q_len rfl und_25 rfl) ?_ | (refine gw_callB rfl ⟨Tryz.call12⟩ rfl rep9 rfl (hNew _ vl9) ?_; rintro v V3 B3 hV3 (⟨hn, rfl, rfl⟩ | ⟨hn, p, rfl, hB⟩)))) | (refine k_binOp ?_; (first | refine gwq9 (q_eneq rfl) ?_ | refine gwb9 ?_)) | (refine k_makeInterface ?_; (first | refine gwq9 (q_mkiface und_99 rfl rfl) ?_)))) | (refine k_gl ?_; (first | refine gl_nil rfl ?_ | refine gl_go rfl rfl ?_ | refine gl_no rfl rfl rfl rfl rfl rfl rfl ?_ | (refine gl_split_p rfl rfl rfl ?_ ?_ <;> intro hq <;> try (exfalso; first | exact hq rfl | omega)))) | (refine k_gc ?_; (first | refine gc_seq ?_ | refine gc_region ?_ | refine gc_cond_t rfl ?_ | refine gc_cond_f rfl ?_ | (refine gc_cond_p rfl ?_ ?_ <;> intro hq <;> try (exfalso; first | exact hq rfl | omega)) | refine gc_ret ?_ | refine gc_skip ?_ | refine gc_quiet (id := 4) mixed (by kernel_rfl) ?_)) | (refine k_at ?_; (first | refine at_seq ?_ | refine ats9 rfl ?_)))
    · (refine atB_ret2 Tryz.results19 (rv_tmp rfl) (rv_tmp rfl) (List.nil_sublist _) ?_)
      exact .inl ⟨hn, rfl, rfl⟩
    · (refine atB_ret2 Tryz.results19 (rv_tmp rfl) (rv_tmp rfl) (List.nil_sublist _) ?_)
      exact .inr (.inl ⟨hn, fun h9 => by have := h9.2.1; omega, by rw [errV_pos (show ¬ (17 : Int) = 0 by decide)], rfl⟩)
end
section
attribute [local irreducible] AtQ GoC GoL GoW QO QP Fn RV OwnAt CellsFrom VLe SrcIs errV
set_option maxRecDepth 100000
theorem is_c (V : View) (e f : Int) (he : 0 ≤ e ∧ e ≤ 1000) : Fn Tryz.prog 21 [errV e, .int .i64 f] V fun v _ => v = .bool (decide (e = f)) := by
  by_cases h0 : e = 0
  · subst h0
    (refine fn_enter Tryz.func21 rfl Tryz.ntmps21 rfl ?_; intro w0)
    repeat' (first | (refine k_gw ?_; (first | refine gwg9 ?_ | (refine k_binOp ?_; (first | refine gwq9 (q_eeql rfl) ?_ | refine gwb9 ?_)))) | (refine k_gl ?_; (first | refine gl_nil rfl ?_ | refine gl_go rfl rfl ?_ | refine gl_yes rfl rfl rfl rfl rfl ?_ | refine gl_no rfl rfl rfl rfl rfl rfl rfl ?_ | refine gl_nou rfl rfl rfl rfl rfl rfl ?_ | (refine gl_split_p rfl rfl rfl ?_ ?_ <;> intro hq <;> try (exfalso; first | exact hq rfl | omega)) | (refine gl_split_b rfl rfl rfl ?_ ?_ <;> intro hq))) | (refine k_gc ?_; (first | refine gc_seq ?_ | refine gc_region ?_ | refine gc_cond_t rfl ?_ | refine gc_cond_f rfl ?_ | (refine gc_cond_p rfl ?_ ?_ <;> intro hq <;> try (exfalso; first | exact hq rfl | omega)) | (refine gc_cond_b rfl ?_ ?_ <;> intro hq) | refine gc_block ?_ | refine gc_exit ?_ | refine gc_ret ?_ | refine gc_skip ?_)) | (refine k_at ?_; (first | refine at_seq ?_ | refine ats9 rfl ?_)))
    all_goals (refine at_ret1 Tryz.results21 (rv_tmp rfl) ?_)
    all_goals simp_all [eq_comm]
  · rw [errV_pos h0]
    have hnn := run_eql_err e
    rw [errV_pos h0] at hnn
    have hng := fun x => guard_eql_err x e
    rw [errV_pos h0] at hng
    (refine fn_enter Tryz.func21 rfl Tryz.ntmps21 rfl ?_; intro w0)
    repeat' (first | (refine k_gw ?_; (first | refine gwg9 ?_ | (refine k_binOp ?_; (first | refine gwq9 (q_eeql rfl) ?_ | refine gwb9 ?_)) | refine gwq9 (q_assert rfl) ?_ | refine gwq9 (q_bin (y := .const .nilIface) rfl rfl (hng _) hnn) ?_)) | (refine k_gl ?_; (first | refine gl_nil rfl ?_ | refine gl_go rfl rfl ?_ | refine gl_yes rfl rfl rfl rfl rfl ?_ | refine gl_no rfl rfl rfl rfl rfl rfl rfl ?_ | (refine gl_split_p rfl rfl rfl ?_ ?_ <;> intro hq <;> try (exfalso; first | exact hq rfl | omega)))) | (refine k_gc ?_; (first | refine gc_seq ?_ | refine gc_region ?_ | (refine gc_cond_p rfl ?_ ?_ <;> intro hq <;> try (exfalso; first | exact hq rfl | omega)) | refine gc_ret ?_ | refine gc_skip ?_)) | (refine k_at ?_; (first | refine at_seq ?_ | refine ats9 rfl ?_)))
    all_goals first | (exfalso; omega) | skip
    all_goals (refine at_ret1 Tryz.results21 (rv_tmp rfl) ?_)
    all_goals (simp [*]; try omega)
end
section
theorem ptr_box9 : PtrIs Tryz.prog 35 := ⟨by kernel_rfl⟩
attribute [local irreducible] AtQ GoC GoL GoW QO QP Fn RV OwnAt CellsFrom VLe SrcIs errV
set_option maxRecDepth 100000
theorem code_c (V : View) (e : Int) (he : 0 ≤ e ∧ e ≤ 17) : Fn Tryz.prog 20 [errV e] V fun v _ => v = .int .i64 e := by
  have hI := fun (k : Nat) => is_c V e (k : Int) ⟨he.1, by omega⟩
  (refine fn_enter Tryz.func20 rfl Tryz.ntmps20 rfl ?_; intro w0)
  repeat' (first | (refine k_gw ?_; (first | refine gwg9 ?_ | (refine k_binOp ?_; refine gwb9 ?_))) | (refine k_gl ?_; (first | refine gl_nil rfl ?_ | refine gl_go rfl rfl ?_ | refine gl_yes rfl rfl rfl rfl rfl ?_ | refine gl_no rfl rfl rfl rfl rfl rfl rfl ?_ | refine gl_nou rfl rfl rfl rfl rfl rfl ?_ | (refine gl_split_p rfl rfl rfl ?_ ?_ <;> intro hq <;> try (exfalso; first | exact hq rfl | omega)) | (refine gl_split_b rfl rfl rfl ?_ ?_ <;> intro hq))) | (refine k_gc ?_; (first | refine gc_seq ?_ | refine gc_region ?_ | refine gc_cond_t rfl ?_ | refine gc_cond_f rfl ?_ | (refine gc_cond_p rfl ?_ ?_ <;> intro hq <;> try (exfalso; first | exact hq rfl | omega)) | (refine gc_cond_b rfl ?_ ?_ <;> intro hq) | refine gc_block ?_ | refine gc_exit ?_ | refine gc_ret ?_ | refine gc_skip ?_)) | (refine k_at ?_; (first | refine at_seq ?_ | refine ats9 rfl ?_)))
  refine gc_loop (fun F V' L' m => ∃ k : Nat, V = V' ∧ [] = L' ∧ (k : Int) ≤ e ∧ m = 18 - k ∧ F = [(0, errV e), (3, .int .i64 (k : Int))]) (m := 18) ⟨0, rfl, rfl, by omega, by omega, rfl⟩ sub9 rfl sl9 ?_
  rintro F V' L' m ⟨k, rfl, rfl, hk, rfl, rfl⟩
  have hI := hI k
  by_cases hek : e = (k : Int)
  · rw [decide_eq_true hek] at hI
    repeat' (first | (refine k_gw ?_; (first | refine gwg9 ?_ | (refine k_binOp ?_; refine gwb9 ?_) | (refine k_call ?_; (first | refine gw_q' rfl (q_call ⟨Tryz.call21⟩ rfl (hI)) ?_)))) | (refine k_gl ?_; (first | refine gl_nil rfl ?_ | refine gl_go rfl rfl ?_ | refine gl_yes rfl rfl rfl rfl rfl ?_ | refine gl_no rfl rfl rfl rfl rfl rfl rfl ?_ | refine gl_nou rfl rfl rfl rfl rfl rfl ?_ | (refine gl_split_p rfl rfl rfl ?_ ?_ <;> intro hq <;> try (exfalso; first | exact hq rfl | omega)) | (refine gl_split_b rfl rfl rfl ?_ ?_ <;> intro hq))) | (refine k_gc ?_; (first | refine gc_seq ?_ | refine gc_region ?_ | refine gc_cond_t rfl ?_ | refine gc_cond_f rfl ?_ | (refine gc_cond_p rfl ?_ ?_ <;> intro hq <;> try (exfalso; first | exact hq rfl | omega)) | (refine gc_cond_b rfl ?_ ?_ <;> intro hq) | refine gc_block ?_ | refine gc_exit ?_ | refine gc_ret ?_ | refine gc_skip ?_)) | (refine k_at ?_; (first | refine at_seq ?_ | refine ats9 rfl ?_)))
    all_goals first
      | (exfalso; omega)
      | ((refine at_ret1 Tryz.results20 (rv_tmp rfl) ?_); rw [hek])
  · rw [decide_eq_false hek] at hI
    repeat' (first | (refine k_gw ?_; (first | refine gwg9 ?_ | (refine k_binOp ?_; refine gwb9 ?_) | (refine k_call ?_; (first | refine gw_q' rfl (q_call ⟨Tryz.call21⟩ rfl (hI)) ?_)))) | (refine k_gl ?_; (first | refine gl_nil rfl ?_ | refine gl_go rfl rfl ?_ | refine gl_yes rfl rfl rfl rfl rfl ?_ | refine gl_no rfl rfl rfl rfl rfl rfl rfl ?_ | refine gl_nou rfl rfl rfl rfl rfl rfl ?_ | (refine gl_split_p rfl rfl rfl ?_ ?_ <;> intro hq <;> try (exfalso; first | exact hq rfl | omega)) | (refine gl_split_b rfl rfl rfl ?_ ?_ <;> intro hq))) | (refine k_gc ?_; (first | refine gc_seq ?_ | refine gc_region ?_ | refine gc_cond_t rfl ?_ | refine gc_cond_f rfl ?_ | (refine gc_cond_p rfl ?_ ?_ <;> intro hq <;> try (exfalso; first | exact hq rfl | omega)) | (refine gc_cond_b rfl ?_ ?_ <;> intro hq) | refine gc_block ?_ | refine gc_exit ?_ | refine gc_ret ?_ | refine gc_skip ?_)) | (refine k_at ?_; (first | refine at_seq ?_ | refine ats9 rfl ?_)))
    all_goals first
      | (exfalso; omega)
      | (refine at_round _ (18 - (k + 1)) ⟨k + 1, rfl, rfl, by omega, rfl, rfl⟩ (by omega) sub9 sl9)
theorem FnB.mono9 {P : Program} {f : FuncId} {args : List Value} {V : View} {Bs : List Box} {R R' : Value → View → List Box → Prop} (h : FnB P f args V Bs R) (hr : ∀ v V' Bs', R v V' Bs' → R' v V' Bs') : FnB P f args V Bs R' := fun w hs =>
  (h w hs).mono fun _ _ ⟨v, V', Bs', he, hst, hR⟩ => ⟨v, V', Bs', he, hst, hr v V' Bs' hR⟩
theorem Bytes_q {V : View} {p : Nat} {b : BX} {Bs : List Box} (hok : BoxOk b) (h : BoxB V p b Bs) : FnB Tryz.prog 18 [.pointer (some ⟨p, 0, none⟩)] V Bs fun v V' Bs' => v = .string ⟨(boxL b).toArray⟩ ∧ Bs' = Bs :=
  (Bytes_b hok h).mono9 fun _ _ _ h => ⟨h.2, h.1⟩
theorem BoxOk.rich {b : BX} (h : BoxOk b) : BoxOk (richB b) := ⟨h.c, ⟨by show (1 : Int) ≤ 64; decide, by show (64 : Int) ≤ 64; decide⟩, h.l1, h.l4, h.up, h.lo⟩
theorem box_few {b : BX} (h : BoxOk b) : (boxL b).length ≤ 100000 := by
  have h1 := (treeF_fit h.up0).2
  have h2 := (credF_zero h.c).2.2.2.1
  have h3 := flat16_len b.c.xs
  rw [boxL_eq]
  simp only [List.length_cons, List.length_append]
  unfold bytesP
  rw [if_pos h.up0]
  omega
/-- With all the quota, what a box wrote is loaded as that box. -/
theorem Load_rich {x : CF} {ls : List LN} {b : BX} (hcf : cfgF x (ls.map LN.n) = 0) (hI : InB x (ls.map LN.n) b) (V : View) (hx : CfV V x) (A : Option Addr) (n c : Nat) (h : NodesV V A n ls) : FnB Tryz.prog 19 [cfV { x with q := 64 }, .slice A n c, .string ⟨(boxL b).toArray⟩] V [] fun v V' Bs' => ∃ p, v = .tuple #[.pointer (some ⟨p, 0, none⟩), errV 0] ∧ BoxB V' p (richB b) Bs' := by
  have hL := Load_bx V { x with q := 64 } ⟨hx.M, hx.xs, hx.lo⟩ A n c ls h (boxL b) (box_few hI.ok)
  refine hL.mono9 fun v V' Bs' h9 => ?_
  have hq := hI.ok.q
  rcases h9 with ⟨h1, _⟩ | ⟨_, h2, _⟩ | ⟨_, _, p, h3, h4⟩
  · exact absurd (cfgF_rich hcf) h1
  · exact absurd (loadOk_of hI.ok (by have := hI.room; show _ ≤ (64 : Int); omega)) h2
  · refine ⟨p, h3, ?_⟩
    have e : loadB (newB x.M.us x.M.gs x.c 64 (ls.map LN.n)) (boxL b) = richB b := load_rich hI.ok hI.us hI.gs hI.tl
    rw [← e]; exact h4
theorem DoR.inv {p : Nat} {b : BX} {t : TD} {e : Int} {v : Value} {V : View} {Bs : List Box} (h : DoR p (b, t, e) v V Bs) : ∃ (A : Option Addr) (n c : Nat), v = .tuple #[tdV t A n c, errV e] ∧ StrsV V A n t.names ∧ n ≤ c ∧ BoxB V p b Bs := by
  obtain ⟨⟨A, n, c, h1, h2, h3⟩, h4⟩ := h
  exact ⟨A, n, c, h1, h2, h3, h4⟩
attribute [local irreducible] FnB BoxB ToldR DoR
set_option maxRecDepth 100000 in
set_option maxHeartbeats 40000000 in
theorem TopQuota_c (V : View) (x : CF) (hx : CfV V x) (A : Option Addr) (n c : Nat) (ls : List LN) (h : NodesV V A n ls) (hnc : n ≤ c) (B : Option Addr) (m e : Nat) (xs : List CL) (hc : ElsV V 7 clC B m xs) : Fn Tryz.prog 4 [cfV x, .slice A n c, .slice B m e] V fun v _ => v = .bool true := by
  have hNew := fun V2 (hV2 : VLe V V2) => New_bx V2 x (hx.le hV2) A n c ls (h.le hV2)
  have hin := fun h9 => InB.new (x := x) (ls := ls.map LN.n) h9
  have hmx := hc.max
  have hcl := hc.1
  have hL := fun V2 (hV2 : VLe V V2) => Lights_c V2 A n c ls (h.le hV2)
  have hLC := fun V2 (hV2 : VLe V V2) => LightCalls_c V2 B m e xs (hc.le hV2)
  have hLd := fun (hcf : cfgF x (ls.map LN.n) = 0) (b : BX) (hI : InB x (ls.map LN.n) b) (V2 : View) (hV2 : VLe V V2) => Load_rich hcf hI V2 (hx.le hV2) A n c (h.le hV2)
  generalize cfgF x (ls.map LN.n) = cf at *
  generalize newB x.M.us x.M.gs x.c x.q (ls.map LN.n) = bx at *
  (refine fn_enter Tryz.func4 rfl Tryz.ntmps4 rfl ?_; intro w0)
  repeat' (first | (refine k_gw ?_; (first | (refine k_box ?_; (first | (refine gw_box rfl rfl rfl rfl ?_; intro γ))) | refine gwg9 ?_)) | (refine k_gl ?_; (first | refine gl_nil rfl ?_ | refine gl_go rfl rfl ?_)) | (refine k_gc ?_; (first | refine gc_seq ?_ | refine gc_region (id := 0) ?_)) | (refine k_at ?_; (first | refine at_seq ?_ | refine ats9 rfl ?_)))
  obtain ⟨g3, rfl⟩ : ∃ g3, g3 = γ := ⟨γ, rfl⟩
  repeat' (first | (refine k_gw ?_; (first | refine gwg9 ?_ | (refine k_load ?_; (first | refine gwq9 (q_loadA_o agg_29 rfl own9 (by exact rfl)) ?_)) | (refine k_call ?_; (first | (refine gw_call rfl ⟨Tryz.call9⟩ rfl rfl (LightConfig_c _ x) ?_; rintro v V1 hV1 ⟨b1, rfl⟩) | (refine gw_call rfl ⟨Tryz.call10⟩ rfl rfl (hL _ vl9) ?_; rintro v V1 hV1 ⟨b2, rfl, hb2⟩) | (refine gw_call rfl ⟨Tryz.call11⟩ rfl rfl (hLC _ vl9) ?_; rintro v V1 hV1 ⟨b3, rfl, hb3⟩) | (refine gw_callB rfl ⟨Tryz.call12⟩ rfl rep9 rfl (hNew _ vl9) ?_; rintro v V3 B3 hV3 (⟨hn, rfl, rfl⟩ | ⟨hn, p, rfl, hB⟩)))) | (refine k_binOp ?_; (first | refine gwq9 (q_pnil_eql ptr_box9 rfl) ?_ | refine gwq9 (q_eneq rfl) ?_)) | (refine k_alloc ?_; (first | (refine gw_alloc rfl zer_29 rfl ?_; intro γ) | (refine gw_alloc rfl zer_42 rfl ?_; intro γ))) | (refine k_store ?_; (first | refine gw_store rfl siz_29 rfl rfl rfl rfl one9 put9 rfl ?_ | refine gw_store rfl siz_3 rfl rfl rfl rfl one9 put9 rfl ?_)) | (refine k_fieldAddr ?_; (first | refine gwq9 (q_fieldAddr fld_29_2 rfl) ?_)))) | (refine k_gl ?_; (first | refine gl_nil rfl ?_ | refine gl_go rfl rfl ?_ | refine gl_yes rfl rfl rfl rfl rfl ?_ | refine gl_no rfl rfl rfl rfl rfl rfl rfl ?_ | (refine gl_split_b rfl rfl rfl ?_ ?_ <;> intro hq))) | (refine k_gc ?_; (first | refine gc_seq ?_ | refine gc_region ?_ | refine gc_cond_t rfl ?_ | refine gc_cond_f rfl ?_ | (refine gc_cond_p rfl ?_ ?_ <;> intro hq <;> try (exfalso; first | exact hq rfl | omega)) | (refine gc_cond_b rfl ?_ ?_ <;> intro hq) | refine gc_block ?_ | refine gc_ret ?_ | refine gc_skip ?_)) | (refine k_at ?_; (first | refine at_seq ?_ | refine ats9 rfl ?_)))
  · (refine at_ret1 Tryz.results4 (rv_tmp rfl) ?_)
    rfl
  · (refine at_ret1 Tryz.results4 (rv_tmp rfl) ?_)
    rfl
  · (refine at_ret1 Tryz.results4 (rv_tmp rfl) ?_)
    rfl
  · (refine at_ret1 Tryz.results4 (rv_tmp rfl) ?_)
    rfl
  obtain ⟨g9, rfl⟩ : ∃ g9, g9 = γ := ⟨γ, rfl⟩
  have hb3t : b3 = true := by simpa using hq
  have hlt3 := hb3 hb3t
  have hV03 : VLe V V3 := vl9
  clear hb3 hL hLC hNew
  refine gc_loop (fun F V' L' m' => ∃ (k : Nat) (b : BX) (Bs : List Box), VLe V3 V' ∧ ⟨g9, 29, cfC { x with q := 64 }⟩ :: ⟨g3, 29, cfC x⟩ :: Bs = L' ∧ BoxB V' p b Bs ∧ InB x (ls.map LN.n) b ∧ k ≤ m ∧ m' = m - k ∧ F = [(1, .slice A n c), (2, .slice B m e), (3, .pointer (some ⟨g3, 0, none⟩)), (7, .pointer (some ⟨p, 0, none⟩)), (9, .pointer (some ⟨g9, 0, none⟩)), (10, .int .i64 (k : Int))]) (m := m) ⟨0, bx, B3, VLe.refl _, rfl, hB, hin hn, Nat.zero_le _, by omega, rfl⟩ sub9 rfl sl9 ?_
  clear hin hB
  rintro F V' L' m' ⟨k, b, Bs, hV', rfl, hB, hI, hkm, rfl, rfl⟩
  by_cases hlt : k < m
  · have hok := hI.ok
    have hokr := hok.rich
    obtain ⟨bb, off, y, rfl, hy, hcy⟩ := ((hc.le hV03).le hV').at_ hlt
    have hcl9 := (hlt3.2 y (List.mem_of_getElem? hy)).ok
    have hLb := fun V2 (hV2 : VLe V' V2) => hLd hn b hI V2 ((hV03.trans hV').trans hV2)
    have hD1 := fun V2 (hV2 : VLe V' V2) => Do_c V2 p b Bs hok (hB.le hV2) y hcl9
    have g1 := good_do hok y
    have g2 := good_do hokr y
    have hQ := qt_do hok.q.2 hI.room y
    have hI2 := hI.step y
    have hD2 := fun (p2 : Nat) (B4 : List Box) (V2 : View) (hX : BoxB V2 p2 (richB b) B4) => Do_c V2 p2 (richB b) B4 hokr hX y hcl9
    generalize doP b y = r at *
    generalize doP (richB b) y = r' at *
    obtain ⟨rb, rt, re⟩ := r
    obtain ⟨rb', rt', re'⟩ := r'
    obtain ⟨hQ, hrt⟩ := hQ
    replace hrt : rt' = rt := hrt
    subst hrt
    have q1 : ¬ re = 0 → rb = b := hQ.bad
    have q2 : ¬ re' = 0 → re = re' := hQ.same
    have q3 : re' = 0 → b.q < blocksP (upB rb') → re = 12 := hQ.over
    have q4 : re' = 0 → blocksP (upB rb') ≤ b.q → re = 0 ∧ rb' = richB rb := hQ.fits
    have e1 : 0 ≤ re ∧ re ≤ 17 := ⟨g1.lo, g1.hi⟩
    have okr : BoxOk rb := g1.ok
    have okr' : BoxOk rb' := g2.ok
    replace hI2 : InB x (ls.map LN.n) rb := hI2
    have hxq : b.q = x.q := hI.q
    clear hQ g1 g2 hLd
    by_cases hre : re' = 0
    · subst hre
      by_cases hov : b.q < blocksP (upB rb')
      · obtain rfl := q3 rfl hov
        obtain rfl := q1 (by decide)
        rw [hxq] at hov
        repeat' (first | (refine k_gw ?_; (first | refine gwg9 ?_ | (refine k_load ?_; (first | refine gwq9 (q_loadA_v agg_46 rfl (hcy.le vl9) (by exact rfl)) ?_ | refine gwq9 (q_loadA_o agg_29 rfl own9 (by exact rfl)) ?_)) | (refine k_call ?_; (first | refine gwq9 (q_len rfl und_31 rfl) ?_ | refine gw_q' rfl (q_callB ⟨Tryz.call18⟩ rfl rep9 (Bytes_q hok hB)) ?_ | (refine gw_callB rfl ⟨Tryz.call19⟩ rfl repl_nil rfl (hLb _ vl9) ?_; rintro v V4 B4 hV4 ⟨p2, rfl, hX⟩) | (refine gw_callB rfl ⟨Tryz.call13⟩ rfl rep9 rfl (hD1 _ vl9) ?_; rintro v V5 B5 hV5 hR5; obtain ⟨A5, n5, c5, rfl, hS5, hnc5, hB5⟩ := DoR.inv hR5) | (refine gw_callB rfl ⟨Tryz.call13⟩ rfl rep9 rfl (hD2 p2 B4 _ (hX.le vl9)) ?_; rintro v V6 B6 hV6 hR6; obtain ⟨A6, n6, c6, rfl, hS6, hnc6, hB6⟩ := DoR.inv hR6) | refine gw_q' rfl (q_callB ⟨Tryz.call18⟩ rfl rep9 (Bytes_q hok (hB5.le vl9))) ?_)) | (refine k_binOp ?_; (first | refine gwq9 (q_pnil_eql ptr_box9 rfl) ?_ | refine gwq9 (q_eneq rfl) ?_ | refine gwq9 (q_lss rfl rfl) ?_ | refine gwq9 (q_sneq rfl rfl) ?_)) | (refine k_alloc ?_; (first | (refine gw_alloc rfl zer_29 rfl ?_; intro γ) | (refine gw_alloc rfl zer_42 rfl ?_; intro γ))) | (refine k_store ?_; (first | refine gw_store rfl siz_42 rfl rfl rfl rfl one9 put9 rfl ?_)) | (refine k_indexAddr ?_; (first | refine gwq9 (q_indexAddr und_31 siz_46 rfl rfl (by omega)) ?_)))) | (refine k_gl ?_; (first | refine gl_nil rfl ?_ | refine gl_go rfl rfl ?_ | refine gl_yes rfl rfl rfl rfl rfl ?_)) | (refine k_gc ?_; (first | refine gc_seq ?_ | refine gc_region ?_ | refine gc_cond_f rfl ?_ | (refine gc_cond_p rfl ?_ ?_ <;> intro hq <;> try (exfalso; first | exact hq rfl | omega)) | refine gc_block ?_ | refine gc_skip ?_)) | (refine k_at ?_; (first | refine at_seq ?_ | refine ats9 rfl ?_)))
        refine gc_held (id := 24) _ mixed (List.Sublist.refl _) ?_; (first | refine gtk9 0 rfl rfl (q_move rfl) ?_); (first | refine gtk9 3 rfl rfl (q_fieldAddr fld_29_2 rfl) ?_); (first | refine gtk9 4 rfl rfl (q_load_o one_3 rfl own9 (by exact rfl)) ?_); refine gon9 (i := 1) rfl ?_; (first | (refine gw_callB rfl ⟨Tryz.call14⟩ rfl rep9 rfl (Upper_b okr' (hB6.le vl9)) ?_; rintro v V7 B7 hV7 hU; obtain ⟨rfl, yu, rfl, hyN, hyn⟩ := hU) | refine gw_q' rfl (q_call ⟨Tryz.call17⟩ rfl (QBlocks_c _ yu (hyN.le vl9))) ?_); refine gon9 (i := 2) rfl ?_; (first | (refine gw_callB rfl ⟨Tryz.call14⟩ rfl rep9 rfl (Upper_b okr' (hB6.le vl9)) ?_; rintro v V7 B7 hV7 hU; obtain ⟨rfl, yu, rfl, hyN, hyn⟩ := hU) | refine gw_q' rfl (q_call ⟨Tryz.call17⟩ rfl (QBlocks_c _ yu (hyN.le vl9))) ?_); (first | refine gtk9 5 rfl rfl (q_gtr rfl rfl) ?_); refine gh_done (by kernel_rfl) vl9 vl9 slb9 ?_
        all_goals
          have hyb : yu.n = upB rb' := hyn
          rw [← hyb] at hov
          repeat' (first | (refine k_gw ?_; (first | refine gwg9 ?_ | (refine k_call ?_; (first | refine gwq9 (q_len rfl und_31 rfl) ?_ | refine gw_q' rfl (q_call ⟨Tryz.call21⟩ rfl (is_c _ 12 12 (by decide))) ?_)) | (refine k_binOp ?_; refine gwb9 ?_))) | (refine k_gl ?_; (first | refine gl_nil rfl ?_ | refine gl_go rfl rfl ?_)) | (refine k_gc ?_; (first | refine gc_seq ?_ | refine gc_region ?_ | refine gc_cond_f rfl ?_ | (refine gc_cond_p rfl ?_ ?_ <;> intro hq <;> try (exfalso; first | exact hq rfl | omega)) | refine gc_exit ?_ | refine gc_skip ?_)) | (refine k_at ?_; (first | refine at_seq ?_ | refine ats9 rfl ?_)))
        all_goals first
          | (exfalso; omega)
          | refine at_round _ (m - (k + 1)) ⟨k + 1, rb, B5, vl9, rfl, hB5.le vl9, hI2, by omega, rfl, rfl⟩ (by omega) sub9 slb9
      · obtain ⟨rfl, rfl⟩ := q4 rfl (by omega)
        repeat' (first | (refine k_gw ?_; (first | refine gwg9 ?_ | (refine k_load ?_; (first | refine gwq9 (q_loadA_v agg_46 rfl (hcy.le vl9) (by exact rfl)) ?_ | refine gwq9 (q_loadA_o agg_29 rfl own9 (by exact rfl)) ?_)) | (refine k_call ?_; (first | refine gwq9 (q_len rfl und_31 rfl) ?_ | refine gw_q' rfl (q_callB ⟨Tryz.call18⟩ rfl rep9 (Bytes_q hok hB)) ?_ | (refine gw_callB rfl ⟨Tryz.call19⟩ rfl repl_nil rfl (hLb _ vl9) ?_; rintro v V4 B4 hV4 ⟨p2, rfl, hX⟩) | (refine gw_callB rfl ⟨Tryz.call13⟩ rfl rep9 rfl (hD1 _ vl9) ?_; rintro v V5 B5 hV5 hR5; obtain ⟨A5, n5, c5, rfl, hS5, hnc5, hB5⟩ := DoR.inv hR5) | (refine gw_callB rfl ⟨Tryz.call13⟩ rfl rep9 rfl (hD2 p2 B4 _ (hX.le vl9)) ?_; rintro v V6 B6 hV6 hR6; obtain ⟨A6, n6, c6, rfl, hS6, hnc6, hB6⟩ := DoR.inv hR6))) | (refine k_binOp ?_; (first | refine gwq9 (q_pnil_eql ptr_box9 rfl) ?_ | refine gwq9 (q_eneq rfl) ?_ | refine gwq9 (q_lss rfl rfl) ?_)) | (refine k_alloc ?_; (first | (refine gw_alloc rfl zer_29 rfl ?_; intro γ) | (refine gw_alloc rfl zer_42 rfl ?_; intro γ))) | (refine k_store ?_; (first | refine gw_store rfl siz_42 rfl rfl rfl rfl one9 put9 rfl ?_)) | (refine k_indexAddr ?_; (first | refine gwq9 (q_indexAddr und_31 siz_46 rfl rfl (by omega)) ?_)))) | (refine k_gl ?_; (first | refine gl_nil rfl ?_ | refine gl_go rfl rfl ?_ | refine gl_yes rfl rfl rfl rfl rfl ?_ | refine gl_no rfl rfl rfl rfl rfl rfl rfl ?_)) | (refine k_gc ?_; (first | refine gc_seq ?_ | refine gc_region ?_ | refine gc_cond_f rfl ?_ | (refine gc_cond_p rfl ?_ ?_ <;> intro hq <;> try (exfalso; first | exact hq rfl | omega)) | refine gc_block ?_ | refine gc_skip ?_)) | (refine k_at ?_; (first | refine at_seq ?_ | refine ats9 rfl ?_)))
        refine gc_held (id := 24) _ mixed (List.Sublist.refl _) ?_; (first | refine gtk9 0 rfl rfl (q_move rfl) ?_); (first | refine gtk9 3 rfl rfl (q_fieldAddr fld_29_2 rfl) ?_); (first | refine gtk9 4 rfl rfl (q_load_o one_3 rfl own9 (by exact rfl)) ?_); refine gon9 (i := 1) rfl ?_; (first | (refine gw_callB rfl ⟨Tryz.call14⟩ rfl rep9 rfl (Upper_b okr' (hB6.le vl9)) ?_; rintro v V7 B7 hV7 hU; obtain ⟨rfl, yu, rfl, hyN, hyn⟩ := hU) | refine gw_q' rfl (q_call ⟨Tryz.call17⟩ rfl (QBlocks_c _ yu (hyN.le vl9))) ?_); refine gon9 (i := 2) rfl ?_; (first | (refine gw_callB rfl ⟨Tryz.call14⟩ rfl rep9 rfl (Upper_b okr' (hB6.le vl9)) ?_; rintro v V7 B7 hV7 hU; obtain ⟨rfl, yu, rfl, hyN, hyn⟩ := hU) | refine gw_q' rfl (q_call ⟨Tryz.call17⟩ rfl (QBlocks_c _ yu (hyN.le vl9))) ?_); (first | refine gtk9 5 rfl rfl (q_gtr rfl rfl) ?_); refine gh_done (by kernel_rfl) vl9 vl9 slb9 ?_
        all_goals
          have hyb : yu.n = upB (richB rb) := hyn
          rw [← hyb, hxq] at hov
          repeat' (first | (refine k_gw ?_; (first | refine gwg9 ?_ | (refine k_load ?_; (first | refine gwq9 (q_loadA_o agg_42 rfl own9 (by exact rfl)) ?_)) | (refine k_call ?_; (first | refine gw_q' rfl (q_call ⟨Tryz.call21⟩ rfl (is_c _ 0 0 (by decide))) ?_ | refine gw_q' rfl (q_call ⟨Tryz.call22⟩ rfl (SameTold_c _ rt' A5 A6 n5 c5 n6 c6 (hS5.le vl9) (hS6.le vl9))) ?_ | refine gw_q' rfl (q_callB ⟨Tryz.call18⟩ rfl rep9 (Bytes_q okr (hB5.le vl9))) ?_ | refine gw_q' rfl (q_callB ⟨Tryz.call18⟩ rfl rep9 (Bytes_q okr' (hB6.le vl9))) ?_)) | (refine k_binOp ?_; (first | refine gwq9 (q_sneq rfl rfl) ?_ | refine gwq9 (q_add rfl rfl (by omega)) ?_)))) | (refine k_gl ?_; (first | refine gl_nil rfl ?_ | refine gl_go rfl rfl ?_ | refine gl_yes rfl rfl rfl rfl rfl ?_)) | (refine k_gc ?_; (first | refine gc_seq ?_ | refine gc_region ?_ | (refine gc_cond_p rfl ?_ ?_ <;> intro hq <;> try (exfalso; first | exact hq rfl | omega)) | refine gc_skip ?_)) | (refine k_at ?_; (first | refine at_seq ?_ | refine ats9 rfl ?_)))
        all_goals first
          | (exfalso; omega)
          | (exfalso; exact hq rfl)
          | refine at_round _ (m - (k + 1)) ⟨k + 1, rb, B5, vl9, rfl, hB5.le vl9, hI2, by omega, rfl, rfl⟩ (by omega) sub9 slb9
    · obtain rfl := q2 hre
      obtain rfl := q1 hre
      repeat' (first | (refine k_gw ?_; (first | refine gwg9 ?_ | (refine k_load ?_; (first | refine gwq9 (q_loadA_v agg_46 rfl (hcy.le vl9) (by exact rfl)) ?_ | refine gwq9 (q_loadA_o agg_29 rfl own9 (by exact rfl)) ?_)) | (refine k_call ?_; (first | refine gwq9 (q_len rfl und_31 rfl) ?_ | refine gw_q' rfl (q_callB ⟨Tryz.call18⟩ rfl rep9 (Bytes_q hok hB)) ?_ | (refine gw_callB rfl ⟨Tryz.call19⟩ rfl repl_nil rfl (hLb _ vl9) ?_; rintro v V4 B4 hV4 ⟨p2, rfl, hX⟩) | (refine gw_callB rfl ⟨Tryz.call13⟩ rfl rep9 rfl (hD1 _ vl9) ?_; rintro v V5 B5 hV5 hR5; obtain ⟨A5, n5, c5, rfl, hS5, hnc5, hB5⟩ := DoR.inv hR5) | (refine gw_callB rfl ⟨Tryz.call13⟩ rfl rep9 rfl (hD2 p2 B4 _ (hX.le vl9)) ?_; rintro v V6 B6 hV6 hR6; obtain ⟨A6, n6, c6, rfl, hS6, hnc6, hB6⟩ := DoR.inv hR6) | refine gw_q' rfl (q_callB ⟨Tryz.call18⟩ rfl rep9 (Bytes_q hok (hB5.le vl9))) ?_ | refine gw_q' rfl (q_call ⟨Tryz.call20⟩ rfl (code_c _ re e1)) ?_)) | (refine k_binOp ?_; (first | refine gwq9 (q_pnil_eql ptr_box9 rfl) ?_ | refine gwq9 (q_eneq rfl) ?_ | refine gwq9 (q_sneq rfl rfl) ?_ | refine gwb9 ?_)) | (refine k_alloc ?_; (first | (refine gw_alloc rfl zer_29 rfl ?_; intro γ) | (refine gw_alloc rfl zer_42 rfl ?_; intro γ))) | (refine k_store ?_; (first | refine gw_store rfl siz_42 rfl rfl rfl rfl one9 put9 rfl ?_)) | (refine k_indexAddr ?_; (first | refine gwq9 (q_indexAddr und_31 siz_46 rfl rfl (by omega)) ?_)))) | (refine k_gl ?_; (first | refine gl_nil rfl ?_ | refine gl_go rfl rfl ?_ | refine gl_yes rfl rfl rfl rfl rfl ?_ | (refine gl_split_p rfl rfl rfl ?_ ?_ <;> intro hq <;> try (exfalso; first | exact hq rfl | omega)))) | (refine k_gc ?_; (first | refine gc_seq ?_ | refine gc_region ?_ | refine gc_cond_f rfl ?_ | (refine gc_cond_p rfl ?_ ?_ <;> intro hq <;> try (exfalso; first | exact hq rfl | omega)) | refine gc_block ?_ | refine gc_exit ?_ | refine gc_skip ?_)) | (refine k_at ?_; (first | refine at_seq ?_ | refine ats9 rfl ?_)))
      all_goals refine at_round _ (m - (k + 1)) ⟨k + 1, rb, B5, vl9, rfl, hB5.le vl9, hI2, by omega, rfl, rfl⟩ (by omega) sub9 slb9
  · repeat' (first | (refine k_gw ?_; (first | refine gwg9 ?_ | (refine k_call ?_; (first | refine gwq9 (q_len rfl und_31 rfl) ?_)) | (refine k_binOp ?_; refine gwb9 ?_))) | (refine k_gl ?_; (first | refine gl_nil rfl ?_ | refine gl_go rfl rfl ?_)) | (refine k_gc ?_; (first | refine gc_seq ?_ | refine gc_region ?_ | (refine gc_cond_p rfl ?_ ?_ <;> intro hq <;> try (exfalso; first | exact hq rfl | omega)) | refine gc_exit ?_ | refine gc_ret ?_)) | (refine k_at ?_; (first | refine at_seq ?_ | refine ats9 rfl ?_)))
    all_goals
      (refine at_ret1 Tryz.results4 (rv_tmp rfl) ?_)
      rfl
end
section
open Go.ChangeShapes Go.WideShapes Go.ChangeAt Go.RowKit
open Go.Deep

section
variable {H : Type} {enc : TypeId × Value → H} {P : Program} {w : World} {base : Nat} {spare : Nat → Bool} {held : Bool}

/-- Two values that are of an int's bounds. -/
theorem i64_of_wf {x : Int} (h : (Lit.int .i64 x).wf = true) : -9223372036854775808 ≤ x ∧ x ≤ 9223372036854775807 := by
  simp [Lit.wf, IntKind.min, IntKind.max, IntKind.signed, IntKind.bits] at h
  exact ⟨by omega, by omega⟩

theorem ints_of_trod {t e : TypeId} {fuel : Nat} {v : Value} {x : DataW H × List MemPlace} (ht : P.underlying t = some (.slice e)) (he : P.underlying e = some (.int .i64)) (hc : P.cellsOf e = 1)
    (h : DataW.trod enc P w base spare held fuel t [v] = some x) : ∃ A n c xs, v = .slice A n c ∧ IntsAt w A n xs ∧ ∀ z ∈ xs, -9223372036854775808 ≤ z ∧ z ≤ 9223372036854775807 := by
  rcases open_ints ht he hc h with ⟨hcs, _⟩ | ⟨a, len, cap, zs, hcs, _, hl, hm, hz, _, hcell, hwz⟩
  · obtain rfl : v = .slice none 0 0 := by simpa using hcs
    exact ⟨none, 0, 0, [], rfl, IntsAt.nil w, by simp⟩
  · obtain rfl : v = .slice (some a) len cap := by simpa using hcs
    have hlz : len ≤ zs.length := by rw [hz]; split <;> omega
    refine ⟨some a, len, cap, zs.take len, rfl, ⟨by simp; omega, by omega, fun hn => ?_⟩, fun z hz' => i64_of_wf (hwz z (List.mem_of_mem_take hz'))⟩
    obtain ⟨b, off, spot⟩ := a
    have hc0 := hcell 0 (by omega)
    have hs : spot = none := by simpa [Addr.add] using World.cell?_spot hc0
    subst hs
    refine ⟨b, off, rfl, fun j z hj => ?_⟩
    have hjl : j < len := by
      rcases Nat.lt_or_ge j len with h | h
      · exact h
      · rw [List.getElem?_eq_none (by simp; omega)] at hj; cases hj
    rw [List.getElem?_take_of_lt hjl] at hj
    have hcj := hcell j (by omega)
    rw [List.getD_eq_getElem?_getD, hj] at hcj
    have ha : (⟨b, off, none⟩ : Addr).add j = ⟨b, off + j, none⟩ := by unfold Addr.add; split <;> simp_all
    rw [ha] at hcj
    exact hcj

/-- A struct's cells, and each field's reading off its own part of them. -/
def FieldsRead {H : Type} (enc : TypeId × Value → H) (P : Program) (w : World) (base : Nat) (spare : Nat → Bool) (held : Bool) (fs : Array Field) (cs : List Value) : Prop :=
  ∃ n, ∀ (j : Nat) (f : Field), fs[j]? = some f → ∃ y, DataW.trod enc P w base spare held n f.type ((cs.drop f.offset).take (P.cellsOf f.type)) = some y

theorem fields_of_trod {t : TypeId} {fs : Array Field} {fuel : Nat} {cs : List Value} {x : DataW H × List MemPlace} (hs : P.underlying t = some (.struct fs))
    (h : DataW.trod enc P w base spare held fuel t cs = some x) : cs.length = P.cellsOf t ∧ FieldsRead enc P w base spare held fs cs := by
  obtain ⟨xs, n, _, _, hl, hxl, hg⟩ := DataW.trod_struct hs h
  refine ⟨hl, n, fun j f hj => ?_⟩
  have hjl : j < xs.length := by rw [hxl]; exact (Array.getElem?_eq_some_iff.1 hj).1
  exact ⟨xs[j], (hg j f hj).trans (List.getElem?_eq_getElem hjl)⟩

/-- One field that is an int. -/
theorem FieldsRead.int {fs : Array Field} {cs : List Value} (h : FieldsRead enc P w base spare held fs cs) (j : Nat) {f : Field} (hj : fs[j]? = some f) {k : IntKind} (ht : P.underlying f.type = some (.int k)) (hc : P.cellsOf f.type = 1) {v : Value} (hv : cs[f.offset]? = some v) :
    ∃ n, v = .int k n ∧ (Lit.int k n).wf = true := by
  obtain ⟨m, hm⟩ := h
  obtain ⟨y, hy⟩ := hm j f hj
  obtain ⟨n, he, _, hwf⟩ := DataW.trod_int ht hy
  rw [hc, drop_at (Lib.hid hv)] at he
  exact ⟨n, by simpa using he, hwf⟩
theorem FieldsRead.bool {fs : Array Field} {cs : List Value} (h : FieldsRead enc P w base spare held fs cs) (j : Nat) {f : Field} (hj : fs[j]? = some f) (ht : P.underlying f.type = some .bool) (hc : P.cellsOf f.type = 1) {v : Value} (hv : cs[f.offset]? = some v) :
    ∃ b, v = .bool b := by
  obtain ⟨m, hm⟩ := h
  obtain ⟨y, hy⟩ := hm j f hj
  obtain ⟨n, he, _⟩ := DataW.trod_bool ht hy
  rw [hc, drop_at (Lib.hid hv)] at he
  exact ⟨n, by simpa using he⟩
theorem FieldsRead.string {fs : Array Field} {cs : List Value} (h : FieldsRead enc P w base spare held fs cs) (j : Nat) {f : Field} (hj : fs[j]? = some f) (ht : P.underlying f.type = some .string) (hc : P.cellsOf f.type = 1) {v : Value} (hv : cs[f.offset]? = some v) :
    ∃ s, v = .string s ∧ s.size ≤ maxLen := by
  obtain ⟨m, hm⟩ := h
  obtain ⟨y, hy⟩ := hm j f hj
  obtain ⟨n, he, hx⟩ := DataW.trod_string ht hy
  rw [hc, drop_at (Lib.hid hv)] at he
  exact ⟨n, by simpa using he, by simpa using hx.2⟩
theorem FieldsRead.ints {fs : Array Field} {cs : List Value} (h : FieldsRead enc P w base spare held fs cs) (j : Nat) {f : Field} (hj : fs[j]? = some f) {e : TypeId} (ht : P.underlying f.type = some (.slice e)) (he : P.underlying e = some (.int .i64)) (hc : P.cellsOf f.type = 1) (hce : P.cellsOf e = 1) {v : Value} (hv : cs[f.offset]? = some v) :
    ∃ A n c xs, v = .slice A n c ∧ IntsAt w A n xs ∧ ∀ z ∈ xs, -9223372036854775808 ≤ z ∧ z ≤ 9223372036854775807 := by
  obtain ⟨m, hm⟩ := h
  obtain ⟨y, hy⟩ := hm j f hj
  rw [hc, drop_at (Lib.hid hv)] at hy
  exact ints_of_trod ht he hce hy

/-- All arguments read behind the call as they read before. -/
theorem trodAll_below (hl : laidOutB P = true) {W W' : World} (hb : Below W.heap.size W W') : ∀ {ts : List TypeId} {vs : List Value} {ds : List (DataW H)} {ps : List MemPlace}, (ts.all fun t => P.readableRec t && decide (t < P.types.size)) = true →
    DataW.TrodAll enc P W 0 (fun _ => true) true ts vs ds ps → DataW.TrodAll enc P W' 0 (fun b => decide (b < W.heap.size)) true ts vs ds ps
  | [], [], [], _, _, h => h
  | [], _ :: _, _, _, _, h => h.elim
  | [], [], _ :: _, _, _, h => h.elim
  | _ :: _, [], _, _, _, h => h.elim
  | _ :: _, _ :: _, [], _, _, h => h.elim
  | t :: ts, v :: vs, d :: ds, ps, hr, h => by
    obtain ⟨p, q, h1, h2, rfl⟩ := h
    simp only [List.all_cons, Bool.and_eq_true, decide_eq_true_eq] at hr
    have h1' := h1
    obtain ⟨m, hm⟩ := h1'
    exact ⟨p, q, Below.trod hl hr.1.1 hr.1.2 h1 hb (fun x hx => DataW.trod_lt m _ _ _ hm x hx), trodAll_below hl hb (by simpa using hr.2) h2, rfl⟩
end
end
section

/-- All that a world has. -/
def fullV (w : World) : View := fun p => w.cell? p
theorem fullV_in (w : World) : VIn (fullV w) w := fun p x h => h
theorem Fn.any {P : Program} {f : FuncId} {args : List Value} {w : World} {v : Value} (h : Fn P f args (fullV w) fun u _ => u = v) : Calls P f args.toArray w fun e w' => e = .returned v ∧ Ext w w' :=
  (h w (fullV_in w)).mono fun e w' ⟨u, he, hx, _, _, _, _, hu⟩ => ⟨by rw [he, hu], hx⟩
theorem IntsAt.view {w : World} {A : Option Addr} {n : Nat} {xs : List Int} (h : IntsAt w A n xs) : IntsV (fullV w) A n xs := by
  refine ⟨h.1, h.2.1, h.cells.1, fun hn => ?_⟩
  obtain ⟨b, off, ha, hc⟩ := h.cells.2 hn
  exact ⟨b, off, ha, hc⟩
end
section
open Go.ChangeShapes Go.WideShapes Go.ChangeAt Go.RowKit
open Go.Deep
section
variable {H : Type} {enc : TypeId × Value → H} {P : Program} {w : World} {base : Nat} {spare : Nat → Bool} {held : Bool}
theorem els_of_trod {α : Type} (f : α → List Value) (good : α → Prop) {t e : TypeId} {fuel : Nat} {v : Value} {x : DataW H × List MemPlace} (ht : P.underlying t = some (.slice e)) (hsz : 0 < P.cellsOf e)
    (hel : ∀ (n : Nat) (cs : List Value) (y : DataW H × List MemPlace), n < fuel → cs.length = P.cellsOf e → DataW.trod enc P w base spare held n e cs = some y → ∃ a : α, cs = f a ∧ good a)
    (h : DataW.trod enc P w base spare held fuel t [v] = some x) : ∃ A n c xs, v = .slice A n c ∧ n ≤ c ∧ ElsV (fullV w) (P.cellsOf e) f A n xs ∧ ∀ a ∈ xs, good a := by
  rcases DataW.trod_slice ht h with ⟨hcs, _⟩ | ⟨a, len, cap, elems, rest, n, rfl, hcs, _, _, hl, hm, hlen, hat, _, _⟩
  · obtain rfl : v = .slice none 0 0 := by simpa using hcs
    exact ⟨none, 0, 0, [], rfl, Nat.le_refl _, ElsV.nil, by simp⟩
  · obtain rfl : v = .slice (some a) len cap := by simpa using hcs
    have key : ∀ i, i < len → ∃ z : α, (∀ j u, (f z)[j]? = some u → w.cell? ((a.add (i * P.cellsOf e)).add j) = some u) ∧ (f z).length = P.cellsOf e ∧ good z := by
      intro i hi
      have := hat i hi
      rw [List.getElem?_eq_getElem (by omega)] at this
      obtain ⟨cs', h1, h2⟩ := Option.bind_eq_some_iff.1 this
      obtain ⟨_, h3, h4⟩ := World.cells?_some h1
      obtain ⟨z, rfl, hz⟩ := hel n cs' _ (Nat.lt_succ_self n) h3 h2
      refine ⟨z, fun j u hj => ?_, h3, hz⟩
      have hjl : j < (f z).length := by
        rcases Nat.lt_or_ge j (f z).length with h | h
        · exact h
        · rw [List.getElem?_eq_none h] at hj; cases hj
      rw [h4 j (by omega)]; exact hj
    by_cases h0 : len = 0
    · subst h0
      exact ⟨some a, 0, cap, [], rfl, Nat.zero_le _, ElsV.nil, by simp⟩
    · obtain ⟨z0, _, _, _⟩ := key 0 (by omega)
      haveI : Inhabited α := ⟨z0⟩
      obtain ⟨Z, hZ⟩ := choose_lt (α := α) (p := fun i z => (∀ j u, (f z)[j]? = some u → w.cell? ((a.add (i * P.cellsOf e)).add j) = some u) ∧ (f z).length = P.cellsOf e ∧ good z) (fun i hi => key i hi)
      refine ⟨some a, len, cap, (List.range len).map Z, rfl, hl, ⟨by simp, Nat.le_trans hl hm, fun _ => ?_⟩, ?_⟩
      · obtain ⟨b, off, spot⟩ := a
        have hspot : spot = none := by
          obtain ⟨h1, h2, _⟩ := hZ 0 (by omega)
          have := h1 0 (f (Z 0))[0] (List.getElem?_eq_getElem (by omega))
          simpa [Addr.add] using World.cell?_spot this
        subst hspot
        refine ⟨b, off, rfl, fun k z hk j u hj => ?_⟩
        have hkl : k < len := by
          rcases Nat.lt_or_ge k len with h | h
          · exact h
          · rw [List.getElem?_eq_none (by simp; omega)] at hk; cases hk
        simp [hkl] at hk
        subst hk
        have := (hZ k hkl).1 j u hj
        rw [add_none, add_none] at this
        exact this
      · intro z hz
        obtain ⟨i, hi, rfl⟩ := List.mem_map.1 hz
        exact (hZ i (List.mem_range.1 hi)).2.2
theorem open_arg {t : TypeId} {v : Value} {d : DataW H} {p : List MemPlace} (h : DataW.Trod enc P w base spare held t v d p) (hv : v.cells = #[v]) : ∃ fuel x, DataW.trod enc P w base spare held fuel t [v] = some x := by
  obtain ⟨fuel, hf⟩ := h
  rw [hv] at hf
  exact ⟨fuel, _, by simpa using hf⟩
end
end
section
open Go.ChangeShapes Go.WideShapes Go.ChangeAt Go.RowKit
open Go.Deep
section
variable {H : Type} {enc : TypeId × Value → H} {w : World} {base : Nat} {spare : Nat → Bool} {held : Bool}
def inI (x : Int) : Prop := -9223372036854775808 ≤ x ∧ x ≤ 9223372036854775807
/-- A node's numbers are numbers of 64 bits. -/
def intsP (h : Hd) (_ : PKs) : Prop := inI h.kind ∧ inI h.mode ∧ inI h.user ∧ inI h.group
theorem fields_at {P : Program} {t : TypeId} {fs : Array Field} {fuel : Nat} {cs : List Value} {x : DataW H × List MemPlace} (hs : P.underlying t = some (.struct fs))
    (h : DataW.trod enc P w base spare held fuel t cs = some x) : ∃ n, fuel = n + 1 ∧ cs.length = P.cellsOf t ∧ FieldsRead enc P w base spare held fs cs ∧ ∀ (j : Nat) (f : Field), fs[j]? = some f → ∃ y, DataW.trod enc P w base spare held n f.type ((cs.drop f.offset).take (P.cellsOf f.type)) = some y := by
  obtain ⟨xs, n, hn, _, hl, hxl, hg⟩ := DataW.trod_struct hs h
  have key : ∀ (j : Nat) (f : Field), fs[j]? = some f → ∃ y, DataW.trod enc P w base spare held n f.type ((cs.drop f.offset).take (P.cellsOf f.type)) = some y := fun j f hj => by
    have hjl : j < xs.length := by rw [hxl]; exact (Array.getElem?_eq_some_iff.1 hj).1
    exact ⟨xs[j], (hg j f hj).trans (List.getElem?_eq_getElem hjl)⟩
  exact ⟨n, hn, hl, ⟨n, key⟩, key⟩
set_option maxRecDepth 100000 in
theorem tattr_of_trod {n : Nat} {cs : List Value} {y : DataW H × List MemPlace} (h : DataW.trod enc Tryz.prog w base spare held n 222 cs = some y) : ∃ a : PA, cs = paC a ∧ a.n.size ≤ maxLen ∧ a.v.size ≤ maxLen := by
  obtain ⟨hl, hF⟩ := fields_of_trod Tryz.underlying222 h
  match cs, hl.trans (show Tryz.prog.cellsOf 222 = 2 by kernel_rfl) with
  | [c0, c1], _ =>
    obtain ⟨a, rfl, wa⟩ := hF.string 0 rfl Tryz.underlying9 (by kernel_rfl) rfl
    obtain ⟨b, rfl, wb⟩ := hF.string 1 rfl Tryz.underlying9 (by kernel_rfl) rfl
    exact ⟨⟨a, b⟩, rfl, wa, wb⟩
theorem tattr_cells : Tryz.prog.cellsOf 222 = 2 := by kernel_rfl
theorem kid_cells : Tryz.prog.cellsOf 104 = 9 := by kernel_rfl
theorem node_cells : Tryz.prog.cellsOf 50 = 8 := by kernel_rfl
theorem list8 {α : Type} {l : List α} (h : l.length = 8) : ∃ a b c d e f g i, l = [a, b, c, d, e, f, g, i] := by
  match l, h with
  | [a, b, c, d, e, f, g, i], _ => exact ⟨a, b, c, d, e, f, g, i, rfl⟩
theorem list9 {α : Type} {l : List α} (h : l.length = 9) : ∃ a b c d e f g i j, l = [a, b, c, d, e, f, g, i, j] := by
  match l, h with
  | [a, b, c, d, e, f, g, i, j], _ => exact ⟨a, b, c, d, e, f, g, i, j, rfl⟩
set_option maxRecDepth 100000 in
theorem node_of_trod : ∀ (fuel : Nat) {cs : List Value} {y : DataW H × List MemPlace}, DataW.trod enc Tryz.prog w base spare held fuel 50 cs = some y → ∃ x : LN, cs = lnC x ∧ NodeV (fullV w) x ∧ AllN intsP x.n := by
  intro fuel
  induction fuel using Nat.strongRecOn with
  | _ fuel ih =>
    intro cs y h
    obtain ⟨m, rfl, hl, hF, hat⟩ := fields_at Tryz.underlying50 h
    obtain ⟨c0, c1, c2, c3, c4, c5, c6, c7, rfl⟩ := list8 (hl.trans node_cells)
    obtain ⟨kind, rfl, w0⟩ := hF.int 0 rfl Tryz.underlying3 (by kernel_rfl) rfl
    obtain ⟨mode, rfl, w1⟩ := hF.int 1 rfl Tryz.underlying3 (by kernel_rfl) rfl
    obtain ⟨user, rfl, w2⟩ := hF.int 2 rfl Tryz.underlying3 (by kernel_rfl) rfl
    obtain ⟨group, rfl, w3⟩ := hF.int 3 rfl Tryz.underlying3 (by kernel_rfl) rfl
    obtain ⟨opq, rfl⟩ := hF.bool 4 rfl Tryz.underlying4 (by kernel_rfl) rfl
    obtain ⟨y5, h5⟩ := hat 5 _ rfl
    obtain ⟨data, rfl, w6⟩ := hF.string 6 rfl Tryz.underlying9 (by kernel_rfl) rfl
    obtain ⟨y7, h7⟩ := hat 7 _ rfl
    replace h5 : DataW.trod enc Tryz.prog w base spare held m 47 [c5] = some y5 := h5
    replace h7 : DataW.trod enc Tryz.prog w base spare held m 48 [c7] = some y7 := h7
    obtain ⟨A, na, ca, al, rfl, ga, hA, hAg⟩ := els_of_trod paC (fun a => a.n.size ≤ maxLen ∧ a.v.size ≤ maxLen) Tryz.underlying47 (by rw [tattr_cells]; omega) (fun m' cs y _ _ hy => tattr_of_trod hy) h5
    obtain ⟨K, nk, ck, es, rfl, gk, hK, hKg⟩ := els_of_trod lkC (fun e => e.nm.size ≤ maxLen ∧ NodeV (fullV w) e.x ∧ AllN intsP e.x.n) Tryz.underlying48 (by rw [kid_cells]; omega) (fun m' cs y hm' hcl hy => by
      obtain ⟨m2, rfl, hl2, hF2, hat2⟩ := fields_at Tryz.underlying104 hy
      obtain ⟨d0, d1, d2, d3, d4, d5, d6, d7, d8, rfl⟩ := list9 (hl2.trans kid_cells)
      obtain ⟨nm, rfl, wn⟩ := hF2.string 0 rfl Tryz.underlying9 (by kernel_rfl) rfl
      obtain ⟨y1, h1⟩ := hat2 1 _ rfl
      replace h1 : DataW.trod enc Tryz.prog w base spare held m2 50 [d1, d2, d3, d4, d5, d6, d7, d8] = some y1 := h1
      obtain ⟨x, hx, hN, hI⟩ := ih m2 (by omega) h1
      refine ⟨⟨nm, x⟩, ?_, wn, hN, hI⟩
      simp only [List.cons.injEq] at hx
      obtain ⟨rfl, rfl, rfl, rfl, rfl, rfl, rfl, rfl, _⟩ := hx
      rfl) h7
    rw [tattr_cells] at hA
    rw [kid_cells] at hK
    refine ⟨⟨⟨kind, mode, user, group, opq, al, data⟩, A, na, ca, K, nk, ck, es.map kz⟩, rfl, NodeV.of ⟨hA, hAg⟩ ga w6 gk ⟨hK, fun e he => ⟨(hKg e he).1, (hKg e he).2.1⟩⟩ rfl, .mk ⟨i64_of_wf w0, i64_of_wf w1, i64_of_wf w2, i64_of_wf w3⟩ fun k hk => ?_⟩
    obtain ⟨e, he, rfl⟩ := List.mem_map.1 hk
    exact (hKg e he).2.2
end
end
section
open Go.ChangeShapes Go.WideShapes Go.ChangeAt Go.RowKit
open Go.Deep
section
variable {H : Type} {enc : TypeId × Value → H} {w : World} {base : Nat} {spare : Nat → Bool} {held : Bool}
theorem list3 {α : Type} {l : List α} (h : l.length = 3) : ∃ a b c, l = [a, b, c] := by
  match l, h with
  | [a, b, c], _ => exact ⟨a, b, c, rfl⟩
theorem list2 {α : Type} {l : List α} (h : l.length = 2) : ∃ a b, l = [a, b] := by
  match l, h with
  | [a, b], _ => exact ⟨a, b, rfl⟩
theorem range_of_trod {n : Nat} {cs : List Value} {y : DataW H × List MemPlace} (h : DataW.trod enc Tryz.prog w base spare held n 190 cs = some y) : ∃ r : PR, cs = prC r ∧ inR64 r := by
  obtain ⟨hl, hF⟩ := fields_of_trod Tryz.underlying190 h
  obtain ⟨c0, c1, c2, rfl⟩ := list3 (hl.trans (by kernel_rfl))
  obtain ⟨a, rfl, wa⟩ := hF.int 0 rfl Tryz.underlying3 (by kernel_rfl) rfl
  obtain ⟨b, rfl, wb⟩ := hF.int 1 rfl Tryz.underlying3 (by kernel_rfl) rfl
  obtain ⟨c, rfl, wc⟩ := hF.int 2 rfl Tryz.underlying3 (by kernel_rfl) rfl
  exact ⟨⟨a, b, c⟩, rfl, i64_of_wf wa, i64_of_wf wb, i64_of_wf wc⟩
theorem range_cells : Tryz.prog.cellsOf 190 = 3 := by kernel_rfl
theorem maps_of_trod {fuel : Nat} {v : Value} {x : DataW H × List MemPlace} (h : DataW.trod enc Tryz.prog w base spare held fuel 22 [v] = some x) : ∃ A n c xs, v = .slice A n c ∧ n ≤ c ∧ MapV (fullV w) A n xs := by
  obtain ⟨A, n, c, xs, h1, h2, h3, h4⟩ := els_of_trod prC inR64 Tryz.underlying22 (by rw [range_cells]; omega) (fun m cs y _ _ hy => range_of_trod hy) h
  rw [range_cells] at h3
  exact ⟨A, n, c, xs, h1, h2, h3, h4⟩
end
end
section
open Go.ChangeShapes Go.WideShapes Go.ChangeAt Go.RowKit
open Go.Deep
section
variable {H : Type} {enc : TypeId × Value → H} {w : World} {base : Nat} {spare : Nat → Bool} {held : Bool}
set_option maxRecDepth 100000 in
theorem nodes_arg {r : Reach} {b0 : Nat} {v : Value} {d : DataW H} {p : List MemPlace} (hv : Value.okWide Tryz.prog w r b0 30 v) (h : DataW.Trod enc Tryz.prog w base spare held 30 v d p) : ∃ A n c xs, v = .slice A n c ∧ n ≤ c ∧ NodesV (fullV w) A n xs := by
  obtain ⟨A, n, c, rfl⟩ := okWide_slice Tryz.underlying30 hv
  obtain ⟨fuel, y, hf⟩ := open_arg h rfl
  obtain ⟨A', n', c', xs, he, hnc, hE, hg⟩ := els_of_trod lnC (fun x => NodeV (fullV w) x) Tryz.underlying30 (by rw [node_cells]; omega) (fun m' cs y _ hcl hy => by
    obtain ⟨x, hx, hN, _⟩ := node_of_trod m' hy
    exact ⟨x, hx, hN⟩) hf
  simp only [List.cons.injEq, Value.slice.injEq, and_true] at he
  obtain ⟨rfl, rfl, rfl⟩ := he
  rw [node_cells] at hE
  exact ⟨A, n, c, xs, rfl, hnc, hE, hg⟩
set_option maxRecDepth 100000 in
theorem maps2_of_trod {fuel : Nat} {cs : List Value} {y : DataW H × List MemPlace} (h : DataW.trod enc Tryz.prog w base spare held fuel 24 cs = some y) : ∃ M : LM, cs = [.slice M.A M.n M.c, .slice M.B M.m M.e] ∧ MapsV (fullV w) M := by
  obtain ⟨m, rfl, hl, hF, hat⟩ := fields_at Tryz.underlying24 h
  obtain ⟨c0, c1, rfl⟩ := list2 (hl.trans (by kernel_rfl))
  obtain ⟨y0, h0⟩ := hat 0 _ rfl
  obtain ⟨y1, h1⟩ := hat 1 _ rfl
  replace h0 : DataW.trod enc Tryz.prog w base spare held m 22 [c0] = some y0 := h0
  replace h1 : DataW.trod enc Tryz.prog w base spare held m 22 [c1] = some y1 := h1
  obtain ⟨A, n, c, us, rfl, k1, m1⟩ := maps_of_trod h0
  obtain ⟨B, m', e, gs, rfl, k2, m2⟩ := maps_of_trod h1
  exact ⟨⟨A, n, c, us, B, m', e, gs⟩, rfl, m1, k1, m2, k2⟩
end
end
section
open Go.ChangeShapes Go.WideShapes Go.ChangeAt Go.RowKit
open Go.Deep
section
variable {H : Type} {enc : TypeId × Value → H} {w : World} {base : Nat} {spare : Nat → Bool} {held : Bool}
theorem list7 {α : Type} {l : List α} (h : l.length = 7) : ∃ a b c d e f g, l = [a, b, c, d, e, f, g] := by
  match l, h with
  | [a, b, c, d, e, f, g], _ => exact ⟨a, b, c, d, e, f, g, rfl⟩
theorem list4b {α : Type} {l : List α} (h : l.length = 4) : ∃ a b c d, l = [a, b, c, d] := by
  match l, h with
  | [a, b, c, d], _ => exact ⟨a, b, c, d, rfl⟩
theorem cred_of_trod {n : Nat} {cs : List Value} {y : DataW H × List MemPlace} (h : DataW.trod enc Tryz.prog w base spare held n 27 cs = some y) : ∃ (c : CR) (A : Option Addr) (n k : Nat), cs = [.int .i64 c.u, .int .i64 c.g, .slice A n k, .int .i64 c.d] ∧ IntsV (fullV w) A n c.xs := by
  obtain ⟨hl, hF⟩ := fields_of_trod Tryz.underlying27 h
  obtain ⟨c0, c1, c2, c3, rfl⟩ := list4b (hl.trans (by kernel_rfl))
  obtain ⟨a, rfl, _⟩ := hF.int 0 rfl Tryz.underlying3 (by kernel_rfl) rfl
  obtain ⟨b, rfl, _⟩ := hF.int 1 rfl Tryz.underlying3 (by kernel_rfl) rfl
  obtain ⟨A, n, c, xs, rfl, hI, _⟩ := hF.ints 2 rfl Tryz.underlying25 Tryz.underlying3 (by kernel_rfl) (by kernel_rfl) rfl
  obtain ⟨d, rfl, _⟩ := hF.int 3 rfl Tryz.underlying3 (by kernel_rfl) rfl
  exact ⟨⟨a, b, d, xs⟩, A, n, c, rfl, hI.view⟩
set_option maxRecDepth 100000 in
theorem config_of_trod {fuel : Nat} {cs : List Value} {y : DataW H × List MemPlace} (h : DataW.trod enc Tryz.prog w base spare held fuel 29 cs = some y) : ∃ x : CF, cs = cfC x ∧ CfV (fullV w) x := by
  obtain ⟨m, rfl, hl, hF, hat⟩ := fields_at Tryz.underlying29 h
  obtain ⟨c0, c1, c2, c3, c4, c5, c6, c7, rfl⟩ := list8 (hl.trans (by kernel_rfl))
  obtain ⟨y0, h0⟩ := hat 0 _ rfl
  obtain ⟨y1, h1⟩ := hat 1 _ rfl
  replace h0 : DataW.trod enc Tryz.prog w base spare held m 24 [c0, c1] = some y0 := h0
  replace h1 : DataW.trod enc Tryz.prog w base spare held m 27 [c2, c3, c4, c5] = some y1 := h1
  obtain ⟨M, e0, hM⟩ := maps2_of_trod h0
  obtain ⟨c, A, n, k, e1, hI⟩ := cred_of_trod h1
  obtain ⟨q, rfl, _⟩ := hF.int 2 rfl Tryz.underlying3 (by kernel_rfl) rfl
  obtain ⟨B, m', e, lo, rfl, hL, _⟩ := hF.ints 3 rfl Tryz.underlying25 Tryz.underlying3 (by kernel_rfl) (by kernel_rfl) rfl
  simp only [List.cons.injEq, and_true] at e0 e1
  obtain ⟨rfl, rfl⟩ := e0
  obtain ⟨rfl, rfl, rfl, rfl⟩ := e1
  exact ⟨⟨M, c, A, n, k, q, B, m', e, lo⟩, rfl, hM, hI, hL.view⟩
set_option maxRecDepth 100000 in
theorem config_arg {r : Reach} {b0 : Nat} {v : Value} {d : DataW H} {p : List MemPlace} (hv : Value.okWide Tryz.prog w r b0 29 v) (h : DataW.Trod enc Tryz.prog w base spare held 29 v d p) : ∃ x : CF, v = cfV x ∧ CfV (fullV w) x := by
  obtain ⟨cs, rfl, hsz⟩ := okWide_struct Tryz.underlying29 hv
  obtain ⟨fuel, hf⟩ := h
  obtain ⟨x, hx, hX⟩ := config_of_trod hf
  refine ⟨x, ?_, hX⟩
  have : cs.toList = cfC x := by simpa [Value.cells] using hx
  show Value.agg cs = Value.agg (cfC x).toArray
  rw [← this]
/-- Its texts are texts of a machine. -/
def clSz (c : CL) : Prop := c.path.size ≤ maxLen ∧ c.other.size ≤ maxLen ∧ c.name.size ≤ maxLen ∧ c.data.size ≤ maxLen
theorem call_of_trod {n : Nat} {cs : List Value} {y : DataW H × List MemPlace} (h : DataW.trod enc Tryz.prog w base spare held n 46 cs = some y) : ∃ c : CL, cs = clC c ∧ clSz c := by
  obtain ⟨hl, hF⟩ := fields_of_trod Tryz.underlying46 h
  obtain ⟨c0, c1, c2, c3, c4, c5, c6, rfl⟩ := list7 (hl.trans (by kernel_rfl))
  obtain ⟨a0, rfl, _⟩ := hF.int 0 rfl Tryz.underlying3 (by kernel_rfl) rfl
  obtain ⟨a1, rfl, w1⟩ := hF.string 1 rfl Tryz.underlying9 (by kernel_rfl) rfl
  obtain ⟨a2, rfl, w2⟩ := hF.string 2 rfl Tryz.underlying9 (by kernel_rfl) rfl
  obtain ⟨a3, rfl, w3⟩ := hF.string 3 rfl Tryz.underlying9 (by kernel_rfl) rfl
  obtain ⟨a4, rfl, w4⟩ := hF.string 4 rfl Tryz.underlying9 (by kernel_rfl) rfl
  obtain ⟨a5, rfl, _⟩ := hF.int 5 rfl Tryz.underlying3 (by kernel_rfl) rfl
  obtain ⟨a6, rfl, _⟩ := hF.int 6 rfl Tryz.underlying3 (by kernel_rfl) rfl
  exact ⟨⟨a0, a1, a2, a3, a4, a5, a6⟩, rfl, w1, w2, w3, w4⟩
theorem call_cells : Tryz.prog.cellsOf 46 = 7 := by kernel_rfl
set_option maxRecDepth 100000 in
theorem calls_arg {r : Reach} {b0 : Nat} {v : Value} {d : DataW H} {p : List MemPlace} (hv : Value.okWide Tryz.prog w r b0 31 v) (h : DataW.Trod enc Tryz.prog w base spare held 31 v d p) : ∃ A n c xs, v = .slice A n c ∧ n ≤ c ∧ ElsV (fullV w) 7 clC A n xs ∧ ∀ a ∈ xs, clSz a := by
  obtain ⟨A, n, c, rfl⟩ := okWide_slice Tryz.underlying31 hv
  obtain ⟨fuel, x, hf⟩ := open_arg h rfl
  obtain ⟨A, n, c, xs, h1, h2, h3, h4⟩ := els_of_trod clC clSz Tryz.underlying31 (by rw [call_cells]; omega) (fun m cs y _ _ hy => call_of_trod hy) hf
  rw [call_cells] at h3
  exact ⟨A, n, c, xs, h1, h2, h3, h4⟩
end
end
end Go.Proofs.YtejkmomfpidnbacGreat
