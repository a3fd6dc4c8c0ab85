/- The engine's operations: literals, slices of slices. No program is named here. -/
import Derived.Test.YtejkmomfpidnbaaOps2
namespace Go.Proofs.Ytejkmomfpidnbaa
open Go.RowKit
set_option linter.unusedSimpArgs false
set_option linter.unusedVariables false

/-! ### Literals of structs and slices -/
def fillL (pl : Nat → Option (Nat × Nat)) : List Value → List (Nat × Value) → Option (List Value)
  | cs, [] => some cs
  | cs, (i, v) :: rest =>
    match pl i with
    | none => none
    | some (off, size) => bif Nat.beq v.cells.toList.length size && Nat.ble (off + size) cs.length then fillL pl (spl cs off v.cells.toList) rest else none
theorem spl_length : ∀ (vs cs : List Value) (i : Nat), (spl cs i vs).length = cs.length
  | [], _, _ => rfl
  | v :: vs, cs, i => by rw [spl, spl_length vs]; simp
theorem fold_spl (off : Nat) : ∀ (vs : List Value) (k : Nat) (cs : List Value), (vs.zipIdx k).foldl (fun (c : Array Value) (p : Value × Nat) => c.setIfInBounds (off + p.2) p.1) cs.toArray = (spl cs (off + k) vs).toArray
  | [], k, cs => rfl
  | v :: vs, k, cs => by
    rw [List.zipIdx_cons, List.foldl_cons, spl]
    have := fold_spl off vs (k + 1) (cs.set (off + k) v)
    rw [show off + k + 1 = off + (k + 1) by omega, ← this]
    congr 1
    simp
theorem fill_fillL (pl : Nat → Option (Nat × Nat)) : ∀ (vs : List (Nat × Value)) (cs us : List Value), fillL pl cs vs = some us → Instr.fill pl cs.toArray vs = some us.toArray
  | [], cs, us, h => by simp [fillL] at h; simp [Instr.fill, h]
  | (i, v) :: rest, cs, us, h => by
    rw [fillL] at h
    rw [Instr.fill]
    cases hp : pl i with
    | none => rw [hp] at h; cases h
    | some p =>
      obtain ⟨off, size⟩ := p
      rw [hp] at h
      simp only [] at h ⊢
      cases hb : (Nat.beq v.cells.toList.length size && Nat.ble (off + size) cs.length) with
      | false => rw [hb] at h; cases h
      | true =>
        rw [hb] at h
        simp only [Bool.and_eq_true, cond_true] at hb h
        have h1 := Nat.eq_of_beq_eq_true hb.1
        have h2 := Nat.le_of_ble_eq_true hb.2
        rw [Array.length_toList] at h1
        rw [if_neg (by simp; omega)]
        have e : v.cells.zipIdx.foldl (fun (c : Array Value) (p : Value × Nat) => c.setIfInBounds (off + p.2) p.1) cs.toArray = (spl cs off v.cells.toList).toArray := by
          have := fold_spl off v.cells.toList 0 cs
          rw [Nat.add_zero] at this
          rw [← this, ← Array.foldl_toList]
          congr 1
          simp
        have e' : (v.cells.zipIdx.foldl (fun cs x => match x with | (c, j) => cs.setIfInBounds (off + j) c) cs.toArray) = (spl cs off v.cells.toList).toArray := e
        rw [e']
        exact fill_fillL pl rest _ us h
structure BuildIs (P : Program) (T : TypeId) (pl : List (Nat × Nat)) (zs : List Value) : Prop where
  h : (∃ fs, (∀ w, (underlying T).run P w = .ok (.struct fs) w) ∧ ∀ w, (fs.mapM fun f => do pure (f.offset, ← sizeOf f.type) : Sem _).run P w = .ok pl.toArray w) ∧ ∃ z, (∀ w, (zeroValue T).run P w = .ok z w) ∧ z.cells = zs.toArray
def evP (F : List (Nat × Value)) : List (Nat × Operand) → Option (List (Nat × Value))
  | [] => some []
  | (i, x) :: l => match evF F x, evP F l with
    | some v, some vs => some ((i, v) :: vs)
    | _, _ => none

section
variable {P : Program} {B : Base} {N : Nat} {Q : Exit → Act → World → Prop} {F : List (Nat × Value)} {V : View} {L : List Box}
variable {d : Option Tmp} {ty : TypeId} {pos : String} {af : Array Edge} {gd : Option (Nat × Bool)} {x y : Operand} {T : TypeId} {ops : Array Oper} {rest : List Oper} {k : List Cont}
theorem Kn.evP {a : Act} (ha : Kn N F a) : ∀ {l : List (Nat × Operand)} {vs : List (Nat × Value)}, evP F l = some vs → l.map (fun p => (p.1, a.eval p.2)) = vs
  | [], vs, h => by simpa [Proofs.Ytejkmomfpidnbaa.evP] using h
  | (i, x) :: l, vs, h => by
    rw [Proofs.Ytejkmomfpidnbaa.evP] at h
    cases h1 : evF F x with
    | none => rw [h1] at h; cases h
    | some v =>
      cases h2 : Proofs.Ytejkmomfpidnbaa.evP F l with
      | none => rw [h1, h2] at h; cases h
      | some us =>
        rw [h1, h2] at h
        simp only [Option.some.injEq] at h
        rw [List.map_cons, ha.ev h1, ha.evP h2, h]
theorem run_build {pl : List (Nat × Nat)} {zs us : List Value} {vs : List (Nat × Value)} (hb : BuildIs P T pl zs) (hf : fillL (fun i => pl[i]?) zs vs = some us) (w : World) : (Instr.build T vs.toArray).run P w = .ok (.agg us.toArray) w := by
  obtain ⟨⟨fs, h1, h2⟩, z, h3, h4⟩ := hb.h
  have hfill := fill_fillL _ _ _ _ hf
  have hfill' : Instr.fill (fun i => pl.toArray[i]?) zs.toArray vs = some us.toArray := by simpa using hfill
  unfold Instr.build
  simp only [Sem.run_bind, h3, Result.andThen_ok, h1, h2, h4]
  rw [hfill']
  rfl
theorem q_build {pl : List (Nat × Nat)} {zs us : List Value} {ps : List (Nat × Operand)} {vs : List (Nat × Value)} (hb : BuildIs P T pl zs) (hp : evP F ps = some vs) (hf : fillL (fun i => pl[i]?) zs vs = some us) : QP P B N V L ⟨d, .build T ps.toArray, ty, pos, af, gd⟩ F (.agg us.toArray) := q_of fun a w ha hs => by
  have h := ha.evP hp
  have e : (ps.toArray.map fun (p : Nat × Operand) => (p.1, a.eval p.2)) = vs.toArray := by rw [← h]; simp
  have hr := run_build hb hf w
  rw [← e] at hr
  simp only [execOp]
  have e2 : (ps.toArray.map fun x => match x with | (i, x) => (i, a.eval x)) = (ps.toArray.map fun (p : Nat × Operand) => (p.1, a.eval p.2)) := rfl
  rw [e2, Sem.run_bind, hr]
  rfl
structure ZeroCells (P : Program) (T : TypeId) (z : Value) : Prop where
  h : ∀ w, (zeroValue T).run P w = .ok z w
def repL : Nat → List Value → List Value
  | 0, _ => []
  | n + 1, zc => zc ++ repL n zc
theorem repL_at (zc : List Value) : ∀ (n i : Nat), i < n * zc.length → (repL n zc)[i]? = zc[i % zc.length]?
  | 0, i, h => by simp at h
  | n + 1, i, h => by
    rw [repL]
    rcases Nat.lt_or_ge i zc.length with hi | hi
    · rw [List.getElem?_append_left hi, Nat.mod_eq_of_lt hi]
    · rw [List.getElem?_append_right hi, repL_at zc n (i - zc.length) (by rw [Nat.succ_mul] at h; omega), Nat.mod_eq_sub_mod hi]
theorem repL_len (zc : List Value) : ∀ n, (repL n zc).length = n * zc.length
  | 0 => by simp [repL]
  | n + 1 => by rw [repL, List.length_append, repL_len zc n, Nat.succ_mul]; omega
theorem rep_cells (zc : List Value) (n : Nat) : (Array.range (n * zc.length)).map (fun i => zc.toArray[i % zc.toArray.size]!) = (repL n zc).toArray := by
  apply Array.toList_inj.1
  apply List.ext_getElem?
  intro i
  rcases Nat.lt_or_ge i (n * zc.length) with h | h
  · have h0 : i % zc.length < zc.length := Nat.mod_lt _ (by
      rcases Nat.eq_zero_or_pos zc.length with h0 | h0
      · rw [h0] at h; simp at h
      · exact h0)
    have e := repL_at zc n i h
    rw [List.getElem?_eq_getElem h0] at e
    simp [h, h0, e]
  · rw [List.getElem?_eq_none (by simpa using h), List.getElem?_eq_none (by simpa [repL_len] using h)]
theorem gw_buildSlice {dr : Mode} (hdr : dr.loud = true) {E sz len : Nat} {z : Value} {zs us : List Value} {ps : List (Nat × Operand)} {vs : List (Nat × Value)} (hu : UnderIs P T (.slice E)) (hS : SizeIs P E sz) (hz' : ZeroCells P E z)
    {zc : List Value} (hzc : z.cells = zc.toArray) (hzl : sz = zc.length) (hzs : repL len zc = zs) (hp : evP F ps = some vs) (hf : fillL (fun i => some (i * sz, sz)) zs vs = some us) (hlen : (Nat.ble (len * sz) 16777216 && !Nat.beq (len * sz) 0) = true) (hd : okD N d = true)
    (h : ∀ g, GoL P B N dr ops Q k rest (putF F d (.slice (some ⟨g, 0, none⟩) len len)) V (⟨g, E, us⟩ :: L)) : GoW P B N dr ops Q k ⟨d, .buildSlice T len ps.toArray, ty, pos, af, gd⟩ rest F V L := gw_loud hdr fun a w ha hs => by
  refine wp_value (w' := w.alloc (.cells us.toArray E)) (v := .slice (some ⟨w.heap.size, 0, none⟩) len len) ?_ (gl_loud hdr (h w.heap.size) _ _ (ha.put hd _) (hs.alloc E us))
  have hh := ha.evP hp
  have e : (ps.toArray.map fun x => match x with | (i, x) => (i, a.eval x)) = vs.toArray := by rw [← hh]; simp
  have hz := hz'.h
  simp only [Bool.and_eq_true, Bool.not_eq_true'] at hlen
  have h1 := Nat.le_of_ble_eq_true hlen.1
  have h2 : len * sz ≠ 0 := fun e => by rw [e] at hlen; simp at hlen
  have hfill := fill_fillL _ _ _ _ hf
  simp only [execOp]
  rw [e]
  unfold Instr.buildSlice
  have e3 : ¬ (2 ^ 24 < len * sz) := by omega
  have h3 : len ≠ 0 ∧ sz ≠ 0 := ⟨fun e => h2 (by simp [e]), fun e => h2 (by simp [e])⟩
  have hrep : (Array.range (len * sz)).map (fun i => z.cells[i % z.cells.size]!) = zs.toArray := by rw [hzc, hzl, rep_cells, hzs]
  simp [hu.h, hS.h, hz, e3, h3.1, h3.2, hrep, hfill]
  rw [if_neg h2]
  rfl

/-! ### Slices of slices -/
/-- Where x[l:] begins. -/
def cutA (A : Option Addr) (c l sz : Nat) : Option Addr := if c = l then A else A.map (·.add (l * sz))
theorem q_slice_n {E sz n c h : Nat} {A : Option Addr} {hi : Operand} (hu : UnderIs P T (.slice E)) (hS : SizeIs P E sz) (hx : evF F x = some (.slice A n c)) (hh : evF F hi = some (.int .i64 (h : Int))) (h2 : h ≤ c) : QP P B N V L ⟨d, .slice T x none (some hi) none, ty, pos, af, gd⟩ F (.slice A h c) := q_of fun ac w ha hs => by
  have e : ∀ A : Option Addr, A.map (·.add 0) = A := fun A => by cases A <;> simp [Addr.add]
  simp [execOp, ha.ev hx, ha.ev hh, Instr.sliceAt, Instr.slice, Instr.sliceBounds, hu.h, hS.h, run_sliceBound w h2, e]
theorem q_slice_l {E sz n c l : Nat} {A : Option Addr} {lo : Operand} (hu : UnderIs P T (.slice E)) (hS : SizeIs P E sz) (hx : evF F x = some (.slice A n c)) (hl : evF F lo = some (.int .i64 (l : Int))) (h2 : l ≤ n) : QP P B N V L ⟨d, .slice T x (some lo) none none, ty, pos, af, gd⟩ F (.slice (cutA A c l sz) (n - l) (c - l)) := q_of fun ac w ha hs => by
  simp [execOp, ha.ev hx, ha.ev hl, Instr.sliceAt, Instr.slice, Instr.sliceBounds, hu.h, hS.h, run_sliceBound w h2, cutA]
theorem q_slice {E sz n c l h : Nat} {A : Option Addr} {lo hi : Operand} (hu : UnderIs P T (.slice E)) (hS : SizeIs P E sz) (hx : evF F x = some (.slice A n c)) (hl : evF F lo = some (.int .i64 (l : Int))) (hh : evF F hi = some (.int .i64 (h : Int))) (h1 : l ≤ h) (h2 : h ≤ c) : QP P B N V L ⟨d, .slice T x (some lo) (some hi) none, ty, pos, af, gd⟩ F (.slice (cutA A c l sz) (h - l) (c - l)) := q_of fun ac w ha hs => by
  simp [execOp, ha.ev hx, ha.ev hl, ha.ev hh, Instr.sliceAt, Instr.slice, Instr.sliceBounds, hu.h, hS.h, run_sliceBound w h1, run_sliceBound w h2, cutA]

/-! ### A box that is not written any more joins the view -/
def boxedV (V : View) (w : World) (g : Nat) : View := fun p => if p.block = g then w.cell? p else V p
theorem boxedV_in {V : View} {w : World} {g : Nat} {p : Addr} (h : p.block = g) : boxedV V w g p = w.cell? p := if_pos h
theorem boxedV_out {V : View} {w : World} {g : Nat} {p : Addr} (h : p.block ≠ g) : boxedV V w g p = V p := if_neg h
inductive Drop1 : List Box → Nat → List Value → List Box → Prop
  | here (g : Nat) (t : TypeId) (cs : List Value) (L : List Box) : Drop1 (⟨g, t, cs⟩ :: L) g cs L
  | next (b : Box) (L : List Box) (g : Nat) (cs : List Value) (L' : List Box) (h : Drop1 L g cs L') : Drop1 (b :: L) g cs (b :: L')
theorem Drop1.mem {L L' : List Box} {g : Nat} {cs : List Value} (h : Drop1 L g cs L') : (∃ t : TypeId, ⟨g, t, cs⟩ ∈ L) ∧ (∀ b ∈ L', b ∈ L) ∧ ((L.map Box.g).Nodup → (L'.map Box.g).Nodup ∧ ∀ b ∈ L', b.g ≠ g) := by
  induction h with
  | here g t cs L =>
    refine ⟨⟨t, by simp⟩, fun b hb => by simp [hb], fun hn => ?_⟩
    rw [List.map_cons, List.nodup_cons] at hn
    exact ⟨hn.2, fun b hb e => hn.1 (List.mem_map.2 ⟨b, hb, e⟩)⟩
  | next b L g cs L' h ih =>
    obtain ⟨⟨t, h1⟩, h2, h3⟩ := ih
    refine ⟨⟨t, by simp [h1]⟩, fun c hc => ?_, fun hn => ?_⟩
    · rcases List.mem_cons.1 hc with rfl | hc
      · simp
      · simp [h2 c hc]
    · rw [List.map_cons, List.nodup_cons] at hn
      obtain ⟨h4, h5⟩ := h3 hn.2
      refine ⟨?_, fun c hc => ?_⟩
      · rw [List.map_cons, List.nodup_cons]
        exact ⟨fun hm => by obtain ⟨c, hc, e⟩ := List.mem_map.1 hm; exact hn.1 (List.mem_map.2 ⟨c, h2 c hc, e⟩), h4⟩
      · rcases List.mem_cons.1 hc with rfl | hc
        · exact fun e => hn.1 (e ▸ List.mem_map_of_mem (f := Box.g) h1)
        · exact h5 c hc
theorem St.retire {w : World} (hs : St B V L w) {L' : List Box} {g : Nat} {cs : List Value} (h : Drop1 L g cs L') (hfl : ∀ x ∈ B.fl, ∃ cs, OwnAt L' x cs) : ∃ V', VLe V V' ∧ CellsFrom V' g 0 cs ∧ St B V' L' w := by
  obtain ⟨⟨t, hm⟩, h2, h3⟩ := h.mem
  obtain ⟨h4, h5⟩ := h3 hs.nodup
  have ho := hs.own _ hm
  have hne : ∀ p x, V p = some x → p.block ≠ g := fun p x hp e => (hs.view p x hp).2 _ hm e.symm
  refine ⟨boxedV V w g, fun p x hp => ?_, fun j v hj => ?_, ⟨hs.ext, fun p x hp => ?_, fun p x hp hb => ?_, fun p x hp => ?_, fun b hb => hs.own b (h2 b hb), h4⟩⟩
  · rw [boxedV_out (hne p x hp)]; exact hp
  · rw [boxedV_in (g := g) (p := ⟨g, 0 + j, none⟩) rfl, Nat.zero_add, hs.cell ⟨t, hm⟩]; exact hj
  · by_cases e : p.block = g
    · rw [boxedV_in e] at hp
      exact ⟨hp, fun b hb => by rw [e]; exact h5 b hb⟩
    · rw [boxedV_out e] at hp
      exact ⟨(hs.view p x hp).1, fun b hb => (hs.view p x hp).2 b (h2 b hb)⟩
  · by_cases e : p.block = g
    · rcases ho.2 with h6 | h6
      · simp only [] at h6
        omega
      · obtain ⟨cs', t', hm'⟩ := hfl _ h6
        exact absurd rfl (h5 _ hm')
    · rw [boxedV_out e] at hp
      exact hs.old p x hp hb
  · rw [boxedV_out (hne p x (hs.v0 p x hp))]; exact hs.v0 p x hp
theorem gl_retire {dr : Mode} (hdr : dr.loud = true) {L' : List Box} {g : Nat} {cs : List Value} (hd : Drop1 L g cs L') {l : List Oper} (h : ∀ V', VLe V V' → CellsFrom V' g 0 cs → GoL P B N dr ops Q k l F V' L') (hfl : ∀ x ∈ B.fl, ∃ cs, OwnAt L' x cs := by simp) : GoL P B N dr ops Q k l F V L := gl_mk hdr fun a w ha hs => by
  obtain ⟨V', h1, h2, h3⟩ := hs.retire hd hfl
  exact gl_loud hdr (h V' h1 h2) a w ha h3
theorem gw_retire {dr : Mode} (hdr : dr.loud = true) {L' : List Box} {g : Nat} {cs : List Value} (hd : Drop1 L g cs L') {o : Oper} {l : List Oper} (h : ∀ V', VLe V V' → CellsFrom V' g 0 cs → GoW P B N dr ops Q k o l F V' L') (hfl : ∀ x ∈ B.fl, ∃ cs, OwnAt L' x cs := by simp) : GoW P B N dr ops Q k o l F V L := gw_loud hdr fun a w ha hs => by
  obtain ⟨V', h1, h2, h3⟩ := hs.retire hd hfl
  exact gw_un hdr (h V' h1 h2) a w ha h3
theorem gc_retire {L' : List Box} {g : Nat} {cs : List Value} (hd : Drop1 L g cs L') {c : Code} (h : ∀ V', VLe V V' → CellsFrom V' g 0 cs → GoC P B N c Q k F V' L') (hfl : ∀ x ∈ B.fl, ∃ cs, OwnAt L' x cs := by simp) : GoC P B N c Q k F V L := fun a w ha hs => by
  obtain ⟨V', h1, h2, h3⟩ := hs.retire hd hfl
  exact h V' h1 h2 a w ha h3
theorem at_retire {e : Exit} {L' : List Box} {g : Nat} {cs : List Value} (hd : Drop1 L g cs L') (h : ∀ V', VLe V V' → CellsFrom V' g 0 cs → AtQ P B N Q k e F V' L') (hfl : ∀ x ∈ B.fl, ∃ cs, OwnAt L' x cs := by simp) : AtQ P B N Q k e F V L := fun a w ha hs => by
  obtain ⟨V', h1, h2, h3⟩ := hs.retire hd hfl
  exact h V' h1 h2 a w ha h3
end

/-! ### What kind of goal, of operation it is: for a walk that looks before it tries -/
section
variable {P : Program} {B : Base} {N : Nat} {Q : Exit → Act → World → Prop} {k : List Cont} {F : List (Nat × Value)} {V : View} {L : List Box} {dr : Mode} {ops : Array Oper} {o : Oper} {rest : List Oper} {c : Code} {e : Exit} {d : Option Tmp} {ty : TypeId} {pos : String} {af : Array Edge} {gd : Option (Nat × Bool)}
theorem k_gw (h : GoW P B N dr ops Q k o rest F V L) : GoW P B N dr ops Q k o rest F V L := h
theorem k_gl (h : GoL P B N dr ops Q k rest F V L) : GoL P B N dr ops Q k rest F V L := h
theorem k_gc (h : GoC P B N c Q k F V L) : GoC P B N c Q k F V L := h
theorem k_at (h : AtQ P B N Q k e F V L) : AtQ P B N Q k e F V L := h
theorem k_held {V0 : View} {Lk : List Box} {fuel : Nat} {listed : Array Bool} (h : GoL P B N (.held V0 Lk fuel listed) ops Q k rest F V L) : GoL P B N (.held V0 Lk fuel listed) ops Q k rest F V L := h
theorem k_move {x : Operand} (h : GoW P B N dr ops Q k ⟨d, .move x, ty, pos, af, gd⟩ rest F V L) : GoW P B N dr ops Q k ⟨d, .move x, ty, pos, af, gd⟩ rest F V L := h
theorem k_assign {x : Operand} (h : GoW P B N dr ops Q k ⟨d, .assign x, ty, pos, af, gd⟩ rest F V L) : GoW P B N dr ops Q k ⟨d, .assign x, ty, pos, af, gd⟩ rest F V L := h
theorem k_pick {x y z : Operand} (h : GoW P B N dr ops Q k ⟨d, .pick x y z, ty, pos, af, gd⟩ rest F V L) : GoW P B N dr ops Q k ⟨d, .pick x y z, ty, pos, af, gd⟩ rest F V L := h
theorem k_alloc {T : TypeId} (h : GoW P B N dr ops Q k ⟨d, .alloc T, ty, pos, af, gd⟩ rest F V L) : GoW P B N dr ops Q k ⟨d, .alloc T, ty, pos, af, gd⟩ rest F V L := h
theorem k_box {T : TypeId} {x : Operand} (h : GoW P B N dr ops Q k ⟨d, .box T x, ty, pos, af, gd⟩ rest F V L) : GoW P B N dr ops Q k ⟨d, .box T x, ty, pos, af, gd⟩ rest F V L := h
theorem k_build {T : TypeId} {ps : Array (Nat × Operand)} (h : GoW P B N dr ops Q k ⟨d, .build T ps, ty, pos, af, gd⟩ rest F V L) : GoW P B N dr ops Q k ⟨d, .build T ps, ty, pos, af, gd⟩ rest F V L := h
theorem k_buildSlice {T n : Nat} {ps : Array (Nat × Operand)} (h : GoW P B N dr ops Q k ⟨d, .buildSlice T n ps, ty, pos, af, gd⟩ rest F V L) : GoW P B N dr ops Q k ⟨d, .buildSlice T n ps, ty, pos, af, gd⟩ rest F V L := h
theorem k_load {T : TypeId} {x : Operand} (h : GoW P B N dr ops Q k ⟨d, .load T x, ty, pos, af, gd⟩ rest F V L) : GoW P B N dr ops Q k ⟨d, .load T x, ty, pos, af, gd⟩ rest F V L := h
theorem k_store {T : TypeId} {x y : Operand} (h : GoW P B N dr ops Q k ⟨d, .store T x y, ty, pos, af, gd⟩ rest F V L) : GoW P B N dr ops Q k ⟨d, .store T x y, ty, pos, af, gd⟩ rest F V L := h
theorem k_nilCheck {x : Operand} (h : GoW P B N dr ops Q k ⟨d, .nilCheck x, ty, pos, af, gd⟩ rest F V L) : GoW P B N dr ops Q k ⟨d, .nilCheck x, ty, pos, af, gd⟩ rest F V L := h
theorem k_binOp {b : BinOp} {T T2 : TypeId} {x y : Operand} (h : GoW P B N dr ops Q k ⟨d, .binOp b T x y T2, ty, pos, af, gd⟩ rest F V L) : GoW P B N dr ops Q k ⟨d, .binOp b T x y T2, ty, pos, af, gd⟩ rest F V L := h
theorem k_unOp {u : UnOp} {T : TypeId} {x : Operand} (h : GoW P B N dr ops Q k ⟨d, .unOp u T x, ty, pos, af, gd⟩ rest F V L) : GoW P B N dr ops Q k ⟨d, .unOp u T x, ty, pos, af, gd⟩ rest F V L := h
theorem k_convert {T T2 : TypeId} {x : Operand} (h : GoW P B N dr ops Q k ⟨d, .convert T T2 x, ty, pos, af, gd⟩ rest F V L) : GoW P B N dr ops Q k ⟨d, .convert T T2 x, ty, pos, af, gd⟩ rest F V L := h
theorem k_makeInterface {T : TypeId} {x : Operand} (h : GoW P B N dr ops Q k ⟨d, .makeInterface T x, ty, pos, af, gd⟩ rest F V L) : GoW P B N dr ops Q k ⟨d, .makeInterface T x, ty, pos, af, gd⟩ rest F V L := h
theorem k_makeFunc {f : Go.Fn} {x y : Array Operand} (h : GoW P B N dr ops Q k ⟨d, .makeFunc f x y, ty, pos, af, gd⟩ rest F V L) : GoW P B N dr ops Q k ⟨d, .makeFunc f x y, ty, pos, af, gd⟩ rest F V L := h
theorem k_makeMap {T : TypeId} {x : Option Operand} (h : GoW P B N dr ops Q k ⟨d, .makeMap T x, ty, pos, af, gd⟩ rest F V L) : GoW P B N dr ops Q k ⟨d, .makeMap T x, ty, pos, af, gd⟩ rest F V L := h
theorem k_makeSlice {T : TypeId} {x y : Operand} (h : GoW P B N dr ops Q k ⟨d, .makeSlice T x y, ty, pos, af, gd⟩ rest F V L) : GoW P B N dr ops Q k ⟨d, .makeSlice T x y, ty, pos, af, gd⟩ rest F V L := h
theorem k_slice {T : TypeId} {x : Operand} {l u m : Option Operand} (h : GoW P B N dr ops Q k ⟨d, .slice T x l u m, ty, pos, af, gd⟩ rest F V L) : GoW P B N dr ops Q k ⟨d, .slice T x l u m, ty, pos, af, gd⟩ rest F V L := h
theorem k_fieldAddr {T : TypeId} {x : Operand} {n : Nat} (h : GoW P B N dr ops Q k ⟨d, .fieldAddr T x n, ty, pos, af, gd⟩ rest F V L) : GoW P B N dr ops Q k ⟨d, .fieldAddr T x n, ty, pos, af, gd⟩ rest F V L := h
theorem k_field {T : TypeId} {x : Operand} {n : Nat} (h : GoW P B N dr ops Q k ⟨d, .field T x n, ty, pos, af, gd⟩ rest F V L) : GoW P B N dr ops Q k ⟨d, .field T x n, ty, pos, af, gd⟩ rest F V L := h
theorem k_indexAddr {T : TypeId} {x y : Operand} (h : GoW P B N dr ops Q k ⟨d, .indexAddr T x y, ty, pos, af, gd⟩ rest F V L) : GoW P B N dr ops Q k ⟨d, .indexAddr T x y, ty, pos, af, gd⟩ rest F V L := h
theorem k_index {T : TypeId} {x y : Operand} (h : GoW P B N dr ops Q k ⟨d, .index T x y, ty, pos, af, gd⟩ rest F V L) : GoW P B N dr ops Q k ⟨d, .index T x y, ty, pos, af, gd⟩ rest F V L := h
theorem k_lookup {T : TypeId} {x y : Operand} {b : Bool} (h : GoW P B N dr ops Q k ⟨d, .lookup T x y b, ty, pos, af, gd⟩ rest F V L) : GoW P B N dr ops Q k ⟨d, .lookup T x y b, ty, pos, af, gd⟩ rest F V L := h
theorem k_mapUpdate {T : TypeId} {x y z : Operand} (h : GoW P B N dr ops Q k ⟨d, .mapUpdate T x y z, ty, pos, af, gd⟩ rest F V L) : GoW P B N dr ops Q k ⟨d, .mapUpdate T x y z, ty, pos, af, gd⟩ rest F V L := h
theorem k_typeAssert {x : Operand} {T T2 : TypeId} {b : Bool} (h : GoW P B N dr ops Q k ⟨d, .typeAssert x T T2 b, ty, pos, af, gd⟩ rest F V L) : GoW P B N dr ops Q k ⟨d, .typeAssert x T T2 b, ty, pos, af, gd⟩ rest F V L := h
theorem k_extract {x : Operand} {n : Nat} (h : GoW P B N dr ops Q k ⟨d, .extract x n, ty, pos, af, gd⟩ rest F V L) : GoW P B N dr ops Q k ⟨d, .extract x n, ty, pos, af, gd⟩ rest F V L := h
theorem k_call {c : Call} (h : GoW P B N dr ops Q k ⟨d, .call c, ty, pos, af, gd⟩ rest F V L) : GoW P B N dr ops Q k ⟨d, .call c, ty, pos, af, gd⟩ rest F V L := h
end
end Go.Proofs.Ytejkmomfpidnbaa
