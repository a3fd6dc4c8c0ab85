/- The engine's operations on memory. No program is named here. -/
import Derived.Test.YtejkmomfpidnbaaOps
import Derived.Below
namespace Go.Proofs.Ytejkmomfpidnbaa
open Go.RowKit
set_option linter.unusedSimpArgs false
set_option linter.unusedVariables false

theorem add_none (b o k : Nat) : (⟨b, o, none⟩ : Addr).add k = ⟨b, o + k, none⟩ := by unfold Addr.add; split <;> simp_all

/-! ### Boxes -/
def OwnAt (L : List Box) (g : Nat) (cs : List Value) : Prop := ∃ t : TypeId, ⟨g, t, cs⟩ ∈ L
theorem own_here {g : Nat} {t : TypeId} {cs : List Value} {L : List Box} : OwnAt (⟨g, t, cs⟩ :: L) g cs := ⟨t, by simp⟩
theorem own_next {g : Nat} {cs : List Value} {L : List Box} {b : Box} (h : OwnAt L g cs) : OwnAt (b :: L) g cs := let ⟨t, h⟩ := h; ⟨t, List.mem_cons_of_mem _ h⟩
theorem own_app {g : Nat} {cs : List Value} {L L' : List Box} (h : OwnAt L g cs) : OwnAt (L ++ L') g cs := let ⟨t, h⟩ := h; ⟨t, List.mem_append_left _ h⟩
theorem own_skip {g : Nat} {cs : List Value} {L M : List Box} (h : OwnAt L g cs) : OwnAt (M ++ L) g cs := let ⟨t, h⟩ := h; ⟨t, List.mem_append_right _ h⟩
def spl : List Value → Nat → List Value → List Value
  | cs, _, [] => cs
  | cs, i, v :: vs => spl (cs.set i v) (i + 1) vs
inductive PutAt : List Box → Nat → Nat → List Value → List Box → Prop
  | here (g : Nat) (t : TypeId) (cs : List Value) (L : List Box) (i : Nat) (vs : List Value) (h : i + vs.length ≤ cs.length) : PutAt (⟨g, t, cs⟩ :: L) g i vs (⟨g, t, spl cs i vs⟩ :: L)
  | next (b : Box) (L : List Box) (g i : Nat) (vs : List Value) (L' : List Box) (h : PutAt L g i vs L') : PutAt (b :: L) g i vs (b :: L')
theorem putAt_skip {L L' : List Box} {g i : Nat} {vs : List Value} (h : PutAt L g i vs L') : ∀ M : List Box, PutAt (M ++ L) g i vs (M ++ L')
  | [] => h
  | b :: M => .next b _ _ _ _ _ (putAt_skip h M)
def isOne : Value → Bool
  | .agg _ | .tuple _ => false
  | _ => true

theorem ones_of {vs : List Value} (h : vs.all isOne = true) : ∀ u ∈ vs, isOne u = true := fun u hu => List.all_eq_true.1 h u hu

section
variable {P : Program} {B : Base} {N : Nat} {Q : Exit → Act → World → Prop} {F : List (Nat × Value)} {V : View} {L : List Box} {w : World}
theorem St.lt (hs : St B V L w) {b : Box} (hb : b ∈ L) : b.g < w.heap.size := by
  have h := (hs.own b hb).1
  rcases Nat.lt_or_ge b.g w.heap.size with h1 | h1
  · exact h1
  · rw [Array.getElem?_eq_none h1] at h; cases h
theorem St.cell (hs : St B V L w) {g : Nat} {cs : List Value} (h : OwnAt L g cs) (i : Nat) : w.cell? ⟨g, i, none⟩ = cs[i]? := by
  obtain ⟨t, h⟩ := h
  have := (hs.own _ h).1
  simp [World.cell?, this]
theorem St.frozen (hs : St B V L w) {g : Nat} {cs : List Value} (h : OwnAt L g cs) (i : Nat) : w.frozen? ⟨g, i, none⟩ = false := by
  obtain ⟨t, h⟩ := h
  have := (hs.own _ h).1
  simp [World.frozen?, this]
theorem St.alloc (hs : St B V L w) (t : TypeId) (cs : List Value) : St B V (⟨w.heap.size, t, cs⟩ :: L) (w.alloc (.cells cs.toArray t)) := by
  refine ⟨Exc.al _ hs.ext, fun p x hp => ?_, hs.old, hs.v0, fun b hb => ?_, ?_⟩
  · obtain ⟨h1, h2⟩ := hs.view p x hp
    have hlt := World.block_lt_of_cell? w p h1
    refine ⟨(World.cell?_alloc_lt w _ p hlt).trans h1, fun b hb => ?_⟩
    rcases List.mem_cons.1 hb with rfl | hb
    · simp only []; omega
    · exact h2 b hb
  · rcases List.mem_cons.1 hb with rfl | hb
    · exact ⟨heap_alloc_new w _, .inl hs.ext.sz⟩
    · exact ⟨(Below.heap_alloc w _ b.g (hs.lt hb)).trans (hs.own b hb).1, (hs.own b hb).2⟩
  · rw [List.map_cons, List.nodup_cons]
    refine ⟨fun h => ?_, hs.nodup⟩
    obtain ⟨b, hb, he⟩ := List.mem_map.1 h
    have := hs.lt hb
    simp only [] at he; omega
theorem PutAt.map {L L' : List Box} {g i : Nat} {vs : List Value} (h : PutAt L g i vs L') : L'.map Box.g = L.map Box.g := by
  induction h with
  | here => rfl
  | next _ _ _ _ _ _ _ ih => simp [ih]
theorem PutAt.cases {L L' : List Box} {g i : Nat} {vs : List Value} (h : PutAt L g i vs L') (hn : (L.map Box.g).Nodup) : ∃ (t : TypeId) (cs : List Value), ⟨g, t, cs⟩ ∈ L ∧ i + vs.length ≤ cs.length ∧ ∀ b ∈ L', (b.g = g ∧ b.t = .cells t ∧ b.cs = spl cs i vs) ∨ (b.g ≠ g ∧ b ∈ L) := by
  induction h with
  | here g t cs L i vs h =>
    refine ⟨t, cs, by simp, h, fun b hb => ?_⟩
    rcases List.mem_cons.1 hb with rfl | hb
    · exact .inl ⟨rfl, rfl, rfl⟩
    · refine .inr ⟨fun e => ?_, by simp [hb]⟩
      rw [List.map_cons, List.nodup_cons] at hn
      exact hn.1 (List.mem_map.2 ⟨b, hb, e⟩)
  | next b0 L g i vs L' h ih =>
    rw [List.map_cons, List.nodup_cons] at hn
    obtain ⟨t, cs, h1, h2, h3⟩ := ih hn.2
    refine ⟨t, cs, by simp [h1], h2, fun b hb => ?_⟩
    rcases List.mem_cons.1 hb with rfl | hb
    · refine .inr ⟨fun e => ?_, by simp⟩
      exact hn.1 (List.mem_map.2 ⟨_, h1, e.symm⟩)
    · rcases h3 b hb with h | ⟨h, h'⟩
      · exact .inl h
      · exact .inr ⟨h, by simp [h']⟩
theorem St.set1 (hs : St B V L w) {L' : List Box} {g i : Nat} {v : Value} (h : PutAt L g i [v] L') : St B V L' (w.setCell ⟨g, i, none⟩ v) := by
  obtain ⟨t, cs, hm, hl, hb⟩ := h.cases hs.nodup
  refine ⟨Exc.set _ hs.ext (hs.own _ hm).2, fun p x hp => ?_, hs.old, hs.v0, fun b hb' => ?_, by rw [h.map]; exact hs.nodup⟩
  · obtain ⟨h1, h2⟩ := hs.view p x hp
    have hne := h2 _ hm
    refine ⟨(World.cell?_setCell_other w _ p v (fun e => by subst e; exact hne rfl)).trans h1, fun b hb' => ?_⟩
    rcases hb b hb' with h | h
    · rw [h.1]; exact hne
    · exact h2 b h.2
  · rcases hb b hb' with ⟨e1, e2, e3⟩ | ⟨e1, e2⟩
    · have ho := (hs.own _ hm).1
      simp only [] at ho
      refine ⟨?_, by rw [e1]; exact (hs.own _ hm).2⟩
      rw [e1, e2, e3]
      simp [World.setCell, Array.getElem?_modify, ho, spl]
    · exact ⟨(Below.heap_setCell w _ v b.g (fun e => e1 e)).trans (hs.own b e2).1, (hs.own b e2).2⟩
theorem PutAt.split {L L' : List Box} {g i : Nat} {v : Value} {vs : List Value} (h : PutAt L g i (v :: vs) L') : ∃ L1, PutAt L g i [v] L1 ∧ PutAt L1 g (i + 1) vs L' := by
  generalize hu : v :: vs = us at h
  induction h with
  | here g t cs L i us hle =>
    subst hu
    exact ⟨_, .here g t cs L i [v] (by simp at hle ⊢; omega), .here g t _ L (i + 1) vs (by simp [spl] at hle ⊢; omega)⟩
  | next b L g i us L' h ih =>
    obtain ⟨L1, h1, h2⟩ := ih hu
    exact ⟨_, .next b _ _ _ _ _ h1, .next b _ _ _ _ _ h2⟩
theorem PutAt.own {L L' : List Box} {g i : Nat} {vs : List Value} (h : PutAt L g i vs L') : ∃ cs, OwnAt L g cs ∧ i + vs.length ≤ cs.length := by
  induction h with
  | here g t cs L i vs h => exact ⟨cs, own_here, h⟩
  | next b L g i vs L' h ih => obtain ⟨cs, h1, h2⟩ := ih; exact ⟨cs, own_next h1, h2⟩
theorem run_store1 (hs : St B V L w) {L' : List Box} {g i : Nat} {v : Value} (h : PutAt L g i [v] L') (h1 : isOne v = true) : (store ⟨g, i, none⟩ v).run P w = .ok () (w.setCell ⟨g, i, none⟩ v) := by
  obtain ⟨cs, ho, hl⟩ := h.own
  have hc : w.cell? ⟨g, i, none⟩ = some cs[i] := by rw [hs.cell ho, List.getElem?_eq_getElem (by simp at hl; omega)]
  have hf := hs.frozen ho i
  unfold store
  cases v <;> simp_all [Sem.run, isOne]
theorem PutAt.nil {L L' : List Box} {g i : Nat} (h : PutAt L g i [] L') : L' = L := by
  generalize hu : ([] : List Value) = us at h
  induction h with
  | here g t cs L i us hle => subst hu; simp [spl]
  | next b L g i us L' h ih => rw [ih hu]
theorem run_storeCells : ∀ (vs : List Value) {L L' : List Box} {w : World} {g i k : Nat}, St B V L w → PutAt L g (i + k) vs L' → (∀ v ∈ vs, isOne v = true) → ∃ w', (storeCells ⟨g, i, none⟩ vs k).run P w = .ok () w' ∧ St B V L' w'
  | [], L, L', w, g, i, k, hs, hp, _ => by
    refine ⟨w, rfl, ?_⟩
    have := hp.nil
    rw [this]; exact hs
  | v :: vs, L, L', w, g, i, k, hs, hp, h1 => by
    obtain ⟨L1, hp1, hp2⟩ := hp.split
    obtain ⟨w', hr, hs'⟩ := run_storeCells vs (k := k + 1) (hs.set1 hp1) (by rw [show i + (k + 1) = i + k + 1 by omega]; exact hp2) (fun u hu => h1 u (by simp [hu]))
    refine ⟨w', ?_, hs'⟩
    rw [storeCells, Sem.run_bind, add_none, run_store1 hs hp1 (h1 v (by simp))]
    exact hr

theorem run_loadFrom (b o : Nat) (w : World) : ∀ (cs : List Value) (i : Nat) (acc : Array Value), (∀ j v, cs[j]? = some v → w.cell? ⟨b, o + (i + j), none⟩ = some v) → (loadCellsFrom ⟨b, o, none⟩ i cs.length acc).run P w = .ok (acc ++ cs.toArray) w
  | [], i, acc, _ => by simp [loadCellsFrom]
  | c :: cs, i, acc, h => by
    have h0 := h 0 c (by simp)
    rw [List.length_cons, loadCellsFrom, Sem.run_bind]
    have e : (load ((⟨b, o, none⟩ : Addr).add i)).run P w = .ok c w := by
      rw [add_none]
      unfold load
      simp only [Nat.add_zero] at h0
      simp [Sem.run, h0]
    rw [e]
    show (loadCellsFrom ⟨b, o, none⟩ (i + 1) cs.length (acc.push c)).run P w = _
    rw [run_loadFrom b o w cs (i + 1) (acc.push c) (fun j v hj => by
      have := h (j + 1) v (by simpa using hj)
      rw [show o + (i + 1 + j) = o + (i + (j + 1)) by omega]; exact this)]
    congr 1
    simp
def CellsFrom (V : View) (b o : Nat) (cs : List Value) : Prop := ∀ j v, cs[j]? = some v → V ⟨b, o + j, none⟩ = some v
theorem CellsFrom.le {V V' : View} {b o : Nat} {cs : List Value} (h : CellsFrom V b o cs) (hv : VLe V V') : CellsFrom V' b o cs := fun j v hj => hv _ _ (h j v hj)

/-! ### Loads -/
variable {d : Option Tmp} {ty : TypeId} {pos : String} {af : Array Edge} {gd : Option (Nat × Bool)} {x y : Operand} {T : TypeId}
theorem run_load_cell {a : Addr} {v : Value} {w : World} (hA : (isAgg T).run P w = .ok false w) (hc : w.cell? a = some v) : (loadVar T a).run P w = .ok v w := by
  unfold loadVar
  rw [Sem.run_bind, hA]
  show (load a).run P w = _
  unfold load
  simp [Sem.run, hc]
theorem run_load_cells {b o : Nat} {cs : List Value} {w : World} (hA : (isAgg T).run P w = .ok true w) (hS : (sizeOf T).run P w = .ok cs.length w) (hc : ∀ j v, cs[j]? = some v → w.cell? ⟨b, o + j, none⟩ = some v) : (loadVar T ⟨b, o, none⟩).run P w = .ok (.agg cs.toArray) w := by
  unfold loadVar
  rw [Sem.run_bind, hA]
  show (do let n ← sizeOf T; let c ← loadCells ⟨b, o, none⟩ n; pure (Value.agg c) : Sem Value).run P w = _
  rw [Sem.run_bind, hS]
  show (do let c ← loadCells ⟨b, o, none⟩ cs.length; pure (Value.agg c) : Sem Value).run P w = _
  rw [Sem.run_bind, loadCells, run_loadFrom b o w cs 0 #[] (fun j v hj => by simpa using hc j v hj)]
  simp
theorem q_load_of {v : Value} {a : Addr} (hx : evF F x = some (.pointer (some a))) (h : ∀ w, St B V L w → (loadVar T a).run P w = .ok v w) : QP P B N V L ⟨d, .load T x, ty, pos, af, gd⟩ F v := q_of fun ac w ha hs => by
  simp [execOp, ha.ev hx, Instr.loadAt, Instr.sureAddr, h w hs]
theorem q_load_v {v : Value} {a : Addr} (hA : IsOne P T) (hx : evF F x = some (.pointer (some a))) (hc : V a = some v) : QP P B N V L ⟨d, .load T x, ty, pos, af, gd⟩ F v :=
  q_load_of hx fun w hs => run_load_cell (hA.h w) (hs.view a v hc).1
theorem q_load_o {v : Value} {g i : Nat} {cs : List Value} (hA : IsOne P T) (hx : evF F x = some (.pointer (some ⟨g, i, none⟩))) (ho : OwnAt L g cs) (hc : cs[i]? = some v) : QP P B N V L ⟨d, .load T x, ty, pos, af, gd⟩ F v :=
  q_load_of hx fun w hs => run_load_cell (hA.h w) ((hs.cell ho i).trans hc)
theorem q_loadA_v {b o n : Nat} {cs : List Value} (hA : IsAg P T n) (hx : evF F x = some (.pointer (some ⟨b, o, none⟩))) (hc : CellsFrom V b o cs) (hn : n = cs.length) : QP P B N V L ⟨d, .load T x, ty, pos, af, gd⟩ F (.agg cs.toArray) :=
  q_load_of hx fun w hs => by subst hn; exact run_load_cells (hA.h w) (hA.s w) (fun j v hj => (hs.view _ v (hc j v hj)).1)
theorem q_loadA_o {g n : Nat} {cs : List Value} (hA : IsAg P T n) (hx : evF F x = some (.pointer (some ⟨g, 0, none⟩))) (ho : OwnAt L g cs) (hn : n = cs.length) : QP P B N V L ⟨d, .load T x, ty, pos, af, gd⟩ F (.agg cs.toArray) :=
  q_load_of hx fun w hs => by subst hn; exact run_load_cells (hA.h w) (hA.s w) (fun j v hj => by rw [Nat.zero_add, hs.cell ho]; exact hj)
theorem q_loadA_p {g i n : Nat} {cs us : List Value} (hA : IsAg P T n) (hx : evF F x = some (.pointer (some ⟨g, i, none⟩))) (ho : OwnAt L g cs) (hu : (cs.drop i).take n = us) (hn : n = us.length) : QP P B N V L ⟨d, .load T x, ty, pos, af, gd⟩ F (.agg us.toArray) :=
  q_load_of hx fun w hs => by
    subst hn
    exact run_load_cells (hA.h w) (hA.s w) (fun j v hj => by
      rw [hs.cell ho]
      have hj' := hj
      rw [← hu, List.getElem?_take, List.getElem?_drop] at hj'
      split at hj'
      · exact hj'
      · cases hj')

/-! ### Addresses -/
theorem q_fieldAddr {i off b o : Nat} (hf : FieldIs P T i off) (hx : evF F x = some (.pointer (some ⟨b, o, none⟩))) : QP P B N V L ⟨d, .fieldAddr T x i, ty, pos, af, gd⟩ F (.pointer (some ⟨b, o + off, none⟩)) := q_of fun ac w ha hs => by
  simp [execOp, ha.ev hx, hf.h ⟨b, o, none⟩ w, add_none]
theorem q_indexAddr {E sz b o n c k : Nat} (hu : UnderIs P T (.slice E)) (hS : SizeIs P E sz) (hx : evF F x = some (.slice (some ⟨b, o, none⟩) n c)) (hi : evF F y = some (.int .i64 (k : Int))) (hk : k < n) : QP P B N V L ⟨d, .indexAddr T x y, ty, pos, af, gd⟩ F (.pointer (some ⟨b, o + k * sz, none⟩)) := q_of fun ac w ha hs => by
  have h1 : ¬ n ≤ k := by omega
  simp [execOp, ha.ev hx, ha.ev hi, Instr.indexAt, asIntOf, hu.h, hS.h, hk, h1, add_none]
theorem q_indexAddr_i {E sz b o n c : Nat} {i : Int} (hu : UnderIs P T (.slice E)) (hS : SizeIs P E sz) (hx : evF F x = some (.slice (some ⟨b, o, none⟩) n c)) (hi : evF F y = some (.int .i64 i)) (hk : 0 ≤ i ∧ i < n) : QP P B N V L ⟨d, .indexAddr T x y, ty, pos, af, gd⟩ F (.pointer (some ⟨b, o + i.toNat * sz, none⟩)) := q_of fun ac w ha hs => by
  simp [execOp, ha.ev hx, ha.ev hi, Instr.indexAt, asIntOf, hu.h, hS.h, hk.1, hk.2, add_none]
theorem q_len {A : Option Addr} {n c E : Nat} {cl : Call} (hc : cl = ⟨.builtin .len, #[x], #[T]⟩) (hu : UnderIs P T (.slice E)) (hx : evF F x = some (.slice A n c)) : QP P B N V L ⟨d, .call cl, ty, pos, af, gd⟩ F (.int .i64 n) := q_of fun ac w ha _ => by
  subst hc
  simp [execOp, ha.ev hx, resolve, invoke, builtin, Builtin.len_, hu.h, goInt]

/-! ### Boxes of the call's own -/
variable {ops : Array Oper} {rest : List Oper} {k : List Cont}
theorem wp_value {o : Oper} {a : Act} {K : Act → World → Prop} {w w' : World} {v : Value} (h : (execOp a.eval o).run P w = .ok (.value v) w') (hK : K (a.put o.dst v) w') : o.wp P a w K Q := by
  unfold Oper.wp; rw [h]; exact hK
theorem wp_skip' {o : Oper} {a : Act} {K : Act → World → Prop} {w w' : World} (h : (execOp a.eval o).run P w = .ok .skip w') (hK : K (a.put o.dst undef) w') : o.wp P a w K Q := by
  unfold Oper.wp; rw [h]; exact hK
theorem run_newVar (w : World) (v : Value) : (newVar T v).run P w = .ok ⟨w.heap.size, 0, none⟩ (w.alloc (.cells v.cells T)) := rfl
theorem gw_alloc {dr : Mode} (hdr : dr.loud = true) {zs : List Value} (hz' : ZeroIs P T zs) (hd : okD N d = true) (h : ∀ g, GoL P B N dr ops Q k rest (putF F d (.pointer (some ⟨g, 0, none⟩))) V (⟨g, T, zs⟩ :: L)) : GoW P B N dr ops Q k ⟨d, .alloc T, ty, pos, af, gd⟩ rest F V L := gw_loud hdr fun a w ha hs => by
  obtain ⟨z, hz, hzs⟩ := hz'.h
  refine wp_value (w' := w.alloc (.cells zs.toArray T)) (v := .pointer (some ⟨w.heap.size, 0, none⟩)) ?_ (gl_loud hdr (h w.heap.size) _ _ (ha.put hd _) (hs.alloc T zs))
  simp [execOp, Instr.alloc, hz, run_newVar, hzs]
theorem gw_box {dr : Mode} (hdr : dr.loud = true) {v : Value} {cs : List Value} (hx : evF F x = some v) (hcs : v.cells = cs.toArray) (hd : okD N d = true) (h : ∀ g, GoL P B N dr ops Q k rest (putF F d (.pointer (some ⟨g, 0, none⟩))) V (⟨g, T, cs⟩ :: L)) : GoW P B N dr ops Q k ⟨d, .box T x, ty, pos, af, gd⟩ rest F V L := gw_loud hdr fun a w ha hs => by
  refine wp_value (w' := w.alloc (.cells cs.toArray T)) (v := .pointer (some ⟨w.heap.size, 0, none⟩)) ?_ (gl_loud hdr (h w.heap.size) _ _ (ha.put hd _) (hs.alloc T cs))
  simp [execOp, Instr.box, ha.ev hx, run_newVar, hcs]
theorem gw_store {dr : Mode} (hdr : dr.loud = true) {v : Value} {n g i : Nat} {vs : List Value} {L' : List Box} (hS : SizeIs P T n) (hx : evF F x = some (.pointer (some ⟨g, i, none⟩))) (hy : evF F y = some v) (hcs : v.cells = vs.toArray) (hn : n = vs.length) (h1 : ∀ u ∈ vs, isOne u = true) (hp : PutAt L g i vs L') (hd : okD N d = true)
    (h : GoL P B N dr ops Q k rest (putF F d undef) V L') : GoW P B N dr ops Q k ⟨d, .store T x y, ty, pos, af, gd⟩ rest F V L := gw_loud hdr fun a w ha hs => by
  obtain ⟨w', hr, hs'⟩ := run_storeCells (P := P) vs (k := 0) hs hp h1
  refine wp_skip' (w' := w') ?_ (gl_loud hdr h _ _ (ha.put hd _) hs')
  subst hn
  simp [execOp, ha.ev hx, ha.ev hy, Instr.storeAt, Instr.sureAddr, storeVar, hS.h, hcs, hr]

/-! ### Calls -/
def evL (F : List (Nat × Value)) : List Operand → Option (List Value)
  | [] => some []
  | x :: l => match evF F x, evL F l with
    | some v, some vs => some (v :: vs)
    | _, _ => none
theorem Kn.evL {a : Act} (ha : Kn N F a) : ∀ {l : List Operand} {vs : List Value}, evL F l = some vs → l.map a.eval = vs
  | [], vs, h => by simpa [Proofs.Ytejkmomfpidnbaa.evL] using h
  | x :: l, vs, h => by
    rw [Proofs.Ytejkmomfpidnbaa.evL] at h
    cases h1 : evF F x with
    | none => rw [h1] at h; cases h
    | some v =>
      cases h2 : Proofs.Ytejkmomfpidnbaa.evL F l with
      | none => rw [h1, h2] at h; cases h
      | some us =>
        rw [h1, h2] at h
        simp only [Option.some.injEq] at h
        rw [List.map_cons, ha.ev h1, ha.evL h2, h]
theorem exec_call {f : FuncId} {args : List Operand} {ats : Array TypeId} {vs : List Value} {a : Act} {w : World} (he : Enters P f) (ha : Kn N F a) (hv : evL F args = some vs) :
    (execOp a.eval ⟨d, .call ⟨.value (.func f), args.toArray, ats⟩, ty, pos, af, gd⟩).run P w = .ok (.enter f vs.toArray) w := by
  have h := ha.evL hv
  simp [execOp, resolve, Deferred.ofValue, invoke, Act.eval, h, he.h vs.toArray w]
theorem St.call (hs : St B V L w) {w' : World} {V' : View} (hx : Ext w w') (h1 : VLe V V') (h2 : VIn V' w') (h3 : ∀ p x, V' p = some x → p.block < w.heap.size → V p = some x) : St B V' L w' := by
  refine ⟨Exc.via hs.ext hx, fun p x hp => ⟨h2 p x hp, fun b hb => ?_⟩, fun p x hp hb => hs.old p x (h3 p x hp (Nat.lt_of_lt_of_le hb hs.ext.sz)) hb, hs.v0.trans h1, fun b hb => ⟨(hx.block b.g (hs.lt hb)).trans (hs.own b hb).1, (hs.own b hb).2⟩, hs.nodup⟩
  rcases Nat.lt_or_ge p.block w.heap.size with h | h
  · exact (hs.view p x (h3 p x hp h)).2 b hb
  · have := hs.lt hb
    omega
theorem gw_call {dr : Mode} (hdr : dr.loud = true) {f : FuncId} {args : List Operand} {ats : Array TypeId} {vs : List Value} {R : Value → View → Prop} (he : Enters P f) (hv : evL F args = some vs) (hd : okD N d = true) (hc : Fn P f vs V R)
    (h : ∀ v V', VLe V V' → R v V' → GoL P B N dr ops Q k rest (putF F d v) V' L) : GoW P B N dr ops Q k ⟨d, .call ⟨.value (.func f), args.toArray, ats⟩, ty, pos, af, gd⟩ rest F V L := gw_loud hdr fun a w ha hs => by
  unfold Oper.wp
  rw [exec_call he ha hv]
  refine (hc w (fun p x hp => (hs.view p x hp).1)).mono fun e w' ⟨v, he', hx, V', h1, h2, h3, hR⟩ => ?_
  subst he'
  exact gl_loud hdr (h v V' h1 hR) _ _ (ha.put hd v) (hs.call hx h1 h2 h3)
theorem St.less (hs : St B V L w) {V' : View} (h : VLe V' V) (h0 : VLe B.v V') : St B V' L w := ⟨hs.ext, fun p x hp => hs.view p x (h p x hp), fun p x hp => hs.old p x (h p x hp), h0, hs.own, hs.nodup⟩
theorem q_call {f : FuncId} {args : List Operand} {ats : Array TypeId} {vs : List Value} {v : Value} (he : Enters P f) (hv : evL F args = some vs) (hc : Fn P f vs V fun u _ => u = v) : QO P B N V L ⟨d, .call ⟨.value (.func f), args.toArray, ats⟩, ty, pos, af, gd⟩ F v := fun a w ha hs => by
  unfold Oper.quietAt
  rw [exec_call he ha hv]
  refine ⟨rfl, (hc w (fun p x hp => (hs.view p x hp).1)).mono fun e w' ⟨u, he', hx, V', h1, h2, h3, hR⟩ => ?_⟩
  subst he' hR
  exact ⟨rfl, (hs.call hx h1 h2 h3).less h1 hs.v0⟩

/-! ### Results out of boxes -/
theorem rv_cellA {t g n : Nat} {cs : List Value} (hA : IsAg P T n) (hx : look F t = some (.pointer (some ⟨g, 0, none⟩))) (ho : OwnAt L g cs) (hn : n = cs.length) : RV P B N F V L (.cell t T) (.agg cs.toArray) := fun a w ha hs => by
  subst hn
  simp only []
  rw [ha.2.2 t _ hx, Sem.run_bind]
  show (loadVar T _).run P w = _
  exact run_load_cells (hA.h w) (hA.s w) (fun j v hj => by rw [Nat.zero_add, hs.cell ho]; exact hj)
theorem rv_cell1 {t g : Nat} {v : Value} {cs : List Value} (hA : IsOne P T) (hx : look F t = some (.pointer (some ⟨g, 0, none⟩))) (ho : OwnAt L g cs) (hc : cs[0]? = some v) : RV P B N F V L (.cell t T) v := fun a w ha hs => by
  simp only []
  rw [ha.2.2 t _ hx, Sem.run_bind]
  show (loadVar T _).run P w = _
  exact run_load_cell (hA.h w) ((hs.cell ho 0).trans hc)
end
end Go.Proofs.Ytejkmomfpidnbaa
