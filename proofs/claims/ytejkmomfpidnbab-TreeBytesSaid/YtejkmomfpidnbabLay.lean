/- The engine: bytes of numbers, strings put together. No program is named here. -/
import Derived.Test.YtejkmomfpidnbabLayP
import Derived.Test.YtejkmomfpidnbabBld
import Derived.Test.YtejkmomfpidnbabGrow
namespace Go.Proofs.Ytejkmomfpidnbab
open Go.RowKit
set_option linter.unusedSimpArgs false
set_option linter.unusedVariables false
theorem wrap_b8 (a : Int) : IntKind.wrap .u8 a = ((b8 a).toNat : Int) := by
  rw [b8_nat]; simp [IntKind.wrap, IntKind.bits, IntKind.signed, Int.bmod]
theorem ba_of (l : List UInt8) : (⟨l.toArray⟩ : ByteArray).toList = l := by rw [Lib.toList_data]
theorem ba_sz (l : List UInt8) : (⟨l.toArray⟩ : ByteArray).size = l.length := rfl
theorem ba_is (s : ByteArray) : s = ⟨s.toList.toArray⟩ := by rw [Lib.toList_data]
section
variable {P : Program} {B : Base} {N : Nat} {Q : Exit → Act → World → Prop} {k : List Cont} {F : List (Nat × Value)} {V : View} {L : List Box} {w : World}
variable {d : Option Tmp} {ty ty2 : TypeId} {pos : String} {af : Array Edge} {gd : Option (Nat × Bool)} {x y z : Operand} {T T2 : TypeId}
theorem q_conv8 {k0 : IntKind} {s t : TypeId} {ds : TypeDesc} {a : Int} (hs : UnderIs P s ds) (ht : UnderIs P t (.int .u8)) (hx : evF F x = some (.int k0 a)) : QP P B N V L ⟨d, .convert s t x, ty, pos, af, gd⟩ F (.int .u8 ((b8 a).toNat : Int)) := q_of fun ac w ha _ => by
  have e : (Conv.intToInt .u8 a) = pure (.int .u8 ((b8 a).toNat : Int)) := by unfold Conv.intToInt; rw [wrap_b8]
  simp [execOp, ha.ev hx, convert, hs.h, ht.h, e]
theorem q_shr8 {k : IntKind} {t ty2 : TypeId} {a : Int} (hx : evF F x = some (.int .i64 a)) (hy : evF F y = some (.int k 8)) (h : 0 ≤ a) : QP P B N V L ⟨d, .binOp .shr t x y ty2, ty, pos, af, gd⟩ F (.int .i64 (a / 256)) := by
  refine q_bin hx hy (fun w => by simp [eqGuard]) (fun w => ?_)
  have e : a.fdiv 256 = a / 256 := Int.fdiv_eq_ediv_of_nonneg a (by decide)
  simp [binOp, Op.shift, IntKind.bits, e]
theorem ba_app (l m : List UInt8) : (⟨l.toArray⟩ : ByteArray) ++ ⟨m.toArray⟩ = ⟨(l ++ m).toArray⟩ := by
  apply ByteArray.ext; rw [ByteArray.data_append]; simp
theorem q_saddl {l m : List UInt8} (hx : evF F x = some (.string ⟨l.toArray⟩)) (hy : evF F y = some (.string ⟨m.toArray⟩)) (h : l.length + m.length ≤ 1000000000) : QP P B N V L ⟨d, .binOp .add T x y ty2, ty, pos, af, gd⟩ F (.string ⟨(l ++ m).toArray⟩) := by
  have := q_sadd (P := P) (B := B) (N := N) (V := V) (L := L) (d := d) (ty := ty) (ty2 := ty2) (pos := pos) (af := af) (gd := gd) (t := T) hx hy (by rw [ba_sz, ba_sz]; omega)
  rw [ba_app] at this; exact this
theorem q_sadds {l : List UInt8} {s : ByteArray} (hx : evF F x = some (.string ⟨l.toArray⟩)) (hy : evF F y = some (.string s)) (h : l.length + s.size ≤ 1000000000) : QP P B N V L ⟨d, .binOp .add T x y ty2, ty, pos, af, gd⟩ F (.string ⟨(l ++ s.toList).toArray⟩) := by
  rw [ba_is s] at hy
  exact q_saddl hx hy (by rw [Lib.toList_data]; exact h)
theorem src_u8 {g m : Nat} {us : List UInt8} (h : CellsFrom V g 0 (u8C us)) (hm : us.length = m) : SrcIs B V L 1 (some ⟨g, 0, none⟩) m (u8C us) := src_v ⟨by rw [u8C_len]; omega, fun _ => ⟨g, 0, rfl, h⟩⟩
theorem q_indexAddrA {E sz b o n m : Nat} (hu : UnderIs P T (.array n E)) (hS : SizeIs P E sz) (hn : Nat.ble 2 n = true) (hx : evF F x = some (.pointer (some ⟨b, o, none⟩))) (hi : evF F y = some (.int .i64 (m : Int))) (hk : m < n) : QP P B N V L ⟨d, .indexAddr T x y, ty, pos, af, gd⟩ F (.pointer (some ⟨b, o + m * sz, none⟩)) := q_of fun ac w ha hs => by
  have h1 : ¬ n ≤ m := by omega
  have h2 := Nat.le_of_ble_eq_true hn
  simp [execOp, ha.ev hx, ha.ev hi, Instr.indexAt, Instr.sureAddr, asIntOf, hu.h, hS.h, hk, h1, add_none]
structure BuildA (P : Program) (T : TypeId) (sz : Nat) (zs : List Value) : Prop where
  h : (∃ n E, (∀ w, (underlying T).run P w = .ok (.array n E) w) ∧ ∀ w, (sizeOf E).run P w = .ok sz w) ∧ ∃ z, (∀ w, (zeroValue T).run P w = .ok z w) ∧ z.cells = zs.toArray
theorem run_buildA {sz : Nat} {zs us : List Value} {vs : List (Nat × Value)} (hb : BuildA P T sz zs) (hf : fillL (fun i => some (i * sz, sz)) zs vs = some us) (w : World) : (Instr.build T vs.toArray).run P w = .ok (.agg us.toArray) w := by
  obtain ⟨⟨n, E, h1, h2⟩, z, h3, h4⟩ := hb.h
  have hfill := fill_fillL _ _ _ _ hf
  unfold Instr.build
  simp only [Sem.run_bind, h3, Result.andThen_ok, h1, h2, h4]
  rw [hfill]
  rfl
theorem q_buildA {sz : Nat} {zs us : List Value} {ps : List (Nat × Operand)} {vs : List (Nat × Value)} (hb : BuildA P T sz zs) (hp : evP F ps = some vs) (hf : fillL (fun i => some (i * sz, sz)) zs vs = some us) : QP P B N V L ⟨d, .build T ps.toArray, ty, pos, af, gd⟩ F (.agg us.toArray) := q_of fun a w ha _ => by
  have h := ha.evP hp
  have e : (ps.toArray.map fun (p : Nat × Operand) => (p.1, a.eval p.2)) = vs.toArray := by rw [← h]; simp
  have hr := run_buildA hb hf w
  rw [← e] at hr
  simp only [execOp]
  have e2 : (ps.toArray.map fun x => match x with | (i, x) => (i, a.eval x)) = (ps.toArray.map fun (p : Nat × Operand) => (p.1, a.eval p.2)) := rfl
  rw [e2, Sem.run_bind, hr]
  rfl
/-- A function that is handed boxes: none of them is new. -/
theorem fn_enterH {N : Nat} {f : FuncId} {fn : Func} {c : Code} {args : List Value} {Bs : List Box} {R : Value → View → List Box → Prop} (hf : P.funcs[f]? = some fn) (hb : fn.body = some c) (hN : fn.ntmps = N) (hsz : Nat.ble args.length N = true)
    (h : ∀ w, (∀ x ∈ gsOf Bs, x < w.heap.size) → GoC P ⟨V, w, gsOf Bs⟩ N c (bodyPost P fn (FnBEnd V w Bs R)) [] (argsF args 0) V Bs) : FnB P f args V Bs R := fun w hV => by
  have hlt : ∀ x ∈ gsOf Bs, x < w.heap.size := fun x hx => by
    unfold gsOf at hx
    obtain ⟨b, hb, rfl⟩ := List.mem_map.1 hx
    exact hV.lt hb
  refine calls_of_wp hf hb (h w hlt _ w ⟨rfl, ?_, fun t v hv => ?_⟩ hV)
  · have := Nat.le_of_ble_eq_true hsz
    simp [hN]; omega
  · obtain ⟨_, h2⟩ := look_args args 0 t v hv
    have hlt : t < args.length := by
      rcases Nat.lt_or_ge t args.length with hl | hl
      · exact hl
      · rw [List.getElem?_eq_none (by omega)] at h2; cases h2
    rw [List.getElem?_eq_getElem (by omega)] at h2
    simp only [Nat.sub_zero] at h2
    injection h2 with h2
    simp [Array.getElem?_append, hlt, h2]
theorem St.retireN (hs : St B V L w) {L' : List Box} {g : Nat} {cs : List Value} (h : Drop1 L g cs L') (hfl : g ∉ B.fl) : ∃ V', VLe V V' ∧ CellsFrom V' g 0 cs ∧ St B V' L' w := by
  obtain ⟨⟨t, hm⟩, h2, h3⟩ := h.mem
  obtain ⟨h4, h5⟩ := h3 hs.nodup
  have ho := hs.own _ hm
  have hne : ∀ p x, V p = some x → p.block ≠ g := fun p x hp e => (hs.view p x hp).2 _ hm e.symm
  refine ⟨boxedV V w g, fun p x hp => ?_, fun j v hj => ?_, ⟨hs.ext, fun p x hp => ?_, fun p x hp hb => ?_, fun p x hp => ?_, fun b hb => hs.own b (h2 b hb), h4⟩⟩
  · rw [boxedV_out (hne p x hp)]; exact hp
  · rw [boxedV_in (g := g) (p := ⟨g, 0 + j, none⟩) rfl, Nat.zero_add, hs.cell ⟨t, hm⟩]; exact hj
  · by_cases e : p.block = g
    · rw [boxedV_in e] at hp
      exact ⟨hp, fun b hb => by rw [e]; exact h5 b hb⟩
    · rw [boxedV_out e] at hp
      exact ⟨(hs.view p x hp).1, fun b hb => (hs.view p x hp).2 b (h2 b hb)⟩
  · by_cases e : p.block = g
    · rcases ho.2 with h6 | h6
      · simp only [] at h6
        omega
      · exact absurd h6 hfl
    · rw [boxedV_out e] at hp
      exact hs.old p x hp hb
  · rw [boxedV_out (hne p x (hs.v0 p x hp))]; exact hs.v0 p x hp
/-- A slice that is made, and then only read. -/
theorem gw_buildSliceV {dr : Mode} {ops : Array Oper} {rest : List Oper} (hdr : dr.loud = true) (hfl : ∀ x ∈ B.fl, x < B.w.heap.size) {E sz len : Nat} {z : Value} {zs us : List Value} {ps : List (Nat × Operand)} {vs : List (Nat × Value)} (hu : UnderIs P T (.slice E)) (hS : SizeIs P E sz) (hz' : ZeroCells P E z)
    {zc : List Value} (hzc : z.cells = zc.toArray) (hzl : sz = zc.length) (hzs : repL len zc = zs) (hp : evP F ps = some vs) (hf : fillL (fun i => some (i * sz, sz)) zs vs = some us) (hlen : (Nat.ble (len * sz) 16777216 && !Nat.beq (len * sz) 0) = true) (hd : okD N d = true)
    (h : ∀ g V', VLe V V' → CellsFrom V' g 0 us → GoL P B N dr ops Q k rest (putF F d (.slice (some ⟨g, 0, none⟩) len len)) V' L) : GoW P B N dr ops Q k ⟨d, .buildSlice T len ps.toArray, ty, pos, af, gd⟩ rest F V L := gw_loud hdr fun a w ha hs => by
  obtain ⟨V', hV', hg, hs'⟩ := (hs.alloc E us).retireN (Drop1.here _ _ _ _) (fun hx => by have := hfl _ hx; have := hs.ext.sz; omega)
  refine wp_value (w' := w.alloc (.cells us.toArray E)) (v := .slice (some ⟨w.heap.size, 0, none⟩) len len) ?_ (gl_loud hdr (h w.heap.size V' hV' hg) _ _ (ha.put hd _) hs')
  have hh := ha.evP hp
  have e : (ps.toArray.map fun x => match x with | (i, x) => (i, a.eval x)) = vs.toArray := by rw [← hh]; simp
  have hz := hz'.h
  simp only [Bool.and_eq_true, Bool.not_eq_true'] at hlen
  have h1 := Nat.le_of_ble_eq_true hlen.1
  have h2 : len * sz ≠ 0 := fun e => by rw [e] at hlen; simp at hlen
  have hfill := fill_fillL _ _ _ _ hf
  simp only [execOp]
  rw [e]
  unfold Instr.buildSlice
  have e3 : ¬ (2 ^ 24 < len * sz) := by omega
  have h3 : len ≠ 0 ∧ sz ≠ 0 := ⟨fun e => h2 (by simp [e]), fun e => h2 (by simp [e])⟩
  have hrep : (Array.range (len * sz)).map (fun i => z.cells[i % z.cells.size]!) = zs.toArray := by rw [hzc, hzl, rep_cells, hzs]
  simp [hu.h, hS.h, hz, e3, h3.1, h3.2, hrep, hfill]
  rw [if_neg h2]
  rfl
end
theorem deps_val {l : List Oper} {Rs : List Spec} {V' : View} {D : List Nat} {X : List (Nat × Value) → Prop} {F : List (Nat × Value)} {j d : Nat} {x : Value} (hR : getR Rs j = fun v _ => v = x) (hd : dstOf l j = d) (h : Deps l Rs V' D X ((d, x) :: F)) : Deps l Rs V' (j :: D) X F := fun v hv => by
  rw [hR] at hv; obtain rfl : v = x := hv; rw [hd]; exact h
theorem deps_new {l : List Oper} {Rs : List Spec} {V' : View} {D : List Nat} {X : List (Nat × Value) → Prop} {F : List (Nat × Value)} {j d m : Nat} {cs : List Value} (hR : getR Rs j = newR m cs) (hd : dstOf l j = d) (h : ∀ g, CellsFrom V' g 0 cs → Deps l Rs V' D X ((d, .slice (some ⟨g, 0, none⟩) m m) :: F)) : Deps l Rs V' (j :: D) X F := fun v hv => by
  rw [hR] at hv; obtain ⟨g, rfl, hg⟩ := hv; rw [hd]; exact h g hg
theorem deps_nil {l : List Oper} {Rs : List Spec} {V' : View} {X : List (Nat × Value) → Prop} {F : List (Nat × Value)} (h : X F) : Deps l Rs V' [] X F := h
end Go.Proofs.Ytejkmomfpidnbab
