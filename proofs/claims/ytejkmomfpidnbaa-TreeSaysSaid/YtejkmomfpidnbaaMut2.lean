/- The engine: reading callees in drawn regions; make; bytes and strings; pointers compared with nil. No program is named here. -/
import Derived.Test.YtejkmomfpidnbaaMut
import Derived.Laws.BytesString
import Derived.Laws.MakeOwn
import Derived.Laws.Pointers
namespace Go.Proofs.Ytejkmomfpidnbaa
open Go.RowKit
set_option linter.unusedSimpArgs false
set_option linter.unusedVariables false
section
variable {P : Program} {B : Base} {N : Nat} {Q : Exit → Act → World → Prop} {k : List Cont} {F : List (Nat × Value)} {V : View} {L : List Box} {w : World}
variable {d : Option Tmp} {ty : TypeId} {pos : String} {af : Array Edge} {gd : Option (Nat × Bool)} {x y : Operand} {T T2 : TypeId} {ops : Array Oper} {rest : List Oper}
/-- A call that only reads boxes. -/
theorem q_callB {f : FuncId} {args : List Operand} {ats : Array TypeId} {vs : List Value} {v : Value} {Bs : List Box} {g : List Box → List Box} (he : Enters P f) (hv : evL F args = some vs) (hL : Repl L Bs g) (hc : FnB P f vs V Bs fun u _ Bs' => u = v ∧ Bs' = Bs) : QO P B N V L ⟨d, .call ⟨.value (.func f), args.toArray, ats⟩, ty, pos, af, gd⟩ F v := fun a w ha hs => by
  obtain ⟨X, Y, hX, hg⟩ := hL.h
  subst hX
  unfold Oper.quietAt
  rw [exec_call he ha hv]
  have hsub : Bs.Sublist (X ++ (Bs ++ Y)) := (List.sublist_append_left Bs Y).trans (List.sublist_append_right X (Bs ++ Y))
  refine ⟨rfl, (hc w (hs.sub' hsub)).mono fun e w' ⟨u, V', Bs', he', hst, hR⟩ => ?_⟩
  obtain ⟨rfl, rfl⟩ := hR
  subst he'
  exact ⟨rfl, (hs.callB hst).less hst.v0 hs.v0⟩
theorem ones_any {l : List Value} (h : ∀ u ∈ l, isOne u = true) : ∀ u ∈ l, isOne u = true := h
structure MakeIs (P : Program) (E : TypeId) (sz bytes : Nat) (z : Value) : Prop where
  h : ∃ i, P.info? E = some i ∧ i.zero = some z ∧ i.size = sz ∧ i.bytes = bytes
theorem gw_makeSlice {dr : Mode} (hdr : dr.loud = true) {E sz bytes n : Nat} {z : Value} (hu : UnderIs P T (.slice E)) (hi : MakeIs P E sz bytes z) (hx : evF F x = some (.int .i64 (n : Int))) (hy : evF F y = some (.int .i64 (n : Int))) (hn : n ≤ 1000000) (hby : Nat.ble bytes 100000 = true) (hd : okD N d = true)
    (h : ∀ g, GoL P B N dr ops Q k rest (putF F d (.slice (some ⟨g, 0, none⟩) n n)) V (⟨g, E, (madeCells z.cells (n * sz)).toList⟩ :: L)) : GoW P B N dr ops Q k ⟨d, .makeSlice T x y, ty, pos, af, gd⟩ rest F V L := gw_loud hdr fun a w ha hs => by
  obtain ⟨i, hinfo, hz, e1, e2⟩ := hi.h
  have hb := Nat.le_of_ble_eq_true hby
  have hbytes : (i.bytes : Int) * (n : Int) ≤ 281474976710656 := by
    have h1 : i.bytes * n ≤ 100000 * 1000000 := Nat.mul_le_mul (by omega) hn
    have h2 : ((i.bytes * n : Nat) : Int) ≤ 281474976710656 := by omega
    rwa [Int.natCast_mul] at h2
  have hr := run_make (P := P) w T E i z hu.u hinfo hz .i64 .i64 n n (by omega) (Int.le_refl _) hbytes (by omega)
  simp only [Int.toNat_natCast] at hr
  rw [e1] at hr
  refine wp_value (w' := w.alloc (.cells (madeCells z.cells (n * sz)).toList.toArray E)) (v := .slice (some ⟨w.heap.size, 0, none⟩) n n) ?_ (gl_loud hdr (h w.heap.size) _ _ (ha.put hd _) (hs.alloc E _))
  simp [execOp, ha.ev hx, ha.ev hy, hr]
/-- Bytes as cells. -/
def u8C (l : List UInt8) : List Value := l.map fun c => .int .u8 (c.toNat : Int)
theorem u8C_len (l : List UInt8) : (u8C l).length = l.length := by simp [u8C]
theorem fold_push (l : List UInt8) : ∀ s : ByteArray, ((l.map fun c => (c.toNat : Int)).foldl (fun r n => r.push (UInt8.ofNat n.toNat)) s).data.toList = s.data.toList ++ l := by
  induction l with
  | nil => intro s; simp
  | cons c l ih => intro s; rw [List.map_cons, List.foldl_cons, ih]; simp [ByteArray.push]
theorem q_bytes {t t2 E m c2 : Nat} {As : Option Addr} {us : List UInt8} (hu : UnderIs P t (.slice E)) (hE : UnderIs P E (.int .u8)) (ht : UnderIs P t2 .string) (hx : evF F x = some (.slice As m c2)) (hsrc : SrcIs B V L 1 As m (u8C us)) : QP P B N V L ⟨d, .convert t t2 x, ty, pos, af, gd⟩ F (.string ⟨us.toArray⟩) := q_of fun a w ha hs => by
  have hc := hsrc w hs
  have hlen : us.length = m := by have := hc.1; rw [u8C_len] at this; omega
  have hb : (Conv.bytesToString (.slice As m c2)).run P w = .ok (.string ⟨us.toArray⟩) w := by
    cases As with
    | none =>
      have hm : m = 0 := by
        rcases Nat.eq_zero_or_pos m with h | h
        · exact h
        · obtain ⟨_, _, h, _⟩ := hc.2 h; cases h
      have : us = [] := List.eq_nil_of_length_eq_zero (by omega)
      subst this
      rfl
    | some ad =>
      have hl : (loadCells ad m).run P w = .ok ((us.map fun c => (c.toNat : Int)).map (Value.int .u8)).toArray w := by
        rcases Nat.eq_zero_or_pos m with h | h
        · have : us = [] := List.eq_nil_of_length_eq_zero (by omega)
          subst this; subst h; rfl
        · obtain ⟨b, off, he, hcell⟩ := hc.2 h
          injection he with he; subst he
          have hr := run_loadFrom (P := P) b off w (u8C us) 0 #[] (fun j v hj => by rw [Nat.zero_add]; exact hcell j v hj)
          rw [u8C_len, hlen] at hr
          rw [loadCells, hr]
          simp [u8C]
      rw [run_bytesToString w ad m c2 _ hl]
      congr 2
      apply str_ext
      rw [Lib.toList_data, Lib.toList_data, fold_push]
      simp
  simp [execOp, ha.ev hx, convert, hu.h, hE.h, ht.h, hb]
/-- copy out of a string. -/
theorem gw_copys {dr : Mode} (hdr : dr.loud = true) {E dl dc g i : Nat} {dp : Option Addr} {s : ByteArray} {us : List UInt8} {L' : List Box} (hu : UnderIs P T (.slice E)) (hS : SizeIs P E 1) (hx : evF F x = some (.slice dp dl dc)) (hy : evF F y = some (.string s))
    (hus : s.toList.take (min s.size dl) = us) (hpos : 0 < us.length → dp = some ⟨g, i, none⟩) (hp : PutAt L g i (u8C us) L') (hd : okD N d = true)
    (h : GoL P B N dr ops Q k rest (putF F d (.int .i64 ((min s.size dl : Nat) : Int))) V L') : GoW P B N dr ops Q k ⟨d, .call ⟨.builtin .copy, #[x, y], #[T, T2]⟩, ty, pos, af, gd⟩ rest F V L := gw_loud hdr fun a w ha hs => by
  have hf : (Builtin.firstCells 1 (min s.size dl) (.string s)).run P w = .ok (u8C us).toArray w := by
    have e : (s.extract 0 (min s.size dl)).data.toList = us := by
      rw [← Lib.toList_data, ba_take' s _ (Nat.min_le_left _ _), hus]
    show Result.ok ((s.extract 0 (min s.size dl)).data.map fun b => Value.int .u8 b.toNat) w = _
    congr 1
    rw [← e]
    apply Array.toList_inj.1
    simp [u8C]
  have h1 : ∀ u ∈ u8C us, isOne u = true := by intro u hu; obtain ⟨c, _, rfl⟩ := List.mem_map.1 hu; rfl
  have hmin : Nat.min s.size dl = min s.size dl := rfl
  by_cases hvs : us = []
  · subst hvs
    have hL : L' = L := hp.nil
    subst hL
    refine wp_value (w' := w) (v := goInt ((min s.size dl : Nat) : Int)) ?_ (gl_loud hdr h _ w (ha.put hd _) hs)
    cases dp with
    | none => simp [execOp, ha.ev hx, ha.ev hy, resolve, invoke, builtin, Builtin.copy_, hu.h, hS.h, Builtin.lenOf, hmin, hf]; try rfl
    | some ad => simp [execOp, ha.ev hx, ha.ev hy, resolve, invoke, builtin, Builtin.copy_, hu.h, hS.h, Builtin.lenOf, hmin, hf, u8C, storeCells]; try rfl
  · have hpos := hpos (List.length_pos_iff.2 hvs)
    subst hpos
    obtain ⟨w', hr, hs'⟩ := run_storeCells (P := P) (u8C us) (k := 0) hs hp h1
    refine wp_value (w' := w') (v := goInt ((min s.size dl : Nat) : Int)) ?_ (gl_loud hdr h _ w' (ha.put hd _) hs')
    simp [execOp, ha.ev hx, ha.ev hy, resolve, invoke, builtin, Builtin.copy_, hu.h, hS.h, Builtin.lenOf, hmin, hf, hr]; try rfl
structure PtrIs (P : Program) (T : TypeId) : Prop where
  h : P.underlying T = some (.pointer (P.pointee T))
theorem q_pnil_eql {t ty2 : TypeId} {p : Option Addr} (hp : PtrIs P t) (hx : evF F x = some (.pointer p)) : QP P B N V L ⟨d, .binOp .eql t x (.const (.pointer none)) ty2, ty, pos, af, gd⟩ F (.bool p.isNone) :=
  q_bin (y := .const (.pointer none)) hx rfl (fun w => by simp [eqGuard]) (fun w => run_eql_pointer_nil w t p hp.h)
end
end Go.Proofs.Ytejkmomfpidnbaa
