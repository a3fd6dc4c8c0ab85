/- Walks and plain laws, part 2: what functions compute, proved once each (Mut2, TreeP, LayP, DiskP, IdmapP, HostP, Bld, Grow, Lay, Held3, Auto, Ty, ErrE, DiskE, PermP, CredQ, CredE, CredE2, PermE, Eqs, Name). -/
import Derived.Test.YtejkmomfpidnbabPart1
import Derived.Laws.BytesString
import Derived.Laws.MakeOwn
import Derived.Laws.Pointers
import Derived.Lib.Builder
import Derived.Lib.UnsafeStr
import Derived.Lib.MakeNoZero
import Derived.Lib.Bytealg
import Derived.Laws.Externs
import Derived.Test.YtejkmomfpidnbabProg
import Derived.Test.YtejkmomfpidnbabChecked
import Derived.KernelRfl
/- The engine: reading callees in drawn regions; make; bytes and strings; pointers compared with nil. No program is named here. -/
namespace Go.Proofs.Ytejkmomfpidnbab
open Go.RowKit
set_option linter.unusedSimpArgs false
set_option linter.unusedVariables false
section
variable {P : Program} {B : Base} {N : Nat} {Q : Exit → Act → World → Prop} {k : List Cont} {F : List (Nat × Value)} {V : View} {L : List Box} {w : World}
variable {d : Option Tmp} {ty : TypeId} {pos : String} {af : Array Edge} {gd : Option (Nat × Bool)} {x y : Operand} {T T2 : TypeId} {ops : Array Oper} {rest : List Oper}
/-- A call that only reads boxes. -/
theorem q_callB {f : FuncId} {args : List Operand} {ats : Array TypeId} {vs : List Value} {v : Value} {Bs : List Box} {g : List Box → List Box} (he : Enters P f) (hv : evL F args = some vs) (hL : Repl L Bs g) (hc : FnB P f vs V Bs fun u _ Bs' => u = v ∧ Bs' = Bs) : QO P B N V L ⟨d, .call ⟨.value (.func f), args.toArray, ats⟩, ty, pos, af, gd⟩ F v := fun a w ha hs => by
  obtain ⟨X, Y, hX, hg⟩ := hL.h
  subst hX
  unfold Oper.quietAt
  rw [exec_call he ha hv]
  have hsub : Bs.Sublist (X ++ (Bs ++ Y)) := (List.sublist_append_left Bs Y).trans (List.sublist_append_right X (Bs ++ Y))
  refine ⟨rfl, (hc w (hs.sub' hsub)).mono fun e w' ⟨u, V', Bs', he', hst, hR⟩ => ?_⟩
  obtain ⟨rfl, rfl⟩ := hR
  subst he'
  exact ⟨rfl, (hs.callB hst).less hst.v0 hs.v0⟩
theorem ones_any {l : List Value} (h : ∀ u ∈ l, isOne u = true) : ∀ u ∈ l, isOne u = true := h
structure MakeIs (P : Program) (E : TypeId) (sz bytes : Nat) (z : Value) : Prop where
  h : ∃ i, P.info? E = some i ∧ i.zero = some z ∧ i.size = sz ∧ i.bytes = bytes
theorem gw_makeSlice {dr : Mode} (hdr : dr.loud = true) {E sz bytes n : Nat} {z : Value} (hu : UnderIs P T (.slice E)) (hi : MakeIs P E sz bytes z) (hx : evF F x = some (.int .i64 (n : Int))) (hy : evF F y = some (.int .i64 (n : Int))) (hn : n ≤ 1000000) (hby : Nat.ble bytes 100000 = true) (hd : okD N d = true)
    (h : ∀ g, GoL P B N dr ops Q k rest (putF F d (.slice (some ⟨g, 0, none⟩) n n)) V (⟨g, E, (madeCells z.cells (n * sz)).toList⟩ :: L)) : GoW P B N dr ops Q k ⟨d, .makeSlice T x y, ty, pos, af, gd⟩ rest F V L := gw_loud hdr fun a w ha hs => by
  obtain ⟨i, hinfo, hz, e1, e2⟩ := hi.h
  have hb := Nat.le_of_ble_eq_true hby
  have hbytes : (i.bytes : Int) * (n : Int) ≤ 281474976710656 := by
    have h1 : i.bytes * n ≤ 100000 * 1000000 := Nat.mul_le_mul (by omega) hn
    have h2 : ((i.bytes * n : Nat) : Int) ≤ 281474976710656 := by omega
    rwa [Int.natCast_mul] at h2
  have hr := run_make (P := P) w T E i z hu.u hinfo hz .i64 .i64 n n (by omega) (Int.le_refl _) hbytes (by omega)
  simp only [Int.toNat_natCast] at hr
  rw [e1] at hr
  refine wp_value (w' := w.alloc (.cells (madeCells z.cells (n * sz)).toList.toArray E)) (v := .slice (some ⟨w.heap.size, 0, none⟩) n n) ?_ (gl_loud hdr (h w.heap.size) _ _ (ha.put hd _) (hs.alloc E _))
  simp [execOp, ha.ev hx, ha.ev hy, hr]
/-- Bytes as cells. -/
def u8C (l : List UInt8) : List Value := l.map fun c => .int .u8 (c.toNat : Int)
theorem u8C_len (l : List UInt8) : (u8C l).length = l.length := by simp [u8C]
theorem fold_push (l : List UInt8) : ∀ s : ByteArray, ((l.map fun c => (c.toNat : Int)).foldl (fun r n => r.push (UInt8.ofNat n.toNat)) s).data.toList = s.data.toList ++ l := by
  induction l with
  | nil => intro s; simp
  | cons c l ih => intro s; rw [List.map_cons, List.foldl_cons, ih]; simp [ByteArray.push]
theorem q_bytes {t t2 E m c2 : Nat} {As : Option Addr} {us : List UInt8} (hu : UnderIs P t (.slice E)) (hE : UnderIs P E (.int .u8)) (ht : UnderIs P t2 .string) (hx : evF F x = some (.slice As m c2)) (hsrc : SrcIs B V L 1 As m (u8C us)) : QP P B N V L ⟨d, .convert t t2 x, ty, pos, af, gd⟩ F (.string ⟨us.toArray⟩) := q_of fun a w ha hs => by
  have hc := hsrc w hs
  have hlen : us.length = m := by have := hc.1; rw [u8C_len] at this; omega
  have hb : (Conv.bytesToString (.slice As m c2)).run P w = .ok (.string ⟨us.toArray⟩) w := by
    cases As with
    | none =>
      have hm : m = 0 := by
        rcases Nat.eq_zero_or_pos m with h | h
        · exact h
        · obtain ⟨_, _, h, _⟩ := hc.2 h; cases h
      have : us = [] := List.eq_nil_of_length_eq_zero (by omega)
      subst this
      rfl
    | some ad =>
      have hl : (loadCells ad m).run P w = .ok ((us.map fun c => (c.toNat : Int)).map (Value.int .u8)).toArray w := by
        rcases Nat.eq_zero_or_pos m with h | h
        · have : us = [] := List.eq_nil_of_length_eq_zero (by omega)
          subst this; subst h; rfl
        · obtain ⟨b, off, he, hcell⟩ := hc.2 h
          injection he with he; subst he
          have hr := run_loadFrom (P := P) b off w (u8C us) 0 #[] (fun j v hj => by rw [Nat.zero_add]; exact hcell j v hj)
          rw [u8C_len, hlen] at hr
          rw [loadCells, hr]
          simp [u8C]
      rw [run_bytesToString w ad m c2 _ hl]
      congr 2
      apply str_ext
      rw [Lib.toList_data, Lib.toList_data, fold_push]
      simp
  simp [execOp, ha.ev hx, convert, hu.h, hE.h, ht.h, hb]
/-- copy out of a string. -/
theorem gw_copys {dr : Mode} (hdr : dr.loud = true) {E dl dc g i : Nat} {dp : Option Addr} {s : ByteArray} {us : List UInt8} {L' : List Box} (hu : UnderIs P T (.slice E)) (hS : SizeIs P E 1) (hx : evF F x = some (.slice dp dl dc)) (hy : evF F y = some (.string s))
    (hus : s.toList.take (min s.size dl) = us) (hpos : 0 < us.length → dp = some ⟨g, i, none⟩) (hp : PutAt L g i (u8C us) L') (hd : okD N d = true)
    (h : GoL P B N dr ops Q k rest (putF F d (.int .i64 ((min s.size dl : Nat) : Int))) V L') : GoW P B N dr ops Q k ⟨d, .call ⟨.builtin .copy, #[x, y], #[T, T2]⟩, ty, pos, af, gd⟩ rest F V L := gw_loud hdr fun a w ha hs => by
  have hf : (Builtin.firstCells 1 (min s.size dl) (.string s)).run P w = .ok (u8C us).toArray w := by
    have e : (s.extract 0 (min s.size dl)).data.toList = us := by
      rw [← Lib.toList_data, ba_take' s _ (Nat.min_le_left _ _), hus]
    show Result.ok ((s.extract 0 (min s.size dl)).data.map fun b => Value.int .u8 b.toNat) w = _
    congr 1
    rw [← e]
    apply Array.toList_inj.1
    simp [u8C]
  have h1 : ∀ u ∈ u8C us, isOne u = true := by intro u hu; obtain ⟨c, _, rfl⟩ := List.mem_map.1 hu; rfl
  have hmin : Nat.min s.size dl = min s.size dl := rfl
  by_cases hvs : us = []
  · subst hvs
    have hL : L' = L := hp.nil
    subst hL
    refine wp_value (w' := w) (v := goInt ((min s.size dl : Nat) : Int)) ?_ (gl_loud hdr h _ w (ha.put hd _) hs)
    cases dp with
    | none => simp [execOp, ha.ev hx, ha.ev hy, resolve, invoke, builtin, Builtin.copy_, hu.h, hS.h, Builtin.lenOf, hmin, hf]; try rfl
    | some ad => simp [execOp, ha.ev hx, ha.ev hy, resolve, invoke, builtin, Builtin.copy_, hu.h, hS.h, Builtin.lenOf, hmin, hf, u8C, storeCells]; try rfl
  · have hpos := hpos (List.length_pos_iff.2 hvs)
    subst hpos
    obtain ⟨w', hr, hs'⟩ := run_storeCells (P := P) (u8C us) (k := 0) hs hp h1
    refine wp_value (w' := w') (v := goInt ((min s.size dl : Nat) : Int)) ?_ (gl_loud hdr h _ w' (ha.put hd _) hs')
    simp [execOp, ha.ev hx, ha.ev hy, resolve, invoke, builtin, Builtin.copy_, hu.h, hS.h, Builtin.lenOf, hmin, hf, hr]; try rfl
structure PtrIs (P : Program) (T : TypeId) : Prop where
  h : P.underlying T = some (.pointer (P.pointee T))
theorem q_pnil_eql {t ty2 : TypeId} {p : Option Addr} (hp : PtrIs P t) (hx : evF F x = some (.pointer p)) : QP P B N V L ⟨d, .binOp .eql t x (.const (.pointer none)) ty2, ty, pos, af, gd⟩ F (.bool p.isNone) :=
  q_bin (y := .const (.pointer none)) hx rfl (fun w => by simp [eqGuard]) (fun w => run_eql_pointer_nil w t p hp.h)
end
end Go.Proofs.Ytejkmomfpidnbab

/- Trees in plain terms. No program is named here. -/
namespace Go.Proofs.Ytejkmomfpidnbab
open Go.RowKit
set_option linter.unusedSimpArgs false
set_option linter.unusedVariables false
section
variable {P : Program} {B : Base} {N : Nat} {F : List (Nat × Value)} {V : View} {L : List Box}
variable {d : Option Tmp} {ty : TypeId} {pos : String} {af : Array Edge} {gd : Option (Nat × Bool)} {x y : Operand} {T : TypeId}
theorem q_indexAddr_e {E sz b o n c k : Nat} {A : Option Addr} (hu : UnderIs P T (.slice E)) (hS : SizeIs P E sz) (hx : evF F x = some (.slice A n c)) (hA : A = some ⟨b, o, none⟩) (hi : evF F y = some (.int .i64 (k : Int))) (hk : k < n) : QP P B N V L ⟨d, .indexAddr T x y, ty, pos, af, gd⟩ F (.pointer (some ⟨b, o + k * sz, none⟩)) := by
  subst hA; exact q_indexAddr hu hS hx hi hk
theorem q_indexAddr_ei {E sz b o n c : Nat} {i : Int} {A : Option Addr} (hu : UnderIs P T (.slice E)) (hS : SizeIs P E sz) (hx : evF F x = some (.slice A n c)) (hA : A = some ⟨b, o, none⟩) (hi : evF F y = some (.int .i64 i)) (hk : 0 ≤ i ∧ i < n) : QP P B N V L ⟨d, .indexAddr T x y, ty, pos, af, gd⟩ F (.pointer (some ⟨b, o + i.toNat * sz, none⟩)) := by
  subst hA; exact q_indexAddr_i hu hS hx hi hk
end
/-- What a node has beside its kids. -/
@[ext] structure Hd where
  kind : Int
  mode : Int
  user : Int
  group : Int
  opq : Bool
  attrs : List PA
  data : ByteArray
inductive PN where
  | mk (h : Hd) (ks : List (ByteArray × PN))
abbrev PKs := List (ByteArray × PN)
def PN.h : PN → Hd | .mk h _ => h
def PN.ks : PN → PKs | .mk _ ks => ks
@[simp] theorem PN.h_mk (h : Hd) (ks : PKs) : (PN.mk h ks).h = h := rfl
@[simp] theorem PN.ks_mk (h : Hd) (ks : PKs) : (PN.mk h ks).ks = ks := rfl
theorem PN.lt_of_mem {h : Hd} {ks : PKs} {k : ByteArray × PN} (hk : k ∈ ks) : SizeOf.sizeOf k.2 < SizeOf.sizeOf (PN.mk h ks) := by
  have h1 := List.sizeOf_lt_of_mem hk
  obtain ⟨a, b⟩ := k
  simp only [Prod.mk.sizeOf_spec] at h1
  simp only [PN.mk.sizeOf_spec]
  omega
theorem PN.ind {p : PN → Prop} (h : ∀ hd ks, (∀ k ∈ ks, p k.2) → p (.mk hd ks)) (n : PN) : p n := by
  match n with
  | .mk hd ks => exact h hd ks fun k hk => PN.ind h k.2
termination_by SizeOf.sizeOf n
decreasing_by exact PN.lt_of_mem hk
/-- A node that has nothing. -/
def hZ : Hd := ⟨0, 0, 0, 0, false, [], ⟨#[]⟩⟩
def pnZ : PN := .mk hZ []
/-- What holds of each node of a tree. -/
inductive AllN (p : Hd → PKs → Prop) : PN → Prop
  | mk {h : Hd} {ks : PKs} (h1 : p h ks) (h2 : ∀ k ∈ ks, AllN p k.2) : AllN p (.mk h ks)
theorem AllN.here {p : Hd → PKs → Prop} {n : PN} (h : AllN p n) : p n.h n.ks := by cases h; assumption
theorem AllN.kid {p : Hd → PKs → Prop} {n : PN} (h : AllN p n) {k : ByteArray × PN} (hk : k ∈ n.ks) : AllN p k.2 := by cases h with | mk h1 h2 => exact h2 k hk
/-! ### Places among kids -/
def isAt (ks : PKs) (s : ByteArray) : Bool := ks.any fun k => decide (k.1 = s)
def atN (ks : PKs) (s : ByteArray) : Nat := ks.findIdx fun k => decide (k.1 = s)
def gtN (ks : PKs) (s : ByteArray) : Nat := ks.findIdx fun k => decide (s.toList < k.1.toList)
/-- Where a name is, or would be. -/
def placeN (ks : PKs) (s : ByteArray) : Nat := if isAt ks s = true then atN ks s else gtN ks s
/-! ### Finding, changing -/
/-- What one does at a place: put x there, or cut what is there away. -/
def editF (cut : Bool) (ks : PKs) (s : ByteArray) : Int := if cut = true then (if isAt ks s = true then 0 else 5) else if nameZ s.toList = true then 0 else 4
def editK (cut : Bool) (x : PN) (ks : PKs) (s : ByteArray) : PKs :=
  ks.take (placeN ks s) ++ (if cut = true then [] else [(s, x)]) ++ ks.drop (if isAt ks s = true then placeN ks s + 1 else placeN ks s)
def pF (cut : Bool) (x : PN) : PN → List ByteArray → Int
  | _, [] => 7
  | n, [s] => if n.h.kind = 2 then editF cut n.ks s else 7
  | n, s :: t :: l => if ¬ n.h.kind = 2 then 7 else if isAt n.ks s = true then (match n.ks[placeN n.ks s]? with | some k => pF cut x k.2 (t :: l) | none => 5) else 5
def pN (cut : Bool) (x : PN) : PN → List ByteArray → PN
  | n, [] => n
  | n, [s] => .mk n.h (editK cut x n.ks s)
  | n, s :: t :: l => match n.ks[placeN n.ks s]? with | some k => .mk n.h (n.ks.set (placeN n.ks s) (k.1, pN cut x k.2 (t :: l))) | none => n
def putP (cut : Bool) (x n : PN) (l : List ByteArray) : PN := if pF cut x n l = 0 then pN cut x n l else pnZ
/-! ### What is wrong with a tree -/
def oneF (h : Hd) (many : Bool) (upper root : Bool) : Int :=
  if ¬ (h.kind = 1 ∨ h.kind = 2 ∨ h.kind = 3) then 3
  else if ¬ ((0 ≤ h.mode ∧ h.mode ≤ 4095) ∧ (0 ≤ h.user ∧ h.user ≤ 65535) ∧ (0 ≤ h.group ∧ h.group ≤ 65535)) then 1
  else if ¬ attrF h.attrs = 0 then attrF h.attrs
  else if 200 < h.data.size then 1
  else if (h.kind = 3 ∧ (upper = false ∨ 0 < h.mode + h.user + h.group + h.attrs.length)) ∨ (¬ h.kind = 1 ∧ 0 < h.data.size) ∨ (¬ h.kind = 2 ∧ (many = true ∨ h.opq = true)) ∨ (h.opq = true ∧ (upper = false ∨ root = true)) then 3
  else 0
mutual
/-- What is wrong with a tree, and how many nodes there are behind it. -/
def countF (upper : Bool) (deep so : Nat) : PN → Nat × Int
  | .mk h ks => if so = 60 ∨ 6 < deep then (so, 2) else if ¬ oneF h (decide (0 < ks.length)) upper (decide (deep = 0)) = 0 then (so, oneF h (decide (0 < ks.length)) upper (decide (deep = 0))) else countK upper deep (so + 1) none ks
termination_by n => SizeOf.sizeOf n
def countK (upper : Bool) (deep so : Nat) (prev : Option ByteArray) : PKs → Nat × Int
  | [] => (so, 0)
  | (nm, n) :: ks => if ¬ nameZ nm.toList = true then (so, 4) else if (∃ y, prev = some y ∧ ¬ y.toList < nm.toList) then (so, 3) else if ¬ (countF upper (deep + 1) so n).2 = 0 then countF upper (deep + 1) so n else countK upper deep (countF upper (deep + 1) so n).1 (some nm) ks
termination_by ks => SizeOf.sizeOf ks
end
def treeF (upper : Bool) (n : PN) : Int := if ¬ n.h.kind = 2 then 7 else (countF upper 0 0 n).2
end Go.Proofs.Ytejkmomfpidnbab

/- A tree's bytes in plain terms. No program is named here. -/
namespace Go.Proofs.Ytejkmomfpidnbab
open Go.RowKit
set_option linter.unusedSimpArgs false
set_option linter.unusedVariables false
/-- The lowest byte of a number. -/
def b8 (x : Int) : UInt8 := UInt8.ofNat (x % 256).toNat
def b16 (x : Int) : List UInt8 := [b8 (x / 256), b8 x]
/-- A text, and how many bytes it has ahead of it. -/
def layT (s : ByteArray) : List UInt8 := b8 (s.size : Int) :: s.toList
def flagN (h : Hd) : Int := if h.opq = true then h.kind + 8 else h.kind
def layH (h : Hd) : List UInt8 := b8 (flagN h) :: (b16 h.mode ++ b16 h.user ++ b16 h.group) ++ [b8 (h.attrs.length : Int)]
def layA (l : List PA) : List UInt8 := l.flatMap fun a => layT a.n ++ layT a.v
mutual
def layP : PN → List UInt8
  | .mk h ks => layH h ++ layA h.attrs ++ (layT h.data ++ [b8 (ks.length : Int)]) ++ layK ks
termination_by n => SizeOf.sizeOf n
def layK : PKs → List UInt8
  | [] => []
  | (nm, n) :: ks => layT nm ++ layP n ++ layK ks
termination_by ks => SizeOf.sizeOf ks
end
theorem layK_app : ∀ (l m : PKs), layK (l ++ m) = layK l ++ layK m
  | [], m => by simp [layK]
  | (nm, n) :: l, m => by rw [List.cons_append, layK, layK, layK_app l m]; simp
theorem layA_app (l m : List PA) : layA (l ++ m) = layA l ++ layA m := by unfold layA; simp
theorem b8_nat (x : Int) : ((b8 x).toNat : Int) = x % 256 := by
  unfold b8
  rw [UInt8.toNat_ofNat']
  have h1 : 0 ≤ x % 256 := Int.emod_nonneg _ (by omega)
  have h2 : x % 256 < 256 := Int.emod_lt_of_pos _ (by omega)
  omega
theorem layT_len (s : ByteArray) : (layT s).length = s.size + 1 := by unfold layT; rw [List.length_cons, Lib.toList_data]; rfl
theorem layH_len (h : Hd) : (layH h).length = 8 := by simp [layH, b16]
/-- What a node that is right has. -/
def fitP (h : Hd) (ks : PKs) : Prop := (1 ≤ h.kind ∧ h.kind ≤ 3) ∧ (0 ≤ h.mode ∧ h.mode ≤ 4095) ∧ (0 ≤ h.user ∧ h.user ≤ 65535) ∧ (0 ≤ h.group ∧ h.group ≤ 65535) ∧ (h.attrs.length ≤ 4 ∧ ∀ a ∈ h.attrs, a.n.size ≤ 14 ∧ a.v.size ≤ 20) ∧ h.data.size ≤ 200 ∧ ks.length ≤ 60 ∧ ∀ k ∈ ks, k.1.size ≤ 12
theorem class_len {s : ByteArray} (h : ¬ classZ s = 0) : s.size ≤ 14 := by
  unfold classZ at h
  split at h
  · rename_i h1
    have h2 := h1.2
    unfold nameZ at h2
    simp only [Bool.and_eq_true, decide_eq_true_eq] at h2
    have h3 := h2.1.1.1.2
    rw [List.length_drop, show s.toList.length = s.size by rw [Lib.toList_data]; rfl] at h3
    omega
  · exact absurd rfl h
theorem name_len {s : ByteArray} (h : nameZ s.toList = true) : s.size ≤ 12 := by
  unfold nameZ at h
  simp only [Bool.and_eq_true, decide_eq_true_eq] at h
  have h3 := h.1.1.1.2
  rw [show s.toList.length = s.size by rw [Lib.toList_data]; rfl] at h3
  exact h3
theorem layA_len {l : List PA} (h : ∀ a ∈ l, a.n.size ≤ 14 ∧ a.v.size ≤ 20) : (layA l).length ≤ 36 * l.length := by
  induction l with
  | nil => simp [layA]
  | cons a l ih =>
    have h1 := h a (by simp)
    have h2 := ih fun b hb => h b (by simp [hb])
    have e : layA (a :: l) = (layT a.n ++ layT a.v) ++ layA l := by simp [layA]
    rw [e, List.length_append, List.length_append, layT_len, layT_len, List.length_cons]; omega
theorem oneF_fit {h : Hd} {many upper root : Bool} (h0 : oneF h many upper root = 0) : (1 ≤ h.kind ∧ h.kind ≤ 3) ∧ (0 ≤ h.mode ∧ h.mode ≤ 4095) ∧ (0 ≤ h.user ∧ h.user ≤ 65535) ∧ (0 ≤ h.group ∧ h.group ≤ 65535) ∧ (h.attrs.length ≤ 4 ∧ ∀ a ∈ h.attrs, a.n.size ≤ 14 ∧ a.v.size ≤ 20) ∧ h.data.size ≤ 200 := by
  unfold oneF at h0
  split at h0
  · omega
  · rename_i h1
    split at h0
    · omega
    · rename_i h2
      split at h0
      · rename_i h3; exact absurd h0 h3
      · rename_i h3
        split at h0
        · omega
        · rename_i h4
          have h2 := Decidable.not_not.1 h2
          obtain ⟨a1, _, a3⟩ := attrF_rises (Decidable.not_not.1 h3)
          exact ⟨by omega, h2.1, h2.2.1, h2.2.2, ⟨a1, fun a ha => ⟨class_len (a3 a ha).1, (a3 a ha).2⟩⟩, by omega⟩
mutual
theorem countF_fit (upper : Bool) : ∀ (deep so : Nat) (n : PN), so ≤ 60 → (countF upper deep so n).2 = 0 → AllN fitP n ∧ so < (countF upper deep so n).1 ∧ (countF upper deep so n).1 ≤ 60 ∧ (layP n).length + 13 + 400 * so ≤ 400 * (countF upper deep so n).1
  | deep, so, .mk h ks, hs, h0 => by
    rw [countF] at h0 ⊢
    by_cases h1 : so = 60 ∨ 6 < deep
    · rw [if_pos h1] at h0; simp at h0
    · rw [if_neg h1] at h0 ⊢
      by_cases h2 : oneF h (decide (0 < ks.length)) upper (decide (deep = 0)) = 0
      · rw [if_neg (not_not_intro h2)] at h0 ⊢
        obtain ⟨b1, b2, b3, b4⟩ := countK_fit upper deep (so + 1) none ks (by omega) h0
        obtain ⟨a1, a2, a3, a4, a5, a6⟩ := oneF_fit h2
        refine ⟨.mk ⟨a1, a2, a3, a4, a5, a6, by omega, fun k hk => (b1 k hk).1⟩ fun k hk => (b1 k hk).2, by omega, b3, ?_⟩
        have := layA_len a5.2
        rw [layP]
        simp only [List.length_append, List.length_cons, List.length_nil, layT_len, layH_len]
        omega
      · rw [if_pos h2] at h0; exact absurd h0 h2
theorem countK_fit (upper : Bool) : ∀ (deep so : Nat) (prev : Option ByteArray) (ks : PKs), so ≤ 60 → (countK upper deep so prev ks).2 = 0 → (∀ k ∈ ks, k.1.size ≤ 12 ∧ AllN fitP k.2) ∧ so + ks.length ≤ (countK upper deep so prev ks).1 ∧ (countK upper deep so prev ks).1 ≤ 60 ∧ (layK ks).length + 400 * so ≤ 400 * (countK upper deep so prev ks).1
  | deep, so, prev, [], hs, h0 => by rw [countK, layK]; simp; exact hs
  | deep, so, prev, (nm, n) :: ks, hs, h0 => by
    rw [countK] at h0 ⊢
    by_cases h1 : nameZ nm.toList = true
    · rw [if_neg (not_not_intro h1)] at h0 ⊢
      split at h0
      · simp at h0
      · rename_i h2
        rw [if_neg h2]
        by_cases h3 : (countF upper (deep + 1) so n).2 = 0
        · rw [if_neg (not_not_intro h3)] at h0 ⊢
          obtain ⟨a1, a2, a3, a4⟩ := countF_fit upper (deep + 1) so n hs h3
          obtain ⟨b1, b2, b3, b4⟩ := countK_fit upper deep _ _ ks a3 h0
          have hn := name_len h1
          refine ⟨fun k hk => ?_, by simp only [List.length_cons]; omega, b3, ?_⟩
          · rcases List.mem_cons.1 hk with rfl | hk
            · exact ⟨hn, a1⟩
            · exact b1 k hk
          · rw [layK, List.length_append, List.length_append, layT_len]; omega
        · rw [if_pos h3] at h0; exact absurd h0 h3
    · rw [if_pos h1] at h0; simp at h0
end
theorem treeF_fit {upper : Bool} {n : PN} (h : treeF upper n = 0) : AllN fitP n ∧ (layP n).length ≤ 24000 := by
  unfold treeF at h
  split at h
  · omega
  · obtain ⟨h1, _, h3, h4⟩ := countF_fit upper 0 0 n (by omega) h
    exact ⟨h1, by omega⟩
theorem layA_take {l : List PA} {k : Nat} {a : PA} (h : l[k]? = some a) : layA (l.take (k + 1)) = layA (l.take k) ++ (layT a.n ++ layT a.v) := by
  rw [List.take_add_one, h, layA_app]; simp [layA]
theorem layK_take {ks : PKs} {k : Nat} {e : ByteArray × PN} (h : ks[k]? = some e) : layK (ks.take (k + 1)) = layK (ks.take k) ++ layT e.1 ++ layP e.2 := by
  obtain ⟨a, b⟩ := e
  rw [List.take_add_one, h, layK_app]; simp [layK]
theorem layA_le (l : List PA) (k : Nat) : (layA (l.take k)).length ≤ (layA l).length := by
  have := layA_app (l.take k) (l.drop k)
  rw [List.take_append_drop] at this; rw [this, List.length_append]; omega
theorem layK_le (ks : PKs) (k : Nat) : (layK (ks.take k)).length ≤ (layK ks).length := by
  have := layK_app (ks.take k) (ks.drop k)
  rw [List.take_append_drop] at this; rw [this, List.length_append]; omega
theorem layP_eq (h : Hd) (ks : PKs) : layP (.mk h ks) = layH h ++ layA h.attrs ++ (layT h.data ++ [b8 (ks.length : Int)]) ++ layK ks := by rw [layP]
end Go.Proofs.Ytejkmomfpidnbab

/- A disk in plain terms. No program is named here. -/
namespace Go.Proofs.Ytejkmomfpidnbab
open Go.RowKit
set_option linter.unusedSimpArgs false
set_option linter.unusedVariables false
structure DS where
  bs : List UInt8
  cut : Int
  off : Bool
  wr : Int
def dFault (s : DS) (a n : Int) : Int := if s.off = true then 16 else if 0 ≤ a ∧ 0 ≤ n ∧ a ≤ s.bs.length ∧ n ≤ s.bs.length - a then 0 else 1
def dN (s : DS) (m : Nat) : Nat := if 0 ≤ s.cut ∧ s.cut < m then s.cut.toNat else m
def dShort (s : DS) (m : Nat) : Bool := decide (0 ≤ s.cut ∧ s.cut < m)
def dPut (s : DS) (a : Nat) (l : List UInt8) : DS :=
  ⟨s.bs.take a ++ l.take (dN s l.length) ++ s.bs.drop (a + dN s l.length), if 0 ≤ s.cut then s.cut - dN s l.length else s.cut, dShort s l.length, s.wr + dN s l.length⟩
def dWriteF (s : DS) (a : Int) (l : List UInt8) : Int := if ¬ dFault s a l.length = 0 then dFault s a l.length else if dShort s l.length = true then 16 else 0
def dWriteS (s : DS) (a : Int) (l : List UInt8) : DS := if ¬ dFault s a l.length = 0 then s else dPut s a.toNat l
def dRead (s : DS) (a n : Int) : List UInt8 := (s.bs.drop a.toNat).take n.toNat
theorem dFault_off {s : DS} {a n : Int} (h : s.off = true) : dFault s a n = 16 := by rw [dFault, if_pos h]
theorem dFault_bad {s : DS} {a n : Int} (h : s.off = false) (h2 : ¬ (0 ≤ a ∧ 0 ≤ n ∧ a ≤ s.bs.length ∧ n ≤ s.bs.length - a)) : dFault s a n = 1 := by rw [dFault, if_neg (by rw [h]; simp), if_neg h2]
theorem dFault_ok {s : DS} {a n : Int} (h : s.off = false) (h2 : 0 ≤ a ∧ 0 ≤ n ∧ a ≤ s.bs.length ∧ n ≤ s.bs.length - a) : dFault s a n = 0 := by rw [dFault, if_neg (by rw [h]; simp), if_pos h2]
theorem dFault_zero {s : DS} {a n : Int} (h : dFault s a n = 0) : s.off = false ∧ 0 ≤ a ∧ 0 ≤ n ∧ a ≤ s.bs.length ∧ n ≤ s.bs.length - a := by
  unfold dFault at h
  split at h
  · omega
  · rename_i ho
    split at h
    · rename_i h2; exact ⟨by simpa using ho, h2⟩
    · omega
theorem dN_le (s : DS) (m : Nat) : dN s m ≤ m := by unfold dN; split <;> omega
theorem dPut_len (s : DS) (a : Nat) (l : List UInt8) (h : a + l.length ≤ s.bs.length) : (dPut s a l).bs.length = s.bs.length := by
  have := dN_le s l.length
  simp [dPut]; omega
/-- Bytes as a row of one cell each. -/
abbrev u8F (c : UInt8) : List Value := [.int .u8 (c.toNat : Int)]
theorem u8F_len (c : UInt8) : (u8F c).length = 1 := rfl
theorem u8C_flat (l : List UInt8) : u8C l = l.flatMap u8F := map_flat (fun c : UInt8 => Value.int .u8 (c.toNat : Int)) l
theorem made_u8 (n : Nat) : (madeCells (Value.int .u8 0).cells (n * 1)).toList = (List.replicate n (0 : UInt8)).flatMap u8F := by
  rw [← u8C_flat]
  apply List.ext_getElem?
  intro i
  simp only [madeCells, u8C, Array.getElem?_toList, List.map_replicate, List.getElem?_replicate]
  rcases Nat.lt_or_ge i n with h | h
  · simp [h, Value.cells, Nat.mod_one]
  · simp [h, Nat.not_lt.2 h]
theorem over' {α : Type} {f : α → List Value} {sz : Nat} (hf : ∀ x, (f x).length = sz) {xs zs : List α} {rest : List Value} {p : Nat} (hp : p + zs.length ≤ xs.length) : spl (xs.flatMap f ++ rest) (p * sz) (zs.flatMap f) = (xs.take p ++ zs ++ xs.drop (p + zs.length)).flatMap f ++ rest := by
  have h1 := flat_len f hf xs
  have h2 := flat_len f hf zs
  have h3 : p * sz + zs.length * sz ≤ xs.length * sz := by rw [← Nat.add_mul]; exact Nat.mul_le_mul_right sz hp
  rw [spl_app _ _ _ (by rw [h2, List.length_append, h1]; omega), h2, List.take_append_of_le_length (by omega), List.drop_append_of_le_length (by omega), ← Nat.add_mul, (flat_cut hf xs p).1, (flat_cut hf xs (p + zs.length)).2, List.flatMap_append, List.flatMap_append]
  simp [List.append_assoc]
theorem cut' {g c l sz : Nat} (h : l < c) : cutA (some ⟨g, 0, none⟩) c l sz = some ⟨g, l * sz, none⟩ := by
  unfold cutA
  rw [if_neg (by omega)]
  simp [add_none]
/-- A part of an own row, as a source. -/
theorem src_cut {B : Base} {V : View} {L : List Box} {A : Option Addr} {n c E m l : Nat} {bs : List UInt8} {L1 : List Box} (h : RowL A n c E 1 (bs.flatMap u8F) L1) (hm : ∀ b ∈ L1, b ∈ L) (hl : bs.length = n) (hk : l + m ≤ n) : SrcIs B V L 1 (cutA A c l 1) m (u8C ((bs.drop l).take m)) := fun w hs => by
  have ho := CellsAt.of_own (h.owns hs hm)
  refine ⟨by rw [u8C_len]; simp; omega, fun hp => ?_⟩
  obtain ⟨b, off, ha, hc⟩ := ho.2 (by omega)
  have hcap := h.cap
  subst ha
  refine ⟨b, off + l, ?_, fun j u hj => ?_⟩
  · unfold cutA
    rw [if_neg (by omega)]
    simp [add_none]
  · have := hc (l + j) u (by
      rw [← u8C_flat]
      unfold u8C at hj ⊢
      rw [List.getElem?_map] at hj ⊢
      rw [List.getElem?_take] at hj
      split at hj
      · rw [List.getElem?_drop] at hj; exact hj
      · cases hj)
    rw [show off + l + j = off + (l + j) by omega]; exact this
end Go.Proofs.Ytejkmomfpidnbab

/- Maps of ids in plain terms: what package idmap and its reference reckon; that both make the same of a map. No program is named here. -/
namespace Go.Proofs.Ytejkmomfpidnbab
open Go.RowKit
set_option linter.unusedSimpArgs false
set_option linter.unusedVariables false

/-- A range: the ids from i on are those from o on, c of them. -/
@[ext] structure PR where
  i : Int
  o : Int
  c : Int
instance : DecidableEq PR := fun a b => decidable_of_iff (a.i = b.i ∧ a.o = b.o ∧ a.c = b.c) ⟨fun ⟨h1, h2, h3⟩ => PR.ext h1 h2 h3, fun h => by subst h; exact ⟨rfl, rfl, rfl⟩⟩

def fitsZ (f n : Int) : Bool := decide (0 ≤ f) && decide (f ≤ 65535) && decide (1 ≤ n) && decide (n - 1 ≤ 65535 - f)
def meetsZ (a n b m : Int) : Bool := decide (a < b + m) && decide (b < a + n)
def okR (r : PR) : Bool := fitsZ r.i r.c && fitsZ r.o r.c
def meetR (r s : PR) : Bool := meetsZ r.i r.c s.i s.c || meetsZ r.o r.c s.o s.c
def mfault (seen : List PR) : List PR → Int
  | [] => 0
  | r :: l => if okR r = false then 1 else if seen.any (meetR r) then 3 else mfault (seen ++ [r]) l
def mapFaultZ (xs : List PR) : Int := if 4 < xs.length then 2 else mfault [] xs

def lookZ : List PR → Int → Option Int
  | [], _ => none
  | r :: l, x => if r.i ≤ x ∧ x < r.i + r.c then some (r.o + (x - r.i)) else lookZ l x
def PR.swap (r : PR) : PR := ⟨r.o, r.i, r.c⟩

def inR (r : PR) (x : Int) : Prop := r.i ≤ x ∧ x < r.i + r.c
def apart (r s : PR) : Prop := r.i + r.c ≤ s.i ∨ s.i + s.c ≤ r.i
def before (r s : PR) : Prop := r.i + r.c ≤ s.i
/-- Within the bounds of ids. -/
def bdR (r : PR) : Prop := 0 ≤ r.i ∧ 1 ≤ r.c ∧ r.i + r.c ≤ 65536 ∧ 0 ≤ r.o ∧ r.o + r.c ≤ 65536
theorem okR_iff (r : PR) : okR r = true ↔ bdR r := by
  simp only [okR, fitsZ, bdR, Bool.and_eq_true, decide_eq_true_eq]; omega

theorem look_some {l : List PR} {x y : Int} (h : lookZ l x = some y) : ∃ r ∈ l, inR r x ∧ y = r.o + (x - r.i) := by
  induction l with
  | nil => cases h
  | cons r l ih =>
    rw [lookZ] at h
    by_cases hr : r.i ≤ x ∧ x < r.i + r.c
    · rw [if_pos hr] at h; injection h with h; exact ⟨r, by simp, hr, h.symm⟩
    · rw [if_neg hr] at h
      obtain ⟨s, hs, h2⟩ := ih h
      exact ⟨s, by simp [hs], h2⟩
/-! ### The sort -/
theorem apart_symm {r s : PR} (h : apart r s) : apart s r := by unfold apart at *; omega
/-! ### A map that is right -/
theorem meets_apart {r s : PR} (h1 : bdR r) (h2 : bdR s) : meetR r s = false ↔ apart r s ∧ apart r.swap s.swap := by
  simp only [meetR, meetsZ, apart, PR.swap, Bool.or_eq_false_iff, Bool.and_eq_false_iff, decide_eq_false_iff_not]; unfold bdR at *; omega
theorem mfault_zero : ∀ (l seen : List PR), mfault seen l = 0 → (∀ r ∈ l, bdR r) ∧ (∀ r ∈ l, ∀ s ∈ seen, meetR r s = false) ∧ l.Pairwise fun s r => meetR r s = false
  | [], seen, _ => ⟨by simp, by simp, List.Pairwise.nil⟩
  | r :: l, seen, h => by
    rw [mfault] at h
    split at h
    · omega
    · rename_i hok
      split at h
      · omega
      · rename_i hany
        obtain ⟨a, b, c⟩ := mfault_zero l _ h
        have hr : bdR r := (okR_iff r).1 (by simpa using hok)
        refine ⟨fun s hs => ?_, fun s hs t ht => ?_, ?_⟩
        · rcases List.mem_cons.1 hs with rfl | hs
          · exact hr
          · exact a s hs
        · rcases List.mem_cons.1 hs with rfl | hs
          · simp at hany; exact hany t ht
          · exact b s hs t (by simp [ht])
        · rw [List.pairwise_cons]
          exact ⟨fun s hs => b s hs r (by simp), c⟩
theorem fault_zero {xs : List PR} (h : mapFaultZ xs = 0) : xs.length ≤ 4 ∧ (∀ r ∈ xs, bdR r) ∧ xs.Pairwise apart ∧ (xs.map PR.swap).Pairwise apart := by
  unfold mapFaultZ at h
  split at h
  · omega
  · obtain ⟨a, _, c⟩ := mfault_zero xs [] h
    refine ⟨by omega, a, ?_, ?_⟩
    · refine c.imp_of_mem fun {s r} hs hr h => ?_
      exact apart_symm ((meets_apart (a r hr) (a s hs)).1 h).1
    · rw [List.pairwise_map]
      refine c.imp_of_mem fun {s r} hs hr h => ?_
      exact apart_symm ((meets_apart (a r hr) (a s hs)).1 h).2
/-! ### A map, and behind it another one -/
end Go.Proofs.Ytejkmomfpidnbab

/- A host's bytes in plain terms: numbers of so many bytes, the highest first. No program is named here. -/
namespace Go.Proofs.Ytejkmomfpidnbab
open Go.RowKit
set_option linter.unusedSimpArgs false
set_option linter.unusedVariables false
def be : Nat → Int → List UInt8
  | 0, _ => []
  | k + 1, n => b8 (n / (256 : Int) ^ k) :: be k n
theorem be_len : ∀ (k : Nat) (n : Int), (be k n).length = k
  | 0, _ => rfl
  | k + 1, n => by rw [be, List.length_cons, be_len k n]
theorem shr_pow {n : Int} (k : Nat) : n / (256 : Int) ^ k / 256 = n / (256 : Int) ^ (k + 1) := by
  have h : (0 : Int) ≤ (256 : Int) ^ k := Int.le_of_lt (Int.pow_pos (by decide))
  rw [Int.ediv_ediv_of_nonneg h, Int.pow_succ]
theorem shr_nn {n : Int} (h : 0 ≤ n) (k : Nat) : 0 ≤ n / (256 : Int) ^ k := Int.ediv_nonneg h (Int.le_of_lt (Int.pow_pos (by decide)))
/-- What bytes are worth. -/
def beV (l : List UInt8) : Int := l.foldl (fun a c => a * 256 + (c.toNat : Int)) 0
/-- A row of numbers, its length ahead of it. -/
def numsL (k : Nat) (xs : List Int) : List UInt8 := be 2 (xs.length : Int) ++ xs.flatMap (be k)
def rangesL (rs : List PR) : List UInt8 := be 1 (rs.length : Int) ++ rs.flatMap fun r => be 3 r.i ++ be 3 r.o ++ be 3 r.c
theorem flat_be (k : Nat) (xs : List Int) : (xs.flatMap (be k)).length = k * xs.length := by
  induction xs with
  | nil => rfl
  | cons x xs ih => rw [List.flatMap_cons, List.length_append, be_len, ih, List.length_cons, Nat.mul_succ]; omega
theorem numsL_len (k : Nat) (xs : List Int) : (numsL k xs).length = 2 + k * xs.length := by unfold numsL; rw [List.length_append, be_len, flat_be]
theorem rangesL_len (rs : List PR) : (rangesL rs).length = 1 + 9 * rs.length := by
  unfold rangesL
  rw [List.length_append, be_len]
  congr 1
  induction rs with
  | nil => rfl
  | cons x xs ih => rw [List.flatMap_cons, List.length_append, ih, List.length_cons]; simp only [List.length_append, be_len]; omega
theorem take_flat_succ {α β : Type} {f : α → List β} {l : List α} {j : Nat} {x : α} (h : l[j]? = some x) : (l.take (j + 1)).flatMap f = (l.take j).flatMap f ++ f x := by
  obtain ⟨hj, he⟩ := List.getElem?_eq_some_iff.1 h
  rw [List.take_add_one, h, List.flatMap_append]; simp
/-- What a text is spread as: over places of a size each; its first byte is written last. -/
def partP (size : Nat) (all : List UInt8) (i : Nat) : List UInt8 := (all.drop (i * size)).take size
def toW (size : Nat) (all : List UInt8) (a : Int) (i : Nat) : Int × List UInt8 := if i = 0 then (a + 1, (partP size all i).drop 1) else (a, partP size all i)
def spreadK (size : Nat) (all : List UInt8) : List Int → Nat → DS → DS × Int
  | [], _, s => (s, 0)
  | a :: ps, i, s => if all.length ≤ i * size then (s, 0) else
    if ¬ dWriteF s (toW size all a i).1 (toW size all a i).2 = 0 then (dWriteS s (toW size all a i).1 (toW size all a i).2, dWriteF s (toW size all a i).1 (toW size all a i).2)
    else spreadK size all ps (i + 1) (dWriteS s (toW size all a i).1 (toW size all a i).2)
def allP (seq : Int) (t : List UInt8) : List UInt8 := 0 :: (be 4 seq ++ be 2 (t.length : Int) ++ t)
def spreadP (ps : List Int) (size : Nat) (seq : Int) (t : List UInt8) (s : DS) : DS × Int :=
  if ¬ dWriteF s (ps.headD 0) [0] = 0 then (dWriteS s (ps.headD 0) [0], dWriteF s (ps.headD 0) [0])
  else if ¬ (spreadK size (allP seq t) ps 0 (dWriteS s (ps.headD 0) [0])).2 = 0 then spreadK size (allP seq t) ps 0 (dWriteS s (ps.headD 0) [0])
  else (dWriteS (spreadK size (allP seq t) ps 0 (dWriteS s (ps.headD 0) [0])).1 (ps.headD 0) [1], dWriteF (spreadK size (allP seq t) ps 0 (dWriteS s (ps.headD 0) [0])).1 (ps.headD 0) [1])
/-- What stands at places. -/
def readsK (size : Nat) (s : DS) : List Int → Option (List UInt8)
  | [] => some []
  | a :: ps => if ¬ dFault s a size = 0 then none else (readsK size s ps).map fun l => dRead s a size ++ l
def gatherL (l : List UInt8) : Option (Int × List UInt8) :=
  if l.length < 7 ∨ ¬ l.headD 0 = 1 then none
  else if ((l.drop 7).length : Int) < beV ((l.drop 5).take 2) then none
  else some (beV ((l.drop 1).take 4), (l.drop 7).take (beV ((l.drop 5).take 2)).toNat)
def gatherP (s : DS) (ps : List Int) (size : Nat) : Option (Int × List UInt8) := (readsK size s ps).bind gatherL
/-- What is known of a disk behind some steps. -/
def hBd (m W : Nat) (s : DS) : Prop := s.bs.length = m ∧ (0 ≤ s.wr ∧ s.wr ≤ W) ∧ (-9223372036854775808 ≤ s.cut ∧ s.cut ≤ 9223372036854775807)
theorem hBd.mono {m W W' : Nat} {s : DS} (h : hBd m W s) (hw : W ≤ W') : hBd m W' s := ⟨h.1, ⟨h.2.1.1, by have := h.2.1.2; omega⟩, h.2.2⟩
theorem hBd.write {m W : Nat} {s : DS} {a : Int} {l : List UInt8} {k : Nat} (h : hBd m W s) (hk : l.length ≤ k) : hBd m (W + k) (dWriteS s a l) := by
  unfold dWriteS
  split
  · exact h.mono (by omega)
  · rename_i h0
    have h0 := dFault_zero (Decidable.not_not.1 h0)
    have h1 := dN_le s l.length
    obtain ⟨e1, e2, e3⟩ := h
    refine ⟨by rw [dPut_len _ _ _ (by omega), e1], ?_, ?_⟩
    · show 0 ≤ s.wr + (dN s l.length : Int) ∧ s.wr + (dN s l.length : Int) ≤ _
      omega
    · show -9223372036854775808 ≤ (if 0 ≤ s.cut then s.cut - (dN s l.length : Int) else s.cut) ∧ (if 0 ≤ s.cut then s.cut - (dN s l.length : Int) else s.cut) ≤ _
      have : (dN s l.length : Int) ≤ s.cut ∨ s.cut < 0 := by unfold dN; split <;> omega
      split <;> omega
theorem part_min {all : List UInt8} {i sz : Nat} : (all.drop i).take (min all.length (i + sz) - i) = (all.drop i).take sz := by
  rcases Nat.le_total all.length (i + sz) with h | h
  · rw [Nat.min_eq_left h, List.take_of_length_le (by rw [List.length_drop]; omega), List.take_of_length_le (by rw [List.length_drop]; omega)]
  · rw [Nat.min_eq_right h, show i + sz - i = sz by omega]
theorem partP_len {size i : Nat} {all : List UInt8} : (partP size all i).length ≤ size := by unfold partP; rw [List.length_take]; omega
theorem toW_len {size i : Nat} {all : List UInt8} {a : Int} : (toW size all a i).2.length ≤ size := by
  have := partP_len (size := size) (i := i) (all := all)
  unfold toW; split
  · simp only [List.length_drop]; omega
  · exact this
theorem spreadK_end {size : Nat} {all : List UInt8} {a : Int} {ps : List Int} {i : Nat} {s : DS} (h : all.length ≤ i * size) : spreadK size all (a :: ps) i s = (s, 0) := if_pos h
theorem spreadK_bad {size : Nat} {all : List UInt8} {a : Int} {ps : List Int} {i : Nat} {s : DS} (h : ¬ all.length ≤ i * size) (h2 : ¬ dWriteF s (toW size all a i).1 (toW size all a i).2 = 0) : spreadK size all (a :: ps) i s = (dWriteS s (toW size all a i).1 (toW size all a i).2, dWriteF s (toW size all a i).1 (toW size all a i).2) := by
  rw [spreadK, if_neg h, if_pos h2]
theorem spreadK_on {size : Nat} {all : List UInt8} {a : Int} {ps : List Int} {i : Nat} {s : DS} (h : ¬ all.length ≤ i * size) (h2 : dWriteF s (toW size all a i).1 (toW size all a i).2 = 0) : spreadK size all (a :: ps) i s = spreadK size all ps (i + 1) (dWriteS s (toW size all a i).1 (toW size all a i).2) := by
  rw [spreadK, if_neg h, if_neg (not_not_intro h2)]
theorem allP_len (seq : Int) (t : List UInt8) : (allP seq t).length = 7 + t.length := by unfold allP; simp only [List.length_cons, List.length_append, be_len]; omega
end Go.Proofs.Ytejkmomfpidnbab

/- The engine: calls of functions without a body, bytes appended out of a string, strings made of a row of bytes, pointers that are turned. No program is named here. -/
namespace Go.Proofs.Ytejkmomfpidnbab
open Go.RowKit
set_option linter.unusedSimpArgs false
set_option linter.unusedVariables false
structure ExternIs (P : Program) (f : FuncId) (e : Array Value → Sem Value) : Prop where
  h : ∀ args w, (callFunc f args).run P w = ((e args).run P w).andThen fun v w' => .ok (.value v) w'
structure PInf (P : Program) (T : TypeId) : Prop where
  h : ∃ te j, P.underlying T = some (.pointer te) ∧ P.info? te = some j
structure SzInf (P : Program) (T : TypeId) : Prop where
  h : ∃ j, P.info? T = some j ∧ j.size ≠ 0
structure U8Inf (P : Program) (E : TypeId) : Prop where
  h : ∃ i, P.info? E = some i ∧ i.zero = some (.int .u8 0) ∧ i.size = 1 ∧ i.bytes = 1
def OwnT (L : List Box) (g : Nat) (t : TypeId) (n : Nat) : Prop := ∃ cs : List Value, cs.length = n ∧ ⟨g, t, cs⟩ ∈ L
theorem ownT_here {g n : Nat} {t : TypeId} {cs : List Value} {L : List Box} (h : cs.length = n) : OwnT (⟨g, t, cs⟩ :: L) g t n := ⟨cs, h, by simp⟩
theorem u8C_byte (l : List UInt8) : u8C l = Lib.byteCells l := rfl
theorem u8C_str (s : ByteArray) : u8C s.toList = Lib.strCells s := by rw [Lib.strCells_eq, u8C_byte, Lib.toList_data]
theorem u8C_app (a b : List UInt8) : u8C (a ++ b) = u8C a ++ u8C b := by simp [u8C]
section
variable {P : Program} {B : Base} {N : Nat} {Q : Exit → Act → World → Prop} {k : List Cont} {F : List (Nat × Value)} {V : View} {L : List Box} {w : World}
variable {d : Option Tmp} {ty : TypeId} {pos : String} {af : Array Edge} {gd : Option (Nat × Bool)} {x y : Operand} {T T2 : TypeId} {ops : Array Oper} {rest : List Oper}
theorem exec_extern {f : FuncId} {e : Array Value → Sem Value} {args : List Operand} {ats : Array TypeId} {vs : List Value} {a : Act} (he : ExternIs P f e) (ha : Kn N F a) (hv : evL F args = some vs) :
    (execOp a.eval ⟨d, .call ⟨.value (.func f), args.toArray, ats⟩, ty, pos, af, gd⟩).run P w = ((e vs.toArray).run P w).andThen fun v w' => .ok (.value v) w' := by
  have h := ha.evL hv
  simp [execOp, resolve, Deferred.ofValue, invoke, Act.eval, h, he.h]
theorem q_extern {f : FuncId} {e : Array Value → Sem Value} {args : List Operand} {ats : Array TypeId} {vs : List Value} {v : Value} (he : ExternIs P f e) (hv : evL F args = some vs) (hr : ∀ w, (e vs.toArray).run P w = .ok v w) : QP P B N V L ⟨d, .call ⟨.value (.func f), args.toArray, ats⟩, ty, pos, af, gd⟩ F v := q_of fun a w ha hs => by
  rw [exec_extern he ha hv, hr]; rfl
theorem q_pneq_same {t ty2 : TypeId} {a : Addr} (hp : PInf P t) (hx : evF F x = some (.pointer (some a))) (hy : evF F y = some (.pointer (some a))) : QP P B N V L ⟨d, .binOp .neq t x y ty2, ty, pos, af, gd⟩ F (.bool false) := by
  obtain ⟨te, j, h1, h2⟩ := hp.h
  exact q_bin hx hy (fun w => by cases y <;> simp [eqGuard] <;> (split <;> simp_all)) (fun w => Lib.run_neq_ptr_same w a h1 h2)
theorem OwnT.shape {g n : Nat} {t : TypeId} (h : OwnT L g t n) (hs : St B V L w) : w.shape? g = some (t, n) := by
  obtain ⟨cs, hn, hm⟩ := h
  have ho := (hs.own _ hm).1
  simp only [] at ho
  simp [World.shape?, ho, hn]
theorem q_toUnsafe {src dst t e : TypeId} {g n : Nat} (hs : UnderIs P src (.pointer t)) (hd : UnderIs P dst .unsafePointer) (hj : SzInf P t) (hx : evF F x = some (.pointer (some ⟨g, 0, none⟩))) (ho : OwnT L g e n) (hn : Nat.blt 0 n = true) : QP P B N V L ⟨d, .convert src dst x, ty, pos, af, gd⟩ F (.pointer (some ⟨g, 0, none⟩)) := q_of fun a w ha hst => by
  obtain ⟨j, h1, h2⟩ := hj.h
  have h := Lib.run_to_unsafe (P := P) w ⟨g, 0, none⟩ hs.u hd.u h1 h2 (ho.shape hst) (by simpa [Nat.blt_eq] using hn)
  simp [execOp, ha.ev hx, h]
theorem q_fromUnsafe {src dst u e : TypeId} {g n : Nat} (hs : UnderIs P src .unsafePointer) (hd : UnderIs P dst (.pointer u)) (hj : SzInf P u) (hx : evF F x = some (.pointer (some ⟨g, 0, none⟩))) (ho : OwnT L g e n) (hl : liesAt P P.depth e (n / P.cellsOf e) 0 u 1 = true) : QP P B N V L ⟨d, .convert src dst x, ty, pos, af, gd⟩ F (.pointer (some ⟨g, 0, none⟩)) := q_of fun a w ha hst => by
  obtain ⟨j, h1, h2⟩ := hj.h
  have h := Lib.run_from_unsafe (P := P) w ⟨g, 0, none⟩ hs.u hd.u h1 (ho.shape hst) hl
  simp [execOp, ha.ev hx, h]
theorem q_slData {g n c : Nat} (hx : evF F x = some (.slice (some ⟨g, 0, none⟩) n c)) (hc : 0 < c) : QP P B N V L ⟨d, .call ⟨.builtin .unsafeSliceData, #[x], #[T]⟩, ty, pos, af, gd⟩ F (.pointer (some ⟨g, 0, none⟩)) := q_of fun a w ha hst => by
  have h := Lib.run_unsafeSliceData_row (P := P) w #[T] ty ⟨g, 0, none⟩ n c (by omega)
  simp [execOp, ha.ev hx, resolve, invoke, builtin, h]
theorem q_slData0 {n c : Nat} (hx : evF F x = some (.slice none n c)) : QP P B N V L ⟨d, .call ⟨.builtin .unsafeSliceData, #[x], #[T]⟩, ty, pos, af, gd⟩ F (.pointer none) := q_of fun a w ha hst => by
  have h := Lib.run_unsafeSliceData_nil (P := P) w #[T] ty n c
  simp [execOp, ha.ev hx, resolve, invoke, builtin, h]
theorem q_ustr0 {p : Option Addr} (hx : evF F x = some (.pointer p)) (hy : evF F y = some (.int .i64 0)) : QP P B N V L ⟨d, .call ⟨.builtin .unsafeString, #[x, y], #[T, T2]⟩, ty, pos, af, gd⟩ F (.string ⟨#[]⟩) := q_of fun a w ha hst => by
  have h := Lib.run_unsafeString_none (P := P) w T T2 ty p
  simp [execOp, ha.ev hx, ha.ev hy, resolve, invoke, builtin, h]
  rfl
/-- The row's block is frozen, and no box any more. -/
theorem St.freeze {X Y : List Box} {g n : Nat} {E : TypeId} {cs : List Value} (hs : St B V (X ++ (⟨g, E, cs⟩ :: Y)) w) : St B V (X ++ Y) (w.freeze ⟨g, 0, none⟩ n) := by
  have hg := hs.own ⟨g, E, cs⟩ (by simp)
  have hne : ∀ b ∈ X ++ Y, b.g ≠ g := by
    intro b hb e
    have hnd := hs.nodup
    rw [List.map_append, List.map_cons, List.nodup_append] at hnd
    obtain ⟨_, h2, h3⟩ := hnd
    rcases List.mem_append.1 hb with hb | hb
    · exact h3 b.g (List.mem_map_of_mem hb) g (by simp) e
    · exact (List.nodup_cons.1 h2).1 (List.mem_map.2 ⟨b, hb, e⟩)
  have hsub : (X ++ Y).Sublist (X ++ (⟨g, E, cs⟩ :: Y)) := List.Sublist.append (List.Sublist.refl X) (List.sublist_cons_self _ _)
  have hblk : ∀ k, ¬ k = g → (w.freeze ⟨g, 0, none⟩ n).heap[k]? = w.heap[k]? := by
    intro k hk
    unfold World.freeze
    split
    · rfl
    · simp only [Array.getElem?_modify]
      rw [if_neg (by omega)]
  have hx : Exc [g] w (w.freeze ⟨g, 0, none⟩ n) := by
    refine ⟨?_, ?_, ?_, ?_, fun k _ hn => hblk k (by simpa using hn)⟩
    all_goals (unfold World.freeze; split)
    all_goals first | rfl | simp
  refine ⟨hs.ext.trans hx (by intro y hy; simp at hy; subst hy; exact hg.2), fun p x hp => ?_, hs.old, hs.v0, fun b hb => ?_, List.Nodup.sublist (hsub.map Box.g) hs.nodup⟩
  · obtain ⟨h1, h2⟩ := hs.view p x hp
    refine ⟨?_, fun b hb => h2 b (hsub.subset hb)⟩
    have hpg : ¬ p.block = g := fun e => h2 ⟨g, E, cs⟩ (by simp) e.symm
    rw [World.cell?_of_block (hblk _ hpg)]; exact h1
  · have ho := hs.own b (hsub.subset hb)
    exact ⟨by rw [hblk _ (hne b hb)]; exact ho.1, ho.2⟩
theorem gw_ustr {dr : Mode} (hdr : dr.loud = true) {e g c : Nat} {us : List UInt8} {m : Int} {L1 : List Box} {f : List Box → List Box} (hp : UnderIs P T (.pointer e)) (hc : P.cellsOf e = 1) (hx : evF F x = some (.pointer (some ⟨g, 0, none⟩))) (hy : evF F y = some (.int .i64 m)) (hm : m = us.length) (hr : RowL (some ⟨g, 0, none⟩) us.length c e 1 (u8C us) L1) (hL : Repl L L1 f) (h0 : 0 < us.length) (hd : okD N d = true)
    (h : GoL P B N dr ops Q k rest (putF F d (.string ⟨us.toArray⟩)) V (f [])) : GoW P B N dr ops Q k ⟨d, .call ⟨.builtin .unsafeString, #[x, y], #[T, T2]⟩, ty, pos, af, gd⟩ rest F V L := gw_loud hdr fun a w ha hs => by
  subst hm
  obtain ⟨X, Y, hX, hf⟩ := hL.h
  rcases hr.2 with ⟨_, h, _⟩ | ⟨g', cs, he, rfl, h2, h3, h4, h5⟩
  · cases h
  obtain rfl : g = g' := by injection he with he; injection he
  subst hX
  have ho := (hs.own ⟨g, e, cs⟩ (by simp)).1
  simp only [] at ho
  have hsh : w.shape? g = some (e, cs.length) := by simp [World.shape?, ho]
  have hcell : ∀ j u, us[j]? = some u → w.cell? ((⟨g, 0, none⟩ : Addr).add j) = some (.int .u8 u.toNat) := by
    intro j u hj
    rw [add_none, Nat.zero_add]
    have hu : (u8C us)[j]? = some (.int .u8 u.toNat) := by simp [u8C, hj]
    rw [← h5, List.getElem?_take] at hu
    split at hu
    · simp [World.cell?, ho, hu]
    · cases hu
  have h63 : us.length ≤ 9223372036854775807 := by unfold maxLen at h3; omega
  have hrun := Lib.run_unsafeString_row (P := P) w T T2 ty e hp.u hc g cs.length hsh us (by intro e; subst e; simp at h0) (by omega) h63 hcell
  refine wp_value (w' := w.freeze ⟨g, 0, none⟩ us.length) (v := .string ⟨us.toArray⟩) ?_ (gl_loud hdr h _ _ (ha.put hd _) (by rw [hf]; exact hs.freeze))
  simp [execOp, ha.ev hx, ha.ev hy, resolve, invoke, builtin, hrun]
theorem gw_appends {dr : Mode} (hdr : dr.loud = true) {E n c : Nat} {dd : Nat} {A : Option Addr} {s : ByteArray} {xs : List Value} {L1 : List Box} (hu : UnderIs P T (.slice E)) (hu2 : UnderIs P T2 .string) (hi : U8Inf P E) (hx : evF F x = some (.slice A n c)) (hy : evF F y = some (.string s))
    (hr : RowL A n c E 1 xs L1) (hA : A = none ∨ 0 < c) {f : List Box → List Box} (hL : Repl L L1 f) (h63 : n + s.size ≤ 1000000000) (hd : okD N (some dd) = true)
    (h : ∀ A' c' L1', RowL A' (n + s.size) c' E 1 (xs ++ u8C s.toList) L1' → (A' = none ∨ 0 < c') → GoL P B N dr ops Q k rest ((dd, .slice A' (n + s.size) c') :: F) V (f L1')) : GoW P B N dr ops Q k ⟨some dd, .call ⟨.builtin .append, #[x, y], #[T, T2]⟩, ty, pos, af, gd⟩ rest F V L := gw_loud hdr fun a w ha hs => by
  obtain ⟨i, hinfo, hz, hi1, hi2⟩ := hi.h
  obtain ⟨X, Y, hX, hf⟩ := hL.h
  have hown := hr.owns hs (fun b hb => by rw [hX]; simp [hb])
  obtain ⟨v', w', hrun, ho, hg, hnil⟩ := Lib.run_append_own_string (P := P) w 0 T T2 ty E i hu.u hu2.u hinfo hz hi1 hi2 (.slice A n c) n xs hown s (by unfold maxLen; omega) (by omega) (Nat.zero_le _)
  have hxl : xs.length = n := by simpa using hr.1
  have hat : (v'.ownBlock = (Value.slice A n c).ownBlock ∨ v'.ownBlock = some w.heap.size) ∧ (s.size = 0 → ∃ A', v' = .slice A' (n + s.size) c ∧ A' = A) := by
    rcases hr.2 with ⟨_, rfl, rfl, rfl⟩ | ⟨g, cs, rfl, rfl, h2, h3, h4, h5⟩
    · by_cases h0 : s.size = 0
      · have e := hnil.2 ⟨rfl, h0⟩
        subst e
        exact ⟨.inl rfl, fun _ => ⟨none, by rw [h0], rfl⟩⟩
      · have hr2 := run_append_nil_string (P := P) w T T2 ty E i (.int .u8 0) hu.u hu2.u hinfo hz s (by omega) (by omega) (by rw [hi2]; omega)
        rw [hr2] at hrun
        injection hrun with e1 e2
        subst e1
        exact ⟨.inr rfl, fun h => absurd h h0⟩
    · subst hX
      have hob := (hs.own ⟨g, E, cs⟩ (by simp)).1
      simp only [] at hob
      by_cases hroom : n + s.size ≤ c
      · have hr2 := Lib.run_append_room_string (P := P) w T T2 ty E i hu.u hu2.u hinfo hi1 g n c cs.toArray hob s hroom (by simp; omega)
        rw [hr2] at hrun
        injection hrun with e1 e2
        subst e1
        exact ⟨.inl rfl, fun _ => ⟨_, rfl, rfl⟩⟩
      · have holds : ∀ j u, xs[j]? = some u → w.cell? ((⟨g, 0, none⟩ : Addr).add j) = some u := by
          intro j u hj
          rw [add_none, Nat.zero_add]
          rw [← h5, List.getElem?_take] at hj
          split at hj
          · simp [World.cell?, hob, hj]
          · cases hj
        have hr2 := Lib.run_append_grow_string (P := P) w T T2 ty E i (.int .u8 0) hu.u hu2.u hinfo hz ⟨g, 0, none⟩ n c xs (by rw [hi1]; omega) holds s (by omega) (by omega) (by rw [hi2]; exact growslice_fits (by omega) (by omega))
        rw [hr2] at hrun
        injection hrun with e1 e2
        subst e1
        exact ⟨.inr rfl, fun h => absurd h2 (by omega)⟩
  subst hX
  obtain ⟨A', c', L1', rfl, hr', hs'⟩ := hs.grown hr hg ho hat.1
  refine wp_value (w' := w') (v := .slice A' (n + s.size) c') ?_ (gl_loud hdr (h A' c' L1' (by rw [u8C_str]; exact hr') ?_) _ w' (ha.put hd _) (by rw [hf]; exact hs'))
  · have hrun' : (Builtin.append_ #[T, T2] ty #[.slice A n c, .string s]).run P w = .ok (.slice A' (n + s.size) c') w' := hrun
    simp [execOp, ha.ev hx, ha.ev hy, resolve, invoke, builtin, hrun']
  · by_cases h0 : s.size = 0
    · obtain ⟨A2, e1, e2⟩ := hat.2 h0
      injection e1 with e1 _ e3
      subst e1; subst e2; subst e3; exact hA
    · rcases hr'.2 with ⟨_, h1, _⟩ | ⟨_, _, _, _, h2, _⟩
      · exact .inl h1
      · exact .inr (by omega)
end
end Go.Proofs.Ytejkmomfpidnbab

/- The engine: a region that draws its order, in which many operations make memory: each operation is walked once, whatever came ahead of it. No program is named here. -/
namespace Go.Proofs.Ytejkmomfpidnbab
open Go.RowKit
set_option linter.unusedSimpArgs false
set_option linter.unusedVariables false
/-- What is known of an operation's value. -/
abbrev Spec := Value → View → Prop
def getR (Rs : List Spec) (j : Nat) : Spec := Rs.getD j (fun _ _ => False)
def dstOf (l : List Oper) (j : Nat) : Nat := ((l[j]?).bind (·.dst)).getD 0
/-- For all values of the operations in D. -/
def Deps (l : List Oper) (Rs : List Spec) (V' : View) : List Nat → (List (Nat × Value) → Prop) → List (Nat × Value) → Prop
  | [], X, F => X F
  | j :: D, X, F => ∀ v, getR Rs j v V' → Deps l Rs V' D X ((dstOf l j, v) :: F)
def waitsB (o : Oper) (j : Nat) : Bool := o.after.any fun e => Region.binds .any e && Nat.beq e.on j
def depsB (o : Oper) (D : List Nat) (i : Nat) : Bool := D.all fun j => Nat.blt j i && waitsB o j
def regionB (l : List Oper) (m N : Nat) (F0 : List (Nat × Value)) : Bool :=
  ((List.range l.length).all fun i => match l[i]? with | some o => o.after.all (fun e => Nat.blt e.on i) | none => false) &&
  ((List.range m).all fun i => match (l[i]?).bind (·.dst) with | some d => Nat.blt d N && (F0.all (fun p => !Nat.beq p.1 d)) && ((List.range i).all fun j => !Nat.beq (dstOf l j) d) | none => false)
def usedB (l : List Oper) (m : Nat) : Bool := (List.range m).all fun i => (List.range l.length).any fun j => Nat.blt i j && (match l[j]? with | some o => waitsB o i | none => false)
theorem waitsB_spec {o : Oper} {j : Nat} (h : waitsB o j = true) : ∃ e ∈ o.after, Region.binds .any e = true ∧ e.on = j := by
  unfold waitsB at h
  rw [Array.any_eq_true] at h
  obtain ⟨i, hi, h⟩ := h
  simp only [Bool.and_eq_true] at h
  exact ⟨o.after[i], Array.getElem_mem hi, h.1, Nat.eq_of_beq_eq_true h.2⟩
theorem wp_tmps {P : Program} {o : Oper} {a : Act} {w : World} {K : Act → World → Prop} {Q : Exit → Act → World → Prop} (h : o.wp P a w K Q) : o.wp P a w (fun a' w' => K a' w' ∧ ∃ v, a'.tmps = (a.put o.dst v).tmps) Q := by
  unfold Oper.wp at *
  generalize (execOp a.eval o).run P w = r at *
  cases r with
  | ok n w' =>
    cases n <;> simp only [Oper.upon] at h ⊢
    case value u => exact ⟨h, u, rfl⟩
    case skip => exact ⟨h, undef, rfl⟩
    case defer d => exact ⟨h, undef, by cases o.dst <;> rfl⟩
    case enter f args =>
      refine Calls.mono h fun e w'' he => ?_
      cases e with
      | returned u => exact ⟨he, u, rfl⟩
      | panicked c => exact he
      | outgrown => exact he
    case row row args => exact Rows.mono h fun u w'' he => ⟨he, u, rfl⟩
  | halt x w' =>
    cases x <;> simp only [Oper.upon] at h ⊢
    case panic u => exact h
theorem wp_thn {P : Program} {o : Oper} {a : Act} {w : World} {X K : Act → World → Prop} {Q : Exit → Act → World → Prop} {k : List Cont} (h : o.wp P a w X (evalQ P Q (.thn K :: k))) : o.wp P a w X (evalQ P Q k) := by
  unfold Oper.wp at *
  generalize (execOp a.eval o).run P w = r at *
  cases r with
  | ok n w' =>
    cases n <;> simp only [Oper.upon] at h ⊢
    case value u => exact h
    case skip => exact h
    case defer d => exact h
    case enter f args =>
      refine Calls.mono h fun e w'' he => ?_
      cases e with
      | returned u => exact he
      | panicked c => exact he
      | outgrown => exact he
    case row row args => exact h
  | halt x w' =>
    cases x <;> simp only [Oper.upon] at h ⊢
    case panic u => exact h
theorem Kn.cons {N : Nat} {F : List (Nat × Value)} {a : Act} {t : Nat} {v : Value} (h : Kn N F a) (h1 : Kn N [(t, v)] a) : Kn N ((t, v) :: F) a :=
  ⟨h.1, h.2.1, fun s u hs => by
    rw [look_cons] at hs
    split at hs
    · rename_i e; subst e
      exact h1.2.2 t u (by rw [look_cons, if_pos rfl]; exact hs)
    · exact h.2.2 s u hs⟩
theorem Kn.kept {N : Nat} {F : List (Nat × Value)} {a a' : Act} {d : Nat} {v : Value} (h : Kn N F a) (hd : ∀ p ∈ F, p.1 ≠ d) (h0 : a'.defers = []) (ht : a'.tmps = (a.put (some d) v).tmps) : Kn N F a' := by
  refine ⟨h0, by rw [ht]; simpa [Act.put] using h.2.1, fun t u hu => ?_⟩
  have hne : t ≠ d := by
    intro e; subst e
    clear h h0 ht
    induction F with
    | nil => simp [look] at hu
    | cons p F ih =>
      obtain ⟨k, x⟩ := p
      rw [look_cons] at hu
      split at hu
      · rename_i e; exact hd (k, x) (by simp) e
      · exact ih hu (fun q hq => hd q (List.mem_cons_of_mem _ hq))
  have := h.2.2 t u hu
  rw [ht]
  simpa [Act.put, Array.getElem?_setIfInBounds_ne (Ne.symm hne)] using this
theorem countP_lt {p q : Nat → Bool} : ∀ {l : List Nat}, (∀ x ∈ l, q x = true → p x = true) → (∃ x ∈ l, p x = true ∧ q x = false) → l.countP q < l.countP p
  | [], _, h => by obtain ⟨x, hx, _⟩ := h; cases hx
  | y :: l, h1, h2 => by
    have hle : l.countP q ≤ l.countP p := List.countP_mono_left fun x hx hq => h1 x (List.mem_cons_of_mem _ hx) hq
    rw [List.countP_cons, List.countP_cons]
    obtain ⟨x, hx, hp, hq⟩ := h2
    rcases List.mem_cons.1 hx with rfl | hx
    · rw [if_pos hp, if_neg (by rw [hq]; decide)]; omega
    · have := countP_lt (l := l) (fun x hx hq => h1 x (List.mem_cons_of_mem _ hx) hq) ⟨x, hx, hp, hq⟩
      by_cases hy : q y = true
      · rw [if_pos hy, if_pos (h1 y (by simp) hy)]; omega
      · rw [if_neg hy]; split <;> omega
section
variable {P : Program} {B : Base} {N : Nat} {Q : Exit → Act → World → Prop} {k : List Cont} {F : List (Nat × Value)} {V : View} {L : List Box}
def StepAt (P : Program) (B : Base) (N : Nat) (Q : Exit → Act → World → Prop) (k : List Cont) (l : List Oper) (F0 : List (Nat × Value)) (V : View) (L : List Box) (Rs : List Spec) (i : Nat) (R : Spec) : Prop :=
  ∃ o D, l[i]? = some o ∧ o.guard = none ∧ depsB o D i = true ∧ (∀ v V1 V2, VLe V1 V2 → R v V1 → R v V2) ∧
   ∀ V', VLe V V' → Deps l Rs V' D (fun F => ∀ K : Act → World → Prop, (∀ V'' v a w, VLe V' V'' → R v V'' → Kn N [(dstOf l i, v)] a → St B V'' L w → K a w) → GoW P B N .plain l.toArray Q (.thn K :: k) o [] F V' L) F0
def Steps (P : Program) (B : Base) (N : Nat) (Q : Exit → Act → World → Prop) (k : List Cont) (l : List Oper) (F0 : List (Nat × Value)) (V : View) (L : List Box) (Rs : List Spec) : Prop := ∀ i, i < Rs.length → StepAt P B N Q k l F0 V L (Rs.take i) i (getR Rs i)
def Grow (P : Program) (B : Base) (N : Nat) (Q : Exit → Act → World → Prop) (k : List Cont) (l : List Oper) (F0 : List (Nat × Value)) (V : View) (L : List Box) (Rs : List Spec) : Prop :=
  Steps P B N Q k l F0 V L Rs → ∀ a w, Kn N F0 a → St B V L w → wpAnyH P .any l.toArray (evalQ P Q k) (fun _ => True) l.length (Array.replicate l.length false) a w
theorem gc_grow {id : Nat} {l : List Oper} (F0 : List (Nat × Value)) (hm : P.follows .mixedOrders = true) (hF : ∀ p ∈ F0, look F p.1 = some p.2) (h : Grow P B N Q k l F0 V L []) : GoC P B N (.region id l.toArray true) Q k F V L := fun a w ha hs =>
  wp_region_held (S := fun _ => True) hm (h (fun i hi => by simp at hi) a _ (ha.less hF) hs.drewn)
variable {l : List Oper} {F0 : List (Nat × Value)} {Rs : List Spec}
theorem getR_app {R : Spec} {i : Nat} (h : i < Rs.length) : getR (Rs ++ [R]) i = getR Rs i := by
  unfold getR
  rw [List.getD_eq_getElem?_getD, List.getD_eq_getElem?_getD, List.getElem?_append_left h]
theorem getR_last {R : Spec} : getR (Rs ++ [R]) Rs.length = R := by
  unfold getR
  rw [List.getD_eq_getElem?_getD, List.getElem?_append_right (Nat.le_refl _)]; simp
theorem grow_gen {o : Oper} {R : Spec} {n : Nat} (D : List Nat) (hn : Rs.length = n) (ho : l[n]? = some o) (hg : o.guard = none) (hD : depsB o D n = true) (hR : ∀ v V1 V2, VLe V1 V2 → R v V1 → R v V2)
    (hs : ∀ V', VLe V V' → Deps l Rs V' D (fun F => ∀ K : Act → World → Prop, (∀ V'' v a w, VLe V' V'' → R v V'' → Kn N [(dstOf l n, v)] a → St B V'' L w → K a w) → GoW P B N .plain l.toArray Q (.thn K :: k) o [] F V' L) F0)
    (h : Grow P B N Q k l F0 V L (Rs ++ [R])) : Grow P B N Q k l F0 V L Rs := fun hst => h fun i hi => by
  subst hn
  rw [List.length_append, List.length_singleton] at hi
  rcases Nat.lt_or_ge i Rs.length with h1 | h1
  · rw [List.take_append_of_le_length (by omega), getR_app h1]; exact hst i h1
  · obtain rfl : i = Rs.length := by omega
    rw [List.take_append_of_le_length (by omega), List.take_length, getR_last]
    exact ⟨o, D, ho, hg, hD, hR, hs⟩
/-- An operation whose value is one and the same. -/
theorem grow_val {o : Oper} {x : Value} {n : Nat} (D : List Nat) (hn : Rs.length = n) (ho : l[n]? = some o) (hg : o.guard = none) (hD : depsB o D n = true)
    (hs : ∀ V', VLe V V' → Deps l Rs V' D (fun F => ∀ K : Act → World → Prop, (∀ V'' v a w, VLe V' V'' → v = x → Kn N [(dstOf l n, v)] a → St B V'' L w → K a w) → GoW P B N .plain l.toArray Q (.thn K :: k) o [] F V' L) F0)
    (h : Grow P B N Q k l F0 V L (Rs ++ [fun v _ => v = x])) : Grow P B N Q k l F0 V L Rs := grow_gen D hn ho hg hD (fun _ _ _ _ h => h) hs h
/-- An operation that makes a slice, which is only read. -/
def newR (m : Nat) (cs : List Value) : Spec := fun v V => ∃ g, v = .slice (some ⟨g, 0, none⟩) m m ∧ CellsFrom V g 0 cs
theorem grow_new {o : Oper} {cs : List Value} {m n : Nat} (D : List Nat) (hn : Rs.length = n) (ho : l[n]? = some o) (hg : o.guard = none) (hD : depsB o D n = true)
    (hs : ∀ V', VLe V V' → Deps l Rs V' D (fun F => ∀ K : Act → World → Prop, (∀ V'' v a w, VLe V' V'' → newR m cs v V'' → Kn N [(dstOf l n, v)] a → St B V'' L w → K a w) → GoW P B N .plain l.toArray Q (.thn K :: k) o [] F V' L) F0)
    (h : Grow P B N Q k l F0 V L (Rs ++ [newR m cs])) : Grow P B N Q k l F0 V L Rs := grow_gen D hn ho hg hD (fun _ _ _ hV ⟨g, h1, h2⟩ => ⟨g, h1, h2.le hV⟩) hs h
theorem at_grow {K : Act → World → Prop} {R : Spec} {d : Nat} {V' V'' : View} {v : Value} (hK : ∀ V'' v a w, VLe V' V'' → R v V'' → Kn N [(d, v)] a → St B V'' L w → K a w) (hl : look F d = some v) (hV : VLe V' V'') (hR : R v V'') : AtQ P B N Q (.thn K :: k) .normal F V'' L := fun a w ha hs => hK V'' v a w hV hR (ha.less (by simpa using hl)) hs
/-- What holds at each state on the way. -/
def InvG (B : Base) (N : Nat) (l : List Oper) (F0 : List (Nat × Value)) (V : View) (L : List Box) (Rs : List Spec) (fuel : Nat) (listed : Array Bool) (a : Act) (w : World) : Prop :=
  listed.size = l.length ∧ (List.range l.length).countP (fun i => !listed.getD i true) ≤ fuel ∧ (∀ i o, l[i]? = some o → listed.getD i true = true → ∀ e ∈ o.after, Region.binds .any e = true → listed.getD e.on false = true) ∧ (∀ i, Rs.length ≤ i → i < l.length → listed.getD i true = false) ∧
  ∃ V', VLe V V' ∧ St B V' L w ∧ Kn N F0 a ∧ ∀ i, i < Rs.length → listed.getD i true = true → ∃ v, getR Rs i v V' ∧ Kn N [(dstOf l i, v)] a
theorem getD_tf {listed : Array Bool} {i : Nat} (h : i < listed.size) (b c : Bool) : listed.getD i b = listed.getD i c := by simp [Array.getD, h]
theorem getD_set {listed : Array Bool} {i j : Nat} {b : Bool} (h : i < listed.size) : (listed.setIfInBounds i true).getD j b = if i = j then true else listed.getD j b := by
  simp only [Array.getD_eq_getD_getElem?, Array.getElem?_setIfInBounds]
  by_cases e : i = j
  · subst e; simp [h]
  · simp [e]
theorem regionB_after {m : Nat} (h : regionB l m N F0 = true) {i : Nat} {o : Oper} (ho : l[i]? = some o) {e : Edge} (he : e ∈ o.after) : e.on < i := by
  unfold regionB at h
  simp only [Bool.and_eq_true, List.all_eq_true, List.mem_range] at h
  have hi : i < l.length := by
    rcases Nat.lt_or_ge i l.length with h | h
    · exact h
    · rw [List.getElem?_eq_none h] at ho; cases ho
  have := h.1 i hi
  rw [ho] at this
  simp only [Array.all_eq_true_iff_forall_mem] at this
  simpa [Nat.blt_eq] using this e he
theorem regionB_dst {m : Nat} (h : regionB l m N F0 = true) {i : Nat} (hi : i < m) : (∃ o, l[i]? = some o ∧ o.dst = some (dstOf l i)) ∧ dstOf l i < N ∧ (∀ p ∈ F0, p.1 ≠ dstOf l i) ∧ ∀ j, j < i → dstOf l j ≠ dstOf l i := by
  unfold regionB at h
  simp only [Bool.and_eq_true, List.all_eq_true, List.mem_range] at h
  have h2 := h.2 i hi
  cases ho : l[i]? with
  | none => rw [ho] at h2; simp at h2
  | some o =>
    rw [ho] at h2
    cases hd : o.dst with
    | none => simp [hd] at h2
    | some d =>
      have e : dstOf l i = d := by unfold dstOf; rw [ho]; simp [hd]
      rw [e]
      simp [hd, Nat.blt_eq] at h2
      refine ⟨⟨o, rfl, hd⟩, h2.1.1, fun p hp e => ?_, fun j hj e => ?_⟩
      · have := h2.1.2 p.1 p.2 hp; rw [e] at this; simp at this
      · have := h2.2 j hj; rw [e] at this; simp at this
theorem deps_all {V' : View} {a : Act} {X : List (Nat × Value) → Prop} : ∀ {D : List Nat} {F : List (Nat × Value)} {Rs : List Spec}, Kn N F a → (∀ j ∈ D, ∃ v, getR Rs j v V' ∧ Kn N [(dstOf l j, v)] a) → Deps l Rs V' D X F → ∃ F', Kn N F' a ∧ X F'
  | [], F, Rs, ha, _, h => ⟨F, ha, h⟩
  | j :: D, F, Rs, ha, hD, h => by
    obtain ⟨v, h1, h2⟩ := hD j (by simp)
    exact deps_all (ha.cons h2) (fun i hi => hD i (List.mem_cons_of_mem _ hi)) (h v h1)
/-- All operations that only make memory come up, in whatever order; hfin: what is left then. -/
theorem grow_run (hB : regionB l Rs.length N F0 = true) (hle : Rs.length ≤ l.length) (hst : Steps P B N Q k l F0 V L Rs)
    (hlast : ∀ i o, Rs.length ≤ i → l[i]? = some o → ∀ listed : Array Bool, listed.size = l.length → (∀ i o, l[i]? = some o → listed.getD i true = true → ∀ e ∈ o.after, Region.binds .any e = true → listed.getD e.on false = true) → (∀ e ∈ o.after, Region.binds .any e = true → listed.getD e.on false = true) → ∀ j, j < Rs.length → listed.getD j true = true)
    (hfin : ∀ fuel listed a w, InvG B N l F0 V L Rs fuel listed a w → (∀ i, i < Rs.length → listed.getD i true = true) → wpAnyH P .any l.toArray (evalQ P Q k) (fun _ => True) fuel listed a w) :
    ∀ fuel listed a w, InvG B N l F0 V L Rs fuel listed a w → wpAnyH P .any l.toArray (evalQ P Q k) (fun _ => True) fuel listed a w := by
  intro fuel
  induction fuel with
  | zero =>
    intro listed a w hI
    refine hfin 0 listed a w hI fun i hi => ?_
    have h0 : (List.range l.length).countP (fun i => !listed.getD i true) = 0 := by have := hI.2.1; omega
    rw [List.countP_eq_zero] at h0
    have := h0 i (List.mem_range.2 (by omega))
    simpa using this
  | succ fuel ih =>
    intro listed a w hI
    by_cases hall : ∀ i, i < Rs.length → listed.getD i true = true
    · exact hfin _ _ _ _ hI hall
    have ⟨hsz, hcnt, hdc, htop, V', hV, hs, ha, hvals⟩ := hI
    refine ⟨fun hr => ?_, fun i hi => ?_⟩
    · exfalso
      -- the least one that has not come up may come up
      have key : ∀ n i, i < n → i < Rs.length → listed.getD i true = true := by
        intro n
        induction n with
        | zero => intro i hi; omega
        | succ n ihn =>
          intro i hi hir
          rcases Nat.lt_or_ge i n with h | h
          · exact ihn i h hir
          · obtain rfl : i = n := by omega
            obtain ⟨⟨o, ho, _⟩, _⟩ := regionB_dst hB hir
            cases hli : listed.getD i true with
            | true => rfl
            | false =>
              exfalso
              have hmem : i ∈ Region.ready .any l.toArray listed := by
                refine mem_ready.2 ⟨hli, o, by simpa using ho, fun e he hb => ?_⟩
                have hlt := regionB_after hB ho he
                have := ihn e.on hlt (by omega)
                rw [getD_tf (by omega) false true]; exact this
              rw [hr] at hmem; cases hmem
      exact hall fun i hi => key (i + 1) i (by omega) hi
    · obtain ⟨hun, o, ho, haft⟩ := mem_ready.1 hi
      have ho : l[i]? = some o := by simpa using ho
      have hil : i < l.length := by
        rcases Nat.lt_or_ge i l.length with h | h
        · exact h
        · rw [List.getElem?_eq_none h] at ho; cases ho
      rcases Nat.lt_or_ge i Rs.length with him | him
      case inr => exact absurd (hlast i o him ho listed hsz hdc haft) hall
      obtain ⟨o', D, ho', hg, hD, hmono, hstep⟩ := hst i him
      obtain rfl : o = o' := by rw [ho] at ho'; injection ho'
      obtain ⟨⟨o2, ho2, hdst⟩, hdN, hd0, hdj⟩ := regionB_dst hB him
      obtain rfl : o = o2 := by rw [ho] at ho2; injection ho2
      have hDv : ∀ j ∈ D, ∃ v, getR (Rs.take i) j v V' ∧ Kn N [(dstOf l j, v)] a := by
        intro j hj
        unfold depsB at hD
        rw [List.all_eq_true] at hD
        have := hD j hj
        simp only [Bool.and_eq_true, Nat.blt_eq] at this
        obtain ⟨e, he, hb, hon⟩ := waitsB_spec this.2
        have hl := haft e he hb
        rw [hon, getD_tf (by omega) false true] at hl
        obtain ⟨v, h1, h2⟩ := hvals j (by omega) hl
        refine ⟨v, ?_, h2⟩
        unfold getR at h1 ⊢
        rw [List.getD_eq_getElem?_getD] at h1 ⊢
        rw [List.getElem?_take_of_lt this.1]; exact h1
      obtain ⟨F', hF', hX⟩ := deps_all ha hDv (hstep V' hV)
      unfold wpOp
      simp only [show (l.toArray)[i]? = some o by simpa using ho]
      rw [if_pos (by simp [Region.wanted, hg])]
      refine .inl ?_
      have hgo := gw_plain.1 (hX (fun a' w' => (∃ V'' v, VLe V' V'' ∧ getR Rs i v V'' ∧ Kn N [(dstOf l i, v)] a' ∧ St B V'' L w')) (fun V'' v a' w' h1 h2 h3 h4 => ⟨V'', v, h1, h2, h3, h4⟩)) a w hF' hs
      have h2 := wp_tmps hgo
      refine wp_thn (Oper.wp_mono (fun a' w' hK => ?_) h2)
      · obtain ⟨hK, u, hu⟩ := hK
        unfold wpList at hK
        obtain ⟨V'', v, h1, h2, h3, h4⟩ := hK
        rw [hdst] at hu
        refine ⟨trivial, ih _ a' w' ⟨by simpa using hsz, ?_, ?_, ?_, V'', hV.trans h1, h4, ha.kept hd0 h3.1 hu, ?_⟩⟩
        · have : (List.range l.length).countP (fun j => !(listed.setIfInBounds i true).getD j true) < (List.range l.length).countP (fun j => !listed.getD j true) := by
            refine countP_lt (fun j hj h => ?_) ⟨i, List.mem_range.2 hil, by rw [hun]; rfl, ?_⟩
            · rw [getD_set (by omega)] at h
              split at h
              · simp at h
              · exact h
            · rw [getD_set (by omega), if_pos rfl]; rfl
          omega
        · intro j oj hoj hlj e he hb
          rw [getD_set (by omega)]
          split
          · rfl
          · rw [getD_set (by omega)] at hlj
            split at hlj
            · rename_i e1; subst e1
              obtain rfl : o = oj := by rw [ho] at hoj; injection hoj
              exact haft e he hb
            · exact hdc j oj hoj hlj e he hb
        · intro j hj hjl
          rw [getD_set (by omega), if_neg (by omega)]
          exact htop j hj hjl
        · intro j hj hlj
          rw [getD_set (by omega)] at hlj
          split at hlj
          · rename_i e; subst e; exact ⟨v, h2, h3⟩
          · rename_i hne
            obtain ⟨x, q1, q2⟩ := hvals j hj hlj
            obtain ⟨_, _, _, _, _, hmj, _⟩ := hst j hj
            refine ⟨x, hmj x _ _ h1 q1, q2.kept ?_ h3.1 hu⟩
            intro p hp
            simp at hp; subst hp
            rcases Nat.lt_or_ge j i with h | h
            · exact hdj j h
            · exact Ne.symm ((regionB_dst hB hj).2.2.2 i (by omega))
theorem inv_start {a : Act} {w : World} (hle : Rs.length ≤ l.length) (ha : Kn N F0 a) (hs : St B V L w) : InvG B N l F0 V L Rs l.length (Array.replicate l.length false) a w := by
  have h0 : ∀ i, i < l.length → (Array.replicate l.length false).getD i true = false := by intro i hi; simp [Array.getD, hi]
  refine ⟨by simp, ?_, ?_, fun i _ hi => h0 i hi, V, VLe.refl V, hs, ha, ?_⟩
  · have := List.countP_le_length (p := fun i => !(Array.replicate l.length false).getD i true) (l := List.range l.length)
    rw [List.length_range] at this; exact this
  · intro i o ho hl
    have hi : i < l.length := by
      rcases Nat.lt_or_ge i l.length with h | h
      · exact h
      · rw [List.getElem?_eq_none h] at ho; cases ho
    rw [h0 i hi] at hl; cases hl
  · intro i hi hl
    rw [h0 i (by omega)] at hl; cases hl
/-- The last one is whatever it is, and waits for all the others. -/
theorem grow_last {o : Oper} {n : Nat} (D : List Nat) (hn : Rs.length = n) (hl : l.length = n + 1) (ho : l[n]? = some o) (hg : o.guard = none) (hB : regionB l n N F0 = true) (hU : usedB l n = true) (hD : depsB o D n = true)
    (h : ∀ V', VLe V V' → Deps l Rs V' D (fun F => GoW P B N .plain l.toArray Q k o [] F V' L) F0) : Grow P B N Q k l F0 V L Rs := fun hst a w ha hs => by
  subst hn
  have hused : ∀ i, i < Rs.length → ∃ j o, i < j ∧ j < l.length ∧ l[j]? = some o ∧ waitsB o i = true := by
    intro i hi
    unfold usedB at hU
    rw [List.all_eq_true] at hU
    have := hU i (List.mem_range.2 hi)
    rw [List.any_eq_true] at this
    obtain ⟨j, hj, h⟩ := this
    simp only [Bool.and_eq_true, Nat.blt_eq, List.mem_range] at h hj
    cases hoj : l[j]? with
    | none => rw [hoj] at h; simp at h
    | some oj => rw [hoj] at h; exact ⟨j, oj, h.1, hj, hoj, h.2⟩
  refine grow_run hB (by omega) hst (fun i oi hi hoi listed hsz hdc hready => ?_) (fun fuel listed a w hI hall => ?_) _ _ _ _ (inv_start (by omega) ha hs)
  · have hil : i < l.length := by
      rcases Nat.lt_or_ge i l.length with h | h
      · exact h
      · rw [List.getElem?_eq_none h] at hoi; cases hoi
    obtain rfl : i = Rs.length := by omega
    have key : ∀ m j, Rs.length ≤ j + m → j < Rs.length → listed.getD j true = true := by
      intro m
      induction m with
      | zero => intro j h1 h2; omega
      | succ m ihm =>
        intro j h1 h2
        obtain ⟨j', oj, hlt, hjl, hoj, hw⟩ := hused j h2
        obtain ⟨e, he, hb, hon⟩ := waitsB_spec hw
        have hl2 : listed.getD j false = true := by
          rcases Nat.lt_or_ge j' Rs.length with hlj | hlj
          · rw [← hon]; exact hdc j' oj hoj (ihm j' (by omega) hlj) e he hb
          · obtain rfl : j' = Rs.length := by omega
            obtain rfl : oj = oi := by rw [hoj] at hoi; injection hoi
            rw [← hon]; exact hready e he hb
        rw [getD_tf (by omega) true false]; exact hl2
    exact fun j hj => key Rs.length j (by omega) hj
  · obtain ⟨hsz, hcnt, _, htop, V', hV, hs, ha, hvals⟩ := hI
    have hun := htop Rs.length (Nat.le_refl _) (by omega)
    have hmem : ∀ i, i ∈ Region.ready .any l.toArray listed → i = Rs.length := by
      intro i hi
      obtain ⟨hun, o, ho, _⟩ := mem_ready.1 hi
      have hil : i < l.length := by
        rcases Nat.lt_or_ge i l.length with h | h
        · exact h
        · rw [List.getElem?_toArray, List.getElem?_eq_none h] at ho; cases ho
      rcases Nat.lt_or_ge i Rs.length with h1 | h1
      · rw [hall i h1] at hun; cases hun
      · omega
    have hrd : Rs.length ∈ Region.ready .any l.toArray listed := by
      refine mem_ready.2 ⟨hun, o, by simpa using ho, fun e he hb => ?_⟩
      have := hall e.on (regionB_after hB ho he)
      rw [getD_tf (by have := regionB_after hB ho he; omega) false true]; exact this
    cases fuel with
    | zero =>
      exfalso
      have h0 : (List.range l.length).countP (fun i => !listed.getD i true) = 0 := by omega
      rw [List.countP_eq_zero] at h0
      have := h0 Rs.length (List.mem_range.2 (by omega))
      rw [hun] at this; simp at this
    | succ fuel =>
      refine ⟨fun hr => (by rw [hr] at hrd; cases hrd), fun i hi => ?_⟩
      obtain rfl := hmem i hi
      have hDv : ∀ j ∈ D, ∃ v, getR Rs j v V' ∧ Kn N [(dstOf l j, v)] a := by
        intro j hj
        unfold depsB at hD
        rw [List.all_eq_true] at hD
        have := hD j hj
        simp only [Bool.and_eq_true, Nat.blt_eq] at this
        exact hvals j (by omega) (hall j (by omega))
      obtain ⟨F', hF', hX⟩ := deps_all ha hDv (h V' hV)
      unfold wpOp
      simp only [show (l.toArray)[Rs.length]? = some o by simpa using ho]
      rw [if_pos (by simp [Region.wanted, hg])]
      refine .inl (Oper.wp_mono (fun a' w' hK => ⟨trivial, ?_⟩) (gw_plain.1 hX a w hF' hs))
      unfold wpList at hK
      refine wpAnyH_done ?_ hK fuel
      apply List.eq_nil_iff_forall_not_mem.2
      intro i hi
      obtain ⟨hun, o, ho, _⟩ := mem_ready.1 hi
      have hil : i < l.length := by
        rcases Nat.lt_or_ge i l.length with h | h
        · exact h
        · rw [List.getElem?_toArray, List.getElem?_eq_none h] at ho; cases ho
      rw [getD_set (by omega)] at hun
      split at hun
      · cases hun
      · rw [hall i (by omega)] at hun; cases hun
end
end Go.Proofs.Ytejkmomfpidnbab

/- The engine: bytes of numbers, strings put together. No program is named here. -/
namespace Go.Proofs.Ytejkmomfpidnbab
open Go.RowKit
set_option linter.unusedSimpArgs false
set_option linter.unusedVariables false
theorem wrap_b8 (a : Int) : IntKind.wrap .u8 a = ((b8 a).toNat : Int) := by
  rw [b8_nat]; simp [IntKind.wrap, IntKind.bits, IntKind.signed, Int.bmod]
theorem ba_of (l : List UInt8) : (⟨l.toArray⟩ : ByteArray).toList = l := by rw [Lib.toList_data]
theorem ba_sz (l : List UInt8) : (⟨l.toArray⟩ : ByteArray).size = l.length := rfl
theorem ba_is (s : ByteArray) : s = ⟨s.toList.toArray⟩ := by rw [Lib.toList_data]
section
variable {P : Program} {B : Base} {N : Nat} {Q : Exit → Act → World → Prop} {k : List Cont} {F : List (Nat × Value)} {V : View} {L : List Box} {w : World}
variable {d : Option Tmp} {ty ty2 : TypeId} {pos : String} {af : Array Edge} {gd : Option (Nat × Bool)} {x y z : Operand} {T T2 : TypeId}
theorem q_conv8 {k0 : IntKind} {s t : TypeId} {ds : TypeDesc} {a : Int} (hs : UnderIs P s ds) (ht : UnderIs P t (.int .u8)) (hx : evF F x = some (.int k0 a)) : QP P B N V L ⟨d, .convert s t x, ty, pos, af, gd⟩ F (.int .u8 ((b8 a).toNat : Int)) := q_of fun ac w ha _ => by
  have e : (Conv.intToInt .u8 a) = pure (.int .u8 ((b8 a).toNat : Int)) := by unfold Conv.intToInt; rw [wrap_b8]
  simp [execOp, ha.ev hx, convert, hs.h, ht.h, e]
theorem q_shr8 {k : IntKind} {t ty2 : TypeId} {a : Int} (hx : evF F x = some (.int .i64 a)) (hy : evF F y = some (.int k 8)) (h : 0 ≤ a) : QP P B N V L ⟨d, .binOp .shr t x y ty2, ty, pos, af, gd⟩ F (.int .i64 (a / 256)) := by
  refine q_bin hx hy (fun w => by simp [eqGuard]) (fun w => ?_)
  have e : a.fdiv 256 = a / 256 := Int.fdiv_eq_ediv_of_nonneg a (by decide)
  simp [binOp, Op.shift, IntKind.bits, e]
theorem ba_app (l m : List UInt8) : (⟨l.toArray⟩ : ByteArray) ++ ⟨m.toArray⟩ = ⟨(l ++ m).toArray⟩ := by
  apply ByteArray.ext; rw [ByteArray.data_append]; simp
theorem q_saddl {l m : List UInt8} (hx : evF F x = some (.string ⟨l.toArray⟩)) (hy : evF F y = some (.string ⟨m.toArray⟩)) (h : l.length + m.length ≤ 1000000000) : QP P B N V L ⟨d, .binOp .add T x y ty2, ty, pos, af, gd⟩ F (.string ⟨(l ++ m).toArray⟩) := by
  have := q_sadd (P := P) (B := B) (N := N) (V := V) (L := L) (d := d) (ty := ty) (ty2 := ty2) (pos := pos) (af := af) (gd := gd) (t := T) hx hy (by rw [ba_sz, ba_sz]; omega)
  rw [ba_app] at this; exact this
theorem q_sadds {l : List UInt8} {s : ByteArray} (hx : evF F x = some (.string ⟨l.toArray⟩)) (hy : evF F y = some (.string s)) (h : l.length + s.size ≤ 1000000000) : QP P B N V L ⟨d, .binOp .add T x y ty2, ty, pos, af, gd⟩ F (.string ⟨(l ++ s.toList).toArray⟩) := by
  rw [ba_is s] at hy
  exact q_saddl hx hy (by rw [Lib.toList_data]; exact h)
theorem src_u8 {g m : Nat} {us : List UInt8} (h : CellsFrom V g 0 (u8C us)) (hm : us.length = m) : SrcIs B V L 1 (some ⟨g, 0, none⟩) m (u8C us) := src_v ⟨by rw [u8C_len]; omega, fun _ => ⟨g, 0, rfl, h⟩⟩
theorem q_indexAddrA {E sz b o n m : Nat} (hu : UnderIs P T (.array n E)) (hS : SizeIs P E sz) (hn : Nat.ble 2 n = true) (hx : evF F x = some (.pointer (some ⟨b, o, none⟩))) (hi : evF F y = some (.int .i64 (m : Int))) (hk : m < n) : QP P B N V L ⟨d, .indexAddr T x y, ty, pos, af, gd⟩ F (.pointer (some ⟨b, o + m * sz, none⟩)) := q_of fun ac w ha hs => by
  have h1 : ¬ n ≤ m := by omega
  have h2 := Nat.le_of_ble_eq_true hn
  simp [execOp, ha.ev hx, ha.ev hi, Instr.indexAt, Instr.sureAddr, asIntOf, hu.h, hS.h, hk, h1, add_none]
structure BuildA (P : Program) (T : TypeId) (sz : Nat) (zs : List Value) : Prop where
  h : (∃ n E, (∀ w, (underlying T).run P w = .ok (.array n E) w) ∧ ∀ w, (sizeOf E).run P w = .ok sz w) ∧ ∃ z, (∀ w, (zeroValue T).run P w = .ok z w) ∧ z.cells = zs.toArray
theorem run_buildA {sz : Nat} {zs us : List Value} {vs : List (Nat × Value)} (hb : BuildA P T sz zs) (hf : fillL (fun i => some (i * sz, sz)) zs vs = some us) (w : World) : (Instr.build T vs.toArray).run P w = .ok (.agg us.toArray) w := by
  obtain ⟨⟨n, E, h1, h2⟩, z, h3, h4⟩ := hb.h
  have hfill := fill_fillL _ _ _ _ hf
  unfold Instr.build
  simp only [Sem.run_bind, h3, Result.andThen_ok, h1, h2, h4]
  rw [hfill]
  rfl
theorem q_buildA {sz : Nat} {zs us : List Value} {ps : List (Nat × Operand)} {vs : List (Nat × Value)} (hb : BuildA P T sz zs) (hp : evP F ps = some vs) (hf : fillL (fun i => some (i * sz, sz)) zs vs = some us) : QP P B N V L ⟨d, .build T ps.toArray, ty, pos, af, gd⟩ F (.agg us.toArray) := q_of fun a w ha _ => by
  have h := ha.evP hp
  have e : (ps.toArray.map fun (p : Nat × Operand) => (p.1, a.eval p.2)) = vs.toArray := by rw [← h]; simp
  have hr := run_buildA hb hf w
  rw [← e] at hr
  simp only [execOp]
  have e2 : (ps.toArray.map fun x => match x with | (i, x) => (i, a.eval x)) = (ps.toArray.map fun (p : Nat × Operand) => (p.1, a.eval p.2)) := rfl
  rw [e2, Sem.run_bind, hr]
  rfl
/-- A function that is handed boxes: none of them is new. -/
theorem fn_enterH {N : Nat} {f : FuncId} {fn : Func} {c : Code} {args : List Value} {Bs : List Box} {R : Value → View → List Box → Prop} (hf : P.funcs[f]? = some fn) (hb : fn.body = some c) (hN : fn.ntmps = N) (hsz : Nat.ble args.length N = true)
    (h : ∀ w, (∀ x ∈ gsOf Bs, x < w.heap.size) → GoC P ⟨V, w, gsOf Bs⟩ N c (bodyPost P fn (FnBEnd V w Bs R)) [] (argsF args 0) V Bs) : FnB P f args V Bs R := fun w hV => by
  have hlt : ∀ x ∈ gsOf Bs, x < w.heap.size := fun x hx => by
    unfold gsOf at hx
    obtain ⟨b, hb, rfl⟩ := List.mem_map.1 hx
    exact hV.lt hb
  refine calls_of_wp hf hb (h w hlt _ w ⟨rfl, ?_, fun t v hv => ?_⟩ hV)
  · have := Nat.le_of_ble_eq_true hsz
    simp [hN]; omega
  · obtain ⟨_, h2⟩ := look_args args 0 t v hv
    have hlt : t < args.length := by
      rcases Nat.lt_or_ge t args.length with hl | hl
      · exact hl
      · rw [List.getElem?_eq_none (by omega)] at h2; cases h2
    rw [List.getElem?_eq_getElem (by omega)] at h2
    simp only [Nat.sub_zero] at h2
    injection h2 with h2
    simp [Array.getElem?_append, hlt, h2]
theorem St.retireN (hs : St B V L w) {L' : List Box} {g : Nat} {cs : List Value} (h : Drop1 L g cs L') (hfl : g ∉ B.fl) : ∃ V', VLe V V' ∧ CellsFrom V' g 0 cs ∧ St B V' L' w := by
  obtain ⟨⟨t, hm⟩, h2, h3⟩ := h.mem
  obtain ⟨h4, h5⟩ := h3 hs.nodup
  have ho := hs.own _ hm
  have hne : ∀ p x, V p = some x → p.block ≠ g := fun p x hp e => (hs.view p x hp).2 _ hm e.symm
  refine ⟨boxedV V w g, fun p x hp => ?_, fun j v hj => ?_, ⟨hs.ext, fun p x hp => ?_, fun p x hp hb => ?_, fun p x hp => ?_, fun b hb => hs.own b (h2 b hb), h4⟩⟩
  · rw [boxedV_out (hne p x hp)]; exact hp
  · rw [boxedV_in (g := g) (p := ⟨g, 0 + j, none⟩) rfl, Nat.zero_add, hs.cell ⟨t, hm⟩]; exact hj
  · by_cases e : p.block = g
    · rw [boxedV_in e] at hp
      exact ⟨hp, fun b hb => by rw [e]; exact h5 b hb⟩
    · rw [boxedV_out e] at hp
      exact ⟨(hs.view p x hp).1, fun b hb => (hs.view p x hp).2 b (h2 b hb)⟩
  · by_cases e : p.block = g
    · rcases ho.2 with h6 | h6
      · simp only [] at h6
        omega
      · exact absurd h6 hfl
    · rw [boxedV_out e] at hp
      exact hs.old p x hp hb
  · rw [boxedV_out (hne p x (hs.v0 p x hp))]; exact hs.v0 p x hp
/-- A slice that is made, and then only read. -/
theorem gw_buildSliceV {dr : Mode} {ops : Array Oper} {rest : List Oper} (hdr : dr.loud = true) (hfl : ∀ x ∈ B.fl, x < B.w.heap.size) {E sz len : Nat} {z : Value} {zs us : List Value} {ps : List (Nat × Operand)} {vs : List (Nat × Value)} (hu : UnderIs P T (.slice E)) (hS : SizeIs P E sz) (hz' : ZeroCells P E z)
    {zc : List Value} (hzc : z.cells = zc.toArray) (hzl : sz = zc.length) (hzs : repL len zc = zs) (hp : evP F ps = some vs) (hf : fillL (fun i => some (i * sz, sz)) zs vs = some us) (hlen : (Nat.ble (len * sz) 16777216 && !Nat.beq (len * sz) 0) = true) (hd : okD N d = true)
    (h : ∀ g V', VLe V V' → CellsFrom V' g 0 us → GoL P B N dr ops Q k rest (putF F d (.slice (some ⟨g, 0, none⟩) len len)) V' L) : GoW P B N dr ops Q k ⟨d, .buildSlice T len ps.toArray, ty, pos, af, gd⟩ rest F V L := gw_loud hdr fun a w ha hs => by
  obtain ⟨V', hV', hg, hs'⟩ := (hs.alloc E us).retireN (Drop1.here _ _ _ _) (fun hx => by have := hfl _ hx; have := hs.ext.sz; omega)
  refine wp_value (w' := w.alloc (.cells us.toArray E)) (v := .slice (some ⟨w.heap.size, 0, none⟩) len len) ?_ (gl_loud hdr (h w.heap.size V' hV' hg) _ _ (ha.put hd _) hs')
  have hh := ha.evP hp
  have e : (ps.toArray.map fun x => match x with | (i, x) => (i, a.eval x)) = vs.toArray := by rw [← hh]; simp
  have hz := hz'.h
  simp only [Bool.and_eq_true, Bool.not_eq_true'] at hlen
  have h1 := Nat.le_of_ble_eq_true hlen.1
  have h2 : len * sz ≠ 0 := fun e => by rw [e] at hlen; simp at hlen
  have hfill := fill_fillL _ _ _ _ hf
  simp only [execOp]
  rw [e]
  unfold Instr.buildSlice
  have e3 : ¬ (2 ^ 24 < len * sz) := by omega
  have h3 : len ≠ 0 ∧ sz ≠ 0 := ⟨fun e => h2 (by simp [e]), fun e => h2 (by simp [e])⟩
  have hrep : (Array.range (len * sz)).map (fun i => z.cells[i % z.cells.size]!) = zs.toArray := by rw [hzc, hzl, rep_cells, hzs]
  simp [hu.h, hS.h, hz, e3, h3.1, h3.2, hrep, hfill]
  rw [if_neg h2]
  rfl
end
theorem deps_val {l : List Oper} {Rs : List Spec} {V' : View} {D : List Nat} {X : List (Nat × Value) → Prop} {F : List (Nat × Value)} {j d : Nat} {x : Value} (hR : getR Rs j = fun v _ => v = x) (hd : dstOf l j = d) (h : Deps l Rs V' D X ((d, x) :: F)) : Deps l Rs V' (j :: D) X F := fun v hv => by
  rw [hR] at hv; obtain rfl : v = x := hv; rw [hd]; exact h
theorem deps_new {l : List Oper} {Rs : List Spec} {V' : View} {D : List Nat} {X : List (Nat × Value) → Prop} {F : List (Nat × Value)} {j d m : Nat} {cs : List Value} (hR : getR Rs j = newR m cs) (hd : dstOf l j = d) (h : ∀ g, CellsFrom V' g 0 cs → Deps l Rs V' D X ((d, .slice (some ⟨g, 0, none⟩) m m) :: F)) : Deps l Rs V' (j :: D) X F := fun v hv => by
  rw [hR] at hv; obtain ⟨g, rfl, hg⟩ := hv; rw [hd]; exact h g hg
theorem deps_nil {l : List Oper} {Rs : List Spec} {V' : View} {X : List (Nat × Value) → Prop} {F : List (Nat × Value)} (h : X F) : Deps l Rs V' [] X F := h
end Go.Proofs.Ytejkmomfpidnbab

/- The engine: regions in which three or four operations may come up at once; boxes in another order. No program is named here. -/
namespace Go.Proofs.Ytejkmomfpidnbab
open Go.RowKit
set_option linter.unusedSimpArgs false
set_option linter.unusedVariables false
section
variable {P : Program} {B : Base} {N : Nat} {Q : Exit → Act → World → Prop} {F : List (Nat × Value)} {V : View} {L : List Box} {k : List Cont} {ops : Array Oper} {rest : List Oper}
end
/-! Boxes in another order. -/
inductive PickB : List Box → List Box → List Box → Prop
  | one (b : Box) (L : List Box) : PickB (b :: L) [b] L
  | all (A L : List Box) : PickB (A ++ L) A L
  | last (A : List Box) : PickB A A []
  | next {L X R : List Box} (b : Box) (h : PickB L X R) : PickB (b :: L) X (b :: R)
  | skip {L X R : List Box} (A : List Box) (h : PickB L X R) : PickB (A ++ L) X (A ++ R)
theorem PickB.perm {L X R : List Box} (h : PickB L X R) : L.Perm (X ++ R) := by
  induction h with
  | one b L => exact List.Perm.refl _
  | all A L => exact List.Perm.refl _
  | last A => simp
  | next b h ih => exact (List.Perm.cons b ih).trans (by simpa using (List.perm_middle (a := b)).symm)
  | @skip L X R A h ih =>
    refine (List.Perm.append_left A ih).trans ?_
    rw [← List.append_assoc, ← List.append_assoc]
    exact List.Perm.append_right R List.perm_append_comm
/-- What is kept of boxes, in another order. -/
def SubP (L' L : List Box) : Prop := ∃ R, L.Perm (L' ++ R)
theorem sp_nil {L : List Box} : SubP [] L := ⟨L, List.Perm.refl _⟩
theorem sp_app {X T L R : List Box} (h : PickB L X R) (ht : SubP T R) : SubP (X ++ T) L := by
  obtain ⟨Z, hZ⟩ := ht
  refine ⟨Z, h.perm.trans ?_⟩
  rw [List.append_assoc]
  exact List.Perm.append_left X hZ
theorem sp_cons {b : Box} {T L R : List Box} (h : PickB L [b] R) (ht : SubP T R) : SubP (b :: T) L := sp_app (X := [b]) h ht
theorem sp_last {X L R : List Box} (h : PickB L X R) : SubP X L := by have := sp_app h (sp_nil (L := R)); simpa using this
section
variable {P : Program} {B : Base} {N : Nat} {Q : Exit → Act → World → Prop} {F : List (Nat × Value)} {V : View} {L : List Box} {k : List Cont}
theorem St.subP {w : World} {L' : List Box} (hs : St B V L w) (h : SubP L' L) : St B V L' w := by
  obtain ⟨R, hp⟩ := h
  have hm : ∀ b ∈ L', b ∈ L := fun b hb => hp.mem_iff.2 (by simp [hb])
  refine ⟨hs.ext, fun p x hx => ⟨(hs.view p x hx).1, fun b hb => (hs.view p x hx).2 b (hm b hb)⟩, hs.old, hs.v0, fun b hb => hs.own b (hm b hb), ?_⟩
  have h1 := (hp.map Box.g).nodup_iff.1 hs.nodup
  rw [List.map_append] at h1
  exact (List.nodup_append.1 h1).1
theorem gc_meet {c : Code} (J : List (Nat × Value) → View → List Box → Prop) (h1 : GoC P B N c Q (.thn (fun a w => ∃ F V L, J F V L ∧ Kn N F a ∧ St B V L w) :: k) F V L) (h2 : ∀ F V L, J F V L → AtQ P B N Q k .normal F V L) : GoC P B N c Q k F V L :=
  fun a w ha hs => Code.wp_mono (fun e a w q => by
    cases e with
    | normal => obtain ⟨F, V, L, hJ, ha, hs⟩ := q; exact h2 F V L hJ a w ha hs
    | exit i => exact q
    | goto l => exact q
    | ret => exact q
    | panic ch => exact q
    | outgrown => exact q) (h1 a w ha hs)
theorem at_meetP {J : List (Nat × Value) → View → List Box → Prop} (F' : List (Nat × Value)) {L' : List Box} (hJ : J F' V L') (hF : ∀ p ∈ F', look F p.1 = some p.2) (hL : SubP L' L) :
    AtQ P B N Q (.thn (fun a w => ∃ F V L, J F V L ∧ Kn N F a ∧ St B V L w) :: k) .normal F V L := fun a w ha hs => ⟨F', V, L', hJ, ha.less hF, hs.subP hL⟩
theorem gc_order {c : Code} {L' : List Box} (hL : SubP L' L) (h : GoC P B N c Q k F V L') : GoC P B N c Q k F V L := fun a w ha hs => h a w ha (hs.subP hL)
end
end Go.Proofs.Ytejkmomfpidnbab

/- Short names for proofs that look alike: each finds its own, at the place where it stands. -/
namespace Go.Proofs.Ytejkmomfpidnbab
open Go.RowKit
theorem own9 {L : List Box} {g : Nat} {cs : List Value} (h : OwnAt L g cs := by first | ((repeat (first | exact own_here | apply own_next | apply own_skip)); done) | fail) : OwnAt L g cs := h
theorem put9 {L L' : List Box} {g i : Nat} {vs : List Value} (h : PutAt L g i vs L' := by first | ((repeat (first | exact PutAt.here _ _ _ _ _ _ (Nat.le_of_ble_eq_true rfl) | apply PutAt.next | apply putAt_skip)); done) | fail) : PutAt L g i vs L' := h
theorem puts9 {L L' : List Box} {g i : Nat} {vs : List Value} (h : PutAt L g i vs L' := by first | ((repeat (first | exact PutAt.here _ _ _ _ _ _ (by assumption) | exact PutAt.here _ _ _ _ _ _ (by first | omega | (simp only [List.length_cons, List.length_nil]; omega) | fail) | apply PutAt.next | apply putAt_skip)); done) | fail) : PutAt L g i vs L' := h
theorem rep9 {L L1 : List Box} {f : List Box → List Box} (h : Repl L L1 f := by first | ((repeat (first | exact repl_here | exact repl_all | exact repl_one | apply repl_next | apply repl_skip)); done) | fail) : Repl L L1 f := h
theorem vl9 {V V' : View} (h : VLe V V' := by first | ((repeat (first | exact VLe.refl _ | assumption | refine VLe.trans ?_ (by assumption))); done) | fail) : VLe V V' := h
theorem slb9 {L L' : List Box} (h : List.Sublist L L' := by first | ((repeat (first | exact List.Sublist.refl _ | exact List.nil_sublist _ | refine List.Sublist.cons_cons _ ?_ | refine List.Sublist.cons _ ?_ | refine List.sublist_append_of_sublist_right ?_)); done) | fail) : List.Sublist L L' := h
theorem sl9 {L L' : List Box} (h : List.Sublist L L' := by repeat (first | exact List.Sublist.refl _ | refine List.Sublist.cons _ ?_ | refine List.sublist_append_of_sublist_right ?_)) : List.Sublist L L' := h
theorem sub9 {F G : List (Nat × Value)} (h : ∀ p ∈ G, look F p.1 = some p.2 := by repeat (first | exact sub_nil | refine sub_cons (by exact rfl) ?_)) : ∀ p ∈ G, look F p.1 = some p.2 := h
theorem pk9 {A B C : List Box} (h : PickB A B C := by first | ((repeat (first | exact PickB.one _ _ | exact PickB.all _ _ | exact PickB.last _ | apply PickB.next | apply PickB.skip)); done) | fail) : PickB A B C := h
theorem sp9 {X L : List Box} (h : SubP X L := by repeat (first | exact sp_nil | exact sp_last pk9 | refine sp_cons pk9 ?_ | refine sp_app pk9 ?_)) : SubP X L := h
end Go.Proofs.Ytejkmomfpidnbab

/- Closed facts on the types of the program. Printed by a program of our own (steps.py). -/
namespace Go.Proofs.Ytejkmomfpidnbab
open Go.RowKit
theorem mixed : Try.prog.follows .mixedOrders = true := by kernel_rfl
theorem fld_24_0 : FieldIs Try.prog 24 0 0 := ⟨fun a w => by kernel_rfl⟩
theorem fld_24_1 : FieldIs Try.prog 24 1 1 := ⟨fun a w => by kernel_rfl⟩
theorem fld_24_2 : FieldIs Try.prog 24 2 2 := ⟨fun a w => by kernel_rfl⟩
theorem fld_24_3 : FieldIs Try.prog 24 3 3 := ⟨fun a w => by kernel_rfl⟩
theorem fld_37_0 : FieldIs Try.prog 37 0 0 := ⟨fun a w => by kernel_rfl⟩
theorem fld_37_1 : FieldIs Try.prog 37 1 1 := ⟨fun a w => by kernel_rfl⟩
theorem fld_37_2 : FieldIs Try.prog 37 2 2 := ⟨fun a w => by kernel_rfl⟩
theorem fld_37_3 : FieldIs Try.prog 37 3 3 := ⟨fun a w => by kernel_rfl⟩
theorem fld_37_4 : FieldIs Try.prog 37 4 4 := ⟨fun a w => by kernel_rfl⟩
theorem fld_37_5 : FieldIs Try.prog 37 5 5 := ⟨fun a w => by kernel_rfl⟩
theorem fld_37_6 : FieldIs Try.prog 37 6 6 := ⟨fun a w => by kernel_rfl⟩
theorem fld_37_7 : FieldIs Try.prog 37 7 7 := ⟨fun a w => by kernel_rfl⟩
theorem fld_64_0 : FieldIs Try.prog 64 0 0 := ⟨fun a w => by kernel_rfl⟩
theorem fld_64_1 : FieldIs Try.prog 64 1 1 := ⟨fun a w => by kernel_rfl⟩
theorem fld_78_0 : FieldIs Try.prog 78 0 0 := ⟨fun a w => by kernel_rfl⟩
theorem fld_78_1 : FieldIs Try.prog 78 1 1 := ⟨fun a w => by kernel_rfl⟩
theorem fld_78_2 : FieldIs Try.prog 78 2 2 := ⟨fun a w => by kernel_rfl⟩
theorem fld_95_0 : FieldIs Try.prog 95 0 0 := ⟨fun a w => by kernel_rfl⟩
theorem fld_95_1 : FieldIs Try.prog 95 1 1 := ⟨fun a w => by kernel_rfl⟩
theorem fld_104_0 : FieldIs Try.prog 104 0 0 := ⟨fun a w => by kernel_rfl⟩
theorem fld_104_1 : FieldIs Try.prog 104 1 1 := ⟨fun a w => by kernel_rfl⟩
theorem fld_128_0 : FieldIs Try.prog 128 0 0 := ⟨fun a w => by kernel_rfl⟩
theorem fld_128_1 : FieldIs Try.prog 128 1 2 := ⟨fun a w => by kernel_rfl⟩
theorem fld_128_2 : FieldIs Try.prog 128 2 6 := ⟨fun a w => by kernel_rfl⟩
theorem fld_128_3 : FieldIs Try.prog 128 3 7 := ⟨fun a w => by kernel_rfl⟩
theorem fld_131_0 : FieldIs Try.prog 131 0 0 := ⟨fun a w => by kernel_rfl⟩
theorem fld_131_1 : FieldIs Try.prog 131 1 1 := ⟨fun a w => by kernel_rfl⟩
theorem fld_131_2 : FieldIs Try.prog 131 2 2 := ⟨fun a w => by kernel_rfl⟩
theorem fld_131_3 : FieldIs Try.prog 131 3 3 := ⟨fun a w => by kernel_rfl⟩
theorem fld_140_0 : FieldIs Try.prog 140 0 0 := ⟨fun a w => by kernel_rfl⟩
theorem fld_140_1 : FieldIs Try.prog 140 1 1 := ⟨fun a w => by kernel_rfl⟩
theorem fld_140_2 : FieldIs Try.prog 140 2 2 := ⟨fun a w => by kernel_rfl⟩
theorem fld_140_3 : FieldIs Try.prog 140 3 3 := ⟨fun a w => by kernel_rfl⟩
theorem fld_140_4 : FieldIs Try.prog 140 4 4 := ⟨fun a w => by kernel_rfl⟩
theorem fld_140_5 : FieldIs Try.prog 140 5 5 := ⟨fun a w => by kernel_rfl⟩
theorem fld_140_6 : FieldIs Try.prog 140 6 10 := ⟨fun a w => by kernel_rfl⟩
theorem fld_158_0 : FieldIs Try.prog 158 0 0 := ⟨fun a w => by kernel_rfl⟩
theorem fld_158_1 : FieldIs Try.prog 158 1 1 := ⟨fun a w => by kernel_rfl⟩
theorem fld_180_0 : FieldIs Try.prog 180 0 0 := ⟨fun a w => by kernel_rfl⟩
theorem fld_180_2 : FieldIs Try.prog 180 2 9 := ⟨fun a w => by kernel_rfl⟩
theorem fld_191_0 : FieldIs Try.prog 191 0 0 := ⟨fun a w => by kernel_rfl⟩
theorem fld_191_1 : FieldIs Try.prog 191 1 1 := ⟨fun a w => by kernel_rfl⟩
theorem fld_193_0 : FieldIs Try.prog 193 0 0 := ⟨fun a w => by kernel_rfl⟩
theorem fld_193_1 : FieldIs Try.prog 193 1 8 := ⟨fun a w => by kernel_rfl⟩
theorem fld_208_0 : FieldIs Try.prog 208 0 0 := ⟨fun a w => by kernel_rfl⟩
theorem fld_208_1 : FieldIs Try.prog 208 1 2 := ⟨fun a w => by kernel_rfl⟩
theorem fld_208_3 : FieldIs Try.prog 208 3 7 := ⟨fun a w => by kernel_rfl⟩
theorem fld_212_0 : FieldIs Try.prog 212 0 0 := ⟨fun a w => by kernel_rfl⟩
theorem fld_212_1 : FieldIs Try.prog 212 1 1 := ⟨fun a w => by kernel_rfl⟩
theorem fld_212_2 : FieldIs Try.prog 212 2 2 := ⟨fun a w => by kernel_rfl⟩
theorem und_3 : UnderIs Try.prog 3 (.int .i64) := ⟨Try.underlying3⟩
theorem one_3 : IsOne Try.prog 3 := ⟨Try.isAgg3⟩
theorem siz_3 : SizeIs Try.prog 3 1 := ⟨Try.sizeOf3⟩
theorem zec_3 : ZeroCells Try.prog 3 (.int .i64 0) := ⟨Try.zeroValue3⟩
theorem one_4 : IsOne Try.prog 4 := ⟨Try.isAgg4⟩
theorem siz_4 : SizeIs Try.prog 4 1 := ⟨Try.sizeOf4⟩
theorem und_5 : UnderIs Try.prog 5 (.int .u8) := ⟨Try.underlying5⟩
theorem siz_5 : SizeIs Try.prog 5 1 := ⟨Try.sizeOf5⟩
theorem zec_5 : ZeroCells Try.prog 5 (.int .u8 0) := ⟨Try.zeroValue5⟩
theorem und_9 : UnderIs Try.prog 9 .string := ⟨Try.underlying9⟩
theorem one_9 : IsOne Try.prog 9 := ⟨Try.isAgg9⟩
theorem siz_9 : SizeIs Try.prog 9 1 := ⟨Try.sizeOf9⟩
theorem und_22 : UnderIs Try.prog 22 (.slice 3) := ⟨Try.underlying22⟩
theorem one_22 : IsOne Try.prog 22 := ⟨Try.isAgg22⟩
theorem siz_22 : SizeIs Try.prog 22 1 := ⟨Try.sizeOf22⟩
theorem agg_24 : IsAg Try.prog 24 4 := ⟨Try.isAgg24, Try.sizeOf24⟩
theorem siz_24 : SizeIs Try.prog 24 4 := ⟨Try.sizeOf24⟩
theorem zer_24 : ZeroIs Try.prog 24 [.int .i64 0, .int .i64 0, .slice none 0 0, .int .i64 0] := ⟨_, Try.zeroValue24, rfl⟩
theorem one_26 : IsOne Try.prog 26 := ⟨Try.isAgg26⟩
theorem siz_26 : SizeIs Try.prog 26 1 := ⟨Try.sizeOf26⟩
theorem zec_26 : ZeroCells Try.prog 26 (.nilIface) := ⟨Try.zeroValue26⟩
theorem und_34 : UnderIs Try.prog 34 (.slice 158) := ⟨Try.underlying34⟩
theorem one_34 : IsOne Try.prog 34 := ⟨Try.isAgg34⟩
theorem siz_34 : SizeIs Try.prog 34 1 := ⟨Try.sizeOf34⟩
theorem und_35 : UnderIs Try.prog 35 (.slice 104) := ⟨Try.underlying35⟩
theorem one_35 : IsOne Try.prog 35 := ⟨Try.isAgg35⟩
theorem siz_35 : SizeIs Try.prog 35 1 := ⟨Try.sizeOf35⟩
theorem agg_37 : IsAg Try.prog 37 8 := ⟨Try.isAgg37, Try.sizeOf37⟩
theorem siz_37 : SizeIs Try.prog 37 8 := ⟨Try.sizeOf37⟩
theorem zer_37 : ZeroIs Try.prog 37 [.int .i64 0, .int .i64 0, .int .i64 0, .int .i64 0, .bool false, .slice none 0 0, .string ⟨#[]⟩, .slice none 0 0] := ⟨_, Try.zeroValue37, rfl⟩
theorem zec_37 : ZeroCells Try.prog 37 (.agg #[.int .i64 0, .int .i64 0, .int .i64 0, .int .i64 0, .bool false, .slice none 0 0, .string ⟨#[]⟩, .slice none 0 0]) := ⟨Try.zeroValue37⟩
theorem und_49 : UnderIs Try.prog 49 (.slice 37) := ⟨Try.underlying49⟩
theorem one_49 : IsOne Try.prog 49 := ⟨Try.isAgg49⟩
theorem siz_49 : SizeIs Try.prog 49 1 := ⟨Try.sizeOf49⟩
theorem und_62 : UnderIs Try.prog 62 (.slice 78) := ⟨Try.underlying62⟩
theorem one_62 : IsOne Try.prog 62 := ⟨Try.isAgg62⟩
theorem agg_64 : IsAg Try.prog 64 2 := ⟨Try.isAgg64, Try.sizeOf64⟩
theorem siz_64 : SizeIs Try.prog 64 2 := ⟨Try.sizeOf64⟩
theorem zer_64 : ZeroIs Try.prog 64 [.slice none 0 0, .slice none 0 0] := ⟨_, Try.zeroValue64, rfl⟩
theorem one_67 : IsOne Try.prog 67 := ⟨Try.isAgg67⟩
theorem agg_78 : IsAg Try.prog 78 3 := ⟨Try.isAgg78, Try.sizeOf78⟩
theorem siz_78 : SizeIs Try.prog 78 3 := ⟨Try.sizeOf78⟩
theorem zer_78 : ZeroIs Try.prog 78 [.int .i64 0, .int .i64 0, .int .i64 0] := ⟨_, Try.zeroValue78, rfl⟩
theorem zec_78 : ZeroCells Try.prog 78 (.agg #[.int .i64 0, .int .i64 0, .int .i64 0]) := ⟨Try.zeroValue78⟩
theorem und_85 : UnderIs Try.prog 85 (.int .i64) := ⟨Try.underlying85⟩
theorem one_92 : IsOne Try.prog 92 := ⟨Try.isAgg92⟩
theorem siz_92 : SizeIs Try.prog 92 1 := ⟨Try.sizeOf92⟩
theorem und_93 : UnderIs Try.prog 93 (.slice 5) := ⟨Try.underlying93⟩
theorem one_93 : IsOne Try.prog 93 := ⟨Try.isAgg93⟩
theorem siz_93 : SizeIs Try.prog 93 1 := ⟨Try.sizeOf93⟩
theorem zer_95 : ZeroIs Try.prog 95 [.pointer none, .slice none 0 0] := ⟨_, Try.zeroValue95, rfl⟩
theorem agg_104 : IsAg Try.prog 104 9 := ⟨Try.isAgg104, Try.sizeOf104⟩
theorem siz_104 : SizeIs Try.prog 104 9 := ⟨Try.sizeOf104⟩
theorem zer_104 : ZeroIs Try.prog 104 [.string ⟨#[]⟩, .int .i64 0, .int .i64 0, .int .i64 0, .int .i64 0, .bool false, .slice none 0 0, .string ⟨#[]⟩, .slice none 0 0] := ⟨_, Try.zeroValue104, rfl⟩
theorem zec_104 : ZeroCells Try.prog 104 (.agg #[.string ⟨#[]⟩, .int .i64 0, .int .i64 0, .int .i64 0, .int .i64 0, .bool false, .slice none 0 0, .string ⟨#[]⟩, .slice none 0 0]) := ⟨Try.zeroValue104⟩
theorem agg_128 : IsAg Try.prog 128 8 := ⟨Try.isAgg128, Try.sizeOf128⟩
theorem siz_128 : SizeIs Try.prog 128 8 := ⟨Try.sizeOf128⟩
theorem zer_128 : ZeroIs Try.prog 128 [.slice none 0 0, .slice none 0 0, .int .i64 0, .int .i64 0, .slice none 0 0, .int .i64 0, .int .i64 0, .slice none 0 0] := ⟨_, Try.zeroValue128, rfl⟩
theorem one_132 : IsOne Try.prog 132 := ⟨Try.isAgg132⟩
theorem one_135 : IsOne Try.prog 135 := ⟨Try.isAgg135⟩
theorem siz_135 : SizeIs Try.prog 135 1 := ⟨Try.sizeOf135⟩
theorem agg_136 : IsAg Try.prog 136 5 := ⟨Try.isAgg136, Try.sizeOf136⟩
theorem one_137 : IsOne Try.prog 137 := ⟨Try.isAgg137⟩
theorem siz_137 : SizeIs Try.prog 137 1 := ⟨Try.sizeOf137⟩
theorem agg_138 : IsAg Try.prog 138 5 := ⟨Try.isAgg138, Try.sizeOf138⟩
theorem agg_143 : IsAg Try.prog 143 2 := ⟨Try.isAgg143, Try.sizeOf143⟩
theorem agg_158 : IsAg Try.prog 158 2 := ⟨Try.isAgg158, Try.sizeOf158⟩
theorem siz_158 : SizeIs Try.prog 158 2 := ⟨Try.sizeOf158⟩
theorem zer_158 : ZeroIs Try.prog 158 [.string ⟨#[]⟩, .string ⟨#[]⟩] := ⟨_, Try.zeroValue158, rfl⟩
theorem one_210 : IsOne Try.prog 210 := ⟨Try.isAgg210⟩
theorem one_213 : IsOne Try.prog 213 := ⟨Try.isAgg213⟩
theorem siz_213 : SizeIs Try.prog 213 1 := ⟨Try.sizeOf213⟩
theorem zer_213 : ZeroIs Try.prog 213 [.map none] := ⟨_, Try.zeroValue213, rfl⟩
theorem und_224 : UnderIs Try.prog 224 (.slice 26) := ⟨Try.underlying224⟩
theorem inf_3 : InfoIs Try.prog 3 1 8 := ⟨by obtain ⟨i, h0, h1, h2, h3⟩ := info_parts (show (Try.prog.info? 3).map (fun i => (i.zero, i.size, i.bytes)) = some (some (.int .i64 0), 1, 8) by kernel_rfl); exact ⟨i, _, h0, h1, h2, h3, rfl⟩⟩
theorem inf_158 : InfoIs Try.prog 158 2 32 := ⟨by obtain ⟨i, h0, h1, h2, h3⟩ := info_parts (show (Try.prog.info? 158).map (fun i => (i.zero, i.size, i.bytes)) = some (some (.agg #[.string ⟨#[]⟩, .string ⟨#[]⟩]), 2, 32) by kernel_rfl); exact ⟨i, _, h0, h1, h2, h3, rfl⟩⟩
theorem inf_104 : InfoIs Try.prog 104 9 120 := ⟨by obtain ⟨i, h0, h1, h2, h3⟩ := info_parts (show (Try.prog.info? 104).map (fun i => (i.zero, i.size, i.bytes)) = some (some (.agg #[.string ⟨#[]⟩, .int .i64 0, .int .i64 0, .int .i64 0, .int .i64 0, .bool false, .slice none 0 0, .string ⟨#[]⟩, .slice none 0 0]), 9, 120) by kernel_rfl); exact ⟨i, _, h0, h1, h2, h3, rfl⟩⟩
theorem inf_37 : InfoIs Try.prog 37 8 104 := ⟨by obtain ⟨i, h0, h1, h2, h3⟩ := info_parts (show (Try.prog.info? 37).map (fun i => (i.zero, i.size, i.bytes)) = some (some (.agg #[.int .i64 0, .int .i64 0, .int .i64 0, .int .i64 0, .bool false, .slice none 0 0, .string ⟨#[]⟩, .slice none 0 0]), 8, 104) by kernel_rfl); exact ⟨i, _, h0, h1, h2, h3, rfl⟩⟩
theorem inf_78 : InfoIs Try.prog 78 3 24 := ⟨by obtain ⟨i, h0, h1, h2, h3⟩ := info_parts (show (Try.prog.info? 78).map (fun i => (i.zero, i.size, i.bytes)) = some (some (.agg #[.int .i64 0, .int .i64 0, .int .i64 0]), 3, 24) by kernel_rfl); exact ⟨i, _, h0, h1, h2, h3, rfl⟩⟩
theorem inf_26 : InfoIs Try.prog 26 1 16 := ⟨by obtain ⟨i, h0, h1, h2, h3⟩ := info_parts (show (Try.prog.info? 26).map (fun i => (i.zero, i.size, i.bytes)) = some (some (.nilIface), 1, 16) by kernel_rfl); exact ⟨i, _, h0, h1, h2, h3, rfl⟩⟩
theorem bld_24 : BuildIs Try.prog 24 [(0, 1), (1, 1), (2, 1), (3, 1)] [.int .i64 0, .int .i64 0, .slice none 0 0, .int .i64 0] := ⟨⟨_, Try.runUnderlying24, fun w => by kernel_rfl⟩, ⟨_, Try.zeroValue24, rfl⟩⟩
theorem bld_37 : BuildIs Try.prog 37 [(0, 1), (1, 1), (2, 1), (3, 1), (4, 1), (5, 1), (6, 1), (7, 1)] [.int .i64 0, .int .i64 0, .int .i64 0, .int .i64 0, .bool false, .slice none 0 0, .string ⟨#[]⟩, .slice none 0 0] := ⟨⟨_, Try.runUnderlying37, fun w => by kernel_rfl⟩, ⟨_, Try.zeroValue37, rfl⟩⟩
theorem bld_64 : BuildIs Try.prog 64 [(0, 1), (1, 1)] [.slice none 0 0, .slice none 0 0] := ⟨⟨_, Try.runUnderlying64, fun w => by kernel_rfl⟩, ⟨_, Try.zeroValue64, rfl⟩⟩
theorem bld_78 : BuildIs Try.prog 78 [(0, 1), (1, 1), (2, 1)] [.int .i64 0, .int .i64 0, .int .i64 0] := ⟨⟨_, Try.runUnderlying78, fun w => by kernel_rfl⟩, ⟨_, Try.zeroValue78, rfl⟩⟩
theorem bld_104 : BuildIs Try.prog 104 [(0, 1), (1, 8)] [.string ⟨#[]⟩, .int .i64 0, .int .i64 0, .int .i64 0, .int .i64 0, .bool false, .slice none 0 0, .string ⟨#[]⟩, .slice none 0 0] := ⟨⟨_, Try.runUnderlying104, fun w => by kernel_rfl⟩, ⟨_, Try.zeroValue104, rfl⟩⟩
theorem bld_128 : BuildIs Try.prog 128 [(0, 2), (2, 4), (6, 1), (7, 1)] [.slice none 0 0, .slice none 0 0, .int .i64 0, .int .i64 0, .slice none 0 0, .int .i64 0, .int .i64 0, .slice none 0 0] := ⟨⟨_, Try.runUnderlying128, fun w => by kernel_rfl⟩, ⟨_, Try.zeroValue128, rfl⟩⟩
theorem bld_131 : BuildIs Try.prog 131 [(0, 1), (1, 1), (2, 1), (3, 1)] [.slice none 0 0, .int .i64 0, .bool false, .int .i64 0] := ⟨⟨_, Try.runUnderlying131, fun w => by kernel_rfl⟩, ⟨_, Try.zeroValue131, rfl⟩⟩
theorem bld_140 : BuildIs Try.prog 140 [(0, 1), (1, 1), (2, 1), (3, 1), (4, 1), (5, 5), (10, 5)] [.pointer none, .bool false, .int .i64 0, .int .i64 0, .pointer none, .pointer none, .pointer none, .pointer none, .pointer none, .pointer none, .pointer none, .pointer none, .pointer none, .pointer none, .pointer none] := ⟨⟨_, Try.runUnderlying140, fun w => by kernel_rfl⟩, ⟨_, Try.zeroValue140, rfl⟩⟩
theorem bld_180 : BuildIs Try.prog 180 [(0, 8), (8, 1), (9, 2), (11, 1), (12, 1)] [.slice none 0 0, .slice none 0 0, .int .i64 0, .int .i64 0, .slice none 0 0, .int .i64 0, .int .i64 0, .slice none 0 0, .pointer none, .slice none 0 0, .slice none 0 0, .int .i64 0, .int .i64 0] := ⟨⟨_, Try.runUnderlying180, fun w => by kernel_rfl⟩, ⟨_, Try.zeroValue180, rfl⟩⟩
theorem bld_191 : BuildIs Try.prog 191 [(0, 1), (1, 1)] [.string ⟨#[]⟩, .bool false] := ⟨⟨_, Try.runUnderlying191, fun w => by kernel_rfl⟩, ⟨_, Try.zeroValue191, rfl⟩⟩
theorem bld_208 : BuildIs Try.prog 208 [(0, 2), (2, 4), (6, 1), (7, 1)] [.slice none 0 0, .slice none 0 0, .int .i64 0, .int .i64 0, .slice none 0 0, .int .i64 0, .int .i64 0, .slice none 0 0] := ⟨⟨_, Try.runUnderlying208, fun w => by kernel_rfl⟩, ⟨_, Try.zeroValue208, rfl⟩⟩
theorem bld_212 : BuildIs Try.prog 212 [(0, 1), (1, 1), (2, 1)] [.int .i64 0, .int .i64 0, .map none] := ⟨⟨_, Try.runUnderlying212, fun w => by kernel_rfl⟩, ⟨_, Try.zeroValue212, rfl⟩⟩
end Go.Proofs.Ytejkmomfpidnbab

/- Errors, by the engine: a number told as an error. -/
namespace Go.Proofs.Ytejkmomfpidnbab
open Go.RowKit
set_option linter.unusedSimpArgs false
set_option linter.unusedVariables false

/-- An error by its number; 0: nil. -/
def errV (e : Int) : Value := if e = 0 then .nilIface else .iface 85 (.int .i64 e)
theorem errV_zero : errV 0 = .nilIface := by simp [errV]
theorem errV_pos {e : Int} (h : e ≠ 0) : errV e = .iface 85 (.int .i64 e) := by simp [errV, h]
theorem errV_nil {e : Int} (h : e = 0) : Value.nilIface = errV e := by rw [h, errV_zero]
theorem errV_is {e : Int} (k : Int) (h : e = k) (hk : k ≠ 0 := by decide) : Value.iface 85 (.int .i64 k) = errV e := by rw [h, errV_pos hk]
theorem run_neq_err (e : Int) (w : World) : (binOp .neq 26 (errV e) .nilIface).run Try.prog w = .ok (.bool (decide (¬ e = 0))) w := by
  by_cases h : e = 0
  · subst h; rw [errV_zero]; kernel_rfl
  · rw [errV_pos h, decide_eq_true h]; kernel_rfl
theorem run_eql_err (e : Int) (w : World) : (binOp .eql 26 (errV e) .nilIface).run Try.prog w = .ok (.bool (decide (e = 0))) w := by
  by_cases h : e = 0
  · subst h; rw [errV_zero]; kernel_rfl
  · rw [errV_pos h, decide_eq_false h]; kernel_rfl
theorem guard_neq_err (x : Operand) (e : Int) (w : World) : (eqGuard .neq 26 x (.const .nilIface) (errV e) .nilIface).run Try.prog w = .ok () w := by
  by_cases h : e = 0
  · subst h; rw [errV_zero]; simp [eqGuard]
  · rw [errV_pos h]; rfl
theorem guard_eql_err (x : Operand) (e : Int) (w : World) : (eqGuard .eql 26 x (.const .nilIface) (errV e) .nilIface).run Try.prog w = .ok () w := by
  by_cases h : e = 0
  · subst h; rw [errV_zero]; simp [eqGuard]
  · rw [errV_pos h]; rfl
section
variable {B : Base} {N : Nat} {F : List (Nat × Value)} {V : View} {L : List Box} {d : Option Tmp} {ty ty2 : TypeId} {pos : String} {af : Array Edge} {gd : Option (Nat × Bool)} {x : Operand} {e : Int}
theorem q_eneq (hx : evF F x = some (errV e)) : QP Try.prog B N V L ⟨d, .binOp .neq 26 x (.const .nilIface) ty2, ty, pos, af, gd⟩ F (.bool (decide (¬ e = 0))) :=
  q_bin (y := .const .nilIface) hx rfl (guard_neq_err x e) (run_neq_err e)
theorem q_eeql (hx : evF F x = some (errV e)) : QP Try.prog B N V L ⟨d, .binOp .eql 26 x (.const .nilIface) ty2, ty, pos, af, gd⟩ F (.bool (decide (e = 0))) :=
  q_bin (y := .const .nilIface) hx rfl (guard_eql_err x e) (run_eql_err e)
theorem run_assert (e : Int) (w : World) : (Instr.typeAssert (.iface 85 (.int .i64 e)) 26 85 true).run Try.prog w = .ok (.tuple #[.int .i64 e, .bool true]) w := by kernel_rfl
theorem q_assert (hx : evF F x = some (.iface 85 (.int .i64 e))) : QP Try.prog B N V L ⟨d, .typeAssert x 26 85 true, ty, pos, af, gd⟩ F (.tuple #[.int .i64 e, .bool true]) := q_of fun a w ha _ => by
  simp [execOp, ha.ev hx, run_assert]
end
attribute [local irreducible] AtQ GoC GoL GoW QO QP Fn RV OwnAt CellsFrom VLe SrcIs
set_option maxRecDepth 100000
theorem same_c (V : View) (e f : Int) (he : 0 ≤ e ∧ e ≤ 1000) : Fn Try.prog 17 [errV e, .int .i64 f] V fun v _ => v = .bool (decide (e = f)) := by
  by_cases h0 : e = 0
  · subst h0
    (refine fn_enter Try.func17 rfl Try.ntmps17 rfl ?_; intro w0)
    repeat' (first | (refine k_gw ?_; (first | (refine k_assign ?_; (first | refine gw_q rfl (q_assign rfl) ?_)) | (refine k_move ?_; (first | refine gw_q rfl (q_move rfl) ?_)) | (refine k_binOp ?_; (first | refine gw_q rfl (q_eeql rfl) ?_ | refine gw_q rfl (q_eql rfl rfl) ?_ | refine gw_q rfl (q_gtr rfl rfl) ?_)) | (refine k_extract ?_; (first | refine gw_q rfl (q_extract rfl rfl) ?_)) | (refine k_pick ?_; (first | refine gw_q rfl (q_pick_t rfl rfl) ?_ | refine gw_q rfl (q_pick_f rfl rfl) ?_)))) | (refine k_gl ?_; (first | refine gl_nil rfl ?_ | refine gl_go rfl rfl ?_ | refine gl_yes rfl rfl rfl rfl rfl ?_ | refine gl_no rfl rfl rfl rfl rfl rfl rfl ?_ | refine gl_nou rfl rfl rfl rfl rfl rfl ?_ | (refine gl_split_p rfl rfl rfl ?_ ?_ <;> intro hq <;> try (exfalso; first | exact hq rfl | omega)) | (refine gl_split_b rfl rfl rfl ?_ ?_ <;> intro hq))) | (refine k_gc ?_; (first | refine gc_seq ?_ | refine gc_region ?_ | refine gc_cond_t rfl ?_ | refine gc_cond_f rfl ?_ | (refine gc_cond_p rfl ?_ ?_ <;> intro hq <;> try (exfalso; first | exact hq rfl | omega)) | (refine gc_cond_b rfl ?_ ?_ <;> intro hq) | refine gc_block ?_ | refine gc_exit ?_ | refine gc_ret ?_ | refine gc_skip ?_)) | (refine k_at ?_; (first | refine at_seq ?_ | refine at_then_ret ?_ | refine at_then_exit ?_ | refine at_thn_ret ?_ | refine at_thn_exit ?_ | refine at_block_normal ?_ | refine at_block_ret ?_ | refine at_block_hit ?_ | refine at_block_miss rfl ?_)))
    all_goals (refine at_ret1 Try.results17 (rv_tmp rfl) ?_)
    all_goals simp_all [eq_comm]
  · rw [errV_pos h0]
    have hnn := run_eql_err e
    rw [errV_pos h0] at hnn
    have hng := fun x => guard_eql_err x e
    rw [errV_pos h0] at hng
    (refine fn_enter Try.func17 rfl Try.ntmps17 rfl ?_; intro w0)
    repeat' (first | (refine k_gw ?_; (first | (refine k_assign ?_; (first | refine gw_q rfl (q_assign rfl) ?_)) | (refine k_move ?_; (first | refine gw_q rfl (q_move rfl) ?_)) | (refine k_binOp ?_; (first | refine gw_q rfl (q_eeql rfl) ?_ | refine gw_q rfl (q_eql rfl rfl) ?_ | refine gw_q rfl (q_gtr rfl rfl) ?_)) | (refine k_extract ?_; (first | refine gw_q rfl (q_extract rfl rfl) ?_)) | (refine k_pick ?_; (first | refine gw_q rfl (q_pick_t rfl rfl) ?_ | refine gw_q rfl (q_pick_f rfl rfl) ?_)) | refine gw_q rfl (q_assert rfl) ?_ | refine gw_q rfl (q_bin (y := .const .nilIface) rfl rfl (hng _) hnn) ?_)) | (refine k_gl ?_; (first | refine gl_nil rfl ?_ | refine gl_go rfl rfl ?_ | refine gl_yes rfl rfl rfl rfl rfl ?_ | refine gl_no rfl rfl rfl rfl rfl rfl rfl ?_ | (refine gl_split_p rfl rfl rfl ?_ ?_ <;> intro hq <;> try (exfalso; first | exact hq rfl | omega)))) | (refine k_gc ?_; (first | refine gc_seq ?_ | refine gc_region ?_ | (refine gc_cond_p rfl ?_ ?_ <;> intro hq <;> try (exfalso; first | exact hq rfl | omega)) | refine gc_ret ?_ | refine gc_skip ?_)) | (refine k_at ?_; (first | refine at_seq ?_ | refine at_then_ret ?_ | refine at_then_exit ?_ | refine at_thn_ret ?_ | refine at_thn_exit ?_ | refine at_block_normal ?_ | refine at_block_ret ?_ | refine at_block_hit ?_ | refine at_block_miss rfl ?_)))
    all_goals first | (exfalso; omega) | skip
    all_goals (refine at_ret1 Try.results17 (rv_tmp rfl) ?_)
    all_goals (simp [*]; try omega)
end Go.Proofs.Ytejkmomfpidnbab

/- The walks of package disk and of its reference, by the engine: what only reads. -/
namespace Go.Proofs.Ytejkmomfpidnbab
open Go.RowKit
set_option linter.unusedSimpArgs false
set_option linter.unusedVariables false
set_option maxRecDepth 100000
theorem ba_len' (s : ByteArray) : s.toList.length = s.size := by rw [Lib.toList_data]; rfl
theorem mk_u8 : MakeIs Try.prog 5 1 1 (.int .u8 0) := ⟨info_parts (by kernel_rfl)⟩
theorem ptr_disk : PtrIs Try.prog 67 := ⟨by kernel_rfl⟩
/-- A disk's boxes. -/
def DiskB (p : Nat) (s : DS) (Bs : List Box) : Prop := ∃ A c L1, Bs = ⟨p, 131, [.slice A s.bs.length c, .int .i64 s.cut, .bool s.off, .int .i64 s.wr]⟩ :: L1 ∧ RowL A s.bs.length c 5 1 (s.bs.flatMap u8F) L1
attribute [local irreducible] AtQ GoC GoL GoW QO QP Fn RV OwnAt CellsFrom VLe SrcIs errV
set_option maxRecDepth 100000
theorem within_c (V : View) (p : Nat) (s : DS) (Bs : List Box) (h : DiskB p s Bs) (hm : s.bs.length ≤ 1000000) (a n : Int) (g1 : -9223372036854775808 ≤ a ∧ a ≤ 9223372036854775807) :
    FnB Try.prog 142 [.pointer (some ⟨p, 0, none⟩), .int .i64 a, .int .i64 n] V Bs fun u _ Bs' => u = .bool (decide (0 ≤ a ∧ 0 ≤ n ∧ a ≤ s.bs.length ∧ n ≤ s.bs.length - a)) ∧ Bs' = Bs := by
  obtain ⟨A, c, L1, rfl, hr⟩ := h
  (refine fn_enterB Try.func142 rfl Try.ntmps142 rfl ?_; intro w0)
  repeat' (first | (refine k_gw ?_; (first | (refine k_assign ?_; (first | refine gw_q rfl (q_assign rfl) ?_)) | (refine k_move ?_; (first | refine gw_q rfl (q_move rfl) ?_)) | (refine k_binOp ?_; (first | refine gw_q rfl (q_geq rfl rfl) ?_ | refine gw_q rfl (q_leq rfl rfl) ?_ | refine gw_q rfl (q_sub rfl rfl (by omega)) ?_ | refine gw_q rfl (q_subw rfl rfl) ?_)) | (refine k_pick ?_; (first | refine gw_q rfl (q_pick_t rfl rfl) ?_ | refine gw_q rfl (q_pick_f rfl rfl) ?_)) | (refine k_nilCheck ?_; (first | refine gw_q rfl (q_nilCheck_p rfl) ?_ | refine gw_q rfl (q_nilCheck_f rfl) ?_)) | (refine k_fieldAddr ?_; (first | refine gw_q rfl (q_fieldAddr fld_131_0 rfl) ?_)) | (refine k_load ?_; (first | refine gw_q rfl (q_load_o one_93 rfl own9 (by exact rfl)) ?_ | refine gw_q rfl (q_load_o one_93 rfl own9 (by assumption)) ?_ | refine gw_q rfl (q_load_v one_93 rfl (by assumption)) ?_)) | (refine k_call ?_; (first | refine gw_q rfl (q_len rfl und_93 rfl) ?_)))) | (refine k_gl ?_; (first | refine gl_nil rfl ?_ | refine gl_go rfl rfl ?_ | refine gl_yes rfl rfl rfl rfl rfl ?_ | refine gl_no rfl rfl rfl rfl rfl rfl rfl ?_ | (refine gl_split_p rfl rfl rfl ?_ ?_ <;> intro hq <;> try (exfalso; first | exact hq rfl | omega)))) | (refine k_gc ?_; (first | refine gc_seq ?_ | refine gc_region ?_ | refine gc_ret ?_)) | (refine k_at ?_; (first | refine at_seq ?_ | refine at_then_ret ?_ | refine at_then_exit ?_ | refine at_thn_ret ?_ | refine at_thn_exit ?_ | refine at_block_normal ?_ | refine at_block_ret ?_ | refine at_block_hit ?_ | refine at_block_miss rfl ?_)))
  all_goals
    (refine atB_ret1 Try.results142 (rv_tmp rfl) (List.Sublist.refl _) ?_)
    exact ⟨by first | rfl | (refine congrArg Value.bool ?_; first | exact (decide_eq_true (by omega)).symm | exact (decide_eq_false (by omega)).symm | exact decide_eq_decide.2 (by omega)), rfl⟩
theorem Power_c (V : View) (p : Nat) (s : DS) (Bs : List Box) (h : DiskB p s Bs) (hm : s.bs.length ≤ 1000000) :
    FnB Try.prog 118 [.pointer (some ⟨p, 0, none⟩)] V Bs fun u _ Bs' => u = .bool (!s.off) ∧ Bs' = Bs := by
  have h0 := h
  obtain ⟨A, c, L1, rfl, hr⟩ := h
  (refine fn_enterB Try.func118 rfl Try.ntmps118 rfl ?_; intro w0)
  repeat' (first | (refine k_gw ?_; (first | (refine k_assign ?_; (first | refine gw_q rfl (q_assign rfl) ?_)) | (refine k_move ?_; (first | refine gw_q rfl (q_move rfl) ?_)) | (refine k_nilCheck ?_; (first | refine gw_q rfl (q_nilCheck_p rfl) ?_ | refine gw_q rfl (q_nilCheck_f rfl) ?_)) | (refine k_fieldAddr ?_; (first | refine gw_q rfl (q_fieldAddr fld_131_2 rfl) ?_)) | (refine k_load ?_; (first | refine gw_q rfl (q_load_o one_4 rfl own9 (by exact rfl)) ?_ | refine gw_q rfl (q_load_o one_4 rfl own9 (by assumption)) ?_ | refine gw_q rfl (q_load_v one_4 rfl (by assumption)) ?_)) | (refine k_unOp ?_; (first | refine gw_q rfl (q_not_t rfl) ?_ | refine gw_q rfl (q_not_f rfl) ?_ | refine gw_q rfl (q_not_p rfl) ?_ | refine gw_q rfl (q_not_b rfl) ?_)))) | (refine k_gl ?_; (first | refine gl_nil rfl ?_ | refine gl_go rfl rfl ?_)) | (refine k_gc ?_; (first | refine gc_seq ?_ | refine gc_region ?_ | refine gc_ret ?_)) | (refine k_at ?_; (first | refine at_seq ?_ | refine at_then_ret ?_ | refine at_then_exit ?_ | refine at_thn_ret ?_ | refine at_thn_exit ?_ | refine at_block_normal ?_ | refine at_block_ret ?_ | refine at_block_hit ?_ | refine at_block_miss rfl ?_)))
  all_goals
    (refine atB_ret1 Try.results118 (rv_tmp rfl) (List.Sublist.refl _) ?_)
    exact ⟨rfl, rfl⟩
theorem Written_c (V : View) (p : Nat) (s : DS) (Bs : List Box) (h : DiskB p s Bs) (hm : s.bs.length ≤ 1000000) :
    FnB Try.prog 40 [.pointer (some ⟨p, 0, none⟩)] V Bs fun u _ Bs' => u = .int .i64 s.wr ∧ Bs' = Bs := by
  have h0 := h
  obtain ⟨A, c, L1, rfl, hr⟩ := h
  (refine fn_enterB Try.func40 rfl Try.ntmps40 rfl ?_; intro w0)
  repeat' (first | (refine k_gw ?_; (first | (refine k_assign ?_; (first | refine gw_q rfl (q_assign rfl) ?_)) | (refine k_move ?_; (first | refine gw_q rfl (q_move rfl) ?_)) | (refine k_nilCheck ?_; (first | refine gw_q rfl (q_nilCheck_p rfl) ?_ | refine gw_q rfl (q_nilCheck_f rfl) ?_)) | (refine k_fieldAddr ?_; (first | refine gw_q rfl (q_fieldAddr fld_131_3 rfl) ?_)) | (refine k_load ?_; (first | refine gw_q rfl (q_load_o one_3 rfl own9 (by exact rfl)) ?_ | refine gw_q rfl (q_load_o one_3 rfl own9 (by assumption)) ?_ | refine gw_q rfl (q_load_v one_3 rfl (by assumption)) ?_)))) | (refine k_gl ?_; (first | refine gl_nil rfl ?_ | refine gl_go rfl rfl ?_)) | (refine k_gc ?_; (first | refine gc_seq ?_ | refine gc_region ?_ | refine gc_ret ?_)) | (refine k_at ?_; (first | refine at_seq ?_ | refine at_then_ret ?_ | refine at_then_exit ?_ | refine at_thn_ret ?_ | refine at_thn_exit ?_ | refine at_block_normal ?_ | refine at_block_ret ?_ | refine at_block_hit ?_ | refine at_block_miss rfl ?_)))
  all_goals
    (refine atB_ret1 Try.results40 (rv_tmp rfl) (List.Sublist.refl _) ?_)
    exact ⟨rfl, rfl⟩
theorem Blocks_c (V : View) (p : Nat) (s : DS) (Bs : List Box) (h : DiskB p s Bs) (hm : s.bs.length ≤ 1000000) :
    FnB Try.prog 119 [.pointer (some ⟨p, 0, none⟩)] V Bs fun u _ Bs' => u = .int .i64 (s.bs.length / 64) ∧ Bs' = Bs := by
  have h0 := h
  obtain ⟨A, c, L1, rfl, hr⟩ := h
  (refine fn_enterB Try.func119 rfl Try.ntmps119 rfl ?_; intro w0)
  repeat' (first | (refine k_gw ?_; (first | (refine k_assign ?_; (first | refine gw_q rfl (q_assign rfl) ?_)) | (refine k_move ?_; (first | refine gw_q rfl (q_move rfl) ?_)) | (refine k_nilCheck ?_; (first | refine gw_q rfl (q_nilCheck_p rfl) ?_ | refine gw_q rfl (q_nilCheck_f rfl) ?_)) | (refine k_fieldAddr ?_; (first | refine gw_q rfl (q_fieldAddr fld_131_0 rfl) ?_)) | (refine k_load ?_; (first | refine gw_q rfl (q_load_o one_93 rfl own9 (by exact rfl)) ?_ | refine gw_q rfl (q_load_o one_93 rfl own9 (by assumption)) ?_ | refine gw_q rfl (q_load_v one_93 rfl (by assumption)) ?_)) | (refine k_call ?_; (first | refine gw_q rfl (q_len rfl und_93 rfl) ?_)) | (refine k_binOp ?_; (first | refine gw_q rfl (q_quo rfl rfl (by omega)) ?_)))) | (refine k_gl ?_; (first | refine gl_nil rfl ?_ | refine gl_go rfl rfl ?_)) | (refine k_gc ?_; (first | refine gc_seq ?_ | refine gc_region ?_ | refine gc_ret ?_)) | (refine k_at ?_; (first | refine at_seq ?_ | refine at_then_ret ?_ | refine at_then_exit ?_ | refine at_thn_ret ?_ | refine at_thn_exit ?_ | refine at_block_normal ?_ | refine at_block_ret ?_ | refine at_block_hit ?_ | refine at_block_miss rfl ?_)))
  all_goals
    (refine atB_ret1 Try.results119 (rv_tmp rfl) (List.Sublist.refl _) ?_)
    exact ⟨rfl, rfl⟩
theorem Read_c (V : View) (p : Nat) (s : DS) (Bs : List Box) (h : DiskB p s Bs) (hm : s.bs.length ≤ 1000000) (a n : Int) (g1 : -9223372036854775808 ≤ a ∧ a ≤ 9223372036854775807) :
    FnB Try.prog 124 [.pointer (some ⟨p, 0, none⟩), .int .i64 a, .int .i64 n] V Bs fun u _ Bs' => u = .tuple #[.string (if dFault s a n = 0 then ⟨(dRead s a n).toArray⟩ else ⟨#[]⟩), errV (dFault s a n)] ∧ Bs' = Bs := by
  have hw := within_c V p s Bs h hm a n g1
  obtain ⟨A, c, L1, rfl, hr⟩ := h
  have hcap := hr.cap
  cases ho : s.off with
  | true =>
    have e := dFault_off (a := a) (n := n) ho
    (refine fn_enterB Try.func124 rfl Try.ntmps124 rfl ?_; intro w0)
    repeat' (first | (refine k_gw ?_; (first | (refine k_assign ?_; (first | refine gw_q rfl (q_assign rfl) ?_)) | (refine k_move ?_; (first | refine gw_q rfl (q_move rfl) ?_)) | (refine k_nilCheck ?_; (first | refine gw_q rfl (q_nilCheck_p rfl) ?_ | refine gw_q rfl (q_nilCheck_f rfl) ?_)) | (refine k_fieldAddr ?_; (first | refine gw_q rfl (q_fieldAddr fld_131_2 rfl) ?_ | refine gw_q rfl (q_fieldAddr fld_131_0 rfl) ?_)) | (refine k_load ?_; (first | refine gw_q rfl (q_load_o one_4 rfl own9 (by exact rfl)) ?_)) | (refine k_makeInterface ?_; (first | refine gw_q rfl (q_mkiface und_85 rfl rfl) ?_)))) | (refine k_gl ?_; (first | refine gl_nil rfl ?_ | refine gl_go rfl rfl ?_)) | (refine k_gc ?_; (first | refine gc_seq ?_ | refine gc_region ?_ | refine gc_cond_t rfl ?_ | refine gc_ret ?_)) | (refine k_at ?_; (first | refine at_seq ?_ | refine at_then_ret ?_ | refine at_then_exit ?_ | refine at_thn_ret ?_ | refine at_thn_exit ?_ | refine at_block_normal ?_ | refine at_block_ret ?_ | refine at_block_hit ?_ | refine at_block_miss rfl ?_)))
    all_goals
      (refine atB_ret2 Try.results124 (rv_tmp rfl) (rv_tmp rfl) (List.Sublist.refl _) ?_)
      exact ⟨by rw [e, if_neg (by decide), errV_pos (by decide)], rfl⟩
  | false =>
    rw [ho] at hw
    by_cases hin : 0 ≤ a ∧ 0 ≤ n ∧ a ≤ s.bs.length ∧ n ≤ s.bs.length - a
    · have e := dFault_ok ho hin
      rw [decide_eq_true hin] at hw
      have hsrc : ∀ (B : Base) (V : View) (b : Box), SrcIs B V (b :: L1) 1 (cutA A c a.toNat 1) ((a + n).toNat - a.toNat) (u8C (dRead s a n)) := fun B V b => by
        have := src_cut (B := B) (V := V) (L := b :: L1) (l := a.toNat) (m := n.toNat) hr (fun b hb => by simp [hb]) rfl (by omega)
        rw [show (a + n).toNat - a.toNat = n.toNat by omega]; exact this
      (refine fn_enterB Try.func124 rfl Try.ntmps124 rfl ?_; intro w0)
      repeat' (first | (refine k_gw ?_; (first | (refine k_assign ?_; (first | refine gw_q rfl (q_assign rfl) ?_)) | (refine k_move ?_; (first | refine gw_q rfl (q_move rfl) ?_)) | (refine k_nilCheck ?_; (first | refine gw_q rfl (q_nilCheck_p rfl) ?_ | refine gw_q rfl (q_nilCheck_f rfl) ?_)) | (refine k_fieldAddr ?_; (first | refine gw_q rfl (q_fieldAddr fld_131_2 rfl) ?_ | refine gw_q rfl (q_fieldAddr fld_131_0 rfl) ?_)) | (refine k_load ?_; (first | refine gw_q rfl (q_load_o one_4 rfl own9 (by exact rfl)) ?_ | refine gw_q rfl (q_load_o one_93 rfl own9 (by exact rfl)) ?_)) | (refine k_call ?_; (first | refine gw_q' rfl (q_callB ⟨Try.call142⟩ rfl rep9 (hw)) ?_)) | (refine k_unOp ?_; (first | refine gw_q rfl (q_not_t rfl) ?_ | refine gw_q rfl (q_not_f rfl) ?_ | refine gw_q rfl (q_not_p rfl) ?_ | refine gw_q rfl (q_not_b rfl) ?_)) | (refine k_binOp ?_; (first | refine gw_q rfl (q_add rfl rfl (by omega)) ?_ | refine gw_q rfl (q_addw rfl rfl) ?_)) | (refine k_slice ?_; (first | refine gw_q rfl (q_slice_i und_93 siz_5 rfl rfl rfl rfl (by omega) (by omega)) ?_ | refine gw_q rfl (q_slice und_93 siz_5 rfl rfl rfl (by omega) (by omega)) ?_ | refine gw_q rfl (q_slice_i und_93 siz_5 rfl rfl rfl (by omega) (by omega)) ?_)) | (refine k_convert ?_; (first | refine gw_q rfl (q_bytes und_93 und_5 und_9 rfl (hsrc _ _ _)) ?_)))) | (refine k_gl ?_; (first | refine gl_nil rfl ?_ | refine gl_go rfl rfl ?_)) | (refine k_gc ?_; (first | refine gc_seq ?_ | refine gc_region ?_ | refine gc_cond_f rfl ?_ | refine gc_ret ?_ | refine gc_skip ?_)) | (refine k_at ?_; (first | refine at_seq ?_ | refine at_then_ret ?_ | refine at_then_exit ?_ | refine at_thn_ret ?_ | refine at_thn_exit ?_ | refine at_block_normal ?_ | refine at_block_ret ?_ | refine at_block_hit ?_ | refine at_block_miss rfl ?_)))
      all_goals
        (refine atB_ret2 Try.results124 (rv_tmp rfl) (rv_tmp rfl) (List.Sublist.refl _) ?_)
        exact ⟨by rw [e, if_pos rfl, errV_zero], rfl⟩
    · have e := dFault_bad ho hin
      rw [decide_eq_false hin] at hw
      (refine fn_enterB Try.func124 rfl Try.ntmps124 rfl ?_; intro w0)
      repeat' (first | (refine k_gw ?_; (first | (refine k_assign ?_; (first | refine gw_q rfl (q_assign rfl) ?_)) | (refine k_move ?_; (first | refine gw_q rfl (q_move rfl) ?_)) | (refine k_nilCheck ?_; (first | refine gw_q rfl (q_nilCheck_p rfl) ?_ | refine gw_q rfl (q_nilCheck_f rfl) ?_)) | (refine k_fieldAddr ?_; (first | refine gw_q rfl (q_fieldAddr fld_131_2 rfl) ?_ | refine gw_q rfl (q_fieldAddr fld_131_0 rfl) ?_)) | (refine k_load ?_; (first | refine gw_q rfl (q_load_o one_4 rfl own9 (by exact rfl)) ?_)) | (refine k_makeInterface ?_; (first | refine gw_q rfl (q_mkiface und_85 rfl rfl) ?_)) | (refine k_call ?_; (first | refine gw_q' rfl (q_callB ⟨Try.call142⟩ rfl rep9 (hw)) ?_)) | (refine k_unOp ?_; (first | refine gw_q rfl (q_not_t rfl) ?_ | refine gw_q rfl (q_not_f rfl) ?_ | refine gw_q rfl (q_not_p rfl) ?_ | refine gw_q rfl (q_not_b rfl) ?_)))) | (refine k_gl ?_; (first | refine gl_nil rfl ?_ | refine gl_go rfl rfl ?_)) | (refine k_gc ?_; (first | refine gc_seq ?_ | refine gc_region ?_ | refine gc_cond_t rfl ?_ | refine gc_cond_f rfl ?_ | refine gc_ret ?_ | refine gc_skip ?_)) | (refine k_at ?_; (first | refine at_seq ?_ | refine at_then_ret ?_ | refine at_then_exit ?_ | refine at_thn_ret ?_ | refine at_thn_exit ?_ | refine at_block_normal ?_ | refine at_block_ret ?_ | refine at_block_hit ?_ | refine at_block_miss rfl ?_)))
      all_goals
        (refine atB_ret2 Try.results124 (rv_tmp rfl) (rv_tmp rfl) (List.Sublist.refl _) ?_)
        exact ⟨by rw [e, if_neg (by decide), errV_pos (by decide)], rfl⟩
end Go.Proofs.Ytejkmomfpidnbab

/- What package perm and its reference reckon, as plain functions; and that they agree. No program is named here. -/
namespace Go.Proofs.Ytejkmomfpidnbab
open Go.RowKit
set_option linter.unusedSimpArgs false
set_option linter.unusedVariables false

/-! ### Small numbers, bit by bit: all of them are asked. -/
end Go.Proofs.Ytejkmomfpidnbab

/- Package cred in plain terms. No program is named here. -/
namespace Go.Proofs.Ytejkmomfpidnbab
open Go.RowKit
set_option linter.unusedSimpArgs false
set_option linter.unusedVariables false

def gF (prev : Option Int) : List Int → Int
  | [] => 0
  | x :: l => if ¬ (0 ≤ x ∧ x ≤ 65535) then 1 else if (∃ y, prev = some y ∧ x ≤ y) then 3 else gF (some x) l
def credF (u g d : Int) (xs : List Int) : Int :=
  if ¬ (0 ≤ u ∧ u ≤ 65535) ∨ ¬ (0 ≤ g ∧ g ≤ 65535) ∨ d < 0 ∨ 15 < d then 1 else if 4 < xs.length then 2 else gF none xs
def prevQ (xs : List Int) (k : Nat) : Option Int := if k = 0 then none else xs[k - 1]?
theorem gF_bad {p : Option Int} {x : Int} {l : List Int} (h : ¬ (0 ≤ x ∧ x ≤ 65535)) : gF p (x :: l) = 1 := by rw [gF, if_pos h]
theorem gF_down {y x : Int} {l : List Int} (h : 0 ≤ x ∧ x ≤ 65535) (h2 : x ≤ y) : gF (some y) (x :: l) = 3 := by rw [gF, if_neg (by omega), if_pos ⟨y, rfl, h2⟩]
theorem gF_on {y x : Int} {l : List Int} (h : 0 ≤ x ∧ x ≤ 65535) (h2 : ¬ x ≤ y) : gF (some y) (x :: l) = gF (some x) l := by
  rw [gF, if_neg (by omega), if_neg (by rintro ⟨z, hz, hl⟩; injection hz with hz; omega)]
theorem gF_first {x : Int} {l : List Int} (h : 0 ≤ x ∧ x ≤ 65535) : gF none (x :: l) = gF (some x) l := by
  rw [gF, if_neg (by omega), if_neg (by rintro ⟨z, hz, hl⟩; cases hz)]
theorem prevQ_pos {xs : List Int} {k : Nat} (h : ¬ k = 0) : prevQ xs k = xs[k - 1]? := if_neg h
theorem prevQ_succ {xs : List Int} {k : Nat} : prevQ xs (k + 1) = xs[k]? := by rw [prevQ, if_neg (by omega)]; rfl
theorem drop_at' {α : Type} {xs : List α} {k : Nat} {x : α} (h : xs[k]? = some x) : xs.drop k = x :: xs.drop (k + 1) := drop_at h
theorem gF_ids : ∀ (l : List Int) (p : Option Int), gF p l = 0 → ∀ x ∈ l, 0 ≤ x ∧ x ≤ 65535
  | [], _, _, x, h => by cases h
  | y :: l, p, h, x, hx => by
    rw [gF] at h
    split at h
    · omega
    · split at h
      · omega
      · rcases List.mem_cons.1 hx with rfl | hx
        · omega
        · exact gF_ids l _ h x hx
theorem credF_zero {u g d : Int} {xs : List Int} (h : credF u g d xs = 0) : (0 ≤ u ∧ u ≤ 65535) ∧ (0 ≤ g ∧ g ≤ 65535) ∧ (0 ≤ d ∧ d ≤ 15) ∧ xs.length ≤ 4 ∧ gF none xs = 0 := by
  unfold credF at h
  split at h
  · omega
  · split at h
    · omega
    · refine ⟨?_, ?_, ?_, ?_, h⟩ <;> omega
/-! ### Bits of a capability, of a mode -/
end Go.Proofs.Ytejkmomfpidnbab

/- The walks of package cred and of its reference, by the engine. -/
namespace Go.Proofs.Ytejkmomfpidnbab
open Go.RowKit
set_option linter.unusedSimpArgs false
set_option linter.unusedVariables false
attribute [local irreducible] AtQ GoC GoL GoW QO QP Fn RV OwnAt CellsFrom VLe SrcIs
set_option maxRecDepth 100000
/-- A cred's value. -/
abbrev credV (u g : Int) (A : Option Addr) (n c : Nat) (d : Int) : Value := .agg #[.int .i64 u, .int .i64 g, .slice A n c, .int .i64 d]

theorem id_c (V : View) (x : Int) : Fn Try.prog 48 [.int .i64 x] V fun v _ => v = .bool (decide (0 ≤ x ∧ x ≤ 65535)) := by
  (refine fn_enter Try.func48 rfl Try.ntmps48 rfl ?_; intro w0)
  repeat' (first | (refine k_gw ?_; (first | (refine k_assign ?_; (first | refine gw_q rfl (q_assign rfl) ?_)) | (refine k_move ?_; (first | refine gw_q rfl (q_move rfl) ?_)) | (refine k_binOp ?_; (first | refine gw_q rfl (q_geq rfl rfl) ?_ | refine gw_q rfl (q_leq rfl rfl) ?_)) | (refine k_pick ?_; (first | refine gw_q rfl (q_pick_t rfl rfl) ?_ | refine gw_q rfl (q_pick_f rfl rfl) ?_)))) | (refine k_gl ?_; (first | refine gl_nil rfl ?_ | refine gl_go rfl rfl ?_ | refine gl_yes rfl rfl rfl rfl rfl ?_ | refine gl_no rfl rfl rfl rfl rfl rfl rfl ?_ | refine gl_nou rfl rfl rfl rfl rfl rfl ?_ | (refine gl_split_p rfl rfl rfl ?_ ?_ <;> intro hq <;> try (exfalso; first | exact hq rfl | omega)) | (refine gl_split_b rfl rfl rfl ?_ ?_ <;> intro hq))) | (refine k_gc ?_; (first | refine gc_seq ?_ | refine gc_region ?_ | refine gc_cond_t rfl ?_ | refine gc_cond_f rfl ?_ | (refine gc_cond_p rfl ?_ ?_ <;> intro hq <;> try (exfalso; first | exact hq rfl | omega)) | (refine gc_cond_b rfl ?_ ?_ <;> intro hq) | refine gc_block ?_ | refine gc_exit ?_ | refine gc_ret ?_ | refine gc_skip ?_)) | (refine k_at ?_; (first | refine at_seq ?_ | refine at_then_ret ?_ | refine at_then_exit ?_ | refine at_thn_ret ?_ | refine at_thn_exit ?_ | refine at_block_normal ?_ | refine at_block_ret ?_ | refine at_block_hit ?_ | refine at_block_miss rfl ?_)))
  all_goals (refine at_ret1 Try.results48 (rv_tmp rfl) ?_)
  all_goals (simp; try omega)
end Go.Proofs.Ytejkmomfpidnbab

/- The walks of package cred and of its reference, by the engine: what is wrong with a cred; modes. -/
namespace Go.Proofs.Ytejkmomfpidnbab
open Go.RowKit
set_option linter.unusedSimpArgs false
set_option linter.unusedVariables false
attribute [local irreducible] AtQ GoC GoL GoW QO QP Fn RV OwnAt CellsFrom VLe SrcIs
set_option maxRecDepth 100000
theorem IntsV.prev {V : View} {b off n k : Nat} {xs : List Int} (h : IntsV V (some ⟨b, off, none⟩) n xs) (hk : k < n) (h0 : ¬ k = 0) : ∃ z, xs[k - 1]? = some z ∧ V ⟨b, off + ((k : Int) - 1).toNat * 1, none⟩ = some (.int .i64 z) := by
  obtain ⟨b', off', z, he, hz, hc⟩ := h.at_ (k := k - 1) (by omega)
  cases he
  exact ⟨z, hz, by rw [show ((k : Int) - 1).toNat = k - 1 by omega]; exact hc⟩
theorem Check_c (V : View) (a b d : Int) (A : Option Addr) (n c : Nat) (xs : List Int) (h : IntsV V A n xs) :
    Fn Try.prog 8 [credV a b A n c d] V fun v _ => v = errV (credF a b d xs) := by
  have hm := h.max
  have hl := h.1
  (refine fn_enter Try.func8 rfl Try.ntmps8 rfl ?_; intro w0)
  repeat' (first | (refine k_gw ?_; (first | (refine k_box ?_; (first | (refine gw_box rfl rfl rfl rfl ?_; intro γ))) | (refine k_assign ?_; (first | refine gw_q rfl (q_assign rfl) ?_)) | (refine k_fieldAddr ?_; (first | refine gw_q rfl (q_fieldAddr fld_24_0 rfl) ?_ | refine gw_q rfl (q_fieldAddr fld_24_1 rfl) ?_ | refine gw_q rfl (q_fieldAddr fld_24_3 rfl) ?_ | refine gw_q rfl (q_fieldAddr fld_24_2 rfl) ?_)) | (refine k_load ?_; (first | refine gw_q rfl (q_load_o one_3 rfl own9 (by exact rfl)) ?_ | refine gw_q rfl (q_load_o one_22 rfl own9 (by exact rfl)) ?_)) | (refine k_call ?_; (first | refine gw_q rfl (q_len rfl und_22 rfl) ?_ | refine gw_q' rfl (q_call ⟨Try.call48⟩ rfl (id_c _ _)) ?_)) | (refine k_unOp ?_; (first | refine gw_q rfl (q_not_t rfl) ?_ | refine gw_q rfl (q_not_f rfl) ?_ | refine gw_q rfl (q_not_p rfl) ?_ | refine gw_q rfl (q_not_b rfl) ?_)) | (refine k_move ?_; (first | refine gw_q rfl (q_move rfl) ?_)) | (refine k_pick ?_; (first | refine gw_q rfl (q_pick_t rfl rfl) ?_ | refine gw_q rfl (q_pick_f rfl rfl) ?_)) | (refine k_binOp ?_; (first | refine gw_q rfl (q_lss rfl rfl) ?_ | refine gw_q rfl (q_gtr rfl rfl) ?_)) | (refine k_makeInterface ?_; (first | refine gw_q rfl (q_mkiface und_85 rfl rfl) ?_)))) | (refine k_gl ?_; (first | refine gl_nil rfl ?_ | refine gl_go rfl rfl ?_ | refine gl_yes rfl rfl rfl rfl rfl ?_ | refine gl_no rfl rfl rfl rfl rfl rfl rfl ?_ | (refine gl_split_p rfl rfl rfl ?_ ?_ <;> intro hq <;> try (exfalso; first | exact hq rfl | omega)))) | (refine k_gc ?_; (first | refine gc_seq ?_ | refine gc_region ?_ | refine gc_cond_t rfl ?_ | (refine gc_cond_p rfl ?_ ?_ <;> intro hq <;> try (exfalso; first | exact hq rfl | omega)) | refine gc_block ?_ | refine gc_ret ?_ | refine gc_skip ?_)) | (refine k_at ?_; (first | refine at_seq ?_ | refine at_then_ret ?_ | refine at_then_exit ?_ | refine at_thn_ret ?_ | refine at_thn_exit ?_ | refine at_block_normal ?_ | refine at_block_ret ?_ | refine at_block_hit ?_ | refine at_block_miss rfl ?_)))
  all_goals try ((refine at_ret1 Try.results8 (rv_tmp rfl) ?_); refine errV_is 1 (by unfold credF; rw [if_pos (by omega)]))
  all_goals try ((refine at_ret1 Try.results8 (rv_tmp rfl) ?_); refine errV_is 2 (by unfold credF; rw [if_neg (by omega), if_pos (by omega)]))
  have hr : credF a b d xs = gF none xs := by unfold credF; rw [if_neg (by omega), if_neg (by omega)]
  rw [hr]
  refine gc_loop (fun F V' L' m => ∃ k : Nat, k ≤ n ∧ m = n - k ∧ V' = V ∧ L' = [⟨γ, _, [.int .i64 a, .int .i64 b, .slice A n c, .int .i64 d]⟩] ∧ gF none xs = gF (prevQ xs k) (xs.drop k) ∧ F = [(1, .pointer (some ⟨γ, 0, none⟩)), (32, .slice A n c), (33, .int .i64 n), (34, .int .i64 k)]) (m := n) ⟨0, Nat.zero_le _, by omega, rfl, rfl, rfl, rfl⟩ sub9 rfl sl9 ?_
  rintro F V' L' m ⟨k, hk, rfl, rfl, rfl, hg, rfl⟩
  by_cases hlt : k < n
  · obtain ⟨bb, off, z, rfl, hz, hcell⟩ := h.at_ hlt
    rw [hg, drop_at' hz]
    by_cases h0 : k = 0
    · subst h0
      repeat' (first | (refine k_gw ?_; (first | (refine k_assign ?_; (first | refine gw_q rfl (q_assign rfl) ?_)) | (refine k_load ?_; (first | refine gw_q rfl (q_load_v one_3 rfl (by assumption)) ?_)) | (refine k_call ?_; (first | refine gw_q rfl (q_len rfl und_22 rfl) ?_ | refine gw_q' rfl (q_call ⟨Try.call48⟩ rfl (id_c _ _)) ?_)) | (refine k_unOp ?_; (first | refine gw_q rfl (q_not_t rfl) ?_ | refine gw_q rfl (q_not_f rfl) ?_ | refine gw_q rfl (q_not_p rfl) ?_ | refine gw_q rfl (q_not_b rfl) ?_)) | (refine k_move ?_; (first | refine gw_q rfl (q_move rfl) ?_)) | (refine k_pick ?_; (first | refine gw_q rfl (q_pick_t rfl rfl) ?_ | refine gw_q rfl (q_pick_f rfl rfl) ?_)) | (refine k_binOp ?_; (first | refine gw_q rfl (q_lss rfl rfl) ?_ | refine gw_q rfl (q_gtr rfl rfl) ?_ | refine gw_q rfl (q_add rfl rfl (by omega)) ?_)) | (refine k_makeInterface ?_; (first | refine gw_q rfl (q_mkiface und_85 rfl rfl) ?_)) | (refine k_indexAddr ?_; (first | refine gw_q rfl (q_indexAddr und_22 siz_3 rfl rfl (by omega)) ?_)))) | (refine k_gl ?_; (first | refine gl_nil rfl ?_ | refine gl_go rfl rfl ?_ | refine gl_no rfl rfl rfl rfl rfl rfl rfl ?_)) | (refine k_gc ?_; (first | refine gc_seq ?_ | refine gc_region ?_ | refine gc_cond_f rfl ?_ | (refine gc_cond_p rfl ?_ ?_ <;> intro hq <;> try (exfalso; first | exact hq rfl | omega)) | refine gc_block ?_ | refine gc_ret ?_ | refine gc_skip ?_)) | (refine k_at ?_; (first | refine at_seq ?_ | refine at_then_ret ?_ | refine at_then_exit ?_ | refine at_thn_ret ?_ | refine at_thn_exit ?_ | refine at_block_normal ?_ | refine at_block_ret ?_ | refine at_block_hit ?_ | refine at_block_miss rfl ?_)))
      · (refine at_ret1 Try.results8 (rv_tmp rfl) ?_)
        exact errV_is 1 (gF_bad hq)
      · refine at_round _ (n - (0 + 1)) ⟨0 + 1, by omega, rfl, rfl, rfl, ?_, rfl⟩ (by omega) sub9 sl9
        rw [show prevQ xs 0 = none from rfl, gF_first (by omega), prevQ_succ, hz]
    · obtain ⟨y, hy, hcy⟩ := h.prev hlt h0
      rw [prevQ_pos h0, hy]
      repeat' (first | (refine k_gw ?_; (first | (refine k_assign ?_; (first | refine gw_q rfl (q_assign rfl) ?_)) | (refine k_fieldAddr ?_; (first | refine gw_q rfl (q_fieldAddr fld_24_0 rfl) ?_ | refine gw_q rfl (q_fieldAddr fld_24_1 rfl) ?_ | refine gw_q rfl (q_fieldAddr fld_24_3 rfl) ?_ | refine gw_q rfl (q_fieldAddr fld_24_2 rfl) ?_)) | (refine k_load ?_; (first | refine gw_q rfl (q_load_v one_3 rfl (by assumption)) ?_ | refine gw_q rfl (q_load_o one_22 rfl own9 (by exact rfl)) ?_)) | (refine k_call ?_; (first | refine gw_q rfl (q_len rfl und_22 rfl) ?_ | refine gw_q' rfl (q_call ⟨Try.call48⟩ rfl (id_c _ _)) ?_)) | (refine k_unOp ?_; (first | refine gw_q rfl (q_not_t rfl) ?_ | refine gw_q rfl (q_not_f rfl) ?_ | refine gw_q rfl (q_not_p rfl) ?_ | refine gw_q rfl (q_not_b rfl) ?_)) | (refine k_move ?_; (first | refine gw_q rfl (q_move rfl) ?_)) | (refine k_pick ?_; (first | refine gw_q rfl (q_pick_t rfl rfl) ?_ | refine gw_q rfl (q_pick_f rfl rfl) ?_)) | (refine k_binOp ?_; (first | refine gw_q rfl (q_lss rfl rfl) ?_ | refine gw_q rfl (q_gtr rfl rfl) ?_ | refine gw_q rfl (q_sub rfl rfl (by omega)) ?_ | refine gw_q rfl (q_geq rfl rfl) ?_ | refine gw_q rfl (q_add rfl rfl (by omega)) ?_)) | (refine k_makeInterface ?_; (first | refine gw_q rfl (q_mkiface und_85 rfl rfl) ?_)) | (refine k_indexAddr ?_; (first | refine gw_q rfl (q_indexAddr und_22 siz_3 rfl rfl (by omega)) ?_ | refine gw_q rfl (q_indexAddr_i und_22 siz_3 rfl rfl (by omega)) ?_)))) | (refine k_gl ?_; (first | refine gl_nil rfl ?_ | refine gl_go rfl rfl ?_ | refine gl_yes rfl rfl rfl rfl rfl ?_ | (refine gl_split_p rfl rfl rfl ?_ ?_ <;> intro hq <;> try (exfalso; first | exact hq rfl | omega)))) | (refine k_gc ?_; (first | refine gc_seq ?_ | refine gc_region ?_ | (refine gc_cond_p rfl ?_ ?_ <;> intro hq <;> try (exfalso; first | exact hq rfl | omega)) | refine gc_block ?_ | refine gc_ret ?_ | refine gc_skip ?_)) | (refine k_at ?_; (first | refine at_seq ?_ | refine at_then_ret ?_ | refine at_then_exit ?_ | refine at_thn_ret ?_ | refine at_thn_exit ?_ | refine at_block_normal ?_ | refine at_block_ret ?_ | refine at_block_hit ?_ | refine at_block_miss rfl ?_)))
      · (refine at_ret1 Try.results8 (rv_tmp rfl) ?_)
        exact errV_is 1 (gF_bad hq)
      · (refine at_ret1 Try.results8 (rv_tmp rfl) ?_)
        exact errV_is 3 (gF_down (by omega) (by omega))
      · refine at_round _ (n - (k + 1)) ⟨k + 1, by omega, rfl, rfl, rfl, ?_, rfl⟩ (by omega) sub9 sl9
        rw [gF_on (by omega) (by omega), prevQ_succ, hz]
  · repeat' (first | (refine k_gw ?_; (first | (refine k_assign ?_; (first | refine gw_q rfl (q_assign rfl) ?_)) | (refine k_binOp ?_; (first | refine gw_q rfl (q_lss rfl rfl) ?_)))) | (refine k_gl ?_; (first | refine gl_nil rfl ?_ | refine gl_go rfl rfl ?_)) | (refine k_gc ?_; (first | refine gc_seq ?_ | refine gc_region ?_ | (refine gc_cond_p rfl ?_ ?_ <;> intro hq <;> try (exfalso; first | exact hq rfl | omega)) | refine gc_exit ?_ | refine gc_ret ?_)) | (refine k_at ?_; (first | refine at_seq ?_ | refine at_then_ret ?_ | refine at_then_exit ?_ | refine at_thn_ret ?_ | refine at_thn_exit ?_ | refine at_block_normal ?_ | refine at_block_ret ?_ | refine at_block_hit ?_ | refine at_block_miss rfl ?_)))
    (refine at_ret1 Try.results8 (rv_tmp rfl) ?_)
    rw [hg, List.drop_eq_nil_of_le (by omega)]
    exact errV_nil rfl
end Go.Proofs.Ytejkmomfpidnbab

/- The walks of package perm and of its reference, by the engine. -/
namespace Go.Proofs.Ytejkmomfpidnbab
open Go.RowKit
set_option linter.unusedSimpArgs false
set_option linter.unusedVariables false
section
variable {P : Program} {B : Base} {N : Nat} {F : List (Nat × Value)} {V : View} {L : List Box}
variable {d : Option Tmp} {ty : TypeId} {pos : String} {af : Array Edge} {gd : Option (Nat × Bool)} {x y : Operand}
end
/-- Who asks. -/
@[ext] structure CR where
  u : Int
  g : Int
  d : Int
  xs : List Int
/-- What rights are asked about. -/
@[ext] structure TH where
  dir : Bool
  mode : Int
  user : Int
  group : Int
  mapped : Bool
def thZ : TH := ⟨false, 0, 0, 0, false⟩
/-- The three bits that count. -/
def rgtT (c : CR) (t : TH) : Int := if t.mapped = true ∧ t.user = c.u then t.mode / 64 % 8 else if t.mapped = true ∧ (c.g = t.group ∨ t.group ∈ c.xs) then t.mode / 8 % 8 else t.mode % 8
def goesT (t : TH) : Prop := t.mode % 2 = 1 ∨ t.mode / 8 % 2 = 1 ∨ t.mode / 64 % 2 = 1
instance (t : TH) : Decidable (goesT t) := by unfold goesT; infer_instance
def mayT (c : CR) (t : TH) (w : Int) : Bool := decide (rgtT c t / w % 2 = 1 ∨ (t.mapped = true ∧ c.d / 2 % 2 = 1 ∧ (t.dir = true ∨ ¬ w = 1 ∨ goesT t)))
attribute [local irreducible] AtQ GoC GoL GoW QO QP Fn RV OwnAt CellsFrom VLe SrcIs
set_option maxRecDepth 100000
/-! The reference. -/
end Go.Proofs.Ytejkmomfpidnbab

/- Structs of the program compared. -/
namespace Go.Proofs.Ytejkmomfpidnbab
open Go.RowKit
end Go.Proofs.Ytejkmomfpidnbab

/- Names and classes of strings, as the walks meet them. No program is named here. -/
namespace Go.Proofs.Ytejkmomfpidnbab
open Go.RowKit
set_option linter.unusedSimpArgs false
set_option linter.unusedVariables false
theorem ba_get (s : ByteArray) (k : Nat) : s[k]? = s.toList[k]? := by
  rw [Lib.toList_data, Array.getElem?_toList]
  rcases Nat.lt_or_ge k s.size with h | h
  · rw [getElem?_pos s k h, getElem?_pos s.data k h]; rfl
  · rw [getElem?_neg s k (by omega), getElem?_neg s.data k (by have : s.data.size = s.size := rfl; omega)]
theorem ba_len (s : ByteArray) : s.toList.length = s.size := by rw [Lib.toList_data]; rfl
theorem ba_at {s : ByteArray} {k : Nat} (h : k < s.size) : ∃ c, s.toList[k]? = some c ∧ s[((k : Nat) : Int).toNat]? = some c := by
  have hk : k < s.toList.length := by rw [ba_len]; exact h
  refine ⟨_, List.getElem?_eq_getElem hk, ?_⟩
  rw [Int.toNat_natCast, ba_get, List.getElem?_eq_getElem hk]
theorem ba_eq {s : ByteArray} {a : Array UInt8} : s = ⟨a⟩ ↔ s.toList = a.toList := by
  constructor
  · intro h; subst h; rw [Lib.toList_data]
  · intro h; apply str_ext; rw [h, Lib.toList_data]
theorem okCh_iff (c : UInt8) : okCh c = true ↔ (97 ≤ (c.toNat : Int) ∧ (c.toNat : Int) ≤ 122) ∨ (48 ≤ (c.toNat : Int) ∧ (c.toNat : Int) ≤ 57) ∨ (c.toNat : Int) = 46 ∨ (c.toNat : Int) = 95 ∨ (c.toNat : Int) = 45 := by
  have e : ∀ k : UInt8, c = k ↔ (c.toNat : Int) = (k.toNat : Int) := fun k => by
    rw [← UInt8.toNat_inj]; omega
  simp only [okCh, Bool.or_eq_true, Bool.and_eq_true, decide_eq_true_eq, beq_iff_eq, e]
  have h1 : ((46 : UInt8).toNat : Int) = 46 := rfl
  have h2 : ((95 : UInt8).toNat : Int) = 95 := rfl
  have h3 : ((45 : UInt8).toNat : Int) = 45 := rfl
  rw [h1, h2, h3]
  omega
theorem nameZ_iff (s : ByteArray) : nameZ s.toList = true ↔ 1 ≤ s.size ∧ s.size ≤ 12 ∧ ¬ s = ⟨#[46]⟩ ∧ ¬ s = ⟨#[46, 46]⟩ ∧ s.toList.all okCh = true := by
  rw [ba_eq, ba_eq, ← ba_len]
  simp only [nameZ, Bool.and_eq_true, decide_eq_true_eq, Bool.not_eq_true', beq_eq_false_iff_ne, ne_eq, and_assoc]
theorem all_snoc {s : List UInt8} {k : Nat} {c : UInt8} (h : s[k]? = some c) (h1 : (s.take k).all okCh = true) (h2 : okCh c = true) : (s.take (k + 1)).all okCh = true := by
  rw [List.take_add_one, h, List.all_append, h1]; simp [h2]
theorem all_not {s : List UInt8} {k : Nat} {c : UInt8} (h : s[k]? = some c) (h2 : ¬ okCh c = true) : ¬ s.all okCh = true := by
  rw [List.all_eq_true]
  intro hh
  exact h2 (hh c (List.mem_of_getElem? h))
theorem nameZ_not {s : ByteArray} (h : ¬ (1 ≤ s.size ∧ s.size ≤ 12) ∨ s = ⟨#[46]⟩ ∨ s = ⟨#[46, 46]⟩ ∨ ¬ s.toList.all okCh = true) : nameZ s.toList = false := by
  cases hb : nameZ s.toList
  · rfl
  · rw [nameZ_iff] at hb
    obtain ⟨h1, h2, h3, h4, h5⟩ := hb
    rcases h with h | h | h | h
    · exact absurd ⟨h1, h2⟩ h
    · exact absurd h h3
    · exact absurd h h4
    · exact absurd h5 h
theorem nameZ_yes {s : ByteArray} (h1 : 1 ≤ s.size) (h2 : s.size ≤ 12) (h3 : ¬ s = ⟨#[46]⟩) (h4 : ¬ s = ⟨#[46, 46]⟩) (h5 : s.toList.all okCh = true) : nameZ s.toList = true := (nameZ_iff s).2 ⟨h1, h2, h3, h4, h5⟩
/-- Parts of a string. -/
theorem ba_drop (s : ByteArray) (l : Nat) (h : l ≤ s.size) : (s.extract l s.size).toList = s.toList.drop l := by
  rw [Lib.toList_data, Lib.toList_data]
  apply List.ext_getElem?
  intro i
  rw [List.getElem?_drop, Array.getElem?_toList, Array.getElem?_toList]
  have e : (s.extract l s.size).data = s.data.extract l s.size := by simp [ByteArray.extract, ByteArray.copySlice]; congr 1; omega
  rw [e, Array.getElem?_extract]
  have hs : s.data.size = s.size := rfl
  split
  · rfl
  · rw [Array.getElem?_eq_none]; omega
theorem ba_size (s : ByteArray) (l h : Nat) (h1 : l ≤ h) (h2 : h ≤ s.size) : (s.extract l h).size = h - l := by
  rw [ByteArray.size_extract]; omega
end Go.Proofs.Ytejkmomfpidnbab

