/- The engine's operations. No program is named here. -/
import Derived.Test.YtejkmomfpidnbaaEng
import Derived.Test.YtejkmomfpidnbaaStrP
import Derived.IntWalk
namespace Go.Proofs.Ytejkmomfpidnbaa
open Go.RowKit
set_option linter.unusedSimpArgs false
set_option linter.unusedVariables false

theorem beq_dec {α : Type} [BEq α] [LawfulBEq α] [DecidableEq α] (a b : α) : (a == b) = decide (a = b) := by
  rw [Bool.eq_iff_iff]; simp

/-! ### Closed facts on the program's types -/
structure IsOne (P : Program) (T : TypeId) : Prop where
  h : ∀ w, (isAgg T).run P w = .ok false w
structure IsAg (P : Program) (T : TypeId) (n : Nat) : Prop where
  h : ∀ w, (isAgg T).run P w = .ok true w
  s : ∀ w, (sizeOf T).run P w = .ok n w
structure SizeIs (P : Program) (T : TypeId) (n : Nat) : Prop where
  h : ∀ w, (sizeOf T).run P w = .ok n w
structure UnderIs (P : Program) (T : TypeId) (dsc : TypeDesc) : Prop where
  u : P.underlying T = some dsc
theorem UnderIs.h {P : Program} {T : TypeId} {dsc : TypeDesc} (hu : UnderIs P T dsc) (w : World) : (underlying T).run P w = .ok dsc w := run_underlying hu.u w
structure ZeroIs (P : Program) (T : TypeId) (zs : List Value) : Prop where
  h : ∃ z, (∀ w, (zeroValue T).run P w = .ok z w) ∧ z.cells = zs.toArray
structure Enters (P : Program) (f : FuncId) : Prop where
  h : ∀ args w, (callFunc f args).run P w = .ok (.enter f args) w
structure FieldIs (P : Program) (S i off : Nat) : Prop where
  h : ∀ a w, (Instr.fieldAt S (.pointer (some a)) i).run P w = .ok (.pointer (some (a.add off))) w

section
variable {P : Program} {B : Base} {N : Nat} {F : List (Nat × Value)} {V : View} {L : List Box} {d : Option Tmp} {ty : TypeId} {pos : String} {af : Array Edge} {gd : Option (Nat × Bool)}

theorem q_of {o : Oper} {v : Value} (h : ∀ a w, Kn N F a → St B V L w → (execOp a.eval o).run P w = .ok (.value v) w) : QP P B N V L o F v := h

/-! ### Values -/
theorem q_move {x : Operand} {v : Value} (hx : evF F x = some v) : QP P B N V L ⟨d, .move x, ty, pos, af, gd⟩ F v := q_of fun a w ha _ => by simp [execOp, ha.ev hx]
theorem q_assign {x : Operand} {v : Value} (hx : evF F x = some v) : QP P B N V L ⟨d, .assign x, ty, pos, af, gd⟩ F v := q_of fun a w ha _ => by simp [execOp, ha.ev hx]
theorem q_pick_t {c x y : Operand} {v : Value} (hc : evF F c = some (.bool true)) (hx : evF F x = some v) : QP P B N V L ⟨d, .pick c x y, ty, pos, af, gd⟩ F v := q_of fun a w ha _ => by
  simp [execOp, ha.ev hc, ha.ev hx, asBool]
theorem q_pick_f {c x y : Operand} {v : Value} (hc : evF F c = some (.bool false)) (hx : evF F y = some v) : QP P B N V L ⟨d, .pick c x y, ty, pos, af, gd⟩ F v := q_of fun a w ha _ => by
  simp [execOp, ha.ev hc, ha.ev hx, asBool]
theorem q_not_t {x : Operand} {t : TypeId} (hx : evF F x = some (.bool true)) : QP P B N V L ⟨d, .unOp .not t x, ty, pos, af, gd⟩ F (.bool false) := q_of fun a w ha _ => by simp [execOp, ha.ev hx, Op.unary]
theorem q_not_f {x : Operand} {t : TypeId} (hx : evF F x = some (.bool false)) : QP P B N V L ⟨d, .unOp .not t x, ty, pos, af, gd⟩ F (.bool true) := q_of fun a w ha _ => by simp [execOp, ha.ev hx, Op.unary]
theorem q_not_p {x : Operand} {t : TypeId} {p : Prop} [Decidable p] (hx : evF F x = some (.bool (decide p))) : QP P B N V L ⟨d, .unOp .not t x, ty, pos, af, gd⟩ F (.bool (decide (¬ p))) := q_of fun a w ha _ => by simp [execOp, ha.ev hx, Op.unary]
theorem q_not_b {x : Operand} {t : TypeId} {b : Bool} (hx : evF F x = some (.bool b)) : QP P B N V L ⟨d, .unOp .not t x, ty, pos, af, gd⟩ F (.bool (!b)) := q_of fun a w ha _ => by simp [execOp, ha.ev hx, Op.unary]
theorem q_neg {x : Operand} {t : TypeId} {k : Int} (hx : evF F x = some (.int .i64 k)) (h : -9223372036854775808 ≤ 0 - k ∧ 0 - k ≤ 9223372036854775807) : QP P B N V L ⟨d, .unOp .neg t x, ty, pos, af, gd⟩ F (.int .i64 (0 - k)) := q_of fun a w ha _ => by
  simp only [execOp, ha.ev hx, Op.unary, Op.intArith]
  rw [IntWalk.i64_in _ (by omega)]
  rfl
theorem q_extract {x : Operand} {i : Nat} {vs : Array Value} {v : Value} (hx : evF F x = some (.tuple vs)) (hv : vs[i]? = some v) : QP P B N V L ⟨d, .extract x i, ty, pos, af, gd⟩ F v := q_of fun a w ha _ => by
  simp [execOp, ha.ev hx, Instr.extract, hv]
theorem q_mkiface {x : Operand} {t : TypeId} {v : Value} {dsc : TypeDesc} (hu : UnderIs P t dsc) (hn : (match dsc with | .interface _ => true | _ => false) = false) (hx : evF F x = some v) : QP P B N V L ⟨d, .makeInterface t x, ty, pos, af, gd⟩ F (.iface t v) := q_of fun a w ha _ => by
  have hu := hu.h w
  cases dsc <;> simp_all [execOp, ha.ev hx, Instr.makeInterface]
theorem q_nilCheck_p {x : Operand} {p : Addr} (hx : evF F x = some (.pointer (some p))) : QP P B N V L ⟨d, .nilCheck x, ty, pos, af, gd⟩ F (.pointer (some p)) := q_of fun a w ha _ => by simp [execOp, ha.ev hx]
theorem q_nilCheck_f {x : Operand} {f : FuncId} {c1 c2 : Array Value} (hx : evF F x = some (.func (.func f) c1 c2)) : QP P B N V L ⟨d, .nilCheck x, ty, pos, af, gd⟩ F (.func (.func f) c1 c2) := q_of fun a w ha _ => by simp [execOp, ha.ev hx]

/-! ### Ints -/
section ints
variable {x y : Operand} {t ty2 : TypeId} {a b : Int}
theorem run_bin {op : BinOp} {k : IntKind} {v : Value} {o : Oper} (ho : o.op = .binOp op t x y ty2) (hx : evF F x = some (.int k a)) (hy : evF F y = some (.int k b)) (h : ∀ w, (binOp op t (.int k a) (.int k b)).run P w = .ok v w) : QP P B N V L o F v := q_of fun ac w ha _ => by
  have e : (eqGuard op t x y (.int k a) (.int k b)) = pure () := by unfold eqGuard; cases op <;> rfl
  simp [execOp, ho, ha.ev hx, ha.ev hy, e, h w]
theorem q_add (hx : evF F x = some (.int .i64 a)) (hy : evF F y = some (.int .i64 b)) (h : -9223372036854775808 ≤ a + b ∧ a + b ≤ 9223372036854775807) : QP P B N V L ⟨d, .binOp .add t x y ty2, ty, pos, af, gd⟩ F (.int .i64 (a + b)) :=
  run_bin rfl hx hy fun w => by simp [binOp, Op.intArith, IntWalk.i64_in _ h]
theorem q_sub (hx : evF F x = some (.int .i64 a)) (hy : evF F y = some (.int .i64 b)) (h : -9223372036854775808 ≤ a - b ∧ a - b ≤ 9223372036854775807) : QP P B N V L ⟨d, .binOp .sub t x y ty2, ty, pos, af, gd⟩ F (.int .i64 (a - b)) :=
  run_bin rfl hx hy fun w => by simp [binOp, Op.intArith, IntWalk.i64_in _ h]
theorem q_mul (hx : evF F x = some (.int .i64 a)) (hy : evF F y = some (.int .i64 b)) (h : -9223372036854775808 ≤ a * b ∧ a * b ≤ 9223372036854775807) : QP P B N V L ⟨d, .binOp .mul t x y ty2, ty, pos, af, gd⟩ F (.int .i64 (a * b)) :=
  run_bin rfl hx hy fun w => by simp [binOp, Op.intArith, IntWalk.i64_in _ h]
theorem q_addw {k : IntKind} (hx : evF F x = some (.int k a)) (hy : evF F y = some (.int k b)) : QP P B N V L ⟨d, .binOp .add t x y ty2, ty, pos, af, gd⟩ F (.int k (k.wrap (a + b))) :=
  run_bin rfl hx hy fun w => by simp [binOp, Op.intArith]
theorem q_subw {k : IntKind} (hx : evF F x = some (.int k a)) (hy : evF F y = some (.int k b)) : QP P B N V L ⟨d, .binOp .sub t x y ty2, ty, pos, af, gd⟩ F (.int k (k.wrap (a - b))) :=
  run_bin rfl hx hy fun w => by simp [binOp, Op.intArith]
theorem q_quo (hx : evF F x = some (.int .i64 a)) (hy : evF F y = some (.int .i64 b)) (h : 0 ≤ a ∧ a ≤ 9223372036854775807 ∧ 0 < b) : QP P B N V L ⟨d, .binOp .quo t x y ty2, ty, pos, af, gd⟩ F (.int .i64 (a / b)) :=
  run_bin rfl hx hy fun w => by
    have e1 : a.tdiv b = a / b := Int.tdiv_eq_ediv_of_nonneg h.1
    have e2 : 0 ≤ a / b := Int.ediv_nonneg h.1 (by omega)
    have e3 : a / b ≤ a := Int.ediv_le_self b h.1
    have e4 : b ≠ 0 := by omega
    simp [binOp, Op.intDiv, e4, e1, IntWalk.i64_in (a / b) ⟨by omega, by omega⟩]
theorem q_rem (hx : evF F x = some (.int .i64 a)) (hy : evF F y = some (.int .i64 b)) (h : 0 ≤ a ∧ 0 < b) : QP P B N V L ⟨d, .binOp .rem t x y ty2, ty, pos, af, gd⟩ F (.int .i64 (a % b)) :=
  run_bin rfl hx hy fun w => by
    have e4 : b ≠ 0 := by omega
    simp [binOp, Op.intDiv, e4, Int.tmod_eq_emod_of_nonneg h.1]
theorem q_lss {k : IntKind} (hx : evF F x = some (.int k a)) (hy : evF F y = some (.int k b)) : QP P B N V L ⟨d, .binOp .lss t x y ty2, ty, pos, af, gd⟩ F (.bool (decide (a < b))) := run_bin rfl hx hy fun w => by simp [binOp, Op.intCmp]
theorem q_leq {k : IntKind} (hx : evF F x = some (.int k a)) (hy : evF F y = some (.int k b)) : QP P B N V L ⟨d, .binOp .leq t x y ty2, ty, pos, af, gd⟩ F (.bool (decide (a ≤ b))) := run_bin rfl hx hy fun w => by simp [binOp, Op.intCmp]
theorem q_gtr {k : IntKind} (hx : evF F x = some (.int k a)) (hy : evF F y = some (.int k b)) : QP P B N V L ⟨d, .binOp .gtr t x y ty2, ty, pos, af, gd⟩ F (.bool (decide (b < a))) := run_bin rfl hx hy fun w => by simp [binOp, Op.intCmp]
theorem q_geq {k : IntKind} (hx : evF F x = some (.int k a)) (hy : evF F y = some (.int k b)) : QP P B N V L ⟨d, .binOp .geq t x y ty2, ty, pos, af, gd⟩ F (.bool (decide (b ≤ a))) := run_bin rfl hx hy fun w => by simp [binOp, Op.intCmp]
theorem q_eql {k : IntKind} (hx : evF F x = some (.int k a)) (hy : evF F y = some (.int k b)) : QP P B N V L ⟨d, .binOp .eql t x y ty2, ty, pos, af, gd⟩ F (.bool (decide (a = b))) := run_bin rfl hx hy fun w => by simp [binOp, Op.intCmp, beq_dec]
theorem q_neq {k : IntKind} (hx : evF F x = some (.int k a)) (hy : evF F y = some (.int k b)) : QP P B N V L ⟨d, .binOp .neq t x y ty2, ty, pos, af, gd⟩ F (.bool (decide (¬ a = b))) := run_bin rfl hx hy fun w => by
  have : (a != b) = decide (¬ a = b) := by simp [bne, beq_dec]
  simp [binOp, Op.intCmp, this]
theorem q_bits {op : BinOp} {k : IntKind} {v : Value} (hx : evF F x = some (.int k a)) (hy : evF F y = some (.int k b)) (hop : ∀ w, (binOp op t (.int k a) (.int k b)).run P w = .ok v w) : QP P B N V L ⟨d, .binOp op t x y ty2, ty, pos, af, gd⟩ F v := run_bin rfl hx hy hop
theorem q_and {k : IntKind} (hx : evF F x = some (.int k a)) (hy : evF F y = some (.int k b)) : QP P B N V L ⟨d, .binOp .and t x y ty2, ty, pos, af, gd⟩ F (.int k (bits .and k a b)) := run_bin rfl hx hy fun w => by simp [binOp, Op.intBits, bits]
theorem q_or {k : IntKind} (hx : evF F x = some (.int k a)) (hy : evF F y = some (.int k b)) : QP P B N V L ⟨d, .binOp .or t x y ty2, ty, pos, af, gd⟩ F (.int k (bits .or k a b)) := run_bin rfl hx hy fun w => by simp [binOp, Op.intBits, bits]
theorem q_andNot {k : IntKind} (hx : evF F x = some (.int k a)) (hy : evF F y = some (.int k b)) : QP P B N V L ⟨d, .binOp .andNot t x y ty2, ty, pos, af, gd⟩ F (.int k (bits .andNot k a b)) := run_bin rfl hx hy fun w => by simp [binOp, Op.intBits, bits]
end ints

/-- Whatever two operands, by the operation's run. -/
theorem q_bin {x y : Operand} {t ty2 : TypeId} {op : BinOp} {vx vy v : Value} (hx : evF F x = some vx) (hy : evF F y = some vy) (hg : ∀ w, (eqGuard op t x y vx vy).run P w = .ok () w) (h : ∀ w, (binOp op t vx vy).run P w = .ok v w) : QP P B N V L ⟨d, .binOp op t x y ty2, ty, pos, af, gd⟩ F v := q_of fun ac w ha _ => by
  simp [execOp, ha.ev hx, ha.ev hy, hg w, h w]

/-! ### Strings, bools -/
section strs
variable {x y : Operand} {t ty2 : TypeId} {a b : ByteArray}
theorem run_str {op : BinOp} {v : Value} {o : Oper} (ho : o.op = .binOp op t x y ty2) (hx : evF F x = some (.string a)) (hy : evF F y = some (.string b)) (h : ∀ w, (binOp op t (.string a) (.string b)).run P w = .ok v w) : QP P B N V L o F v := q_of fun ac w ha _ => by
  have e : (eqGuard op t x y (.string a) (.string b)) = pure () := by unfold eqGuard; cases op <;> rfl
  simp [execOp, ho, ha.ev hx, ha.ev hy, e, h w]
theorem q_seql (hx : evF F x = some (.string a)) (hy : evF F y = some (.string b)) : QP P B N V L ⟨d, .binOp .eql t x y ty2, ty, pos, af, gd⟩ F (.bool (decide (a = b))) := run_str rfl hx hy fun w => by simp only [binOp, Op.stringOp]; rw [str_beq]; rfl
theorem q_sneq (hx : evF F x = some (.string a)) (hy : evF F y = some (.string b)) : QP P B N V L ⟨d, .binOp .neq t x y ty2, ty, pos, af, gd⟩ F (.bool (decide (¬ a = b))) := run_str rfl hx hy fun w => by
  simp only [binOp, Op.stringOp]; rw [str_beq]
  have : (!decide (a = b)) = decide (¬ a = b) := by simp
  rw [this]; rfl
theorem q_slss (hx : evF F x = some (.string a)) (hy : evF F y = some (.string b)) : QP P B N V L ⟨d, .binOp .lss t x y ty2, ty, pos, af, gd⟩ F (.bool (decide (a.toList < b.toList))) := run_str rfl hx hy fun w => by simp only [binOp, Op.stringOp]; rw [bytesLess_lt]; rfl
theorem bytes_gt (a b : ByteArray) : (!(decide (a.toList < b.toList) || decide (a = b))) = decide (b.toList < a.toList) := by
  rw [Bool.eq_iff_iff]
  simp
  constructor
  · rintro ⟨h1, h2⟩
    rcases List.le_iff_lt_or_eq.1 h1 with h | h
    · exact h
    · exact absurd (str_ext h.symm) h2
  · intro h
    exact ⟨List.le_of_lt h, fun e => by subst e; exact List.lt_irrefl _ h⟩
theorem q_sgtr (hx : evF F x = some (.string a)) (hy : evF F y = some (.string b)) : QP P B N V L ⟨d, .binOp .gtr t x y ty2, ty, pos, af, gd⟩ F (.bool (decide (b.toList < a.toList))) := run_str rfl hx hy fun w => by
  simp only [binOp, Op.stringOp]; rw [bytesLess_lt, str_beq, bytes_gt]; rfl
theorem q_sgeq (hx : evF F x = some (.string a)) (hy : evF F y = some (.string b)) : QP P B N V L ⟨d, .binOp .geq t x y ty2, ty, pos, af, gd⟩ F (.bool (decide (¬ a.toList < b.toList))) := run_str rfl hx hy fun w => by
  simp only [binOp, Op.stringOp]; rw [bytesLess_lt]
  have : (!decide (a.toList < b.toList)) = decide (¬ a.toList < b.toList) := decide_not.symm
  rw [this]; rfl
theorem q_sleq (hx : evF F x = some (.string a)) (hy : evF F y = some (.string b)) : QP P B N V L ⟨d, .binOp .leq t x y ty2, ty, pos, af, gd⟩ F (.bool (decide (¬ b.toList < a.toList))) := run_str rfl hx hy fun w => by
  simp only [binOp, Op.stringOp]; rw [bytesLess_lt, str_beq]
  have : (decide (a.toList < b.toList) || decide (a = b)) = decide (¬ b.toList < a.toList) := by
    rw [decide_not, ← bytes_gt a b, Bool.not_not]
  rw [this]; rfl
theorem q_sadd (hx : evF F x = some (.string a)) (hy : evF F y = some (.string b)) (h : ((a.size + b.size : Nat) : Int) ≤ 9223372036854775807) : QP P B N V L ⟨d, .binOp .add t x y ty2, ty, pos, af, gd⟩ F (.string (a ++ b)) := run_str rfl hx hy fun w => by
  simp only [binOp, Op.stringOp]
  rw [if_neg]
  · rfl
  · simp only [IntKind.max, IntKind.signed, IntKind.bits]
    omega
theorem q_sindex {ix : Operand} {i : Int} {s : ByteArray} {c : UInt8} (hu : UnderIs P t .string) (hx : evF F x = some (.string s)) (hi : evF F ix = some (.int .i64 i)) (h0 : 0 ≤ i) (hc : s[i.toNat]? = some c) : QP P B N V L ⟨d, .index t x ix, ty, pos, af, gd⟩ F (.int .u8 c.toNat) := q_of fun ac w ha _ => by
  simp [execOp, ha.ev hx, ha.ev hi, Instr.index, asIntOf, hu.h, h0, hc]
theorem q_slen {c : Call} (hc : c = ⟨.builtin .len, #[x], #[t]⟩) (hu : UnderIs P t .string) (hx : evF F x = some (.string a)) : QP P B N V L ⟨d, .call c, ty, pos, af, gd⟩ F (.int .i64 a.size) := q_of fun ac w ha _ => by
  subst hc
  simp [execOp, ha.ev hx, resolve, invoke, builtin, Builtin.len_, hu.h, goInt]
theorem run_sliceBound (w : World) {l y : Nat} (h : l ≤ y) (code : BoundsCode) : (Instr.sliceBound (.int .i64 (l : Int)) y code).run P w = .ok l w := by
  have : (l : Int) ≤ (y : Int) := by omega
  simp [Instr.sliceBound, asIntOf, this]
theorem q_sslice_n {hi : Operand} {h : Nat} (hu : UnderIs P t .string) (hx : evF F x = some (.string a)) (hh : evF F hi = some (.int .i64 (h : Int))) (h2 : h ≤ a.size) : QP P B N V L ⟨d, .slice t x none (some hi) none, ty, pos, af, gd⟩ F (.string (a.extract 0 h)) := q_of fun ac w ha _ => by
  simp [execOp, ha.ev hx, ha.ev hh, Instr.sliceAt, Instr.slice, Instr.sliceBounds, hu.h, run_sliceBound w h2]
theorem q_sslice_l {lo : Operand} {l : Nat} (hu : UnderIs P t .string) (hx : evF F x = some (.string a)) (hl : evF F lo = some (.int .i64 (l : Int))) (h2 : l ≤ a.size) : QP P B N V L ⟨d, .slice t x (some lo) none none, ty, pos, af, gd⟩ F (.string (a.extract l a.size)) := q_of fun ac w ha _ => by
  simp [execOp, ha.ev hx, ha.ev hl, Instr.sliceAt, Instr.slice, Instr.sliceBounds, hu.h, run_sliceBound w h2]
theorem q_sslice {lo hi : Operand} {l h : Nat} (hu : UnderIs P t .string) (hx : evF F x = some (.string a)) (hl : evF F lo = some (.int .i64 (l : Int))) (hh : evF F hi = some (.int .i64 (h : Int))) (h1 : l ≤ h) (h2 : h ≤ a.size) : QP P B N V L ⟨d, .slice t x (some lo) (some hi) none, ty, pos, af, gd⟩ F (.string (a.extract l h)) := q_of fun ac w ha _ => by
  simp [execOp, ha.ev hx, ha.ev hl, ha.ev hh, Instr.sliceAt, Instr.slice, Instr.sliceBounds, hu.h, run_sliceBound w h1, run_sliceBound w h2]
end strs
theorem q_beql {x y : Operand} {t ty2 : TypeId} {a b : Bool} (hu : UnderIs P t .bool) (hx : evF F x = some (.bool a)) (hy : evF F y = some (.bool b)) : QP P B N V L ⟨d, .binOp .eql t x y ty2, ty, pos, af, gd⟩ F (.bool (decide (a = b))) :=
  q_bin hx hy (fun w => by simp [eqGuard]) (fun w => by rw [run_eql_bool w t a b hu.u, beq_dec])
theorem run_neq_bool' (w : World) (t : TypeId) (a b : Bool) (h : P.underlying t = some .bool) : (binOp .neq t (.bool a) (.bool b)).run P w = .ok (.bool (decide (¬ a = b))) w := by
  simp only [binOp]
  simp [run_equal_bool w t a b h, beq_dec]
theorem q_bneq {x y : Operand} {t ty2 : TypeId} {a b : Bool} (hu : UnderIs P t .bool) (hx : evF F x = some (.bool a)) (hy : evF F y = some (.bool b)) : QP P B N V L ⟨d, .binOp .neq t x y ty2, ty, pos, af, gd⟩ F (.bool (decide (¬ a = b))) :=
  q_bin hx hy (fun w => by simp [eqGuard]) (fun w => run_neq_bool' w t a b hu.u)
end
end Go.Proofs.Ytejkmomfpidnbaa
