/- The walks of Get, Set, Drop, by the engine. -/
import Derived.Test.YtejkmomfpidnbabAttrE3
namespace Go.Proofs.Ytejkmomfpidnbab
open Go.RowKit
set_option linter.unusedSimpArgs false
set_option linter.unusedVariables false
noncomputable def GetR (xs : List PA) (nm : ByteArray) : Value := .tuple #[.string (if hasA nm xs = true ∧ getF xs nm = 0 then getA nm xs else ⟨#[]⟩), errV (getF xs nm)]
theorem getR_bad {xs : List PA} {nm : ByteArray} {f : Int} (h : getF xs nm = f) (h0 : ¬ f = 0) : Value.tuple #[.string ⟨#[]⟩, errV f] = GetR xs nm := by
  subst h; unfold GetR; rw [if_neg (fun e => h0 e.2)]
theorem getR_ok {xs : List PA} {nm : ByteArray} (h : getF xs nm = 0) (hh : hasA nm xs = true) : Value.tuple #[.string (getA nm xs), errV 0] = GetR xs nm := by
  unfold GetR; rw [if_pos ⟨hh, h⟩, h]
theorem tn (a : Nat) : ((a : Int)).toNat = a := Int.toNat_natCast a
theorem tn1 (a : Nat) : ((a : Int) + 1).toNat = a + 1 := by omega
theorem ev1 : Value.iface 85 (.int .i64 1) = errV 1 := errV_is 1 rfl
theorem ev2 : Value.iface 85 (.int .i64 2) = errV 2 := errV_is 2 rfl
theorem ev4 : Value.iface 85 (.int .i64 4) = errV 4 := errV_is 4 rfl
theorem ev5 : Value.iface 85 (.int .i64 5) = errV 5 := errV_is 5 rfl
attribute [local irreducible] AtQ GoC GoL GoW QO QP Fn RV OwnAt CellsFrom VLe SrcIs errV
set_option maxRecDepth 100000
theorem drop_cells {V : View} {A : Option Addr} {n c k : Nat} {xs : List PA} (h : AttrV V A n xs) (hk : k ≤ n) (hc : n ≤ c) : CellsV V 2 (cutA A c k 2) (n - k) ((xs.drop k).flatMap paC) := (h.1.drop hk hc).cells pa_len
theorem take_cells {V : View} {A : Option Addr} {n k : Nat} {xs : List PA} (h : AttrV V A n xs) (hk : k ≤ n) : CellsV V 2 A k ((xs.take k).flatMap paC) := (h.1.take hk).cells pa_len
end Go.Proofs.Ytejkmomfpidnbab
