/- Structs of the program compared. -/
import Derived.Test.YtejkmomfpidnbabChecked
import Derived.Test.YtejkmomfpidnbabTy
import Derived.Test.YtejkmomfpidnbabCore
namespace Go.Proofs.Ytejkmomfpidnbab
open Go.RowKit
theorem ng_78 : NoGuard Try.prog 78 := ⟨by kernel_rfl⟩
theorem ng_158 : NoGuard Try.prog 158 := ⟨by kernel_rfl⟩
theorem eqs_78 (a0 a1 a2 b0 b1 b2 : Int) : EqIs Try.prog 78 [.int .i64 a0, .int .i64 a1, .int .i64 a2] [.int .i64 b0, .int .i64 b1, .int .i64 b2] (decide (a0 = b0 ∧ a1 = b1 ∧ a2 = b2)) := ⟨fun w => by
  rw [run_equalIn_struct w 9999 _ _ _ (by kernel_rfl) (by kernel_rfl)]
  have hi := Try.underlying3
  by_cases h0 : a0 = b0 <;> by_cases h1 : a1 = b1 <;> by_cases h2 : a2 = b2 <;>
    simp [Program.fieldsOf, Try.underlying78, Op.eqFields, hi, run_equalIn_int, go_sem, h0, h1, h2]⟩
theorem eqs_158 (a0 a1 b0 b1 : ByteArray) : EqIs Try.prog 158 [.string a0, .string a1] [.string b0, .string b1] (decide (a0 = b0 ∧ a1 = b1)) := ⟨fun w => by
  rw [run_equalIn_struct w 9999 _ _ _ (by kernel_rfl) (by kernel_rfl)]
  have hi := Try.underlying9
  have e := str_beq a0 b0
  have e1 := str_beq a1 b1
  by_cases h0 : a0 = b0 <;> by_cases h1 : a1 = b1 <;>
    simp [Program.fieldsOf, Try.underlying158, Op.eqFields, hi, run_equalIn_string, go_sem, h0, h1, e, e1]⟩
end Go.Proofs.Ytejkmomfpidnbab
