/- Structs of the program compared. -/
import Derived.Test.YtejkmomfpidnbaaChecked
import Derived.Test.YtejkmomfpidnbaaTy
import Derived.Test.YtejkmomfpidnbaaCore
namespace Go.Proofs.Ytejkmomfpidnbaa
open Go.RowKit
theorem ng_161 : NoGuard Try.prog 161 := ⟨by kernel_rfl⟩
theorem ng_82 : NoGuard Try.prog 82 := ⟨by kernel_rfl⟩
theorem eqs_161 (a0 a1 a2 b0 b1 b2 : Int) : EqIs Try.prog 161 [.int .i64 a0, .int .i64 a1, .int .i64 a2] [.int .i64 b0, .int .i64 b1, .int .i64 b2] (decide (a0 = b0 ∧ a1 = b1 ∧ a2 = b2)) := ⟨fun w => by
  rw [run_equalIn_struct w 9999 _ _ _ (by kernel_rfl) (by kernel_rfl)]
  have hi := Try.underlying3
  by_cases h0 : a0 = b0 <;> by_cases h1 : a1 = b1 <;> by_cases h2 : a2 = b2 <;>
    simp [Program.fieldsOf, Try.underlying161, Op.eqFields, hi, run_equalIn_int, go_sem, h0, h1, h2]⟩
theorem eqs_82 (a0 a1 b0 b1 : ByteArray) : EqIs Try.prog 82 [.string a0, .string a1] [.string b0, .string b1] (decide (a0 = b0 ∧ a1 = b1)) := ⟨fun w => by
  rw [run_equalIn_struct w 9999 _ _ _ (by kernel_rfl) (by kernel_rfl)]
  have hi := Try.underlying9
  have e := str_beq a0 b0
  have e1 := str_beq a1 b1
  by_cases h0 : a0 = b0 <;> by_cases h1 : a1 = b1 <;>
    simp [Program.fieldsOf, Try.underlying82, Op.eqFields, hi, run_equalIn_string, go_sem, h0, h1, e, e1]⟩
end Go.Proofs.Ytejkmomfpidnbaa
