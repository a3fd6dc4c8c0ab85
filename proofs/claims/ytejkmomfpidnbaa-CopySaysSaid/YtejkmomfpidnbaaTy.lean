/- Closed facts on the types of the program. Printed by a program of our own (steps.py). -/
import Derived.Test.YtejkmomfpidnbaaProg
import Derived.Test.YtejkmomfpidnbaaChecked
import Derived.Test.YtejkmomfpidnbaaCore
import Derived.KernelRfl
namespace Go.Proofs.Ytejkmomfpidnbaa
open Go.RowKit
theorem mixed : Try.prog.follows .mixedOrders = true := by kernel_rfl
theorem fld_24_0 : FieldIs Try.prog 24 0 0 := ⟨fun a w => by kernel_rfl⟩
theorem fld_24_1 : FieldIs Try.prog 24 1 1 := ⟨fun a w => by kernel_rfl⟩
theorem fld_24_2 : FieldIs Try.prog 24 2 2 := ⟨fun a w => by kernel_rfl⟩
theorem fld_24_3 : FieldIs Try.prog 24 3 3 := ⟨fun a w => by kernel_rfl⟩
theorem fld_26_0 : FieldIs Try.prog 26 0 0 := ⟨fun a w => by kernel_rfl⟩
theorem fld_26_1 : FieldIs Try.prog 26 1 1 := ⟨fun a w => by kernel_rfl⟩
theorem fld_26_2 : FieldIs Try.prog 26 2 2 := ⟨fun a w => by kernel_rfl⟩
theorem fld_26_3 : FieldIs Try.prog 26 3 3 := ⟨fun a w => by kernel_rfl⟩
theorem fld_26_4 : FieldIs Try.prog 26 4 4 := ⟨fun a w => by kernel_rfl⟩
theorem fld_43_0 : FieldIs Try.prog 43 0 0 := ⟨fun a w => by kernel_rfl⟩
theorem fld_43_1 : FieldIs Try.prog 43 1 1 := ⟨fun a w => by kernel_rfl⟩
theorem fld_43_2 : FieldIs Try.prog 43 2 2 := ⟨fun a w => by kernel_rfl⟩
theorem fld_43_3 : FieldIs Try.prog 43 3 3 := ⟨fun a w => by kernel_rfl⟩
theorem fld_45_0 : FieldIs Try.prog 45 0 0 := ⟨fun a w => by kernel_rfl⟩
theorem fld_45_1 : FieldIs Try.prog 45 1 1 := ⟨fun a w => by kernel_rfl⟩
theorem fld_45_2 : FieldIs Try.prog 45 2 2 := ⟨fun a w => by kernel_rfl⟩
theorem fld_45_3 : FieldIs Try.prog 45 3 3 := ⟨fun a w => by kernel_rfl⟩
theorem fld_82_0 : FieldIs Try.prog 82 0 0 := ⟨fun a w => by kernel_rfl⟩
theorem fld_82_1 : FieldIs Try.prog 82 1 1 := ⟨fun a w => by kernel_rfl⟩
theorem fld_96_0 : FieldIs Try.prog 96 0 0 := ⟨fun a w => by kernel_rfl⟩
theorem fld_96_1 : FieldIs Try.prog 96 1 1 := ⟨fun a w => by kernel_rfl⟩
theorem fld_96_2 : FieldIs Try.prog 96 2 2 := ⟨fun a w => by kernel_rfl⟩
theorem fld_96_3 : FieldIs Try.prog 96 3 3 := ⟨fun a w => by kernel_rfl⟩
theorem fld_96_4 : FieldIs Try.prog 96 4 4 := ⟨fun a w => by kernel_rfl⟩
theorem fld_96_5 : FieldIs Try.prog 96 5 5 := ⟨fun a w => by kernel_rfl⟩
theorem fld_96_6 : FieldIs Try.prog 96 6 6 := ⟨fun a w => by kernel_rfl⟩
theorem fld_96_7 : FieldIs Try.prog 96 7 7 := ⟨fun a w => by kernel_rfl⟩
theorem fld_119_0 : FieldIs Try.prog 119 0 0 := ⟨fun a w => by kernel_rfl⟩
theorem fld_119_1 : FieldIs Try.prog 119 1 1 := ⟨fun a w => by kernel_rfl⟩
theorem fld_119_2 : FieldIs Try.prog 119 2 2 := ⟨fun a w => by kernel_rfl⟩
theorem fld_121_0 : FieldIs Try.prog 121 0 0 := ⟨fun a w => by kernel_rfl⟩
theorem fld_121_1 : FieldIs Try.prog 121 1 1 := ⟨fun a w => by kernel_rfl⟩
theorem fld_121_2 : FieldIs Try.prog 121 2 2 := ⟨fun a w => by kernel_rfl⟩
theorem fld_138_0 : FieldIs Try.prog 138 0 0 := ⟨fun a w => by kernel_rfl⟩
theorem fld_138_1 : FieldIs Try.prog 138 1 1 := ⟨fun a w => by kernel_rfl⟩
theorem fld_157_0 : FieldIs Try.prog 157 0 0 := ⟨fun a w => by kernel_rfl⟩
theorem fld_157_1 : FieldIs Try.prog 157 1 1 := ⟨fun a w => by kernel_rfl⟩
theorem fld_157_2 : FieldIs Try.prog 157 2 2 := ⟨fun a w => by kernel_rfl⟩
theorem fld_157_3 : FieldIs Try.prog 157 3 3 := ⟨fun a w => by kernel_rfl⟩
theorem fld_161_0 : FieldIs Try.prog 161 0 0 := ⟨fun a w => by kernel_rfl⟩
theorem fld_161_1 : FieldIs Try.prog 161 1 1 := ⟨fun a w => by kernel_rfl⟩
theorem fld_161_2 : FieldIs Try.prog 161 2 2 := ⟨fun a w => by kernel_rfl⟩
theorem fld_170_0 : FieldIs Try.prog 170 0 0 := ⟨fun a w => by kernel_rfl⟩
theorem fld_170_1 : FieldIs Try.prog 170 1 1 := ⟨fun a w => by kernel_rfl⟩
theorem fld_174_0 : FieldIs Try.prog 174 0 0 := ⟨fun a w => by kernel_rfl⟩
theorem fld_174_1 : FieldIs Try.prog 174 1 1 := ⟨fun a w => by kernel_rfl⟩
theorem fld_183_0 : FieldIs Try.prog 183 0 0 := ⟨fun a w => by kernel_rfl⟩
theorem fld_183_1 : FieldIs Try.prog 183 1 1 := ⟨fun a w => by kernel_rfl⟩
theorem fld_183_2 : FieldIs Try.prog 183 2 2 := ⟨fun a w => by kernel_rfl⟩
theorem fld_191_0 : FieldIs Try.prog 191 0 0 := ⟨fun a w => by kernel_rfl⟩
theorem fld_191_1 : FieldIs Try.prog 191 1 1 := ⟨fun a w => by kernel_rfl⟩
theorem fld_195_0 : FieldIs Try.prog 195 0 0 := ⟨fun a w => by kernel_rfl⟩
theorem fld_195_1 : FieldIs Try.prog 195 1 1 := ⟨fun a w => by kernel_rfl⟩
theorem fld_195_2 : FieldIs Try.prog 195 2 2 := ⟨fun a w => by kernel_rfl⟩
theorem fld_198_0 : FieldIs Try.prog 198 0 0 := ⟨fun a w => by kernel_rfl⟩
theorem fld_198_1 : FieldIs Try.prog 198 1 1 := ⟨fun a w => by kernel_rfl⟩
theorem fld_213_0 : FieldIs Try.prog 213 0 0 := ⟨fun a w => by kernel_rfl⟩
theorem fld_213_1 : FieldIs Try.prog 213 1 8 := ⟨fun a w => by kernel_rfl⟩
theorem fld_217_0 : FieldIs Try.prog 217 0 0 := ⟨fun a w => by kernel_rfl⟩
theorem fld_217_1 : FieldIs Try.prog 217 1 8 := ⟨fun a w => by kernel_rfl⟩
theorem und_3 : UnderIs Try.prog 3 (.int .i64) := ⟨Try.underlying3⟩
theorem one_3 : IsOne Try.prog 3 := ⟨Try.isAgg3⟩
theorem siz_3 : SizeIs Try.prog 3 1 := ⟨Try.sizeOf3⟩
theorem zer_3 : ZeroIs Try.prog 3 [.int .i64 0] := ⟨_, Try.zeroValue3, rfl⟩
theorem zec_3 : ZeroCells Try.prog 3 (.int .i64 0) := ⟨Try.zeroValue3⟩
theorem und_4 : UnderIs Try.prog 4 .bool := ⟨Try.underlying4⟩
theorem one_4 : IsOne Try.prog 4 := ⟨Try.isAgg4⟩
theorem siz_4 : SizeIs Try.prog 4 1 := ⟨Try.sizeOf4⟩
theorem zer_4 : ZeroIs Try.prog 4 [.bool false] := ⟨_, Try.zeroValue4, rfl⟩
theorem zec_4 : ZeroCells Try.prog 4 (.bool false) := ⟨Try.zeroValue4⟩
theorem und_5 : UnderIs Try.prog 5 (.int .u8) := ⟨Try.underlying5⟩
theorem one_5 : IsOne Try.prog 5 := ⟨Try.isAgg5⟩
theorem siz_5 : SizeIs Try.prog 5 1 := ⟨Try.sizeOf5⟩
theorem zer_5 : ZeroIs Try.prog 5 [.int .u8 0] := ⟨_, Try.zeroValue5, rfl⟩
theorem zec_5 : ZeroCells Try.prog 5 (.int .u8 0) := ⟨Try.zeroValue5⟩
theorem und_9 : UnderIs Try.prog 9 .string := ⟨Try.underlying9⟩
theorem one_9 : IsOne Try.prog 9 := ⟨Try.isAgg9⟩
theorem siz_9 : SizeIs Try.prog 9 1 := ⟨Try.sizeOf9⟩
theorem zer_9 : ZeroIs Try.prog 9 [.string ⟨#[]⟩] := ⟨_, Try.zeroValue9, rfl⟩
theorem zec_9 : ZeroCells Try.prog 9 (.string ⟨#[]⟩) := ⟨Try.zeroValue9⟩
theorem und_22 : UnderIs Try.prog 22 (.slice 3) := ⟨Try.underlying22⟩
theorem one_22 : IsOne Try.prog 22 := ⟨Try.isAgg22⟩
theorem siz_22 : SizeIs Try.prog 22 1 := ⟨Try.sizeOf22⟩
theorem zer_22 : ZeroIs Try.prog 22 [.slice none 0 0] := ⟨_, Try.zeroValue22, rfl⟩
theorem zec_22 : ZeroCells Try.prog 22 (.slice none 0 0) := ⟨Try.zeroValue22⟩
theorem agg_24 : IsAg Try.prog 24 4 := ⟨Try.isAgg24, Try.sizeOf24⟩
theorem siz_24 : SizeIs Try.prog 24 4 := ⟨Try.sizeOf24⟩
theorem zer_24 : ZeroIs Try.prog 24 [.int .i64 0, .int .i64 0, .slice none 0 0, .int .i64 0] := ⟨_, Try.zeroValue24, rfl⟩
theorem zec_24 : ZeroCells Try.prog 24 (.agg #[.int .i64 0, .int .i64 0, .slice none 0 0, .int .i64 0]) := ⟨Try.zeroValue24⟩
theorem agg_26 : IsAg Try.prog 26 5 := ⟨Try.isAgg26, Try.sizeOf26⟩
theorem siz_26 : SizeIs Try.prog 26 5 := ⟨Try.sizeOf26⟩
theorem zer_26 : ZeroIs Try.prog 26 [.bool false, .int .i64 0, .int .i64 0, .int .i64 0, .bool false] := ⟨_, Try.zeroValue26, rfl⟩
theorem zec_26 : ZeroCells Try.prog 26 (.agg #[.bool false, .int .i64 0, .int .i64 0, .int .i64 0, .bool false]) := ⟨Try.zeroValue26⟩
theorem und_33 : UnderIs Try.prog 33 (.slice 45) := ⟨Try.underlying33⟩
theorem one_33 : IsOne Try.prog 33 := ⟨Try.isAgg33⟩
theorem siz_33 : SizeIs Try.prog 33 1 := ⟨Try.sizeOf33⟩
theorem zer_33 : ZeroIs Try.prog 33 [.slice none 0 0] := ⟨_, Try.zeroValue33, rfl⟩
theorem zec_33 : ZeroCells Try.prog 33 (.slice none 0 0) := ⟨Try.zeroValue33⟩
theorem und_34 : UnderIs Try.prog 34 (.pointer 157) := ⟨Try.underlying34⟩
theorem one_34 : IsOne Try.prog 34 := ⟨Try.isAgg34⟩
theorem siz_34 : SizeIs Try.prog 34 1 := ⟨Try.sizeOf34⟩
theorem zer_34 : ZeroIs Try.prog 34 [.pointer none] := ⟨_, Try.zeroValue34, rfl⟩
theorem zec_34 : ZeroCells Try.prog 34 (.pointer none) := ⟨Try.zeroValue34⟩
theorem one_36 : IsOne Try.prog 36 := ⟨Try.isAgg36⟩
theorem siz_36 : SizeIs Try.prog 36 1 := ⟨Try.sizeOf36⟩
theorem zer_36 : ZeroIs Try.prog 36 [.nilIface] := ⟨_, Try.zeroValue36, rfl⟩
theorem zec_36 : ZeroCells Try.prog 36 (.nilIface) := ⟨Try.zeroValue36⟩
theorem und_40 : UnderIs Try.prog 40 (.pointer 43) := ⟨Try.underlying40⟩
theorem one_40 : IsOne Try.prog 40 := ⟨Try.isAgg40⟩
theorem siz_40 : SizeIs Try.prog 40 1 := ⟨Try.sizeOf40⟩
theorem zer_40 : ZeroIs Try.prog 40 [.pointer none] := ⟨_, Try.zeroValue40, rfl⟩
theorem zec_40 : ZeroCells Try.prog 40 (.pointer none) := ⟨Try.zeroValue40⟩
theorem und_41 : UnderIs Try.prog 41 (.slice 5) := ⟨Try.underlying41⟩
theorem one_41 : IsOne Try.prog 41 := ⟨Try.isAgg41⟩
theorem siz_41 : SizeIs Try.prog 41 1 := ⟨Try.sizeOf41⟩
theorem zer_41 : ZeroIs Try.prog 41 [.slice none 0 0] := ⟨_, Try.zeroValue41, rfl⟩
theorem zec_41 : ZeroCells Try.prog 41 (.slice none 0 0) := ⟨Try.zeroValue41⟩
theorem agg_43 : IsAg Try.prog 43 4 := ⟨Try.isAgg43, Try.sizeOf43⟩
theorem siz_43 : SizeIs Try.prog 43 4 := ⟨Try.sizeOf43⟩
theorem zer_43 : ZeroIs Try.prog 43 [.string ⟨#[]⟩, .int .i64 0, .bool false, .int .i64 0] := ⟨_, Try.zeroValue43, rfl⟩
theorem zec_43 : ZeroCells Try.prog 43 (.agg #[.string ⟨#[]⟩, .int .i64 0, .bool false, .int .i64 0]) := ⟨Try.zeroValue43⟩
theorem agg_45 : IsAg Try.prog 45 4 := ⟨Try.isAgg45, Try.sizeOf45⟩
theorem siz_45 : SizeIs Try.prog 45 4 := ⟨Try.sizeOf45⟩
theorem zer_45 : ZeroIs Try.prog 45 [.string ⟨#[]⟩, .string ⟨#[]⟩, .int .i64 0, .int .i64 0] := ⟨_, Try.zeroValue45, rfl⟩
theorem zec_45 : ZeroCells Try.prog 45 (.agg #[.string ⟨#[]⟩, .string ⟨#[]⟩, .int .i64 0, .int .i64 0]) := ⟨Try.zeroValue45⟩
theorem und_67 : UnderIs Try.prog 67 (.slice 161) := ⟨Try.underlying67⟩
theorem one_67 : IsOne Try.prog 67 := ⟨Try.isAgg67⟩
theorem siz_67 : SizeIs Try.prog 67 1 := ⟨Try.sizeOf67⟩
theorem zer_67 : ZeroIs Try.prog 67 [.slice none 0 0] := ⟨_, Try.zeroValue67, rfl⟩
theorem zec_67 : ZeroCells Try.prog 67 (.slice none 0 0) := ⟨Try.zeroValue67⟩
theorem und_79 : UnderIs Try.prog 79 (.slice 82) := ⟨Try.underlying79⟩
theorem one_79 : IsOne Try.prog 79 := ⟨Try.isAgg79⟩
theorem siz_79 : SizeIs Try.prog 79 1 := ⟨Try.sizeOf79⟩
theorem zer_79 : ZeroIs Try.prog 79 [.slice none 0 0] := ⟨_, Try.zeroValue79, rfl⟩
theorem zec_79 : ZeroCells Try.prog 79 (.slice none 0 0) := ⟨Try.zeroValue79⟩
theorem agg_82 : IsAg Try.prog 82 2 := ⟨Try.isAgg82, Try.sizeOf82⟩
theorem siz_82 : SizeIs Try.prog 82 2 := ⟨Try.sizeOf82⟩
theorem zer_82 : ZeroIs Try.prog 82 [.string ⟨#[]⟩, .string ⟨#[]⟩] := ⟨_, Try.zeroValue82, rfl⟩
theorem zec_82 : ZeroCells Try.prog 82 (.agg #[.string ⟨#[]⟩, .string ⟨#[]⟩]) := ⟨Try.zeroValue82⟩
theorem und_94 : UnderIs Try.prog 94 (.slice 170) := ⟨Try.underlying94⟩
theorem one_94 : IsOne Try.prog 94 := ⟨Try.isAgg94⟩
theorem siz_94 : SizeIs Try.prog 94 1 := ⟨Try.sizeOf94⟩
theorem zer_94 : ZeroIs Try.prog 94 [.slice none 0 0] := ⟨_, Try.zeroValue94, rfl⟩
theorem zec_94 : ZeroCells Try.prog 94 (.slice none 0 0) := ⟨Try.zeroValue94⟩
theorem agg_96 : IsAg Try.prog 96 8 := ⟨Try.isAgg96, Try.sizeOf96⟩
theorem siz_96 : SizeIs Try.prog 96 8 := ⟨Try.sizeOf96⟩
theorem zer_96 : ZeroIs Try.prog 96 [.int .i64 0, .int .i64 0, .int .i64 0, .int .i64 0, .bool false, .slice none 0 0, .string ⟨#[]⟩, .slice none 0 0] := ⟨_, Try.zeroValue96, rfl⟩
theorem zec_96 : ZeroCells Try.prog 96 (.agg #[.int .i64 0, .int .i64 0, .int .i64 0, .int .i64 0, .bool false, .slice none 0 0, .string ⟨#[]⟩, .slice none 0 0]) := ⟨Try.zeroValue96⟩
theorem und_97 : UnderIs Try.prog 97 (.slice 9) := ⟨Try.underlying97⟩
theorem one_97 : IsOne Try.prog 97 := ⟨Try.isAgg97⟩
theorem siz_97 : SizeIs Try.prog 97 1 := ⟨Try.sizeOf97⟩
theorem zer_97 : ZeroIs Try.prog 97 [.slice none 0 0] := ⟨_, Try.zeroValue97, rfl⟩
theorem zec_97 : ZeroCells Try.prog 97 (.slice none 0 0) := ⟨Try.zeroValue97⟩
theorem und_112 : UnderIs Try.prog 112 (.slice 121) := ⟨Try.underlying112⟩
theorem one_112 : IsOne Try.prog 112 := ⟨Try.isAgg112⟩
theorem siz_112 : SizeIs Try.prog 112 1 := ⟨Try.sizeOf112⟩
theorem zer_112 : ZeroIs Try.prog 112 [.slice none 0 0] := ⟨_, Try.zeroValue112, rfl⟩
theorem zec_112 : ZeroCells Try.prog 112 (.slice none 0 0) := ⟨Try.zeroValue112⟩
theorem und_114 : UnderIs Try.prog 114 (.pointer 183) := ⟨Try.underlying114⟩
theorem one_114 : IsOne Try.prog 114 := ⟨Try.isAgg114⟩
theorem siz_114 : SizeIs Try.prog 114 1 := ⟨Try.sizeOf114⟩
theorem zer_114 : ZeroIs Try.prog 114 [.pointer none] := ⟨_, Try.zeroValue114, rfl⟩
theorem zec_114 : ZeroCells Try.prog 114 (.pointer none) := ⟨Try.zeroValue114⟩
theorem und_117 : UnderIs Try.prog 117 (.pointer 119) := ⟨Try.underlying117⟩
theorem one_117 : IsOne Try.prog 117 := ⟨Try.isAgg117⟩
theorem siz_117 : SizeIs Try.prog 117 1 := ⟨Try.sizeOf117⟩
theorem zer_117 : ZeroIs Try.prog 117 [.pointer none] := ⟨_, Try.zeroValue117, rfl⟩
theorem zec_117 : ZeroCells Try.prog 117 (.pointer none) := ⟨Try.zeroValue117⟩
theorem agg_119 : IsAg Try.prog 119 3 := ⟨Try.isAgg119, Try.sizeOf119⟩
theorem siz_119 : SizeIs Try.prog 119 3 := ⟨Try.sizeOf119⟩
theorem zer_119 : ZeroIs Try.prog 119 [.int .i64 0, .slice none 0 0, .slice none 0 0] := ⟨_, Try.zeroValue119, rfl⟩
theorem zec_119 : ZeroCells Try.prog 119 (.agg #[.int .i64 0, .slice none 0 0, .slice none 0 0]) := ⟨Try.zeroValue119⟩
theorem agg_121 : IsAg Try.prog 121 3 := ⟨Try.isAgg121, Try.sizeOf121⟩
theorem siz_121 : SizeIs Try.prog 121 3 := ⟨Try.sizeOf121⟩
theorem zer_121 : ZeroIs Try.prog 121 [.bool false, .int .i64 0, .int .i64 0] := ⟨_, Try.zeroValue121, rfl⟩
theorem zec_121 : ZeroCells Try.prog 121 (.agg #[.bool false, .int .i64 0, .int .i64 0]) := ⟨Try.zeroValue121⟩
theorem und_136 : UnderIs Try.prog 136 (.slice 96) := ⟨Try.underlying136⟩
theorem one_136 : IsOne Try.prog 136 := ⟨Try.isAgg136⟩
theorem siz_136 : SizeIs Try.prog 136 1 := ⟨Try.sizeOf136⟩
theorem zer_136 : ZeroIs Try.prog 136 [.slice none 0 0] := ⟨_, Try.zeroValue136, rfl⟩
theorem zec_136 : ZeroCells Try.prog 136 (.slice none 0 0) := ⟨Try.zeroValue136⟩
theorem agg_138 : IsAg Try.prog 138 2 := ⟨Try.isAgg138, Try.sizeOf138⟩
theorem siz_138 : SizeIs Try.prog 138 2 := ⟨Try.sizeOf138⟩
theorem zer_138 : ZeroIs Try.prog 138 [.slice none 0 0, .slice none 0 0] := ⟨_, Try.zeroValue138, rfl⟩
theorem zec_138 : ZeroCells Try.prog 138 (.agg #[.slice none 0 0, .slice none 0 0]) := ⟨Try.zeroValue138⟩
theorem und_155 : UnderIs Try.prog 155 (.int .i64) := ⟨Try.underlying155⟩
theorem one_155 : IsOne Try.prog 155 := ⟨Try.isAgg155⟩
theorem siz_155 : SizeIs Try.prog 155 1 := ⟨Try.sizeOf155⟩
theorem zer_155 : ZeroIs Try.prog 155 [.int .i64 0] := ⟨_, Try.zeroValue155, rfl⟩
theorem zec_155 : ZeroCells Try.prog 155 (.int .i64 0) := ⟨Try.zeroValue155⟩
theorem agg_157 : IsAg Try.prog 157 4 := ⟨Try.isAgg157, Try.sizeOf157⟩
theorem siz_157 : SizeIs Try.prog 157 4 := ⟨Try.sizeOf157⟩
theorem zer_157 : ZeroIs Try.prog 157 [.slice none 0 0, .int .i64 0, .bool false, .int .i64 0] := ⟨_, Try.zeroValue157, rfl⟩
theorem zec_157 : ZeroCells Try.prog 157 (.agg #[.slice none 0 0, .int .i64 0, .bool false, .int .i64 0]) := ⟨Try.zeroValue157⟩
theorem agg_161 : IsAg Try.prog 161 3 := ⟨Try.isAgg161, Try.sizeOf161⟩
theorem siz_161 : SizeIs Try.prog 161 3 := ⟨Try.sizeOf161⟩
theorem zer_161 : ZeroIs Try.prog 161 [.int .i64 0, .int .i64 0, .int .i64 0] := ⟨_, Try.zeroValue161, rfl⟩
theorem zec_161 : ZeroCells Try.prog 161 (.agg #[.int .i64 0, .int .i64 0, .int .i64 0]) := ⟨Try.zeroValue161⟩
theorem agg_170 : IsAg Try.prog 170 9 := ⟨Try.isAgg170, Try.sizeOf170⟩
theorem siz_170 : SizeIs Try.prog 170 9 := ⟨Try.sizeOf170⟩
theorem zer_170 : ZeroIs Try.prog 170 [.string ⟨#[]⟩, .int .i64 0, .int .i64 0, .int .i64 0, .int .i64 0, .bool false, .slice none 0 0, .string ⟨#[]⟩, .slice none 0 0] := ⟨_, Try.zeroValue170, rfl⟩
theorem zec_170 : ZeroCells Try.prog 170 (.agg #[.string ⟨#[]⟩, .int .i64 0, .int .i64 0, .int .i64 0, .int .i64 0, .bool false, .slice none 0 0, .string ⟨#[]⟩, .slice none 0 0]) := ⟨Try.zeroValue170⟩
theorem agg_174 : IsAg Try.prog 174 2 := ⟨Try.isAgg174, Try.sizeOf174⟩
theorem siz_174 : SizeIs Try.prog 174 2 := ⟨Try.sizeOf174⟩
theorem zer_174 : ZeroIs Try.prog 174 [.int .i64 0, .int .i64 0] := ⟨_, Try.zeroValue174, rfl⟩
theorem zec_174 : ZeroCells Try.prog 174 (.agg #[.int .i64 0, .int .i64 0]) := ⟨Try.zeroValue174⟩
theorem und_181 : UnderIs Try.prog 181 (.map 3 3) := ⟨Try.underlying181⟩
theorem one_181 : IsOne Try.prog 181 := ⟨Try.isAgg181⟩
theorem siz_181 : SizeIs Try.prog 181 1 := ⟨Try.sizeOf181⟩
theorem zer_181 : ZeroIs Try.prog 181 [.map none] := ⟨_, Try.zeroValue181, rfl⟩
theorem zec_181 : ZeroCells Try.prog 181 (.map none) := ⟨Try.zeroValue181⟩
theorem agg_183 : IsAg Try.prog 183 3 := ⟨Try.isAgg183, Try.sizeOf183⟩
theorem siz_183 : SizeIs Try.prog 183 3 := ⟨Try.sizeOf183⟩
theorem zer_183 : ZeroIs Try.prog 183 [.int .i64 0, .int .i64 0, .map none] := ⟨_, Try.zeroValue183, rfl⟩
theorem zec_183 : ZeroCells Try.prog 183 (.agg #[.int .i64 0, .int .i64 0, .map none]) := ⟨Try.zeroValue183⟩
theorem und_189 : UnderIs Try.prog 189 (.pointer 191) := ⟨Try.underlying189⟩
theorem one_189 : IsOne Try.prog 189 := ⟨Try.isAgg189⟩
theorem siz_189 : SizeIs Try.prog 189 1 := ⟨Try.sizeOf189⟩
theorem zer_189 : ZeroIs Try.prog 189 [.pointer none] := ⟨_, Try.zeroValue189, rfl⟩
theorem zec_189 : ZeroCells Try.prog 189 (.pointer none) := ⟨Try.zeroValue189⟩
theorem agg_191 : IsAg Try.prog 191 2 := ⟨Try.isAgg191, Try.sizeOf191⟩
theorem siz_191 : SizeIs Try.prog 191 2 := ⟨Try.sizeOf191⟩
theorem zer_191 : ZeroIs Try.prog 191 [.string ⟨#[]⟩, .bool false] := ⟨_, Try.zeroValue191, rfl⟩
theorem zec_191 : ZeroCells Try.prog 191 (.agg #[.string ⟨#[]⟩, .bool false]) := ⟨Try.zeroValue191⟩
theorem und_193 : UnderIs Try.prog 193 (.pointer 195) := ⟨Try.underlying193⟩
theorem one_193 : IsOne Try.prog 193 := ⟨Try.isAgg193⟩
theorem siz_193 : SizeIs Try.prog 193 1 := ⟨Try.sizeOf193⟩
theorem zer_193 : ZeroIs Try.prog 193 [.pointer none] := ⟨_, Try.zeroValue193, rfl⟩
theorem zec_193 : ZeroCells Try.prog 193 (.pointer none) := ⟨Try.zeroValue193⟩
theorem agg_195 : IsAg Try.prog 195 3 := ⟨Try.isAgg195, Try.sizeOf195⟩
theorem siz_195 : SizeIs Try.prog 195 3 := ⟨Try.sizeOf195⟩
theorem zer_195 : ZeroIs Try.prog 195 [.string ⟨#[]⟩, .int .i64 0, .bool false] := ⟨_, Try.zeroValue195, rfl⟩
theorem zec_195 : ZeroCells Try.prog 195 (.agg #[.string ⟨#[]⟩, .int .i64 0, .bool false]) := ⟨Try.zeroValue195⟩
theorem und_196 : UnderIs Try.prog 196 (.pointer 198) := ⟨Try.underlying196⟩
theorem one_196 : IsOne Try.prog 196 := ⟨Try.isAgg196⟩
theorem siz_196 : SizeIs Try.prog 196 1 := ⟨Try.sizeOf196⟩
theorem zer_196 : ZeroIs Try.prog 196 [.pointer none] := ⟨_, Try.zeroValue196, rfl⟩
theorem zec_196 : ZeroCells Try.prog 196 (.pointer none) := ⟨Try.zeroValue196⟩
theorem agg_198 : IsAg Try.prog 198 2 := ⟨Try.isAgg198, Try.sizeOf198⟩
theorem siz_198 : SizeIs Try.prog 198 2 := ⟨Try.sizeOf198⟩
theorem zer_198 : ZeroIs Try.prog 198 [.pointer none, .slice none 0 0] := ⟨_, Try.zeroValue198, rfl⟩
theorem zec_198 : ZeroCells Try.prog 198 (.agg #[.pointer none, .slice none 0 0]) := ⟨Try.zeroValue198⟩
theorem und_200 : UnderIs Try.prog 200 (.int .u64) := ⟨Try.underlying200⟩
theorem one_200 : IsOne Try.prog 200 := ⟨Try.isAgg200⟩
theorem siz_200 : SizeIs Try.prog 200 1 := ⟨Try.sizeOf200⟩
theorem zer_200 : ZeroIs Try.prog 200 [.int .u64 0] := ⟨_, Try.zeroValue200, rfl⟩
theorem zec_200 : ZeroCells Try.prog 200 (.int .u64 0) := ⟨Try.zeroValue200⟩
theorem und_204 : UnderIs Try.prog 204 (.pointer 174) := ⟨Try.underlying204⟩
theorem one_204 : IsOne Try.prog 204 := ⟨Try.isAgg204⟩
theorem siz_204 : SizeIs Try.prog 204 1 := ⟨Try.sizeOf204⟩
theorem zer_204 : ZeroIs Try.prog 204 [.pointer none] := ⟨_, Try.zeroValue204, rfl⟩
theorem zec_204 : ZeroCells Try.prog 204 (.pointer none) := ⟨Try.zeroValue204⟩
theorem und_210 : UnderIs Try.prog 210 (.slice 213) := ⟨Try.underlying210⟩
theorem one_210 : IsOne Try.prog 210 := ⟨Try.isAgg210⟩
theorem siz_210 : SizeIs Try.prog 210 1 := ⟨Try.sizeOf210⟩
theorem zer_210 : ZeroIs Try.prog 210 [.slice none 0 0] := ⟨_, Try.zeroValue210, rfl⟩
theorem zec_210 : ZeroCells Try.prog 210 (.slice none 0 0) := ⟨Try.zeroValue210⟩
theorem agg_213 : IsAg Try.prog 213 9 := ⟨Try.isAgg213, Try.sizeOf213⟩
theorem siz_213 : SizeIs Try.prog 213 9 := ⟨Try.sizeOf213⟩
theorem zer_213 : ZeroIs Try.prog 213 [.int .i64 0, .int .i64 0, .int .i64 0, .int .i64 0, .bool false, .slice none 0 0, .string ⟨#[]⟩, .slice none 0 0, .int .i64 0] := ⟨_, Try.zeroValue213, rfl⟩
theorem zec_213 : ZeroCells Try.prog 213 (.agg #[.int .i64 0, .int .i64 0, .int .i64 0, .int .i64 0, .bool false, .slice none 0 0, .string ⟨#[]⟩, .slice none 0 0, .int .i64 0]) := ⟨Try.zeroValue213⟩
theorem und_214 : UnderIs Try.prog 214 (.slice 217) := ⟨Try.underlying214⟩
theorem one_214 : IsOne Try.prog 214 := ⟨Try.isAgg214⟩
theorem siz_214 : SizeIs Try.prog 214 1 := ⟨Try.sizeOf214⟩
theorem zer_214 : ZeroIs Try.prog 214 [.slice none 0 0] := ⟨_, Try.zeroValue214, rfl⟩
theorem zec_214 : ZeroCells Try.prog 214 (.slice none 0 0) := ⟨Try.zeroValue214⟩
theorem agg_217 : IsAg Try.prog 217 9 := ⟨Try.isAgg217, Try.sizeOf217⟩
theorem siz_217 : SizeIs Try.prog 217 9 := ⟨Try.sizeOf217⟩
theorem zer_217 : ZeroIs Try.prog 217 [.int .i64 0, .int .i64 0, .int .i64 0, .int .i64 0, .bool false, .slice none 0 0, .string ⟨#[]⟩, .slice none 0 0, .int .i64 0] := ⟨_, Try.zeroValue217, rfl⟩
theorem zec_217 : ZeroCells Try.prog 217 (.agg #[.int .i64 0, .int .i64 0, .int .i64 0, .int .i64 0, .bool false, .slice none 0 0, .string ⟨#[]⟩, .slice none 0 0, .int .i64 0]) := ⟨Try.zeroValue217⟩
theorem und_220 : UnderIs Try.prog 220 (.pointer 5) := ⟨Try.underlying220⟩
theorem one_220 : IsOne Try.prog 220 := ⟨Try.isAgg220⟩
theorem siz_220 : SizeIs Try.prog 220 1 := ⟨Try.sizeOf220⟩
theorem zer_220 : ZeroIs Try.prog 220 [.pointer none] := ⟨_, Try.zeroValue220, rfl⟩
theorem zec_220 : ZeroCells Try.prog 220 (.pointer none) := ⟨Try.zeroValue220⟩
theorem agg_221 : IsAg Try.prog 221 3 := ⟨Try.isAgg221, Try.sizeOf221⟩
theorem siz_221 : SizeIs Try.prog 221 3 := ⟨Try.sizeOf221⟩
theorem zer_221 : ZeroIs Try.prog 221 [.int .i64 0, .int .i64 0, .int .i64 0] := ⟨_, Try.zeroValue221, rfl⟩
theorem zec_221 : ZeroCells Try.prog 221 (.agg #[.int .i64 0, .int .i64 0, .int .i64 0]) := ⟨Try.zeroValue221⟩
theorem one_227 : IsOne Try.prog 227 := ⟨Try.isAgg227⟩
theorem siz_227 : SizeIs Try.prog 227 1 := ⟨Try.sizeOf227⟩
theorem inf_3 : InfoIs Try.prog 3 1 8 := ⟨by obtain ⟨i, h0, h1, h2, h3⟩ := info_parts (show (Try.prog.info? 3).map (fun i => (i.zero, i.size, i.bytes)) = some (some (.int .i64 0), 1, 8) by kernel_rfl); exact ⟨i, _, h0, h1, h2, h3, rfl⟩⟩
theorem inf_45 : InfoIs Try.prog 45 4 48 := ⟨by obtain ⟨i, h0, h1, h2, h3⟩ := info_parts (show (Try.prog.info? 45).map (fun i => (i.zero, i.size, i.bytes)) = some (some (.agg #[.string ⟨#[]⟩, .string ⟨#[]⟩, .int .i64 0, .int .i64 0]), 4, 48) by kernel_rfl); exact ⟨i, _, h0, h1, h2, h3, rfl⟩⟩
theorem inf_5 : InfoIs Try.prog 5 1 1 := ⟨by obtain ⟨i, h0, h1, h2, h3⟩ := info_parts (show (Try.prog.info? 5).map (fun i => (i.zero, i.size, i.bytes)) = some (some (.int .u8 0), 1, 1) by kernel_rfl); exact ⟨i, _, h0, h1, h2, h3, rfl⟩⟩
theorem inf_161 : InfoIs Try.prog 161 3 24 := ⟨by obtain ⟨i, h0, h1, h2, h3⟩ := info_parts (show (Try.prog.info? 161).map (fun i => (i.zero, i.size, i.bytes)) = some (some (.agg #[.int .i64 0, .int .i64 0, .int .i64 0]), 3, 24) by kernel_rfl); exact ⟨i, _, h0, h1, h2, h3, rfl⟩⟩
theorem inf_82 : InfoIs Try.prog 82 2 32 := ⟨by obtain ⟨i, h0, h1, h2, h3⟩ := info_parts (show (Try.prog.info? 82).map (fun i => (i.zero, i.size, i.bytes)) = some (some (.agg #[.string ⟨#[]⟩, .string ⟨#[]⟩]), 2, 32) by kernel_rfl); exact ⟨i, _, h0, h1, h2, h3, rfl⟩⟩
theorem inf_170 : InfoIs Try.prog 170 9 120 := ⟨by obtain ⟨i, h0, h1, h2, h3⟩ := info_parts (show (Try.prog.info? 170).map (fun i => (i.zero, i.size, i.bytes)) = some (some (.agg #[.string ⟨#[]⟩, .int .i64 0, .int .i64 0, .int .i64 0, .int .i64 0, .bool false, .slice none 0 0, .string ⟨#[]⟩, .slice none 0 0]), 9, 120) by kernel_rfl); exact ⟨i, _, h0, h1, h2, h3, rfl⟩⟩
theorem inf_9 : InfoIs Try.prog 9 1 16 := ⟨by obtain ⟨i, h0, h1, h2, h3⟩ := info_parts (show (Try.prog.info? 9).map (fun i => (i.zero, i.size, i.bytes)) = some (some (.string ⟨#[]⟩), 1, 16) by kernel_rfl); exact ⟨i, _, h0, h1, h2, h3, rfl⟩⟩
theorem inf_121 : InfoIs Try.prog 121 3 24 := ⟨by obtain ⟨i, h0, h1, h2, h3⟩ := info_parts (show (Try.prog.info? 121).map (fun i => (i.zero, i.size, i.bytes)) = some (some (.agg #[.bool false, .int .i64 0, .int .i64 0]), 3, 24) by kernel_rfl); exact ⟨i, _, h0, h1, h2, h3, rfl⟩⟩
theorem inf_96 : InfoIs Try.prog 96 8 104 := ⟨by obtain ⟨i, h0, h1, h2, h3⟩ := info_parts (show (Try.prog.info? 96).map (fun i => (i.zero, i.size, i.bytes)) = some (some (.agg #[.int .i64 0, .int .i64 0, .int .i64 0, .int .i64 0, .bool false, .slice none 0 0, .string ⟨#[]⟩, .slice none 0 0]), 8, 104) by kernel_rfl); exact ⟨i, _, h0, h1, h2, h3, rfl⟩⟩
theorem inf_213 : InfoIs Try.prog 213 9 112 := ⟨by obtain ⟨i, h0, h1, h2, h3⟩ := info_parts (show (Try.prog.info? 213).map (fun i => (i.zero, i.size, i.bytes)) = some (some (.agg #[.int .i64 0, .int .i64 0, .int .i64 0, .int .i64 0, .bool false, .slice none 0 0, .string ⟨#[]⟩, .slice none 0 0, .int .i64 0]), 9, 112) by kernel_rfl); exact ⟨i, _, h0, h1, h2, h3, rfl⟩⟩
theorem inf_217 : InfoIs Try.prog 217 9 112 := ⟨by obtain ⟨i, h0, h1, h2, h3⟩ := info_parts (show (Try.prog.info? 217).map (fun i => (i.zero, i.size, i.bytes)) = some (some (.agg #[.int .i64 0, .int .i64 0, .int .i64 0, .int .i64 0, .bool false, .slice none 0 0, .string ⟨#[]⟩, .slice none 0 0, .int .i64 0]), 9, 112) by kernel_rfl); exact ⟨i, _, h0, h1, h2, h3, rfl⟩⟩
theorem bld_24 : BuildIs Try.prog 24 [(0, 1), (1, 1), (2, 1), (3, 1)] [.int .i64 0, .int .i64 0, .slice none 0 0, .int .i64 0] := ⟨⟨_, Try.runUnderlying24, fun w => by kernel_rfl⟩, ⟨_, Try.zeroValue24, rfl⟩⟩
theorem bld_26 : BuildIs Try.prog 26 [(0, 1), (1, 1), (2, 1), (3, 1), (4, 1)] [.bool false, .int .i64 0, .int .i64 0, .int .i64 0, .bool false] := ⟨⟨_, Try.runUnderlying26, fun w => by kernel_rfl⟩, ⟨_, Try.zeroValue26, rfl⟩⟩
theorem bld_43 : BuildIs Try.prog 43 [(0, 1), (1, 1), (2, 1), (3, 1)] [.string ⟨#[]⟩, .int .i64 0, .bool false, .int .i64 0] := ⟨⟨_, Try.runUnderlying43, fun w => by kernel_rfl⟩, ⟨_, Try.zeroValue43, rfl⟩⟩
theorem bld_82 : BuildIs Try.prog 82 [(0, 1), (1, 1)] [.string ⟨#[]⟩, .string ⟨#[]⟩] := ⟨⟨_, Try.runUnderlying82, fun w => by kernel_rfl⟩, ⟨_, Try.zeroValue82, rfl⟩⟩
theorem bld_96 : BuildIs Try.prog 96 [(0, 1), (1, 1), (2, 1), (3, 1), (4, 1), (5, 1), (6, 1), (7, 1)] [.int .i64 0, .int .i64 0, .int .i64 0, .int .i64 0, .bool false, .slice none 0 0, .string ⟨#[]⟩, .slice none 0 0] := ⟨⟨_, Try.runUnderlying96, fun w => by kernel_rfl⟩, ⟨_, Try.zeroValue96, rfl⟩⟩
theorem bld_119 : BuildIs Try.prog 119 [(0, 1), (1, 1), (2, 1)] [.int .i64 0, .slice none 0 0, .slice none 0 0] := ⟨⟨_, Try.runUnderlying119, fun w => by kernel_rfl⟩, ⟨_, Try.zeroValue119, rfl⟩⟩
theorem bld_138 : BuildIs Try.prog 138 [(0, 1), (1, 1)] [.slice none 0 0, .slice none 0 0] := ⟨⟨_, Try.runUnderlying138, fun w => by kernel_rfl⟩, ⟨_, Try.zeroValue138, rfl⟩⟩
theorem bld_157 : BuildIs Try.prog 157 [(0, 1), (1, 1), (2, 1), (3, 1)] [.slice none 0 0, .int .i64 0, .bool false, .int .i64 0] := ⟨⟨_, Try.runUnderlying157, fun w => by kernel_rfl⟩, ⟨_, Try.zeroValue157, rfl⟩⟩
theorem bld_161 : BuildIs Try.prog 161 [(0, 1), (1, 1), (2, 1)] [.int .i64 0, .int .i64 0, .int .i64 0] := ⟨⟨_, Try.runUnderlying161, fun w => by kernel_rfl⟩, ⟨_, Try.zeroValue161, rfl⟩⟩
theorem bld_170 : BuildIs Try.prog 170 [(0, 1), (1, 8)] [.string ⟨#[]⟩, .int .i64 0, .int .i64 0, .int .i64 0, .int .i64 0, .bool false, .slice none 0 0, .string ⟨#[]⟩, .slice none 0 0] := ⟨⟨_, Try.runUnderlying170, fun w => by kernel_rfl⟩, ⟨_, Try.zeroValue170, rfl⟩⟩
theorem bld_183 : BuildIs Try.prog 183 [(0, 1), (1, 1), (2, 1)] [.int .i64 0, .int .i64 0, .map none] := ⟨⟨_, Try.runUnderlying183, fun w => by kernel_rfl⟩, ⟨_, Try.zeroValue183, rfl⟩⟩
theorem bld_191 : BuildIs Try.prog 191 [(0, 1), (1, 1)] [.string ⟨#[]⟩, .bool false] := ⟨⟨_, Try.runUnderlying191, fun w => by kernel_rfl⟩, ⟨_, Try.zeroValue191, rfl⟩⟩
theorem bld_195 : BuildIs Try.prog 195 [(0, 1), (1, 1), (2, 1)] [.string ⟨#[]⟩, .int .i64 0, .bool false] := ⟨⟨_, Try.runUnderlying195, fun w => by kernel_rfl⟩, ⟨_, Try.zeroValue195, rfl⟩⟩
theorem bld_213 : BuildIs Try.prog 213 [(0, 8), (8, 1)] [.int .i64 0, .int .i64 0, .int .i64 0, .int .i64 0, .bool false, .slice none 0 0, .string ⟨#[]⟩, .slice none 0 0, .int .i64 0] := ⟨⟨_, Try.runUnderlying213, fun w => by kernel_rfl⟩, ⟨_, Try.zeroValue213, rfl⟩⟩
theorem bld_217 : BuildIs Try.prog 217 [(0, 8), (8, 1)] [.int .i64 0, .int .i64 0, .int .i64 0, .int .i64 0, .bool false, .slice none 0 0, .string ⟨#[]⟩, .slice none 0 0, .int .i64 0] := ⟨⟨_, Try.runUnderlying217, fun w => by kernel_rfl⟩, ⟨_, Try.zeroValue217, rfl⟩⟩
end Go.Proofs.Ytejkmomfpidnbaa
