/- Closed facts on the types of the program. Printed by a program of our own (steps.py). -/
import Derived.Test.YtejkmomfpidnbabProg
import Derived.Test.YtejkmomfpidnbabChecked
import Derived.Test.YtejkmomfpidnbabCore
import Derived.KernelRfl
namespace Go.Proofs.Ytejkmomfpidnbab
open Go.RowKit
theorem mixed : Try.prog.follows .mixedOrders = true := by kernel_rfl
theorem fld_24_0 : FieldIs Try.prog 24 0 0 := ⟨fun a w => by kernel_rfl⟩
theorem fld_24_1 : FieldIs Try.prog 24 1 1 := ⟨fun a w => by kernel_rfl⟩
theorem fld_24_2 : FieldIs Try.prog 24 2 2 := ⟨fun a w => by kernel_rfl⟩
theorem fld_24_3 : FieldIs Try.prog 24 3 3 := ⟨fun a w => by kernel_rfl⟩
theorem fld_37_0 : FieldIs Try.prog 37 0 0 := ⟨fun a w => by kernel_rfl⟩
theorem fld_37_1 : FieldIs Try.prog 37 1 1 := ⟨fun a w => by kernel_rfl⟩
theorem fld_37_2 : FieldIs Try.prog 37 2 2 := ⟨fun a w => by kernel_rfl⟩
theorem fld_37_3 : FieldIs Try.prog 37 3 3 := ⟨fun a w => by kernel_rfl⟩
theorem fld_37_4 : FieldIs Try.prog 37 4 4 := ⟨fun a w => by kernel_rfl⟩
theorem fld_37_5 : FieldIs Try.prog 37 5 5 := ⟨fun a w => by kernel_rfl⟩
theorem fld_37_6 : FieldIs Try.prog 37 6 6 := ⟨fun a w => by kernel_rfl⟩
theorem fld_37_7 : FieldIs Try.prog 37 7 7 := ⟨fun a w => by kernel_rfl⟩
theorem fld_64_0 : FieldIs Try.prog 64 0 0 := ⟨fun a w => by kernel_rfl⟩
theorem fld_64_1 : FieldIs Try.prog 64 1 1 := ⟨fun a w => by kernel_rfl⟩
theorem fld_78_0 : FieldIs Try.prog 78 0 0 := ⟨fun a w => by kernel_rfl⟩
theorem fld_78_1 : FieldIs Try.prog 78 1 1 := ⟨fun a w => by kernel_rfl⟩
theorem fld_78_2 : FieldIs Try.prog 78 2 2 := ⟨fun a w => by kernel_rfl⟩
theorem fld_95_0 : FieldIs Try.prog 95 0 0 := ⟨fun a w => by kernel_rfl⟩
theorem fld_95_1 : FieldIs Try.prog 95 1 1 := ⟨fun a w => by kernel_rfl⟩
theorem fld_101_0 : FieldIs Try.prog 101 0 0 := ⟨fun a w => by kernel_rfl⟩
theorem fld_101_1 : FieldIs Try.prog 101 1 1 := ⟨fun a w => by kernel_rfl⟩
theorem fld_104_0 : FieldIs Try.prog 104 0 0 := ⟨fun a w => by kernel_rfl⟩
theorem fld_104_1 : FieldIs Try.prog 104 1 1 := ⟨fun a w => by kernel_rfl⟩
theorem fld_107_0 : FieldIs Try.prog 107 0 0 := ⟨fun a w => by kernel_rfl⟩
theorem fld_107_1 : FieldIs Try.prog 107 1 1 := ⟨fun a w => by kernel_rfl⟩
theorem fld_113_0 : FieldIs Try.prog 113 0 0 := ⟨fun a w => by kernel_rfl⟩
theorem fld_113_1 : FieldIs Try.prog 113 1 8 := ⟨fun a w => by kernel_rfl⟩
theorem fld_117_0 : FieldIs Try.prog 117 0 0 := ⟨fun a w => by kernel_rfl⟩
theorem fld_117_1 : FieldIs Try.prog 117 1 8 := ⟨fun a w => by kernel_rfl⟩
theorem fld_128_0 : FieldIs Try.prog 128 0 0 := ⟨fun a w => by kernel_rfl⟩
theorem fld_128_1 : FieldIs Try.prog 128 1 2 := ⟨fun a w => by kernel_rfl⟩
theorem fld_128_2 : FieldIs Try.prog 128 2 6 := ⟨fun a w => by kernel_rfl⟩
theorem fld_128_3 : FieldIs Try.prog 128 3 7 := ⟨fun a w => by kernel_rfl⟩
theorem fld_131_0 : FieldIs Try.prog 131 0 0 := ⟨fun a w => by kernel_rfl⟩
theorem fld_131_1 : FieldIs Try.prog 131 1 1 := ⟨fun a w => by kernel_rfl⟩
theorem fld_131_2 : FieldIs Try.prog 131 2 2 := ⟨fun a w => by kernel_rfl⟩
theorem fld_131_3 : FieldIs Try.prog 131 3 3 := ⟨fun a w => by kernel_rfl⟩
theorem fld_140_0 : FieldIs Try.prog 140 0 0 := ⟨fun a w => by kernel_rfl⟩
theorem fld_140_1 : FieldIs Try.prog 140 1 1 := ⟨fun a w => by kernel_rfl⟩
theorem fld_140_2 : FieldIs Try.prog 140 2 2 := ⟨fun a w => by kernel_rfl⟩
theorem fld_140_3 : FieldIs Try.prog 140 3 3 := ⟨fun a w => by kernel_rfl⟩
theorem fld_140_4 : FieldIs Try.prog 140 4 4 := ⟨fun a w => by kernel_rfl⟩
theorem fld_140_5 : FieldIs Try.prog 140 5 5 := ⟨fun a w => by kernel_rfl⟩
theorem fld_140_6 : FieldIs Try.prog 140 6 10 := ⟨fun a w => by kernel_rfl⟩
theorem fld_158_0 : FieldIs Try.prog 158 0 0 := ⟨fun a w => by kernel_rfl⟩
theorem fld_158_1 : FieldIs Try.prog 158 1 1 := ⟨fun a w => by kernel_rfl⟩
theorem fld_180_0 : FieldIs Try.prog 180 0 0 := ⟨fun a w => by kernel_rfl⟩
theorem fld_180_1 : FieldIs Try.prog 180 1 8 := ⟨fun a w => by kernel_rfl⟩
theorem fld_180_2 : FieldIs Try.prog 180 2 9 := ⟨fun a w => by kernel_rfl⟩
theorem fld_180_3 : FieldIs Try.prog 180 3 11 := ⟨fun a w => by kernel_rfl⟩
theorem fld_180_4 : FieldIs Try.prog 180 4 12 := ⟨fun a w => by kernel_rfl⟩
theorem fld_191_0 : FieldIs Try.prog 191 0 0 := ⟨fun a w => by kernel_rfl⟩
theorem fld_191_1 : FieldIs Try.prog 191 1 1 := ⟨fun a w => by kernel_rfl⟩
theorem fld_193_0 : FieldIs Try.prog 193 0 0 := ⟨fun a w => by kernel_rfl⟩
theorem fld_193_1 : FieldIs Try.prog 193 1 8 := ⟨fun a w => by kernel_rfl⟩
theorem fld_208_0 : FieldIs Try.prog 208 0 0 := ⟨fun a w => by kernel_rfl⟩
theorem fld_208_1 : FieldIs Try.prog 208 1 2 := ⟨fun a w => by kernel_rfl⟩
theorem fld_208_3 : FieldIs Try.prog 208 3 7 := ⟨fun a w => by kernel_rfl⟩
theorem fld_212_0 : FieldIs Try.prog 212 0 0 := ⟨fun a w => by kernel_rfl⟩
theorem fld_212_1 : FieldIs Try.prog 212 1 1 := ⟨fun a w => by kernel_rfl⟩
theorem fld_212_2 : FieldIs Try.prog 212 2 2 := ⟨fun a w => by kernel_rfl⟩
theorem und_3 : UnderIs Try.prog 3 (.int .i64) := ⟨Try.underlying3⟩
theorem one_3 : IsOne Try.prog 3 := ⟨Try.isAgg3⟩
theorem siz_3 : SizeIs Try.prog 3 1 := ⟨Try.sizeOf3⟩
theorem zer_3 : ZeroIs Try.prog 3 [.int .i64 0] := ⟨_, Try.zeroValue3, rfl⟩
theorem zec_3 : ZeroCells Try.prog 3 (.int .i64 0) := ⟨Try.zeroValue3⟩
theorem und_4 : UnderIs Try.prog 4 .bool := ⟨Try.underlying4⟩
theorem one_4 : IsOne Try.prog 4 := ⟨Try.isAgg4⟩
theorem siz_4 : SizeIs Try.prog 4 1 := ⟨Try.sizeOf4⟩
theorem zer_4 : ZeroIs Try.prog 4 [.bool false] := ⟨_, Try.zeroValue4, rfl⟩
theorem zec_4 : ZeroCells Try.prog 4 (.bool false) := ⟨Try.zeroValue4⟩
theorem und_5 : UnderIs Try.prog 5 (.int .u8) := ⟨Try.underlying5⟩
theorem one_5 : IsOne Try.prog 5 := ⟨Try.isAgg5⟩
theorem siz_5 : SizeIs Try.prog 5 1 := ⟨Try.sizeOf5⟩
theorem zer_5 : ZeroIs Try.prog 5 [.int .u8 0] := ⟨_, Try.zeroValue5, rfl⟩
theorem zec_5 : ZeroCells Try.prog 5 (.int .u8 0) := ⟨Try.zeroValue5⟩
theorem und_9 : UnderIs Try.prog 9 .string := ⟨Try.underlying9⟩
theorem one_9 : IsOne Try.prog 9 := ⟨Try.isAgg9⟩
theorem siz_9 : SizeIs Try.prog 9 1 := ⟨Try.sizeOf9⟩
theorem zer_9 : ZeroIs Try.prog 9 [.string ⟨#[]⟩] := ⟨_, Try.zeroValue9, rfl⟩
theorem zec_9 : ZeroCells Try.prog 9 (.string ⟨#[]⟩) := ⟨Try.zeroValue9⟩
theorem und_22 : UnderIs Try.prog 22 (.slice 3) := ⟨Try.underlying22⟩
theorem one_22 : IsOne Try.prog 22 := ⟨Try.isAgg22⟩
theorem siz_22 : SizeIs Try.prog 22 1 := ⟨Try.sizeOf22⟩
theorem zer_22 : ZeroIs Try.prog 22 [.slice none 0 0] := ⟨_, Try.zeroValue22, rfl⟩
theorem zec_22 : ZeroCells Try.prog 22 (.slice none 0 0) := ⟨Try.zeroValue22⟩
theorem agg_24 : IsAg Try.prog 24 4 := ⟨Try.isAgg24, Try.sizeOf24⟩
theorem siz_24 : SizeIs Try.prog 24 4 := ⟨Try.sizeOf24⟩
theorem zer_24 : ZeroIs Try.prog 24 [.int .i64 0, .int .i64 0, .slice none 0 0, .int .i64 0] := ⟨_, Try.zeroValue24, rfl⟩
theorem zec_24 : ZeroCells Try.prog 24 (.agg #[.int .i64 0, .int .i64 0, .slice none 0 0, .int .i64 0]) := ⟨Try.zeroValue24⟩
theorem one_26 : IsOne Try.prog 26 := ⟨Try.isAgg26⟩
theorem siz_26 : SizeIs Try.prog 26 1 := ⟨Try.sizeOf26⟩
theorem zer_26 : ZeroIs Try.prog 26 [.nilIface] := ⟨_, Try.zeroValue26, rfl⟩
theorem zec_26 : ZeroCells Try.prog 26 (.nilIface) := ⟨Try.zeroValue26⟩
theorem und_34 : UnderIs Try.prog 34 (.slice 158) := ⟨Try.underlying34⟩
theorem one_34 : IsOne Try.prog 34 := ⟨Try.isAgg34⟩
theorem siz_34 : SizeIs Try.prog 34 1 := ⟨Try.sizeOf34⟩
theorem zer_34 : ZeroIs Try.prog 34 [.slice none 0 0] := ⟨_, Try.zeroValue34, rfl⟩
theorem zec_34 : ZeroCells Try.prog 34 (.slice none 0 0) := ⟨Try.zeroValue34⟩
theorem und_35 : UnderIs Try.prog 35 (.slice 104) := ⟨Try.underlying35⟩
theorem one_35 : IsOne Try.prog 35 := ⟨Try.isAgg35⟩
theorem siz_35 : SizeIs Try.prog 35 1 := ⟨Try.sizeOf35⟩
theorem zer_35 : ZeroIs Try.prog 35 [.slice none 0 0] := ⟨_, Try.zeroValue35, rfl⟩
theorem zec_35 : ZeroCells Try.prog 35 (.slice none 0 0) := ⟨Try.zeroValue35⟩
theorem agg_37 : IsAg Try.prog 37 8 := ⟨Try.isAgg37, Try.sizeOf37⟩
theorem siz_37 : SizeIs Try.prog 37 8 := ⟨Try.sizeOf37⟩
theorem zer_37 : ZeroIs Try.prog 37 [.int .i64 0, .int .i64 0, .int .i64 0, .int .i64 0, .bool false, .slice none 0 0, .string ⟨#[]⟩, .slice none 0 0] := ⟨_, Try.zeroValue37, rfl⟩
theorem zec_37 : ZeroCells Try.prog 37 (.agg #[.int .i64 0, .int .i64 0, .int .i64 0, .int .i64 0, .bool false, .slice none 0 0, .string ⟨#[]⟩, .slice none 0 0]) := ⟨Try.zeroValue37⟩
theorem und_49 : UnderIs Try.prog 49 (.slice 37) := ⟨Try.underlying49⟩
theorem one_49 : IsOne Try.prog 49 := ⟨Try.isAgg49⟩
theorem siz_49 : SizeIs Try.prog 49 1 := ⟨Try.sizeOf49⟩
theorem zer_49 : ZeroIs Try.prog 49 [.slice none 0 0] := ⟨_, Try.zeroValue49, rfl⟩
theorem zec_49 : ZeroCells Try.prog 49 (.slice none 0 0) := ⟨Try.zeroValue49⟩
theorem und_50 : UnderIs Try.prog 50 (.slice 9) := ⟨Try.underlying50⟩
theorem one_50 : IsOne Try.prog 50 := ⟨Try.isAgg50⟩
theorem siz_50 : SizeIs Try.prog 50 1 := ⟨Try.sizeOf50⟩
theorem zer_50 : ZeroIs Try.prog 50 [.slice none 0 0] := ⟨_, Try.zeroValue50, rfl⟩
theorem zec_50 : ZeroCells Try.prog 50 (.slice none 0 0) := ⟨Try.zeroValue50⟩
theorem und_62 : UnderIs Try.prog 62 (.slice 78) := ⟨Try.underlying62⟩
theorem one_62 : IsOne Try.prog 62 := ⟨Try.isAgg62⟩
theorem siz_62 : SizeIs Try.prog 62 1 := ⟨Try.sizeOf62⟩
theorem zer_62 : ZeroIs Try.prog 62 [.slice none 0 0] := ⟨_, Try.zeroValue62, rfl⟩
theorem zec_62 : ZeroCells Try.prog 62 (.slice none 0 0) := ⟨Try.zeroValue62⟩
theorem agg_64 : IsAg Try.prog 64 2 := ⟨Try.isAgg64, Try.sizeOf64⟩
theorem siz_64 : SizeIs Try.prog 64 2 := ⟨Try.sizeOf64⟩
theorem zer_64 : ZeroIs Try.prog 64 [.slice none 0 0, .slice none 0 0] := ⟨_, Try.zeroValue64, rfl⟩
theorem zec_64 : ZeroCells Try.prog 64 (.agg #[.slice none 0 0, .slice none 0 0]) := ⟨Try.zeroValue64⟩
theorem und_67 : UnderIs Try.prog 67 (.pointer 131) := ⟨Try.underlying67⟩
theorem one_67 : IsOne Try.prog 67 := ⟨Try.isAgg67⟩
theorem siz_67 : SizeIs Try.prog 67 1 := ⟨Try.sizeOf67⟩
theorem zer_67 : ZeroIs Try.prog 67 [.pointer none] := ⟨_, Try.zeroValue67, rfl⟩
theorem zec_67 : ZeroCells Try.prog 67 (.pointer none) := ⟨Try.zeroValue67⟩
theorem und_70 : UnderIs Try.prog 70 (.pointer 140) := ⟨Try.underlying70⟩
theorem one_70 : IsOne Try.prog 70 := ⟨Try.isAgg70⟩
theorem siz_70 : SizeIs Try.prog 70 1 := ⟨Try.sizeOf70⟩
theorem zer_70 : ZeroIs Try.prog 70 [.pointer none] := ⟨_, Try.zeroValue70, rfl⟩
theorem zec_70 : ZeroCells Try.prog 70 (.pointer none) := ⟨Try.zeroValue70⟩
theorem agg_78 : IsAg Try.prog 78 3 := ⟨Try.isAgg78, Try.sizeOf78⟩
theorem siz_78 : SizeIs Try.prog 78 3 := ⟨Try.sizeOf78⟩
theorem zer_78 : ZeroIs Try.prog 78 [.int .i64 0, .int .i64 0, .int .i64 0] := ⟨_, Try.zeroValue78, rfl⟩
theorem zec_78 : ZeroCells Try.prog 78 (.agg #[.int .i64 0, .int .i64 0, .int .i64 0]) := ⟨Try.zeroValue78⟩
theorem und_85 : UnderIs Try.prog 85 (.int .i64) := ⟨Try.underlying85⟩
theorem one_85 : IsOne Try.prog 85 := ⟨Try.isAgg85⟩
theorem siz_85 : SizeIs Try.prog 85 1 := ⟨Try.sizeOf85⟩
theorem zer_85 : ZeroIs Try.prog 85 [.int .i64 0] := ⟨_, Try.zeroValue85, rfl⟩
theorem zec_85 : ZeroCells Try.prog 85 (.int .i64 0) := ⟨Try.zeroValue85⟩
theorem und_92 : UnderIs Try.prog 92 (.pointer 95) := ⟨Try.underlying92⟩
theorem one_92 : IsOne Try.prog 92 := ⟨Try.isAgg92⟩
theorem siz_92 : SizeIs Try.prog 92 1 := ⟨Try.sizeOf92⟩
theorem zer_92 : ZeroIs Try.prog 92 [.pointer none] := ⟨_, Try.zeroValue92, rfl⟩
theorem zec_92 : ZeroCells Try.prog 92 (.pointer none) := ⟨Try.zeroValue92⟩
theorem und_93 : UnderIs Try.prog 93 (.slice 5) := ⟨Try.underlying93⟩
theorem one_93 : IsOne Try.prog 93 := ⟨Try.isAgg93⟩
theorem siz_93 : SizeIs Try.prog 93 1 := ⟨Try.sizeOf93⟩
theorem zer_93 : ZeroIs Try.prog 93 [.slice none 0 0] := ⟨_, Try.zeroValue93, rfl⟩
theorem zec_93 : ZeroCells Try.prog 93 (.slice none 0 0) := ⟨Try.zeroValue93⟩
theorem agg_95 : IsAg Try.prog 95 2 := ⟨Try.isAgg95, Try.sizeOf95⟩
theorem siz_95 : SizeIs Try.prog 95 2 := ⟨Try.sizeOf95⟩
theorem zer_95 : ZeroIs Try.prog 95 [.pointer none, .slice none 0 0] := ⟨_, Try.zeroValue95, rfl⟩
theorem zec_95 : ZeroCells Try.prog 95 (.agg #[.pointer none, .slice none 0 0]) := ⟨Try.zeroValue95⟩
theorem und_99 : UnderIs Try.prog 99 (.pointer 101) := ⟨Try.underlying99⟩
theorem one_99 : IsOne Try.prog 99 := ⟨Try.isAgg99⟩
theorem siz_99 : SizeIs Try.prog 99 1 := ⟨Try.sizeOf99⟩
theorem zer_99 : ZeroIs Try.prog 99 [.pointer none] := ⟨_, Try.zeroValue99, rfl⟩
theorem zec_99 : ZeroCells Try.prog 99 (.pointer none) := ⟨Try.zeroValue99⟩
theorem agg_101 : IsAg Try.prog 101 2 := ⟨Try.isAgg101, Try.sizeOf101⟩
theorem siz_101 : SizeIs Try.prog 101 2 := ⟨Try.sizeOf101⟩
theorem zer_101 : ZeroIs Try.prog 101 [.string ⟨#[]⟩, .bool false] := ⟨_, Try.zeroValue101, rfl⟩
theorem zec_101 : ZeroCells Try.prog 101 (.agg #[.string ⟨#[]⟩, .bool false]) := ⟨Try.zeroValue101⟩
theorem agg_104 : IsAg Try.prog 104 9 := ⟨Try.isAgg104, Try.sizeOf104⟩
theorem siz_104 : SizeIs Try.prog 104 9 := ⟨Try.sizeOf104⟩
theorem zer_104 : ZeroIs Try.prog 104 [.string ⟨#[]⟩, .int .i64 0, .int .i64 0, .int .i64 0, .int .i64 0, .bool false, .slice none 0 0, .string ⟨#[]⟩, .slice none 0 0] := ⟨_, Try.zeroValue104, rfl⟩
theorem zec_104 : ZeroCells Try.prog 104 (.agg #[.string ⟨#[]⟩, .int .i64 0, .int .i64 0, .int .i64 0, .int .i64 0, .bool false, .slice none 0 0, .string ⟨#[]⟩, .slice none 0 0]) := ⟨Try.zeroValue104⟩
theorem agg_107 : IsAg Try.prog 107 2 := ⟨Try.isAgg107, Try.sizeOf107⟩
theorem siz_107 : SizeIs Try.prog 107 2 := ⟨Try.sizeOf107⟩
theorem zer_107 : ZeroIs Try.prog 107 [.int .i64 0, .int .i64 0] := ⟨_, Try.zeroValue107, rfl⟩
theorem zec_107 : ZeroCells Try.prog 107 (.agg #[.int .i64 0, .int .i64 0]) := ⟨Try.zeroValue107⟩
theorem und_110 : UnderIs Try.prog 110 (.slice 113) := ⟨Try.underlying110⟩
theorem one_110 : IsOne Try.prog 110 := ⟨Try.isAgg110⟩
theorem siz_110 : SizeIs Try.prog 110 1 := ⟨Try.sizeOf110⟩
theorem zer_110 : ZeroIs Try.prog 110 [.slice none 0 0] := ⟨_, Try.zeroValue110, rfl⟩
theorem zec_110 : ZeroCells Try.prog 110 (.slice none 0 0) := ⟨Try.zeroValue110⟩
theorem agg_113 : IsAg Try.prog 113 9 := ⟨Try.isAgg113, Try.sizeOf113⟩
theorem siz_113 : SizeIs Try.prog 113 9 := ⟨Try.sizeOf113⟩
theorem zer_113 : ZeroIs Try.prog 113 [.int .i64 0, .int .i64 0, .int .i64 0, .int .i64 0, .bool false, .slice none 0 0, .string ⟨#[]⟩, .slice none 0 0, .int .i64 0] := ⟨_, Try.zeroValue113, rfl⟩
theorem zec_113 : ZeroCells Try.prog 113 (.agg #[.int .i64 0, .int .i64 0, .int .i64 0, .int .i64 0, .bool false, .slice none 0 0, .string ⟨#[]⟩, .slice none 0 0, .int .i64 0]) := ⟨Try.zeroValue113⟩
theorem und_114 : UnderIs Try.prog 114 (.slice 117) := ⟨Try.underlying114⟩
theorem one_114 : IsOne Try.prog 114 := ⟨Try.isAgg114⟩
theorem siz_114 : SizeIs Try.prog 114 1 := ⟨Try.sizeOf114⟩
theorem zer_114 : ZeroIs Try.prog 114 [.slice none 0 0] := ⟨_, Try.zeroValue114, rfl⟩
theorem zec_114 : ZeroCells Try.prog 114 (.slice none 0 0) := ⟨Try.zeroValue114⟩
theorem agg_117 : IsAg Try.prog 117 9 := ⟨Try.isAgg117, Try.sizeOf117⟩
theorem siz_117 : SizeIs Try.prog 117 9 := ⟨Try.sizeOf117⟩
theorem zer_117 : ZeroIs Try.prog 117 [.int .i64 0, .int .i64 0, .int .i64 0, .int .i64 0, .bool false, .slice none 0 0, .string ⟨#[]⟩, .slice none 0 0, .int .i64 0] := ⟨_, Try.zeroValue117, rfl⟩
theorem zec_117 : ZeroCells Try.prog 117 (.agg #[.int .i64 0, .int .i64 0, .int .i64 0, .int .i64 0, .bool false, .slice none 0 0, .string ⟨#[]⟩, .slice none 0 0, .int .i64 0]) := ⟨Try.zeroValue117⟩
theorem agg_128 : IsAg Try.prog 128 8 := ⟨Try.isAgg128, Try.sizeOf128⟩
theorem siz_128 : SizeIs Try.prog 128 8 := ⟨Try.sizeOf128⟩
theorem zer_128 : ZeroIs Try.prog 128 [.slice none 0 0, .slice none 0 0, .int .i64 0, .int .i64 0, .slice none 0 0, .int .i64 0, .int .i64 0, .slice none 0 0] := ⟨_, Try.zeroValue128, rfl⟩
theorem zec_128 : ZeroCells Try.prog 128 (.agg #[.slice none 0 0, .slice none 0 0, .int .i64 0, .int .i64 0, .slice none 0 0, .int .i64 0, .int .i64 0, .slice none 0 0]) := ⟨Try.zeroValue128⟩
theorem agg_131 : IsAg Try.prog 131 4 := ⟨Try.isAgg131, Try.sizeOf131⟩
theorem siz_131 : SizeIs Try.prog 131 4 := ⟨Try.sizeOf131⟩
theorem zer_131 : ZeroIs Try.prog 131 [.slice none 0 0, .int .i64 0, .bool false, .int .i64 0] := ⟨_, Try.zeroValue131, rfl⟩
theorem zec_131 : ZeroCells Try.prog 131 (.agg #[.slice none 0 0, .int .i64 0, .bool false, .int .i64 0]) := ⟨Try.zeroValue131⟩
theorem und_132 : UnderIs Try.prog 132 (.pointer 212) := ⟨Try.underlying132⟩
theorem one_132 : IsOne Try.prog 132 := ⟨Try.isAgg132⟩
theorem siz_132 : SizeIs Try.prog 132 1 := ⟨Try.sizeOf132⟩
theorem zer_132 : ZeroIs Try.prog 132 [.pointer none] := ⟨_, Try.zeroValue132, rfl⟩
theorem zec_132 : ZeroCells Try.prog 132 (.pointer none) := ⟨Try.zeroValue132⟩
theorem und_135 : UnderIs Try.prog 135 (.pointer 193) := ⟨Try.underlying135⟩
theorem one_135 : IsOne Try.prog 135 := ⟨Try.isAgg135⟩
theorem siz_135 : SizeIs Try.prog 135 1 := ⟨Try.sizeOf135⟩
theorem zer_135 : ZeroIs Try.prog 135 [.pointer none] := ⟨_, Try.zeroValue135, rfl⟩
theorem zec_135 : ZeroCells Try.prog 135 (.pointer none) := ⟨Try.zeroValue135⟩
theorem agg_136 : IsAg Try.prog 136 5 := ⟨Try.isAgg136, Try.sizeOf136⟩
theorem siz_136 : SizeIs Try.prog 136 5 := ⟨Try.sizeOf136⟩
theorem zer_136 : ZeroIs Try.prog 136 [.pointer none, .pointer none, .pointer none, .pointer none, .pointer none] := ⟨_, Try.zeroValue136, rfl⟩
theorem zec_136 : ZeroCells Try.prog 136 (.agg #[.pointer none, .pointer none, .pointer none, .pointer none, .pointer none]) := ⟨Try.zeroValue136⟩
theorem und_137 : UnderIs Try.prog 137 (.pointer 180) := ⟨Try.underlying137⟩
theorem one_137 : IsOne Try.prog 137 := ⟨Try.isAgg137⟩
theorem siz_137 : SizeIs Try.prog 137 1 := ⟨Try.sizeOf137⟩
theorem zer_137 : ZeroIs Try.prog 137 [.pointer none] := ⟨_, Try.zeroValue137, rfl⟩
theorem zec_137 : ZeroCells Try.prog 137 (.pointer none) := ⟨Try.zeroValue137⟩
theorem agg_138 : IsAg Try.prog 138 5 := ⟨Try.isAgg138, Try.sizeOf138⟩
theorem siz_138 : SizeIs Try.prog 138 5 := ⟨Try.sizeOf138⟩
theorem zer_138 : ZeroIs Try.prog 138 [.pointer none, .pointer none, .pointer none, .pointer none, .pointer none] := ⟨_, Try.zeroValue138, rfl⟩
theorem zec_138 : ZeroCells Try.prog 138 (.agg #[.pointer none, .pointer none, .pointer none, .pointer none, .pointer none]) := ⟨Try.zeroValue138⟩
theorem agg_140 : IsAg Try.prog 140 15 := ⟨Try.isAgg140, Try.sizeOf140⟩
theorem siz_140 : SizeIs Try.prog 140 15 := ⟨Try.sizeOf140⟩
theorem zer_140 : ZeroIs Try.prog 140 [.pointer none, .bool false, .int .i64 0, .int .i64 0, .pointer none, .pointer none, .pointer none, .pointer none, .pointer none, .pointer none, .pointer none, .pointer none, .pointer none, .pointer none, .pointer none] := ⟨_, Try.zeroValue140, rfl⟩
theorem zec_140 : ZeroCells Try.prog 140 (.agg #[.pointer none, .bool false, .int .i64 0, .int .i64 0, .pointer none, .pointer none, .pointer none, .pointer none, .pointer none, .pointer none, .pointer none, .pointer none, .pointer none, .pointer none, .pointer none]) := ⟨Try.zeroValue140⟩
theorem agg_143 : IsAg Try.prog 143 2 := ⟨Try.isAgg143, Try.sizeOf143⟩
theorem siz_143 : SizeIs Try.prog 143 2 := ⟨Try.sizeOf143⟩
theorem zer_143 : ZeroIs Try.prog 143 [.slice none 0 0, .slice none 0 0] := ⟨_, Try.zeroValue143, rfl⟩
theorem zec_143 : ZeroCells Try.prog 143 (.agg #[.slice none 0 0, .slice none 0 0]) := ⟨Try.zeroValue143⟩
theorem agg_158 : IsAg Try.prog 158 2 := ⟨Try.isAgg158, Try.sizeOf158⟩
theorem siz_158 : SizeIs Try.prog 158 2 := ⟨Try.sizeOf158⟩
theorem zer_158 : ZeroIs Try.prog 158 [.string ⟨#[]⟩, .string ⟨#[]⟩] := ⟨_, Try.zeroValue158, rfl⟩
theorem zec_158 : ZeroCells Try.prog 158 (.agg #[.string ⟨#[]⟩, .string ⟨#[]⟩]) := ⟨Try.zeroValue158⟩
theorem und_160 : UnderIs Try.prog 160 (.pointer 5) := ⟨Try.underlying160⟩
theorem one_160 : IsOne Try.prog 160 := ⟨Try.isAgg160⟩
theorem siz_160 : SizeIs Try.prog 160 1 := ⟨Try.sizeOf160⟩
theorem zer_160 : ZeroIs Try.prog 160 [.pointer none] := ⟨_, Try.zeroValue160, rfl⟩
theorem zec_160 : ZeroCells Try.prog 160 (.pointer none) := ⟨Try.zeroValue160⟩
theorem agg_161 : IsAg Try.prog 161 3 := ⟨Try.isAgg161, Try.sizeOf161⟩
theorem siz_161 : SizeIs Try.prog 161 3 := ⟨Try.sizeOf161⟩
theorem zer_161 : ZeroIs Try.prog 161 [.int .i64 0, .int .i64 0, .int .i64 0] := ⟨_, Try.zeroValue161, rfl⟩
theorem zec_161 : ZeroCells Try.prog 161 (.agg #[.int .i64 0, .int .i64 0, .int .i64 0]) := ⟨Try.zeroValue161⟩
theorem und_162 : UnderIs Try.prog 162 (.pointer 107) := ⟨Try.underlying162⟩
theorem one_162 : IsOne Try.prog 162 := ⟨Try.isAgg162⟩
theorem siz_162 : SizeIs Try.prog 162 1 := ⟨Try.sizeOf162⟩
theorem zer_162 : ZeroIs Try.prog 162 [.pointer none] := ⟨_, Try.zeroValue162, rfl⟩
theorem zec_162 : ZeroCells Try.prog 162 (.pointer none) := ⟨Try.zeroValue162⟩
theorem und_169 : UnderIs Try.prog 169 (.map 9 4) := ⟨Try.underlying169⟩
theorem one_169 : IsOne Try.prog 169 := ⟨Try.isAgg169⟩
theorem siz_169 : SizeIs Try.prog 169 1 := ⟨Try.sizeOf169⟩
theorem zer_169 : ZeroIs Try.prog 169 [.map none] := ⟨_, Try.zeroValue169, rfl⟩
theorem zec_169 : ZeroCells Try.prog 169 (.map none) := ⟨Try.zeroValue169⟩
theorem und_173 : UnderIs Try.prog 173 (.pointer 208) := ⟨Try.underlying173⟩
theorem one_173 : IsOne Try.prog 173 := ⟨Try.isAgg173⟩
theorem siz_173 : SizeIs Try.prog 173 1 := ⟨Try.sizeOf173⟩
theorem zer_173 : ZeroIs Try.prog 173 [.pointer none] := ⟨_, Try.zeroValue173, rfl⟩
theorem zec_173 : ZeroCells Try.prog 173 (.pointer none) := ⟨Try.zeroValue173⟩
theorem agg_180 : IsAg Try.prog 180 13 := ⟨Try.isAgg180, Try.sizeOf180⟩
theorem siz_180 : SizeIs Try.prog 180 13 := ⟨Try.sizeOf180⟩
theorem zer_180 : ZeroIs Try.prog 180 [.slice none 0 0, .slice none 0 0, .int .i64 0, .int .i64 0, .slice none 0 0, .int .i64 0, .int .i64 0, .slice none 0 0, .pointer none, .slice none 0 0, .slice none 0 0, .int .i64 0, .int .i64 0] := ⟨_, Try.zeroValue180, rfl⟩
theorem zec_180 : ZeroCells Try.prog 180 (.agg #[.slice none 0 0, .slice none 0 0, .int .i64 0, .int .i64 0, .slice none 0 0, .int .i64 0, .int .i64 0, .slice none 0 0, .pointer none, .slice none 0 0, .slice none 0 0, .int .i64 0, .int .i64 0]) := ⟨Try.zeroValue180⟩
theorem und_189 : UnderIs Try.prog 189 (.pointer 191) := ⟨Try.underlying189⟩
theorem one_189 : IsOne Try.prog 189 := ⟨Try.isAgg189⟩
theorem siz_189 : SizeIs Try.prog 189 1 := ⟨Try.sizeOf189⟩
theorem zer_189 : ZeroIs Try.prog 189 [.pointer none] := ⟨_, Try.zeroValue189, rfl⟩
theorem zec_189 : ZeroCells Try.prog 189 (.pointer none) := ⟨Try.zeroValue189⟩
theorem agg_191 : IsAg Try.prog 191 2 := ⟨Try.isAgg191, Try.sizeOf191⟩
theorem siz_191 : SizeIs Try.prog 191 2 := ⟨Try.sizeOf191⟩
theorem zer_191 : ZeroIs Try.prog 191 [.string ⟨#[]⟩, .bool false] := ⟨_, Try.zeroValue191, rfl⟩
theorem zec_191 : ZeroCells Try.prog 191 (.agg #[.string ⟨#[]⟩, .bool false]) := ⟨Try.zeroValue191⟩
theorem agg_193 : IsAg Try.prog 193 9 := ⟨Try.isAgg193, Try.sizeOf193⟩
theorem siz_193 : SizeIs Try.prog 193 9 := ⟨Try.sizeOf193⟩
theorem zer_193 : ZeroIs Try.prog 193 [.int .i64 0, .int .i64 0, .int .i64 0, .int .i64 0, .bool false, .slice none 0 0, .string ⟨#[]⟩, .slice none 0 0, .slice none 0 0] := ⟨_, Try.zeroValue193, rfl⟩
theorem zec_193 : ZeroCells Try.prog 193 (.agg #[.int .i64 0, .int .i64 0, .int .i64 0, .int .i64 0, .bool false, .slice none 0 0, .string ⟨#[]⟩, .slice none 0 0, .slice none 0 0]) := ⟨Try.zeroValue193⟩
theorem agg_208 : IsAg Try.prog 208 8 := ⟨Try.isAgg208, Try.sizeOf208⟩
theorem siz_208 : SizeIs Try.prog 208 8 := ⟨Try.sizeOf208⟩
theorem zer_208 : ZeroIs Try.prog 208 [.slice none 0 0, .slice none 0 0, .int .i64 0, .int .i64 0, .slice none 0 0, .int .i64 0, .int .i64 0, .slice none 0 0] := ⟨_, Try.zeroValue208, rfl⟩
theorem zec_208 : ZeroCells Try.prog 208 (.agg #[.slice none 0 0, .slice none 0 0, .int .i64 0, .int .i64 0, .slice none 0 0, .int .i64 0, .int .i64 0, .slice none 0 0]) := ⟨Try.zeroValue208⟩
theorem und_210 : UnderIs Try.prog 210 (.map 3 3) := ⟨Try.underlying210⟩
theorem one_210 : IsOne Try.prog 210 := ⟨Try.isAgg210⟩
theorem siz_210 : SizeIs Try.prog 210 1 := ⟨Try.sizeOf210⟩
theorem zer_210 : ZeroIs Try.prog 210 [.map none] := ⟨_, Try.zeroValue210, rfl⟩
theorem zec_210 : ZeroCells Try.prog 210 (.map none) := ⟨Try.zeroValue210⟩
theorem agg_212 : IsAg Try.prog 212 3 := ⟨Try.isAgg212, Try.sizeOf212⟩
theorem siz_212 : SizeIs Try.prog 212 3 := ⟨Try.sizeOf212⟩
theorem zer_212 : ZeroIs Try.prog 212 [.int .i64 0, .int .i64 0, .map none] := ⟨_, Try.zeroValue212, rfl⟩
theorem zec_212 : ZeroCells Try.prog 212 (.agg #[.int .i64 0, .int .i64 0, .map none]) := ⟨Try.zeroValue212⟩
theorem und_213 : UnderIs Try.prog 213 (.map 3 4) := ⟨Try.underlying213⟩
theorem one_213 : IsOne Try.prog 213 := ⟨Try.isAgg213⟩
theorem siz_213 : SizeIs Try.prog 213 1 := ⟨Try.sizeOf213⟩
theorem zer_213 : ZeroIs Try.prog 213 [.map none] := ⟨_, Try.zeroValue213, rfl⟩
theorem zec_213 : ZeroCells Try.prog 213 (.map none) := ⟨Try.zeroValue213⟩
theorem one_217 : IsOne Try.prog 217 := ⟨Try.isAgg217⟩
theorem siz_217 : SizeIs Try.prog 217 1 := ⟨Try.sizeOf217⟩
theorem und_224 : UnderIs Try.prog 224 (.slice 26) := ⟨Try.underlying224⟩
theorem one_224 : IsOne Try.prog 224 := ⟨Try.isAgg224⟩
theorem siz_224 : SizeIs Try.prog 224 1 := ⟨Try.sizeOf224⟩
theorem zer_224 : ZeroIs Try.prog 224 [.slice none 0 0] := ⟨_, Try.zeroValue224, rfl⟩
theorem zec_224 : ZeroCells Try.prog 224 (.slice none 0 0) := ⟨Try.zeroValue224⟩
theorem inf_3 : InfoIs Try.prog 3 1 8 := ⟨by obtain ⟨i, h0, h1, h2, h3⟩ := info_parts (show (Try.prog.info? 3).map (fun i => (i.zero, i.size, i.bytes)) = some (some (.int .i64 0), 1, 8) by kernel_rfl); exact ⟨i, _, h0, h1, h2, h3, rfl⟩⟩
theorem inf_158 : InfoIs Try.prog 158 2 32 := ⟨by obtain ⟨i, h0, h1, h2, h3⟩ := info_parts (show (Try.prog.info? 158).map (fun i => (i.zero, i.size, i.bytes)) = some (some (.agg #[.string ⟨#[]⟩, .string ⟨#[]⟩]), 2, 32) by kernel_rfl); exact ⟨i, _, h0, h1, h2, h3, rfl⟩⟩
theorem inf_104 : InfoIs Try.prog 104 9 120 := ⟨by obtain ⟨i, h0, h1, h2, h3⟩ := info_parts (show (Try.prog.info? 104).map (fun i => (i.zero, i.size, i.bytes)) = some (some (.agg #[.string ⟨#[]⟩, .int .i64 0, .int .i64 0, .int .i64 0, .int .i64 0, .bool false, .slice none 0 0, .string ⟨#[]⟩, .slice none 0 0]), 9, 120) by kernel_rfl); exact ⟨i, _, h0, h1, h2, h3, rfl⟩⟩
theorem inf_37 : InfoIs Try.prog 37 8 104 := ⟨by obtain ⟨i, h0, h1, h2, h3⟩ := info_parts (show (Try.prog.info? 37).map (fun i => (i.zero, i.size, i.bytes)) = some (some (.agg #[.int .i64 0, .int .i64 0, .int .i64 0, .int .i64 0, .bool false, .slice none 0 0, .string ⟨#[]⟩, .slice none 0 0]), 8, 104) by kernel_rfl); exact ⟨i, _, h0, h1, h2, h3, rfl⟩⟩
theorem inf_9 : InfoIs Try.prog 9 1 16 := ⟨by obtain ⟨i, h0, h1, h2, h3⟩ := info_parts (show (Try.prog.info? 9).map (fun i => (i.zero, i.size, i.bytes)) = some (some (.string ⟨#[]⟩), 1, 16) by kernel_rfl); exact ⟨i, _, h0, h1, h2, h3, rfl⟩⟩
theorem inf_78 : InfoIs Try.prog 78 3 24 := ⟨by obtain ⟨i, h0, h1, h2, h3⟩ := info_parts (show (Try.prog.info? 78).map (fun i => (i.zero, i.size, i.bytes)) = some (some (.agg #[.int .i64 0, .int .i64 0, .int .i64 0]), 3, 24) by kernel_rfl); exact ⟨i, _, h0, h1, h2, h3, rfl⟩⟩
theorem inf_5 : InfoIs Try.prog 5 1 1 := ⟨by obtain ⟨i, h0, h1, h2, h3⟩ := info_parts (show (Try.prog.info? 5).map (fun i => (i.zero, i.size, i.bytes)) = some (some (.int .u8 0), 1, 1) by kernel_rfl); exact ⟨i, _, h0, h1, h2, h3, rfl⟩⟩
theorem inf_113 : InfoIs Try.prog 113 9 112 := ⟨by obtain ⟨i, h0, h1, h2, h3⟩ := info_parts (show (Try.prog.info? 113).map (fun i => (i.zero, i.size, i.bytes)) = some (some (.agg #[.int .i64 0, .int .i64 0, .int .i64 0, .int .i64 0, .bool false, .slice none 0 0, .string ⟨#[]⟩, .slice none 0 0, .int .i64 0]), 9, 112) by kernel_rfl); exact ⟨i, _, h0, h1, h2, h3, rfl⟩⟩
theorem inf_117 : InfoIs Try.prog 117 9 112 := ⟨by obtain ⟨i, h0, h1, h2, h3⟩ := info_parts (show (Try.prog.info? 117).map (fun i => (i.zero, i.size, i.bytes)) = some (some (.agg #[.int .i64 0, .int .i64 0, .int .i64 0, .int .i64 0, .bool false, .slice none 0 0, .string ⟨#[]⟩, .slice none 0 0, .int .i64 0]), 9, 112) by kernel_rfl); exact ⟨i, _, h0, h1, h2, h3, rfl⟩⟩
theorem inf_26 : InfoIs Try.prog 26 1 16 := ⟨by obtain ⟨i, h0, h1, h2, h3⟩ := info_parts (show (Try.prog.info? 26).map (fun i => (i.zero, i.size, i.bytes)) = some (some (.nilIface), 1, 16) by kernel_rfl); exact ⟨i, _, h0, h1, h2, h3, rfl⟩⟩
theorem bld_24 : BuildIs Try.prog 24 [(0, 1), (1, 1), (2, 1), (3, 1)] [.int .i64 0, .int .i64 0, .slice none 0 0, .int .i64 0] := ⟨⟨_, Try.runUnderlying24, fun w => by kernel_rfl⟩, ⟨_, Try.zeroValue24, rfl⟩⟩
theorem bld_37 : BuildIs Try.prog 37 [(0, 1), (1, 1), (2, 1), (3, 1), (4, 1), (5, 1), (6, 1), (7, 1)] [.int .i64 0, .int .i64 0, .int .i64 0, .int .i64 0, .bool false, .slice none 0 0, .string ⟨#[]⟩, .slice none 0 0] := ⟨⟨_, Try.runUnderlying37, fun w => by kernel_rfl⟩, ⟨_, Try.zeroValue37, rfl⟩⟩
theorem bld_64 : BuildIs Try.prog 64 [(0, 1), (1, 1)] [.slice none 0 0, .slice none 0 0] := ⟨⟨_, Try.runUnderlying64, fun w => by kernel_rfl⟩, ⟨_, Try.zeroValue64, rfl⟩⟩
theorem bld_78 : BuildIs Try.prog 78 [(0, 1), (1, 1), (2, 1)] [.int .i64 0, .int .i64 0, .int .i64 0] := ⟨⟨_, Try.runUnderlying78, fun w => by kernel_rfl⟩, ⟨_, Try.zeroValue78, rfl⟩⟩
theorem bld_101 : BuildIs Try.prog 101 [(0, 1), (1, 1)] [.string ⟨#[]⟩, .bool false] := ⟨⟨_, Try.runUnderlying101, fun w => by kernel_rfl⟩, ⟨_, Try.zeroValue101, rfl⟩⟩
theorem bld_104 : BuildIs Try.prog 104 [(0, 1), (1, 8)] [.string ⟨#[]⟩, .int .i64 0, .int .i64 0, .int .i64 0, .int .i64 0, .bool false, .slice none 0 0, .string ⟨#[]⟩, .slice none 0 0] := ⟨⟨_, Try.runUnderlying104, fun w => by kernel_rfl⟩, ⟨_, Try.zeroValue104, rfl⟩⟩
theorem bld_113 : BuildIs Try.prog 113 [(0, 8), (8, 1)] [.int .i64 0, .int .i64 0, .int .i64 0, .int .i64 0, .bool false, .slice none 0 0, .string ⟨#[]⟩, .slice none 0 0, .int .i64 0] := ⟨⟨_, Try.runUnderlying113, fun w => by kernel_rfl⟩, ⟨_, Try.zeroValue113, rfl⟩⟩
theorem bld_117 : BuildIs Try.prog 117 [(0, 8), (8, 1)] [.int .i64 0, .int .i64 0, .int .i64 0, .int .i64 0, .bool false, .slice none 0 0, .string ⟨#[]⟩, .slice none 0 0, .int .i64 0] := ⟨⟨_, Try.runUnderlying117, fun w => by kernel_rfl⟩, ⟨_, Try.zeroValue117, rfl⟩⟩
theorem bld_128 : BuildIs Try.prog 128 [(0, 2), (2, 4), (6, 1), (7, 1)] [.slice none 0 0, .slice none 0 0, .int .i64 0, .int .i64 0, .slice none 0 0, .int .i64 0, .int .i64 0, .slice none 0 0] := ⟨⟨_, Try.runUnderlying128, fun w => by kernel_rfl⟩, ⟨_, Try.zeroValue128, rfl⟩⟩
theorem bld_131 : BuildIs Try.prog 131 [(0, 1), (1, 1), (2, 1), (3, 1)] [.slice none 0 0, .int .i64 0, .bool false, .int .i64 0] := ⟨⟨_, Try.runUnderlying131, fun w => by kernel_rfl⟩, ⟨_, Try.zeroValue131, rfl⟩⟩
theorem bld_140 : BuildIs Try.prog 140 [(0, 1), (1, 1), (2, 1), (3, 1), (4, 1), (5, 5), (10, 5)] [.pointer none, .bool false, .int .i64 0, .int .i64 0, .pointer none, .pointer none, .pointer none, .pointer none, .pointer none, .pointer none, .pointer none, .pointer none, .pointer none, .pointer none, .pointer none] := ⟨⟨_, Try.runUnderlying140, fun w => by kernel_rfl⟩, ⟨_, Try.zeroValue140, rfl⟩⟩
theorem bld_158 : BuildIs Try.prog 158 [(0, 1), (1, 1)] [.string ⟨#[]⟩, .string ⟨#[]⟩] := ⟨⟨_, Try.runUnderlying158, fun w => by kernel_rfl⟩, ⟨_, Try.zeroValue158, rfl⟩⟩
theorem bld_180 : BuildIs Try.prog 180 [(0, 8), (8, 1), (9, 2), (11, 1), (12, 1)] [.slice none 0 0, .slice none 0 0, .int .i64 0, .int .i64 0, .slice none 0 0, .int .i64 0, .int .i64 0, .slice none 0 0, .pointer none, .slice none 0 0, .slice none 0 0, .int .i64 0, .int .i64 0] := ⟨⟨_, Try.runUnderlying180, fun w => by kernel_rfl⟩, ⟨_, Try.zeroValue180, rfl⟩⟩
theorem bld_191 : BuildIs Try.prog 191 [(0, 1), (1, 1)] [.string ⟨#[]⟩, .bool false] := ⟨⟨_, Try.runUnderlying191, fun w => by kernel_rfl⟩, ⟨_, Try.zeroValue191, rfl⟩⟩
theorem bld_193 : BuildIs Try.prog 193 [(0, 8), (8, 1)] [.int .i64 0, .int .i64 0, .int .i64 0, .int .i64 0, .bool false, .slice none 0 0, .string ⟨#[]⟩, .slice none 0 0, .slice none 0 0] := ⟨⟨_, Try.runUnderlying193, fun w => by kernel_rfl⟩, ⟨_, Try.zeroValue193, rfl⟩⟩
theorem bld_208 : BuildIs Try.prog 208 [(0, 2), (2, 4), (6, 1), (7, 1)] [.slice none 0 0, .slice none 0 0, .int .i64 0, .int .i64 0, .slice none 0 0, .int .i64 0, .int .i64 0, .slice none 0 0] := ⟨⟨_, Try.runUnderlying208, fun w => by kernel_rfl⟩, ⟨_, Try.zeroValue208, rfl⟩⟩
theorem bld_212 : BuildIs Try.prog 212 [(0, 1), (1, 1), (2, 1)] [.int .i64 0, .int .i64 0, .map none] := ⟨⟨_, Try.runUnderlying212, fun w => by kernel_rfl⟩, ⟨_, Try.zeroValue212, rfl⟩⟩
end Go.Proofs.Ytejkmomfpidnbab
