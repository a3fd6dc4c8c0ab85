/- Walks and plain laws, part 2: what functions compute, proved once each (Ty, ErrE, El, Ops4, Eqs, AttrP, Name, NameE, AttrT). -/
import Derived.Test.YtejkmomfpidnbabProg
import Derived.Test.YtejkmomfpidnbabChecked
import Derived.Test.YtejkmomfpidnbabPart1
import Derived.KernelRfl
import Derived.Laws.StructEq
/- Closed facts on the types of the program. Printed by a program of our own (steps.py). -/
namespace Go.Proofs.Ytejkmomfpidnbab
open Go.RowKit
theorem mixed : Try.prog.follows .mixedOrders = true := by kernel_rfl
theorem fld_24_0 : FieldIs Try.prog 24 0 0 := ⟨fun a w => by kernel_rfl⟩
theorem fld_24_1 : FieldIs Try.prog 24 1 1 := ⟨fun a w => by kernel_rfl⟩
theorem fld_24_2 : FieldIs Try.prog 24 2 2 := ⟨fun a w => by kernel_rfl⟩
theorem fld_24_3 : FieldIs Try.prog 24 3 3 := ⟨fun a w => by kernel_rfl⟩
theorem fld_37_0 : FieldIs Try.prog 37 0 0 := ⟨fun a w => by kernel_rfl⟩
theorem fld_37_1 : FieldIs Try.prog 37 1 1 := ⟨fun a w => by kernel_rfl⟩
theorem fld_37_2 : FieldIs Try.prog 37 2 2 := ⟨fun a w => by kernel_rfl⟩
theorem fld_37_3 : FieldIs Try.prog 37 3 3 := ⟨fun a w => by kernel_rfl⟩
theorem fld_37_4 : FieldIs Try.prog 37 4 4 := ⟨fun a w => by kernel_rfl⟩
theorem fld_37_5 : FieldIs Try.prog 37 5 5 := ⟨fun a w => by kernel_rfl⟩
theorem fld_37_6 : FieldIs Try.prog 37 6 6 := ⟨fun a w => by kernel_rfl⟩
theorem fld_37_7 : FieldIs Try.prog 37 7 7 := ⟨fun a w => by kernel_rfl⟩
theorem fld_64_0 : FieldIs Try.prog 64 0 0 := ⟨fun a w => by kernel_rfl⟩
theorem fld_64_1 : FieldIs Try.prog 64 1 1 := ⟨fun a w => by kernel_rfl⟩
theorem fld_78_0 : FieldIs Try.prog 78 0 0 := ⟨fun a w => by kernel_rfl⟩
theorem fld_78_1 : FieldIs Try.prog 78 1 1 := ⟨fun a w => by kernel_rfl⟩
theorem fld_78_2 : FieldIs Try.prog 78 2 2 := ⟨fun a w => by kernel_rfl⟩
theorem fld_95_0 : FieldIs Try.prog 95 0 0 := ⟨fun a w => by kernel_rfl⟩
theorem fld_95_1 : FieldIs Try.prog 95 1 1 := ⟨fun a w => by kernel_rfl⟩
theorem fld_101_0 : FieldIs Try.prog 101 0 0 := ⟨fun a w => by kernel_rfl⟩
theorem fld_101_1 : FieldIs Try.prog 101 1 1 := ⟨fun a w => by kernel_rfl⟩
theorem fld_104_0 : FieldIs Try.prog 104 0 0 := ⟨fun a w => by kernel_rfl⟩
theorem fld_104_1 : FieldIs Try.prog 104 1 1 := ⟨fun a w => by kernel_rfl⟩
theorem fld_107_0 : FieldIs Try.prog 107 0 0 := ⟨fun a w => by kernel_rfl⟩
theorem fld_107_1 : FieldIs Try.prog 107 1 1 := ⟨fun a w => by kernel_rfl⟩
theorem fld_113_0 : FieldIs Try.prog 113 0 0 := ⟨fun a w => by kernel_rfl⟩
theorem fld_113_1 : FieldIs Try.prog 113 1 8 := ⟨fun a w => by kernel_rfl⟩
theorem fld_117_0 : FieldIs Try.prog 117 0 0 := ⟨fun a w => by kernel_rfl⟩
theorem fld_117_1 : FieldIs Try.prog 117 1 8 := ⟨fun a w => by kernel_rfl⟩
theorem fld_128_0 : FieldIs Try.prog 128 0 0 := ⟨fun a w => by kernel_rfl⟩
theorem fld_128_1 : FieldIs Try.prog 128 1 2 := ⟨fun a w => by kernel_rfl⟩
theorem fld_128_2 : FieldIs Try.prog 128 2 6 := ⟨fun a w => by kernel_rfl⟩
theorem fld_128_3 : FieldIs Try.prog 128 3 7 := ⟨fun a w => by kernel_rfl⟩
theorem fld_131_0 : FieldIs Try.prog 131 0 0 := ⟨fun a w => by kernel_rfl⟩
theorem fld_131_1 : FieldIs Try.prog 131 1 1 := ⟨fun a w => by kernel_rfl⟩
theorem fld_131_2 : FieldIs Try.prog 131 2 2 := ⟨fun a w => by kernel_rfl⟩
theorem fld_131_3 : FieldIs Try.prog 131 3 3 := ⟨fun a w => by kernel_rfl⟩
theorem fld_140_0 : FieldIs Try.prog 140 0 0 := ⟨fun a w => by kernel_rfl⟩
theorem fld_140_1 : FieldIs Try.prog 140 1 1 := ⟨fun a w => by kernel_rfl⟩
theorem fld_140_2 : FieldIs Try.prog 140 2 2 := ⟨fun a w => by kernel_rfl⟩
theorem fld_140_3 : FieldIs Try.prog 140 3 3 := ⟨fun a w => by kernel_rfl⟩
theorem fld_140_4 : FieldIs Try.prog 140 4 4 := ⟨fun a w => by kernel_rfl⟩
theorem fld_140_5 : FieldIs Try.prog 140 5 5 := ⟨fun a w => by kernel_rfl⟩
theorem fld_140_6 : FieldIs Try.prog 140 6 10 := ⟨fun a w => by kernel_rfl⟩
theorem fld_158_0 : FieldIs Try.prog 158 0 0 := ⟨fun a w => by kernel_rfl⟩
theorem fld_158_1 : FieldIs Try.prog 158 1 1 := ⟨fun a w => by kernel_rfl⟩
theorem fld_180_0 : FieldIs Try.prog 180 0 0 := ⟨fun a w => by kernel_rfl⟩
theorem fld_180_1 : FieldIs Try.prog 180 1 8 := ⟨fun a w => by kernel_rfl⟩
theorem fld_180_2 : FieldIs Try.prog 180 2 9 := ⟨fun a w => by kernel_rfl⟩
theorem fld_180_3 : FieldIs Try.prog 180 3 11 := ⟨fun a w => by kernel_rfl⟩
theorem fld_180_4 : FieldIs Try.prog 180 4 12 := ⟨fun a w => by kernel_rfl⟩
theorem fld_191_0 : FieldIs Try.prog 191 0 0 := ⟨fun a w => by kernel_rfl⟩
theorem fld_191_1 : FieldIs Try.prog 191 1 1 := ⟨fun a w => by kernel_rfl⟩
theorem fld_193_0 : FieldIs Try.prog 193 0 0 := ⟨fun a w => by kernel_rfl⟩
theorem fld_193_1 : FieldIs Try.prog 193 1 8 := ⟨fun a w => by kernel_rfl⟩
theorem fld_208_0 : FieldIs Try.prog 208 0 0 := ⟨fun a w => by kernel_rfl⟩
theorem fld_208_1 : FieldIs Try.prog 208 1 2 := ⟨fun a w => by kernel_rfl⟩
theorem fld_208_3 : FieldIs Try.prog 208 3 7 := ⟨fun a w => by kernel_rfl⟩
theorem fld_212_0 : FieldIs Try.prog 212 0 0 := ⟨fun a w => by kernel_rfl⟩
theorem fld_212_1 : FieldIs Try.prog 212 1 1 := ⟨fun a w => by kernel_rfl⟩
theorem fld_212_2 : FieldIs Try.prog 212 2 2 := ⟨fun a w => by kernel_rfl⟩
theorem und_3 : UnderIs Try.prog 3 (.int .i64) := ⟨Try.underlying3⟩
theorem one_3 : IsOne Try.prog 3 := ⟨Try.isAgg3⟩
theorem siz_3 : SizeIs Try.prog 3 1 := ⟨Try.sizeOf3⟩
theorem zer_3 : ZeroIs Try.prog 3 [.int .i64 0] := ⟨_, Try.zeroValue3, rfl⟩
theorem zec_3 : ZeroCells Try.prog 3 (.int .i64 0) := ⟨Try.zeroValue3⟩
theorem und_4 : UnderIs Try.prog 4 .bool := ⟨Try.underlying4⟩
theorem one_4 : IsOne Try.prog 4 := ⟨Try.isAgg4⟩
theorem siz_4 : SizeIs Try.prog 4 1 := ⟨Try.sizeOf4⟩
theorem zer_4 : ZeroIs Try.prog 4 [.bool false] := ⟨_, Try.zeroValue4, rfl⟩
theorem zec_4 : ZeroCells Try.prog 4 (.bool false) := ⟨Try.zeroValue4⟩
theorem und_5 : UnderIs Try.prog 5 (.int .u8) := ⟨Try.underlying5⟩
theorem one_5 : IsOne Try.prog 5 := ⟨Try.isAgg5⟩
theorem siz_5 : SizeIs Try.prog 5 1 := ⟨Try.sizeOf5⟩
theorem zer_5 : ZeroIs Try.prog 5 [.int .u8 0] := ⟨_, Try.zeroValue5, rfl⟩
theorem zec_5 : ZeroCells Try.prog 5 (.int .u8 0) := ⟨Try.zeroValue5⟩
theorem und_9 : UnderIs Try.prog 9 .string := ⟨Try.underlying9⟩
theorem one_9 : IsOne Try.prog 9 := ⟨Try.isAgg9⟩
theorem siz_9 : SizeIs Try.prog 9 1 := ⟨Try.sizeOf9⟩
theorem zer_9 : ZeroIs Try.prog 9 [.string ⟨#[]⟩] := ⟨_, Try.zeroValue9, rfl⟩
theorem zec_9 : ZeroCells Try.prog 9 (.string ⟨#[]⟩) := ⟨Try.zeroValue9⟩
theorem und_22 : UnderIs Try.prog 22 (.slice 3) := ⟨Try.underlying22⟩
theorem one_22 : IsOne Try.prog 22 := ⟨Try.isAgg22⟩
theorem siz_22 : SizeIs Try.prog 22 1 := ⟨Try.sizeOf22⟩
theorem zer_22 : ZeroIs Try.prog 22 [.slice none 0 0] := ⟨_, Try.zeroValue22, rfl⟩
theorem zec_22 : ZeroCells Try.prog 22 (.slice none 0 0) := ⟨Try.zeroValue22⟩
theorem agg_24 : IsAg Try.prog 24 4 := ⟨Try.isAgg24, Try.sizeOf24⟩
theorem siz_24 : SizeIs Try.prog 24 4 := ⟨Try.sizeOf24⟩
theorem zer_24 : ZeroIs Try.prog 24 [.int .i64 0, .int .i64 0, .slice none 0 0, .int .i64 0] := ⟨_, Try.zeroValue24, rfl⟩
theorem zec_24 : ZeroCells Try.prog 24 (.agg #[.int .i64 0, .int .i64 0, .slice none 0 0, .int .i64 0]) := ⟨Try.zeroValue24⟩
theorem one_26 : IsOne Try.prog 26 := ⟨Try.isAgg26⟩
theorem siz_26 : SizeIs Try.prog 26 1 := ⟨Try.sizeOf26⟩
theorem zer_26 : ZeroIs Try.prog 26 [.nilIface] := ⟨_, Try.zeroValue26, rfl⟩
theorem zec_26 : ZeroCells Try.prog 26 (.nilIface) := ⟨Try.zeroValue26⟩
theorem und_34 : UnderIs Try.prog 34 (.slice 158) := ⟨Try.underlying34⟩
theorem one_34 : IsOne Try.prog 34 := ⟨Try.isAgg34⟩
theorem siz_34 : SizeIs Try.prog 34 1 := ⟨Try.sizeOf34⟩
theorem zer_34 : ZeroIs Try.prog 34 [.slice none 0 0] := ⟨_, Try.zeroValue34, rfl⟩
theorem zec_34 : ZeroCells Try.prog 34 (.slice none 0 0) := ⟨Try.zeroValue34⟩
theorem und_35 : UnderIs Try.prog 35 (.slice 104) := ⟨Try.underlying35⟩
theorem one_35 : IsOne Try.prog 35 := ⟨Try.isAgg35⟩
theorem siz_35 : SizeIs Try.prog 35 1 := ⟨Try.sizeOf35⟩
theorem zer_35 : ZeroIs Try.prog 35 [.slice none 0 0] := ⟨_, Try.zeroValue35, rfl⟩
theorem zec_35 : ZeroCells Try.prog 35 (.slice none 0 0) := ⟨Try.zeroValue35⟩
theorem agg_37 : IsAg Try.prog 37 8 := ⟨Try.isAgg37, Try.sizeOf37⟩
theorem siz_37 : SizeIs Try.prog 37 8 := ⟨Try.sizeOf37⟩
theorem zer_37 : ZeroIs Try.prog 37 [.int .i64 0, .int .i64 0, .int .i64 0, .int .i64 0, .bool false, .slice none 0 0, .string ⟨#[]⟩, .slice none 0 0] := ⟨_, Try.zeroValue37, rfl⟩
theorem zec_37 : ZeroCells Try.prog 37 (.agg #[.int .i64 0, .int .i64 0, .int .i64 0, .int .i64 0, .bool false, .slice none 0 0, .string ⟨#[]⟩, .slice none 0 0]) := ⟨Try.zeroValue37⟩
theorem und_49 : UnderIs Try.prog 49 (.slice 37) := ⟨Try.underlying49⟩
theorem one_49 : IsOne Try.prog 49 := ⟨Try.isAgg49⟩
theorem siz_49 : SizeIs Try.prog 49 1 := ⟨Try.sizeOf49⟩
theorem zer_49 : ZeroIs Try.prog 49 [.slice none 0 0] := ⟨_, Try.zeroValue49, rfl⟩
theorem zec_49 : ZeroCells Try.prog 49 (.slice none 0 0) := ⟨Try.zeroValue49⟩
theorem und_50 : UnderIs Try.prog 50 (.slice 9) := ⟨Try.underlying50⟩
theorem one_50 : IsOne Try.prog 50 := ⟨Try.isAgg50⟩
theorem siz_50 : SizeIs Try.prog 50 1 := ⟨Try.sizeOf50⟩
theorem zer_50 : ZeroIs Try.prog 50 [.slice none 0 0] := ⟨_, Try.zeroValue50, rfl⟩
theorem zec_50 : ZeroCells Try.prog 50 (.slice none 0 0) := ⟨Try.zeroValue50⟩
theorem und_62 : UnderIs Try.prog 62 (.slice 78) := ⟨Try.underlying62⟩
theorem one_62 : IsOne Try.prog 62 := ⟨Try.isAgg62⟩
theorem siz_62 : SizeIs Try.prog 62 1 := ⟨Try.sizeOf62⟩
theorem zer_62 : ZeroIs Try.prog 62 [.slice none 0 0] := ⟨_, Try.zeroValue62, rfl⟩
theorem zec_62 : ZeroCells Try.prog 62 (.slice none 0 0) := ⟨Try.zeroValue62⟩
theorem agg_64 : IsAg Try.prog 64 2 := ⟨Try.isAgg64, Try.sizeOf64⟩
theorem siz_64 : SizeIs Try.prog 64 2 := ⟨Try.sizeOf64⟩
theorem zer_64 : ZeroIs Try.prog 64 [.slice none 0 0, .slice none 0 0] := ⟨_, Try.zeroValue64, rfl⟩
theorem zec_64 : ZeroCells Try.prog 64 (.agg #[.slice none 0 0, .slice none 0 0]) := ⟨Try.zeroValue64⟩
theorem und_67 : UnderIs Try.prog 67 (.pointer 131) := ⟨Try.underlying67⟩
theorem one_67 : IsOne Try.prog 67 := ⟨Try.isAgg67⟩
theorem siz_67 : SizeIs Try.prog 67 1 := ⟨Try.sizeOf67⟩
theorem zer_67 : ZeroIs Try.prog 67 [.pointer none] := ⟨_, Try.zeroValue67, rfl⟩
theorem zec_67 : ZeroCells Try.prog 67 (.pointer none) := ⟨Try.zeroValue67⟩
theorem und_70 : UnderIs Try.prog 70 (.pointer 140) := ⟨Try.underlying70⟩
theorem one_70 : IsOne Try.prog 70 := ⟨Try.isAgg70⟩
theorem siz_70 : SizeIs Try.prog 70 1 := ⟨Try.sizeOf70⟩
theorem zer_70 : ZeroIs Try.prog 70 [.pointer none] := ⟨_, Try.zeroValue70, rfl⟩
theorem zec_70 : ZeroCells Try.prog 70 (.pointer none) := ⟨Try.zeroValue70⟩
theorem agg_78 : IsAg Try.prog 78 3 := ⟨Try.isAgg78, Try.sizeOf78⟩
theorem siz_78 : SizeIs Try.prog 78 3 := ⟨Try.sizeOf78⟩
theorem zer_78 : ZeroIs Try.prog 78 [.int .i64 0, .int .i64 0, .int .i64 0] := ⟨_, Try.zeroValue78, rfl⟩
theorem zec_78 : ZeroCells Try.prog 78 (.agg #[.int .i64 0, .int .i64 0, .int .i64 0]) := ⟨Try.zeroValue78⟩
theorem und_85 : UnderIs Try.prog 85 (.int .i64) := ⟨Try.underlying85⟩
theorem one_85 : IsOne Try.prog 85 := ⟨Try.isAgg85⟩
theorem siz_85 : SizeIs Try.prog 85 1 := ⟨Try.sizeOf85⟩
theorem zer_85 : ZeroIs Try.prog 85 [.int .i64 0] := ⟨_, Try.zeroValue85, rfl⟩
theorem zec_85 : ZeroCells Try.prog 85 (.int .i64 0) := ⟨Try.zeroValue85⟩
theorem und_92 : UnderIs Try.prog 92 (.pointer 95) := ⟨Try.underlying92⟩
theorem one_92 : IsOne Try.prog 92 := ⟨Try.isAgg92⟩
theorem siz_92 : SizeIs Try.prog 92 1 := ⟨Try.sizeOf92⟩
theorem zer_92 : ZeroIs Try.prog 92 [.pointer none] := ⟨_, Try.zeroValue92, rfl⟩
theorem zec_92 : ZeroCells Try.prog 92 (.pointer none) := ⟨Try.zeroValue92⟩
theorem und_93 : UnderIs Try.prog 93 (.slice 5) := ⟨Try.underlying93⟩
theorem one_93 : IsOne Try.prog 93 := ⟨Try.isAgg93⟩
theorem siz_93 : SizeIs Try.prog 93 1 := ⟨Try.sizeOf93⟩
theorem zer_93 : ZeroIs Try.prog 93 [.slice none 0 0] := ⟨_, Try.zeroValue93, rfl⟩
theorem zec_93 : ZeroCells Try.prog 93 (.slice none 0 0) := ⟨Try.zeroValue93⟩
theorem agg_95 : IsAg Try.prog 95 2 := ⟨Try.isAgg95, Try.sizeOf95⟩
theorem siz_95 : SizeIs Try.prog 95 2 := ⟨Try.sizeOf95⟩
theorem zer_95 : ZeroIs Try.prog 95 [.pointer none, .slice none 0 0] := ⟨_, Try.zeroValue95, rfl⟩
theorem zec_95 : ZeroCells Try.prog 95 (.agg #[.pointer none, .slice none 0 0]) := ⟨Try.zeroValue95⟩
theorem und_99 : UnderIs Try.prog 99 (.pointer 101) := ⟨Try.underlying99⟩
theorem one_99 : IsOne Try.prog 99 := ⟨Try.isAgg99⟩
theorem siz_99 : SizeIs Try.prog 99 1 := ⟨Try.sizeOf99⟩
theorem zer_99 : ZeroIs Try.prog 99 [.pointer none] := ⟨_, Try.zeroValue99, rfl⟩
theorem zec_99 : ZeroCells Try.prog 99 (.pointer none) := ⟨Try.zeroValue99⟩
theorem agg_101 : IsAg Try.prog 101 2 := ⟨Try.isAgg101, Try.sizeOf101⟩
theorem siz_101 : SizeIs Try.prog 101 2 := ⟨Try.sizeOf101⟩
theorem zer_101 : ZeroIs Try.prog 101 [.string ⟨#[]⟩, .bool false] := ⟨_, Try.zeroValue101, rfl⟩
theorem zec_101 : ZeroCells Try.prog 101 (.agg #[.string ⟨#[]⟩, .bool false]) := ⟨Try.zeroValue101⟩
theorem agg_104 : IsAg Try.prog 104 9 := ⟨Try.isAgg104, Try.sizeOf104⟩
theorem siz_104 : SizeIs Try.prog 104 9 := ⟨Try.sizeOf104⟩
theorem zer_104 : ZeroIs Try.prog 104 [.string ⟨#[]⟩, .int .i64 0, .int .i64 0, .int .i64 0, .int .i64 0, .bool false, .slice none 0 0, .string ⟨#[]⟩, .slice none 0 0] := ⟨_, Try.zeroValue104, rfl⟩
theorem zec_104 : ZeroCells Try.prog 104 (.agg #[.string ⟨#[]⟩, .int .i64 0, .int .i64 0, .int .i64 0, .int .i64 0, .bool false, .slice none 0 0, .string ⟨#[]⟩, .slice none 0 0]) := ⟨Try.zeroValue104⟩
theorem agg_107 : IsAg Try.prog 107 2 := ⟨Try.isAgg107, Try.sizeOf107⟩
theorem siz_107 : SizeIs Try.prog 107 2 := ⟨Try.sizeOf107⟩
theorem zer_107 : ZeroIs Try.prog 107 [.int .i64 0, .int .i64 0] := ⟨_, Try.zeroValue107, rfl⟩
theorem zec_107 : ZeroCells Try.prog 107 (.agg #[.int .i64 0, .int .i64 0]) := ⟨Try.zeroValue107⟩
theorem und_110 : UnderIs Try.prog 110 (.slice 113) := ⟨Try.underlying110⟩
theorem one_110 : IsOne Try.prog 110 := ⟨Try.isAgg110⟩
theorem siz_110 : SizeIs Try.prog 110 1 := ⟨Try.sizeOf110⟩
theorem zer_110 : ZeroIs Try.prog 110 [.slice none 0 0] := ⟨_, Try.zeroValue110, rfl⟩
theorem zec_110 : ZeroCells Try.prog 110 (.slice none 0 0) := ⟨Try.zeroValue110⟩
theorem agg_113 : IsAg Try.prog 113 9 := ⟨Try.isAgg113, Try.sizeOf113⟩
theorem siz_113 : SizeIs Try.prog 113 9 := ⟨Try.sizeOf113⟩
theorem zer_113 : ZeroIs Try.prog 113 [.int .i64 0, .int .i64 0, .int .i64 0, .int .i64 0, .bool false, .slice none 0 0, .string ⟨#[]⟩, .slice none 0 0, .int .i64 0] := ⟨_, Try.zeroValue113, rfl⟩
theorem zec_113 : ZeroCells Try.prog 113 (.agg #[.int .i64 0, .int .i64 0, .int .i64 0, .int .i64 0, .bool false, .slice none 0 0, .string ⟨#[]⟩, .slice none 0 0, .int .i64 0]) := ⟨Try.zeroValue113⟩
theorem und_114 : UnderIs Try.prog 114 (.slice 117) := ⟨Try.underlying114⟩
theorem one_114 : IsOne Try.prog 114 := ⟨Try.isAgg114⟩
theorem siz_114 : SizeIs Try.prog 114 1 := ⟨Try.sizeOf114⟩
theorem zer_114 : ZeroIs Try.prog 114 [.slice none 0 0] := ⟨_, Try.zeroValue114, rfl⟩
theorem zec_114 : ZeroCells Try.prog 114 (.slice none 0 0) := ⟨Try.zeroValue114⟩
theorem agg_117 : IsAg Try.prog 117 9 := ⟨Try.isAgg117, Try.sizeOf117⟩
theorem siz_117 : SizeIs Try.prog 117 9 := ⟨Try.sizeOf117⟩
theorem zer_117 : ZeroIs Try.prog 117 [.int .i64 0, .int .i64 0, .int .i64 0, .int .i64 0, .bool false, .slice none 0 0, .string ⟨#[]⟩, .slice none 0 0, .int .i64 0] := ⟨_, Try.zeroValue117, rfl⟩
theorem zec_117 : ZeroCells Try.prog 117 (.agg #[.int .i64 0, .int .i64 0, .int .i64 0, .int .i64 0, .bool false, .slice none 0 0, .string ⟨#[]⟩, .slice none 0 0, .int .i64 0]) := ⟨Try.zeroValue117⟩
theorem agg_128 : IsAg Try.prog 128 8 := ⟨Try.isAgg128, Try.sizeOf128⟩
theorem siz_128 : SizeIs Try.prog 128 8 := ⟨Try.sizeOf128⟩
theorem zer_128 : ZeroIs Try.prog 128 [.slice none 0 0, .slice none 0 0, .int .i64 0, .int .i64 0, .slice none 0 0, .int .i64 0, .int .i64 0, .slice none 0 0] := ⟨_, Try.zeroValue128, rfl⟩
theorem zec_128 : ZeroCells Try.prog 128 (.agg #[.slice none 0 0, .slice none 0 0, .int .i64 0, .int .i64 0, .slice none 0 0, .int .i64 0, .int .i64 0, .slice none 0 0]) := ⟨Try.zeroValue128⟩
theorem agg_131 : IsAg Try.prog 131 4 := ⟨Try.isAgg131, Try.sizeOf131⟩
theorem siz_131 : SizeIs Try.prog 131 4 := ⟨Try.sizeOf131⟩
theorem zer_131 : ZeroIs Try.prog 131 [.slice none 0 0, .int .i64 0, .bool false, .int .i64 0] := ⟨_, Try.zeroValue131, rfl⟩
theorem zec_131 : ZeroCells Try.prog 131 (.agg #[.slice none 0 0, .int .i64 0, .bool false, .int .i64 0]) := ⟨Try.zeroValue131⟩
theorem und_132 : UnderIs Try.prog 132 (.pointer 212) := ⟨Try.underlying132⟩
theorem one_132 : IsOne Try.prog 132 := ⟨Try.isAgg132⟩
theorem siz_132 : SizeIs Try.prog 132 1 := ⟨Try.sizeOf132⟩
theorem zer_132 : ZeroIs Try.prog 132 [.pointer none] := ⟨_, Try.zeroValue132, rfl⟩
theorem zec_132 : ZeroCells Try.prog 132 (.pointer none) := ⟨Try.zeroValue132⟩
theorem und_135 : UnderIs Try.prog 135 (.pointer 193) := ⟨Try.underlying135⟩
theorem one_135 : IsOne Try.prog 135 := ⟨Try.isAgg135⟩
theorem siz_135 : SizeIs Try.prog 135 1 := ⟨Try.sizeOf135⟩
theorem zer_135 : ZeroIs Try.prog 135 [.pointer none] := ⟨_, Try.zeroValue135, rfl⟩
theorem zec_135 : ZeroCells Try.prog 135 (.pointer none) := ⟨Try.zeroValue135⟩
theorem agg_136 : IsAg Try.prog 136 5 := ⟨Try.isAgg136, Try.sizeOf136⟩
theorem siz_136 : SizeIs Try.prog 136 5 := ⟨Try.sizeOf136⟩
theorem zer_136 : ZeroIs Try.prog 136 [.pointer none, .pointer none, .pointer none, .pointer none, .pointer none] := ⟨_, Try.zeroValue136, rfl⟩
theorem zec_136 : ZeroCells Try.prog 136 (.agg #[.pointer none, .pointer none, .pointer none, .pointer none, .pointer none]) := ⟨Try.zeroValue136⟩
theorem und_137 : UnderIs Try.prog 137 (.pointer 180) := ⟨Try.underlying137⟩
theorem one_137 : IsOne Try.prog 137 := ⟨Try.isAgg137⟩
theorem siz_137 : SizeIs Try.prog 137 1 := ⟨Try.sizeOf137⟩
theorem zer_137 : ZeroIs Try.prog 137 [.pointer none] := ⟨_, Try.zeroValue137, rfl⟩
theorem zec_137 : ZeroCells Try.prog 137 (.pointer none) := ⟨Try.zeroValue137⟩
theorem agg_138 : IsAg Try.prog 138 5 := ⟨Try.isAgg138, Try.sizeOf138⟩
theorem siz_138 : SizeIs Try.prog 138 5 := ⟨Try.sizeOf138⟩
theorem zer_138 : ZeroIs Try.prog 138 [.pointer none, .pointer none, .pointer none, .pointer none, .pointer none] := ⟨_, Try.zeroValue138, rfl⟩
theorem zec_138 : ZeroCells Try.prog 138 (.agg #[.pointer none, .pointer none, .pointer none, .pointer none, .pointer none]) := ⟨Try.zeroValue138⟩
theorem agg_140 : IsAg Try.prog 140 15 := ⟨Try.isAgg140, Try.sizeOf140⟩
theorem siz_140 : SizeIs Try.prog 140 15 := ⟨Try.sizeOf140⟩
theorem zer_140 : ZeroIs Try.prog 140 [.pointer none, .bool false, .int .i64 0, .int .i64 0, .pointer none, .pointer none, .pointer none, .pointer none, .pointer none, .pointer none, .pointer none, .pointer none, .pointer none, .pointer none, .pointer none] := ⟨_, Try.zeroValue140, rfl⟩
theorem zec_140 : ZeroCells Try.prog 140 (.agg #[.pointer none, .bool false, .int .i64 0, .int .i64 0, .pointer none, .pointer none, .pointer none, .pointer none, .pointer none, .pointer none, .pointer none, .pointer none, .pointer none, .pointer none, .pointer none]) := ⟨Try.zeroValue140⟩
theorem agg_143 : IsAg Try.prog 143 2 := ⟨Try.isAgg143, Try.sizeOf143⟩
theorem siz_143 : SizeIs Try.prog 143 2 := ⟨Try.sizeOf143⟩
theorem zer_143 : ZeroIs Try.prog 143 [.slice none 0 0, .slice none 0 0] := ⟨_, Try.zeroValue143, rfl⟩
theorem zec_143 : ZeroCells Try.prog 143 (.agg #[.slice none 0 0, .slice none 0 0]) := ⟨Try.zeroValue143⟩
theorem agg_158 : IsAg Try.prog 158 2 := ⟨Try.isAgg158, Try.sizeOf158⟩
theorem siz_158 : SizeIs Try.prog 158 2 := ⟨Try.sizeOf158⟩
theorem zer_158 : ZeroIs Try.prog 158 [.string ⟨#[]⟩, .string ⟨#[]⟩] := ⟨_, Try.zeroValue158, rfl⟩
theorem zec_158 : ZeroCells Try.prog 158 (.agg #[.string ⟨#[]⟩, .string ⟨#[]⟩]) := ⟨Try.zeroValue158⟩
theorem und_160 : UnderIs Try.prog 160 (.pointer 5) := ⟨Try.underlying160⟩
theorem one_160 : IsOne Try.prog 160 := ⟨Try.isAgg160⟩
theorem siz_160 : SizeIs Try.prog 160 1 := ⟨Try.sizeOf160⟩
theorem zer_160 : ZeroIs Try.prog 160 [.pointer none] := ⟨_, Try.zeroValue160, rfl⟩
theorem zec_160 : ZeroCells Try.prog 160 (.pointer none) := ⟨Try.zeroValue160⟩
theorem agg_161 : IsAg Try.prog 161 3 := ⟨Try.isAgg161, Try.sizeOf161⟩
theorem siz_161 : SizeIs Try.prog 161 3 := ⟨Try.sizeOf161⟩
theorem zer_161 : ZeroIs Try.prog 161 [.int .i64 0, .int .i64 0, .int .i64 0] := ⟨_, Try.zeroValue161, rfl⟩
theorem zec_161 : ZeroCells Try.prog 161 (.agg #[.int .i64 0, .int .i64 0, .int .i64 0]) := ⟨Try.zeroValue161⟩
theorem und_162 : UnderIs Try.prog 162 (.pointer 107) := ⟨Try.underlying162⟩
theorem one_162 : IsOne Try.prog 162 := ⟨Try.isAgg162⟩
theorem siz_162 : SizeIs Try.prog 162 1 := ⟨Try.sizeOf162⟩
theorem zer_162 : ZeroIs Try.prog 162 [.pointer none] := ⟨_, Try.zeroValue162, rfl⟩
theorem zec_162 : ZeroCells Try.prog 162 (.pointer none) := ⟨Try.zeroValue162⟩
theorem und_169 : UnderIs Try.prog 169 (.map 9 4) := ⟨Try.underlying169⟩
theorem one_169 : IsOne Try.prog 169 := ⟨Try.isAgg169⟩
theorem siz_169 : SizeIs Try.prog 169 1 := ⟨Try.sizeOf169⟩
theorem zer_169 : ZeroIs Try.prog 169 [.map none] := ⟨_, Try.zeroValue169, rfl⟩
theorem zec_169 : ZeroCells Try.prog 169 (.map none) := ⟨Try.zeroValue169⟩
theorem und_173 : UnderIs Try.prog 173 (.pointer 208) := ⟨Try.underlying173⟩
theorem one_173 : IsOne Try.prog 173 := ⟨Try.isAgg173⟩
theorem siz_173 : SizeIs Try.prog 173 1 := ⟨Try.sizeOf173⟩
theorem zer_173 : ZeroIs Try.prog 173 [.pointer none] := ⟨_, Try.zeroValue173, rfl⟩
theorem zec_173 : ZeroCells Try.prog 173 (.pointer none) := ⟨Try.zeroValue173⟩
theorem agg_180 : IsAg Try.prog 180 13 := ⟨Try.isAgg180, Try.sizeOf180⟩
theorem siz_180 : SizeIs Try.prog 180 13 := ⟨Try.sizeOf180⟩
theorem zer_180 : ZeroIs Try.prog 180 [.slice none 0 0, .slice none 0 0, .int .i64 0, .int .i64 0, .slice none 0 0, .int .i64 0, .int .i64 0, .slice none 0 0, .pointer none, .slice none 0 0, .slice none 0 0, .int .i64 0, .int .i64 0] := ⟨_, Try.zeroValue180, rfl⟩
theorem zec_180 : ZeroCells Try.prog 180 (.agg #[.slice none 0 0, .slice none 0 0, .int .i64 0, .int .i64 0, .slice none 0 0, .int .i64 0, .int .i64 0, .slice none 0 0, .pointer none, .slice none 0 0, .slice none 0 0, .int .i64 0, .int .i64 0]) := ⟨Try.zeroValue180⟩
theorem und_189 : UnderIs Try.prog 189 (.pointer 191) := ⟨Try.underlying189⟩
theorem one_189 : IsOne Try.prog 189 := ⟨Try.isAgg189⟩
theorem siz_189 : SizeIs Try.prog 189 1 := ⟨Try.sizeOf189⟩
theorem zer_189 : ZeroIs Try.prog 189 [.pointer none] := ⟨_, Try.zeroValue189, rfl⟩
theorem zec_189 : ZeroCells Try.prog 189 (.pointer none) := ⟨Try.zeroValue189⟩
theorem agg_191 : IsAg Try.prog 191 2 := ⟨Try.isAgg191, Try.sizeOf191⟩
theorem siz_191 : SizeIs Try.prog 191 2 := ⟨Try.sizeOf191⟩
theorem zer_191 : ZeroIs Try.prog 191 [.string ⟨#[]⟩, .bool false] := ⟨_, Try.zeroValue191, rfl⟩
theorem zec_191 : ZeroCells Try.prog 191 (.agg #[.string ⟨#[]⟩, .bool false]) := ⟨Try.zeroValue191⟩
theorem agg_193 : IsAg Try.prog 193 9 := ⟨Try.isAgg193, Try.sizeOf193⟩
theorem siz_193 : SizeIs Try.prog 193 9 := ⟨Try.sizeOf193⟩
theorem zer_193 : ZeroIs Try.prog 193 [.int .i64 0, .int .i64 0, .int .i64 0, .int .i64 0, .bool false, .slice none 0 0, .string ⟨#[]⟩, .slice none 0 0, .slice none 0 0] := ⟨_, Try.zeroValue193, rfl⟩
theorem zec_193 : ZeroCells Try.prog 193 (.agg #[.int .i64 0, .int .i64 0, .int .i64 0, .int .i64 0, .bool false, .slice none 0 0, .string ⟨#[]⟩, .slice none 0 0, .slice none 0 0]) := ⟨Try.zeroValue193⟩
theorem agg_208 : IsAg Try.prog 208 8 := ⟨Try.isAgg208, Try.sizeOf208⟩
theorem siz_208 : SizeIs Try.prog 208 8 := ⟨Try.sizeOf208⟩
theorem zer_208 : ZeroIs Try.prog 208 [.slice none 0 0, .slice none 0 0, .int .i64 0, .int .i64 0, .slice none 0 0, .int .i64 0, .int .i64 0, .slice none 0 0] := ⟨_, Try.zeroValue208, rfl⟩
theorem zec_208 : ZeroCells Try.prog 208 (.agg #[.slice none 0 0, .slice none 0 0, .int .i64 0, .int .i64 0, .slice none 0 0, .int .i64 0, .int .i64 0, .slice none 0 0]) := ⟨Try.zeroValue208⟩
theorem und_210 : UnderIs Try.prog 210 (.map 3 3) := ⟨Try.underlying210⟩
theorem one_210 : IsOne Try.prog 210 := ⟨Try.isAgg210⟩
theorem siz_210 : SizeIs Try.prog 210 1 := ⟨Try.sizeOf210⟩
theorem zer_210 : ZeroIs Try.prog 210 [.map none] := ⟨_, Try.zeroValue210, rfl⟩
theorem zec_210 : ZeroCells Try.prog 210 (.map none) := ⟨Try.zeroValue210⟩
theorem agg_212 : IsAg Try.prog 212 3 := ⟨Try.isAgg212, Try.sizeOf212⟩
theorem siz_212 : SizeIs Try.prog 212 3 := ⟨Try.sizeOf212⟩
theorem zer_212 : ZeroIs Try.prog 212 [.int .i64 0, .int .i64 0, .map none] := ⟨_, Try.zeroValue212, rfl⟩
theorem zec_212 : ZeroCells Try.prog 212 (.agg #[.int .i64 0, .int .i64 0, .map none]) := ⟨Try.zeroValue212⟩
theorem und_213 : UnderIs Try.prog 213 (.map 3 4) := ⟨Try.underlying213⟩
theorem one_213 : IsOne Try.prog 213 := ⟨Try.isAgg213⟩
theorem siz_213 : SizeIs Try.prog 213 1 := ⟨Try.sizeOf213⟩
theorem zer_213 : ZeroIs Try.prog 213 [.map none] := ⟨_, Try.zeroValue213, rfl⟩
theorem zec_213 : ZeroCells Try.prog 213 (.map none) := ⟨Try.zeroValue213⟩
theorem one_217 : IsOne Try.prog 217 := ⟨Try.isAgg217⟩
theorem siz_217 : SizeIs Try.prog 217 1 := ⟨Try.sizeOf217⟩
theorem und_224 : UnderIs Try.prog 224 (.slice 26) := ⟨Try.underlying224⟩
theorem one_224 : IsOne Try.prog 224 := ⟨Try.isAgg224⟩
theorem siz_224 : SizeIs Try.prog 224 1 := ⟨Try.sizeOf224⟩
theorem zer_224 : ZeroIs Try.prog 224 [.slice none 0 0] := ⟨_, Try.zeroValue224, rfl⟩
theorem zec_224 : ZeroCells Try.prog 224 (.slice none 0 0) := ⟨Try.zeroValue224⟩
theorem inf_3 : InfoIs Try.prog 3 1 8 := ⟨by obtain ⟨i, h0, h1, h2, h3⟩ := info_parts (show (Try.prog.info? 3).map (fun i => (i.zero, i.size, i.bytes)) = some (some (.int .i64 0), 1, 8) by kernel_rfl); exact ⟨i, _, h0, h1, h2, h3, rfl⟩⟩
theorem inf_158 : InfoIs Try.prog 158 2 32 := ⟨by obtain ⟨i, h0, h1, h2, h3⟩ := info_parts (show (Try.prog.info? 158).map (fun i => (i.zero, i.size, i.bytes)) = some (some (.agg #[.string ⟨#[]⟩, .string ⟨#[]⟩]), 2, 32) by kernel_rfl); exact ⟨i, _, h0, h1, h2, h3, rfl⟩⟩
theorem inf_104 : InfoIs Try.prog 104 9 120 := ⟨by obtain ⟨i, h0, h1, h2, h3⟩ := info_parts (show (Try.prog.info? 104).map (fun i => (i.zero, i.size, i.bytes)) = some (some (.agg #[.string ⟨#[]⟩, .int .i64 0, .int .i64 0, .int .i64 0, .int .i64 0, .bool false, .slice none 0 0, .string ⟨#[]⟩, .slice none 0 0]), 9, 120) by kernel_rfl); exact ⟨i, _, h0, h1, h2, h3, rfl⟩⟩
theorem inf_37 : InfoIs Try.prog 37 8 104 := ⟨by obtain ⟨i, h0, h1, h2, h3⟩ := info_parts (show (Try.prog.info? 37).map (fun i => (i.zero, i.size, i.bytes)) = some (some (.agg #[.int .i64 0, .int .i64 0, .int .i64 0, .int .i64 0, .bool false, .slice none 0 0, .string ⟨#[]⟩, .slice none 0 0]), 8, 104) by kernel_rfl); exact ⟨i, _, h0, h1, h2, h3, rfl⟩⟩
theorem inf_9 : InfoIs Try.prog 9 1 16 := ⟨by obtain ⟨i, h0, h1, h2, h3⟩ := info_parts (show (Try.prog.info? 9).map (fun i => (i.zero, i.size, i.bytes)) = some (some (.string ⟨#[]⟩), 1, 16) by kernel_rfl); exact ⟨i, _, h0, h1, h2, h3, rfl⟩⟩
theorem inf_78 : InfoIs Try.prog 78 3 24 := ⟨by obtain ⟨i, h0, h1, h2, h3⟩ := info_parts (show (Try.prog.info? 78).map (fun i => (i.zero, i.size, i.bytes)) = some (some (.agg #[.int .i64 0, .int .i64 0, .int .i64 0]), 3, 24) by kernel_rfl); exact ⟨i, _, h0, h1, h2, h3, rfl⟩⟩
theorem inf_5 : InfoIs Try.prog 5 1 1 := ⟨by obtain ⟨i, h0, h1, h2, h3⟩ := info_parts (show (Try.prog.info? 5).map (fun i => (i.zero, i.size, i.bytes)) = some (some (.int .u8 0), 1, 1) by kernel_rfl); exact ⟨i, _, h0, h1, h2, h3, rfl⟩⟩
theorem inf_113 : InfoIs Try.prog 113 9 112 := ⟨by obtain ⟨i, h0, h1, h2, h3⟩ := info_parts (show (Try.prog.info? 113).map (fun i => (i.zero, i.size, i.bytes)) = some (some (.agg #[.int .i64 0, .int .i64 0, .int .i64 0, .int .i64 0, .bool false, .slice none 0 0, .string ⟨#[]⟩, .slice none 0 0, .int .i64 0]), 9, 112) by kernel_rfl); exact ⟨i, _, h0, h1, h2, h3, rfl⟩⟩
theorem inf_117 : InfoIs Try.prog 117 9 112 := ⟨by obtain ⟨i, h0, h1, h2, h3⟩ := info_parts (show (Try.prog.info? 117).map (fun i => (i.zero, i.size, i.bytes)) = some (some (.agg #[.int .i64 0, .int .i64 0, .int .i64 0, .int .i64 0, .bool false, .slice none 0 0, .string ⟨#[]⟩, .slice none 0 0, .int .i64 0]), 9, 112) by kernel_rfl); exact ⟨i, _, h0, h1, h2, h3, rfl⟩⟩
theorem inf_26 : InfoIs Try.prog 26 1 16 := ⟨by obtain ⟨i, h0, h1, h2, h3⟩ := info_parts (show (Try.prog.info? 26).map (fun i => (i.zero, i.size, i.bytes)) = some (some (.nilIface), 1, 16) by kernel_rfl); exact ⟨i, _, h0, h1, h2, h3, rfl⟩⟩
theorem bld_24 : BuildIs Try.prog 24 [(0, 1), (1, 1), (2, 1), (3, 1)] [.int .i64 0, .int .i64 0, .slice none 0 0, .int .i64 0] := ⟨⟨_, Try.runUnderlying24, fun w => by kernel_rfl⟩, ⟨_, Try.zeroValue24, rfl⟩⟩
theorem bld_37 : BuildIs Try.prog 37 [(0, 1), (1, 1), (2, 1), (3, 1), (4, 1), (5, 1), (6, 1), (7, 1)] [.int .i64 0, .int .i64 0, .int .i64 0, .int .i64 0, .bool false, .slice none 0 0, .string ⟨#[]⟩, .slice none 0 0] := ⟨⟨_, Try.runUnderlying37, fun w => by kernel_rfl⟩, ⟨_, Try.zeroValue37, rfl⟩⟩
theorem bld_64 : BuildIs Try.prog 64 [(0, 1), (1, 1)] [.slice none 0 0, .slice none 0 0] := ⟨⟨_, Try.runUnderlying64, fun w => by kernel_rfl⟩, ⟨_, Try.zeroValue64, rfl⟩⟩
theorem bld_78 : BuildIs Try.prog 78 [(0, 1), (1, 1), (2, 1)] [.int .i64 0, .int .i64 0, .int .i64 0] := ⟨⟨_, Try.runUnderlying78, fun w => by kernel_rfl⟩, ⟨_, Try.zeroValue78, rfl⟩⟩
theorem bld_101 : BuildIs Try.prog 101 [(0, 1), (1, 1)] [.string ⟨#[]⟩, .bool false] := ⟨⟨_, Try.runUnderlying101, fun w => by kernel_rfl⟩, ⟨_, Try.zeroValue101, rfl⟩⟩
theorem bld_104 : BuildIs Try.prog 104 [(0, 1), (1, 8)] [.string ⟨#[]⟩, .int .i64 0, .int .i64 0, .int .i64 0, .int .i64 0, .bool false, .slice none 0 0, .string ⟨#[]⟩, .slice none 0 0] := ⟨⟨_, Try.runUnderlying104, fun w => by kernel_rfl⟩, ⟨_, Try.zeroValue104, rfl⟩⟩
theorem bld_113 : BuildIs Try.prog 113 [(0, 8), (8, 1)] [.int .i64 0, .int .i64 0, .int .i64 0, .int .i64 0, .bool false, .slice none 0 0, .string ⟨#[]⟩, .slice none 0 0, .int .i64 0] := ⟨⟨_, Try.runUnderlying113, fun w => by kernel_rfl⟩, ⟨_, Try.zeroValue113, rfl⟩⟩
theorem bld_117 : BuildIs Try.prog 117 [(0, 8), (8, 1)] [.int .i64 0, .int .i64 0, .int .i64 0, .int .i64 0, .bool false, .slice none 0 0, .string ⟨#[]⟩, .slice none 0 0, .int .i64 0] := ⟨⟨_, Try.runUnderlying117, fun w => by kernel_rfl⟩, ⟨_, Try.zeroValue117, rfl⟩⟩
theorem bld_128 : BuildIs Try.prog 128 [(0, 2), (2, 4), (6, 1), (7, 1)] [.slice none 0 0, .slice none 0 0, .int .i64 0, .int .i64 0, .slice none 0 0, .int .i64 0, .int .i64 0, .slice none 0 0] := ⟨⟨_, Try.runUnderlying128, fun w => by kernel_rfl⟩, ⟨_, Try.zeroValue128, rfl⟩⟩
theorem bld_131 : BuildIs Try.prog 131 [(0, 1), (1, 1), (2, 1), (3, 1)] [.slice none 0 0, .int .i64 0, .bool false, .int .i64 0] := ⟨⟨_, Try.runUnderlying131, fun w => by kernel_rfl⟩, ⟨_, Try.zeroValue131, rfl⟩⟩
theorem bld_140 : BuildIs Try.prog 140 [(0, 1), (1, 1), (2, 1), (3, 1), (4, 1), (5, 5), (10, 5)] [.pointer none, .bool false, .int .i64 0, .int .i64 0, .pointer none, .pointer none, .pointer none, .pointer none, .pointer none, .pointer none, .pointer none, .pointer none, .pointer none, .pointer none, .pointer none] := ⟨⟨_, Try.runUnderlying140, fun w => by kernel_rfl⟩, ⟨_, Try.zeroValue140, rfl⟩⟩
theorem bld_158 : BuildIs Try.prog 158 [(0, 1), (1, 1)] [.string ⟨#[]⟩, .string ⟨#[]⟩] := ⟨⟨_, Try.runUnderlying158, fun w => by kernel_rfl⟩, ⟨_, Try.zeroValue158, rfl⟩⟩
theorem bld_180 : BuildIs Try.prog 180 [(0, 8), (8, 1), (9, 2), (11, 1), (12, 1)] [.slice none 0 0, .slice none 0 0, .int .i64 0, .int .i64 0, .slice none 0 0, .int .i64 0, .int .i64 0, .slice none 0 0, .pointer none, .slice none 0 0, .slice none 0 0, .int .i64 0, .int .i64 0] := ⟨⟨_, Try.runUnderlying180, fun w => by kernel_rfl⟩, ⟨_, Try.zeroValue180, rfl⟩⟩
theorem bld_191 : BuildIs Try.prog 191 [(0, 1), (1, 1)] [.string ⟨#[]⟩, .bool false] := ⟨⟨_, Try.runUnderlying191, fun w => by kernel_rfl⟩, ⟨_, Try.zeroValue191, rfl⟩⟩
theorem bld_193 : BuildIs Try.prog 193 [(0, 8), (8, 1)] [.int .i64 0, .int .i64 0, .int .i64 0, .int .i64 0, .bool false, .slice none 0 0, .string ⟨#[]⟩, .slice none 0 0, .slice none 0 0] := ⟨⟨_, Try.runUnderlying193, fun w => by kernel_rfl⟩, ⟨_, Try.zeroValue193, rfl⟩⟩
theorem bld_208 : BuildIs Try.prog 208 [(0, 2), (2, 4), (6, 1), (7, 1)] [.slice none 0 0, .slice none 0 0, .int .i64 0, .int .i64 0, .slice none 0 0, .int .i64 0, .int .i64 0, .slice none 0 0] := ⟨⟨_, Try.runUnderlying208, fun w => by kernel_rfl⟩, ⟨_, Try.zeroValue208, rfl⟩⟩
theorem bld_212 : BuildIs Try.prog 212 [(0, 1), (1, 1), (2, 1)] [.int .i64 0, .int .i64 0, .map none] := ⟨⟨_, Try.runUnderlying212, fun w => by kernel_rfl⟩, ⟨_, Try.zeroValue212, rfl⟩⟩
end Go.Proofs.Ytejkmomfpidnbab

/- Errors, by the engine: a number told as an error. -/
namespace Go.Proofs.Ytejkmomfpidnbab
open Go.RowKit
set_option linter.unusedSimpArgs false
set_option linter.unusedVariables false

/-- An error by its number; 0: nil. -/
def errV (e : Int) : Value := if e = 0 then .nilIface else .iface 85 (.int .i64 e)
theorem errV_zero : errV 0 = .nilIface := by simp [errV]
theorem errV_pos {e : Int} (h : e ≠ 0) : errV e = .iface 85 (.int .i64 e) := by simp [errV, h]
theorem errV_nil {e : Int} (h : e = 0) : Value.nilIface = errV e := by rw [h, errV_zero]
theorem errV_is {e : Int} (k : Int) (h : e = k) (hk : k ≠ 0 := by decide) : Value.iface 85 (.int .i64 k) = errV e := by rw [h, errV_pos hk]
theorem run_neq_err (e : Int) (w : World) : (binOp .neq 26 (errV e) .nilIface).run Try.prog w = .ok (.bool (decide (¬ e = 0))) w := by
  by_cases h : e = 0
  · subst h; rw [errV_zero]; kernel_rfl
  · rw [errV_pos h, decide_eq_true h]; kernel_rfl
theorem run_eql_err (e : Int) (w : World) : (binOp .eql 26 (errV e) .nilIface).run Try.prog w = .ok (.bool (decide (e = 0))) w := by
  by_cases h : e = 0
  · subst h; rw [errV_zero]; kernel_rfl
  · rw [errV_pos h, decide_eq_false h]; kernel_rfl
theorem guard_neq_err (x : Operand) (e : Int) (w : World) : (eqGuard .neq 26 x (.const .nilIface) (errV e) .nilIface).run Try.prog w = .ok () w := by
  by_cases h : e = 0
  · subst h; rw [errV_zero]; simp [eqGuard]
  · rw [errV_pos h]; rfl
theorem guard_eql_err (x : Operand) (e : Int) (w : World) : (eqGuard .eql 26 x (.const .nilIface) (errV e) .nilIface).run Try.prog w = .ok () w := by
  by_cases h : e = 0
  · subst h; rw [errV_zero]; simp [eqGuard]
  · rw [errV_pos h]; rfl
section
variable {B : Base} {N : Nat} {F : List (Nat × Value)} {V : View} {L : List Box} {d : Option Tmp} {ty ty2 : TypeId} {pos : String} {af : Array Edge} {gd : Option (Nat × Bool)} {x : Operand} {e : Int}
theorem q_eneq (hx : evF F x = some (errV e)) : QP Try.prog B N V L ⟨d, .binOp .neq 26 x (.const .nilIface) ty2, ty, pos, af, gd⟩ F (.bool (decide (¬ e = 0))) :=
  q_bin (y := .const .nilIface) hx rfl (guard_neq_err x e) (run_neq_err e)
theorem q_eeql (hx : evF F x = some (errV e)) : QP Try.prog B N V L ⟨d, .binOp .eql 26 x (.const .nilIface) ty2, ty, pos, af, gd⟩ F (.bool (decide (e = 0))) :=
  q_bin (y := .const .nilIface) hx rfl (guard_eql_err x e) (run_eql_err e)
theorem run_assert (e : Int) (w : World) : (Instr.typeAssert (.iface 85 (.int .i64 e)) 26 85 true).run Try.prog w = .ok (.tuple #[.int .i64 e, .bool true]) w := by kernel_rfl
theorem q_assert (hx : evF F x = some (.iface 85 (.int .i64 e))) : QP Try.prog B N V L ⟨d, .typeAssert x 26 85 true, ty, pos, af, gd⟩ F (.tuple #[.int .i64 e, .bool true]) := q_of fun a w ha _ => by
  simp [execOp, ha.ev hx, run_assert]
theorem q_conv_int {k : Int} {s t : TypeId} {ds : TypeDesc} (hs : UnderIs Try.prog s ds) (ht : UnderIs Try.prog t (.int .i64)) (hx : evF F x = some (.int .i64 k)) (h : -9223372036854775808 ≤ k ∧ k ≤ 9223372036854775807) : QP Try.prog B N V L ⟨d, .convert s t x, ty, pos, af, gd⟩ F (.int .i64 k) := q_of fun a w ha _ => by
  have e : (Conv.intToInt .i64 k) = pure (.int .i64 k) := by unfold Conv.intToInt; rw [IntWalk.i64_in _ h]
  simp [execOp, ha.ev hx, convert, hs.h, ht.h, e]
end
attribute [local irreducible] AtQ GoC GoL GoW QO QP Fn RV OwnAt CellsFrom VLe SrcIs
set_option maxRecDepth 100000
theorem same_c (V : View) (e f : Int) (he : 0 ≤ e ∧ e ≤ 1000) : Fn Try.prog 17 [errV e, .int .i64 f] V fun v _ => v = .bool (decide (e = f)) := by
  by_cases h0 : e = 0
  · subst h0
    (refine fn_enter Try.func17 rfl Try.ntmps17 rfl ?_; intro w0)
    repeat' (first | (refine k_gw ?_; (first | (refine k_assign ?_; (first | refine gw_q rfl (q_assign rfl) ?_)) | (refine k_move ?_; (first | refine gw_q rfl (q_move rfl) ?_)) | (refine k_binOp ?_; (first | refine gw_q rfl (q_eeql rfl) ?_ | refine gw_q rfl (q_eql rfl rfl) ?_ | refine gw_q rfl (q_gtr rfl rfl) ?_)) | (refine k_extract ?_; (first | refine gw_q rfl (q_extract rfl rfl) ?_)) | (refine k_pick ?_; (first | refine gw_q rfl (q_pick_t rfl rfl) ?_ | refine gw_q rfl (q_pick_f rfl rfl) ?_)))) | (refine k_gl ?_; (first | refine gl_nil rfl ?_ | refine gl_go rfl rfl ?_ | refine gl_yes rfl rfl rfl rfl rfl ?_ | refine gl_no rfl rfl rfl rfl rfl rfl rfl ?_ | refine gl_nou rfl rfl rfl rfl rfl rfl ?_ | (refine gl_split_p rfl rfl rfl ?_ ?_ <;> intro hq <;> try (exfalso; first | exact hq rfl | omega)) | (refine gl_split_b rfl rfl rfl ?_ ?_ <;> intro hq))) | (refine k_gc ?_; (first | refine gc_seq ?_ | refine gc_region ?_ | refine gc_cond_t rfl ?_ | refine gc_cond_f rfl ?_ | (refine gc_cond_p rfl ?_ ?_ <;> intro hq <;> try (exfalso; first | exact hq rfl | omega)) | (refine gc_cond_b rfl ?_ ?_ <;> intro hq) | refine gc_block ?_ | refine gc_exit ?_ | refine gc_ret ?_ | refine gc_skip ?_)) | (refine k_at ?_; (first | refine at_seq ?_ | refine at_then_ret ?_ | refine at_then_exit ?_ | refine at_thn_ret ?_ | refine at_thn_exit ?_ | refine at_block_normal ?_ | refine at_block_ret ?_ | refine at_block_hit ?_ | refine at_block_miss rfl ?_)))
    all_goals (refine at_ret1 Try.results17 (rv_tmp rfl) ?_)
    all_goals simp_all [eq_comm]
  · rw [errV_pos h0]
    have hnn := run_eql_err e
    rw [errV_pos h0] at hnn
    have hng := fun x => guard_eql_err x e
    rw [errV_pos h0] at hng
    (refine fn_enter Try.func17 rfl Try.ntmps17 rfl ?_; intro w0)
    repeat' (first | (refine k_gw ?_; (first | (refine k_assign ?_; (first | refine gw_q rfl (q_assign rfl) ?_)) | (refine k_move ?_; (first | refine gw_q rfl (q_move rfl) ?_)) | (refine k_binOp ?_; (first | refine gw_q rfl (q_eeql rfl) ?_ | refine gw_q rfl (q_eql rfl rfl) ?_ | refine gw_q rfl (q_gtr rfl rfl) ?_)) | (refine k_extract ?_; (first | refine gw_q rfl (q_extract rfl rfl) ?_)) | (refine k_pick ?_; (first | refine gw_q rfl (q_pick_t rfl rfl) ?_ | refine gw_q rfl (q_pick_f rfl rfl) ?_)) | refine gw_q rfl (q_assert rfl) ?_ | refine gw_q rfl (q_bin (y := .const .nilIface) rfl rfl (hng _) hnn) ?_)) | (refine k_gl ?_; (first | refine gl_nil rfl ?_ | refine gl_go rfl rfl ?_ | refine gl_yes rfl rfl rfl rfl rfl ?_ | refine gl_no rfl rfl rfl rfl rfl rfl rfl ?_ | (refine gl_split_p rfl rfl rfl ?_ ?_ <;> intro hq <;> try (exfalso; first | exact hq rfl | omega)))) | (refine k_gc ?_; (first | refine gc_seq ?_ | refine gc_region ?_ | (refine gc_cond_p rfl ?_ ?_ <;> intro hq <;> try (exfalso; first | exact hq rfl | omega)) | refine gc_ret ?_ | refine gc_skip ?_)) | (refine k_at ?_; (first | refine at_seq ?_ | refine at_then_ret ?_ | refine at_then_exit ?_ | refine at_thn_ret ?_ | refine at_thn_exit ?_ | refine at_block_normal ?_ | refine at_block_ret ?_ | refine at_block_hit ?_ | refine at_block_miss rfl ?_)))
    all_goals first | (exfalso; omega) | skip
    all_goals (refine at_ret1 Try.results17 (rv_tmp rfl) ?_)
    all_goals (simp [*]; try omega)
end Go.Proofs.Ytejkmomfpidnbab

/- Slices of elements of any kind, as a view knows them. No program is named here. -/
namespace Go.Proofs.Ytejkmomfpidnbab
open Go.RowKit
set_option linter.unusedSimpArgs false
set_option linter.unusedVariables false

/-- The elements of a slice are the list xs, each sz cells as f says. -/
def ElsV {α : Type} (V : View) (sz : Nat) (f : α → List Value) (A : Option Addr) (n : Nat) (xs : List α) : Prop :=
  xs.length = n ∧ n ≤ maxLen ∧ (0 < n → ∃ b off, A = some ⟨b, off, none⟩ ∧ ∀ k x, xs[k]? = some x → CellsFrom V b (off + k * sz) (f x))
section
variable {α : Type} {V V' : View} {sz n : Nat} {f : α → List Value} {A : Option Addr} {xs : List α}
theorem ElsV.le (h : ElsV V sz f A n xs) (hv : VLe V V') : ElsV V' sz f A n xs := ⟨h.1, h.2.1, fun hn => let ⟨b, off, ha, hc⟩ := h.2.2 hn; ⟨b, off, ha, fun k x hk => (hc k x hk).le hv⟩⟩
theorem ElsV.nil : ElsV V sz f A 0 [] := ⟨rfl, Nat.zero_le _, fun h => absurd h (by omega)⟩
theorem ElsV.max (h : ElsV V sz f A n xs) : n ≤ 9223372036854775807 := by
  have := h.2.1; unfold maxLen at this; omega
theorem ElsV.at_ (h : ElsV V sz f A n xs) {k : Nat} (hk : k < n) : ∃ b off x, A = some ⟨b, off, none⟩ ∧ xs[k]? = some x ∧ CellsFrom V b (off + k * sz) (f x) := by
  obtain ⟨h1, _, h3⟩ := h
  obtain ⟨b, off, ha, hc⟩ := h3 (by omega)
  have hx : xs[k]? = some (xs[k]'(by omega)) := List.getElem?_eq_getElem (by omega)
  exact ⟨b, off, _, ha, hx, hc k _ hx⟩
theorem flat_at (f : α → List Value) (hf : ∀ x, (f x).length = sz) : ∀ (xs : List α) (k j : Nat) (x : α) (v : Value), xs[k]? = some x → (f x)[j]? = some v → (xs.flatMap f)[k * sz + j]? = some v
  | [], _, _, _, _, h, _ => by simp at h
  | y :: xs, 0, j, x, v, h, hv => by
    simp at h; subst h
    have hj : j < (f y).length := by
      rcases Nat.lt_or_ge j (f y).length with h | h
      · exact h
      · rw [List.getElem?_eq_none h] at hv; cases hv
    rw [List.flatMap_cons, Nat.zero_mul, Nat.zero_add, List.getElem?_append_left hj]; exact hv
  | y :: xs, k + 1, j, x, v, h, hv => by
    have := flat_at f hf xs k j x v (by simpa using h) hv
    rw [List.flatMap_cons, List.getElem?_append_right (by rw [hf]; rw [Nat.succ_mul]; omega), hf, show (k + 1) * sz + j - sz = k * sz + j by rw [Nat.succ_mul]; omega]
    exact this
theorem flat_len (f : α → List Value) (hf : ∀ x, (f x).length = sz) (xs : List α) : (xs.flatMap f).length = xs.length * sz := by
  induction xs with
  | nil => simp
  | cons y xs ih => rw [List.flatMap_cons, List.length_append, hf, ih, List.length_cons, Nat.succ_mul]; omega
theorem flat_inv (f : α → List Value) (hf : ∀ x, (f x).length = sz) : ∀ (xs : List α) (i : Nat) (v : Value), (xs.flatMap f)[i]? = some v → ∃ k j x, i = k * sz + j ∧ xs[k]? = some x ∧ (f x)[j]? = some v
  | [], i, v, h => by simp at h
  | y :: xs, i, v, h => by
    rw [List.flatMap_cons] at h
    rcases Nat.lt_or_ge i sz with hi | hi
    · rw [List.getElem?_append_left (by rw [hf]; exact hi)] at h
      exact ⟨0, i, y, by omega, rfl, h⟩
    · rw [List.getElem?_append_right (by rw [hf]; exact hi), hf] at h
      obtain ⟨k, j, x, h1, h2, h3⟩ := flat_inv f hf xs (i - sz) v h
      exact ⟨k + 1, j, x, by rw [Nat.succ_mul]; omega, by simpa using h2, h3⟩
theorem ElsV.cells (h : ElsV V sz f A n xs) (hf : ∀ x, (f x).length = sz) : CellsV V sz A n (xs.flatMap f) := by
  obtain ⟨h1, _, h3⟩ := h
  refine ⟨by rw [flat_len f hf, h1], fun hn => ?_⟩
  obtain ⟨b, off, ha, hc⟩ := h3 hn
  refine ⟨b, off, ha, fun i v hi => ?_⟩
  obtain ⟨k, j, x, rfl, hx, hv⟩ := flat_inv f hf xs i v hi
  have := hc k x hx j v hv
  rw [show off + (k * sz + j) = off + k * sz + j by omega]; exact this
theorem ElsV.of_cells (h : CellsV V sz A n (xs.flatMap f)) (hf : ∀ x, (f x).length = sz) (hl : xs.length = n) (hm : n ≤ maxLen) : ElsV V sz f A n xs := by
  refine ⟨hl, hm, fun hn => ?_⟩
  obtain ⟨b, off, ha, hc⟩ := h.2 hn
  refine ⟨b, off, ha, fun k x hx j v hv => ?_⟩
  have := hc (k * sz + j) v (flat_at f hf xs k j x v hx hv)
  rw [show off + k * sz + j = off + (k * sz + j) by omega]; exact this
/-- x[:h] and x[l:]. -/
theorem ElsV.take (h : ElsV V sz f A n xs) {k : Nat} (hk : k ≤ n) : ElsV V sz f A k (xs.take k) := by
  refine ⟨by rw [List.length_take, h.1]; omega, Nat.le_trans hk h.2.1, fun hn => ?_⟩
  obtain ⟨b, off, ha, hc⟩ := h.2.2 (by omega)
  refine ⟨b, off, ha, fun j x hj => hc j x ?_⟩
  rw [List.getElem?_take] at hj
  split at hj
  · exact hj
  · cases hj
theorem ElsV.drop (h : ElsV V sz f A n xs) {k c : Nat} (hk : k ≤ n) (hc' : n ≤ c) : ElsV V sz f (cutA A c k sz) (n - k) (xs.drop k) := by
  refine ⟨by rw [List.length_drop, h.1], Nat.le_trans (Nat.sub_le _ _) h.2.1, fun hn => ?_⟩
  obtain ⟨b, off, ha, hc⟩ := h.2.2 (by omega)
  refine ⟨b, off + k * sz, ?_, fun j x hj => ?_⟩
  · unfold cutA
    rw [if_neg (by omega), ha]
    simp [add_none]
  · rw [List.getElem?_drop] at hj
    have := hc (k + j) x hj
    rw [show off + k * sz + j * sz = off + (k + j) * sz by rw [Nat.add_mul]; omega]; exact this
theorem RowL.cap {A : Option Addr} {n c E sz : Nat} {xs : List Value} {L1 : List Box} (h : RowL A n c E sz xs L1) : n ≤ c := by
  rcases h.2 with ⟨_, _, rfl, _⟩ | ⟨_, _, _, _, h, _⟩
  · omega
  · exact h
theorem map_flat {α : Type} (g : α → Value) : ∀ xs : List α, xs.map g = xs.flatMap (fun z => [g z])
  | [] => rfl
  | x :: xs => by rw [List.map_cons, List.flatMap_cons, map_flat g xs]; rfl
theorem IntsV.els {xs : List Int} (h : IntsV V A n xs) : ElsV V 1 (fun z => [.int .i64 z]) A n xs := by
  refine ElsV.of_cells (by
    have := h.2.2
    rw [map_flat (Value.int .i64) xs] at this
    exact this) (fun _ => rfl) h.1 h.2.1
end
end Go.Proofs.Ytejkmomfpidnbab

/- The engine's operations: copy, calls of function values, structs compared; rows of the call's own, opened and closed. No program is named here. -/
namespace Go.Proofs.Ytejkmomfpidnbab
open Go.RowKit
set_option linter.unusedSimpArgs false
set_option linter.unusedVariables false

section
variable {P : Program} {B : Base} {N : Nat} {Q : Exit → Act → World → Prop} {k : List Cont} {F : List (Nat × Value)} {V : View} {L : List Box} {w : World}
variable {d : Option Tmp} {ty : TypeId} {pos : String} {af : Array Edge} {gd : Option (Nat × Bool)} {x y : Operand} {T T2 : TypeId} {ops : Array Oper} {rest : List Oper}

/-! ### copy -/
theorem src_part {sz m g j : Nat} {cs : List Value} (ho : OwnAt L g cs) (hl : j + m * sz ≤ cs.length) : SrcIs B V L sz (some ⟨g, j, none⟩) m ((cs.drop j).take (m * sz)) := fun w hs => by
  refine ⟨by simp; omega, fun hm => ⟨g, j, rfl, fun i u hi => ?_⟩⟩
  rw [hs.cell ho]
  rw [List.getElem?_take, List.getElem?_drop] at hi
  split at hi
  · exact hi
  · cases hi
theorem src_row {A : Option Addr} {n c E sz : Nat} {xs : List Value} {L1 : List Box} (h : RowL A n c E sz xs L1) {f : List Box → List Box} (hL : Repl L L1 f) : SrcIs B V L sz A n xs := fun w hs => by
  obtain ⟨X, Y, hX, _⟩ := hL.h
  exact CellsAt.of_own (h.owns hs (fun b hb => by rw [hX]; simp [hb]))
theorem src_none {sz : Nat} {A : Option Addr} : SrcIs B V L sz A 0 [] := fun w hs => ⟨by simp, fun h => absurd h (by omega)⟩
theorem run_copy {sz E dl dc m c2 ty0 : Nat} {dp As : Option Addr} {news vs : List Value} {w w' : World} (hu : (underlying T).run P w = .ok (.slice E) w) (hS : (sizeOf E).run P w = .ok sz w) (hc : CellsAt w sz As m news) (hv : news.take (min m dl * sz) = vs)
    (hst : ∀ a, dp = some a → (storeCells a vs).run P w = .ok () w') (hn : dp = none → w' = w) : (Builtin.copy_ #[T, T2] ty0 #[.slice dp dl dc, .slice As m c2]).run P w = .ok (goInt ((min m dl : Nat) : Int)) w' := by
  have hf : (Builtin.firstCells sz (min m dl) (.slice As m c2)).run P w = .ok vs.toArray w := by
    cases As with
    | none =>
      have hm : m = 0 := by
        rcases Nat.eq_zero_or_pos m with h | h
        · exact h
        · obtain ⟨_, _, h, _⟩ := hc.2 h; cases h
      have : vs = [] := by rw [← hv, hm]; simp
      rw [this]; rfl
    | some a =>
      rcases Nat.eq_zero_or_pos m with h | h
      · have : vs = [] := by rw [← hv, h]; simp
        rw [this, h]; simp [Builtin.firstCells, loadCells, loadCellsFrom]
      · obtain ⟨b, off, ha, hcell⟩ := hc.2 h
        injection ha with ha; subst ha
        have hlen : vs.length = min m dl * sz := by
          rw [← hv, List.length_take, hc.1]
          exact Nat.min_eq_left (Nat.mul_le_mul_right sz (Nat.min_le_left _ _))
        have hr := run_loadFrom (P := P) b off w vs 0 #[] (fun j v hj => by
          rw [Nat.zero_add]
          refine hcell j v ?_
          rw [← hv, List.getElem?_take] at hj
          split at hj
          · exact hj
          · cases hj)
        simp only [Builtin.firstCells, loadCells]
        rw [← hlen, hr]; simp
  unfold Builtin.copy_
  cases dp with
  | none =>
    rw [hn rfl]
    have hmin : Nat.min m dl = min m dl := rfl
    simp only [Builtin.lenOf, Sem.run_bind, Sem.run_pure, Result.andThen_ok, hu, hS, hmin, hf]
    simp [Builtin.lenOf, hmin, hf, hS, hu]
  | some a =>
    have hst := hst a rfl
    have hmin : Nat.min m dl = min m dl := rfl
    simp [hu, hS, Builtin.lenOf, hmin, hf, hst]; (try rfl); (try (congr 1; omega))
theorem gw_copy {dr : Mode} (hdr : dr.loud = true) {sz E dl dc m c2 g i : Nat} {dp As : Option Addr} {news vs : List Value} {L' : List Box} (hu : UnderIs P T (.slice E)) (hS : SizeIs P E sz) (hx : evF F x = some (.slice dp dl dc)) (hy : evF F y = some (.slice As m c2))
    (hsrc : SrcIs B V L sz As m news) (hv : news.take (min m dl * sz) = vs) (hpos : 0 < vs.length → dp = some ⟨g, i, none⟩) (hp : PutAt L g i vs L') (h1 : ∀ u ∈ vs, isOne u = true) (hd : okD N d = true)
    (h : GoL P B N dr ops Q k rest (putF F d (.int .i64 ((min m dl : Nat) : Int))) V L') : GoW P B N dr ops Q k ⟨d, .call ⟨.builtin .copy, #[x, y], #[T, T2]⟩, ty, pos, af, gd⟩ rest F V L := gw_loud hdr fun a w ha hs => by
  by_cases hvs : vs = []
  · subst hvs
    have hL : L' = L := hp.nil
    subst hL
    have hrun := run_copy (P := P) (T2 := T2) (ty0 := ty) (dl := dl) (dc := dc) (c2 := c2) (dp := dp) (w' := w) (hu.h w) (hS.h w) (hsrc w hs) hv (fun a _ => rfl) (fun _ => rfl)
    refine wp_value (w' := w) (v := goInt ((min m dl : Nat) : Int)) ?_ (gl_loud hdr h _ w (ha.put hd _) hs)
    simp [execOp, ha.ev hx, ha.ev hy, resolve, invoke, builtin, hrun]
  · have hpos := hpos (List.length_pos_iff.2 hvs)
    subst hpos
    obtain ⟨w', hr, hs'⟩ := run_storeCells (P := P) vs (k := 0) hs hp h1
    have hrun := run_copy (P := P) (T2 := T2) (ty0 := ty) (dl := dl) (dc := dc) (c2 := c2) (dp := some ⟨g, i, none⟩) (w' := w') (hu.h w) (hS.h w) (hsrc w hs) hv (fun a e => by injection e with e; subst e; exact hr) (fun e => by cases e)
    refine wp_value (w' := w') (v := goInt ((min m dl : Nat) : Int)) ?_ (gl_loud hdr h _ w' (ha.put hd _) hs')
    simp [execOp, ha.ev hx, ha.ev hy, resolve, invoke, builtin, hrun]

theorem gw_shut {dr : Mode} (hdr : dr.loud = true) {A : Option Addr} {n c E sz : Nat} {xs : List Value} {L1 : List Box} {f : List Box → List Box} (h : RowL A n c E sz xs L1) (hL : Repl L L1 f) {o : Oper} {l : List Oper} (hK : ∀ V', VLe V V' → CellsV V' sz A n xs → GoW P B N dr ops Q k o l F V' (f [])) (hfl : ∀ x ∈ B.fl, ∃ cs, OwnAt (f []) x cs := by simp) : GoW P B N dr ops Q k o l F V L := gw_loud hdr fun a w ha hs => by
  obtain ⟨V', h1, h2, h3⟩ := hs.shut h hL hfl
  exact gw_un hdr (hK V' h1 h2) a w ha h3

/-! ### Function values -/
theorem q_makeFunc {fn : Go.Fn} {fs cs : List Operand} {vs us : List Value} (h1 : evL F fs = some vs) (h2 : evL F cs = some us) : QP P B N V L ⟨d, .makeFunc fn fs.toArray cs.toArray, ty, pos, af, gd⟩ F (.func fn vs.toArray us.toArray) := q_of fun a w ha _ => by
  have e1 := ha.evL h1
  have e2 := ha.evL h2
  simp [execOp, Instr.makeFunc, e1, e2]
theorem exec_callv {f : FuncId} {fo : Operand} {args : List Operand} {ats : Array TypeId} {vs fs cs : List Value} {a : Act} {w : World} (he : Enters P f) (ha : Kn N F a) (hf : evF F fo = some (.func (.func f) fs.toArray cs.toArray)) (hv : evL F args = some vs) :
    (execOp a.eval ⟨d, .call ⟨.value fo, args.toArray, ats⟩, ty, pos, af, gd⟩).run P w = .ok (.enter f (fs ++ vs ++ cs).toArray) w := by
  have h := ha.evL hv
  have hf := ha.ev hf
  simp [execOp, resolve, Deferred.ofValue, invoke, h, hf, he.h (fs ++ (vs ++ cs)).toArray w]
theorem gw_callv {dr : Mode} (hdr : dr.loud = true) {f : FuncId} {fo : Operand} {args : List Operand} {ats : Array TypeId} {vs fs cs : List Value} {R : Value → View → Prop} (he : Enters P f) (hf : evF F fo = some (.func (.func f) fs.toArray cs.toArray)) (hv : evL F args = some vs) (hd : okD N d = true) (hc : Fn P f (fs ++ vs ++ cs) V R)
    (h : ∀ v V', VLe V V' → R v V' → GoL P B N dr ops Q k rest (putF F d v) V' L) : GoW P B N dr ops Q k ⟨d, .call ⟨.value fo, args.toArray, ats⟩, ty, pos, af, gd⟩ rest F V L := gw_loud hdr fun a w ha hs => by
  unfold Oper.wp
  rw [exec_callv he ha hf hv]
  refine (hc w (fun p x hp => (hs.view p x hp).1)).mono fun e w' ⟨v, he', hx, V', h1, h2, h3, hR⟩ => ?_
  subst he'
  exact gl_loud hdr (h v V' h1 hR) _ _ (ha.put hd v) (hs.call hx h1 h2 h3)
theorem q_callv {f : FuncId} {fo : Operand} {args : List Operand} {ats : Array TypeId} {vs fs cs : List Value} {v : Value} (he : Enters P f) (hf : evF F fo = some (.func (.func f) fs.toArray cs.toArray)) (hv : evL F args = some vs) (hc : Fn P f (fs ++ vs ++ cs) V fun u _ => u = v) : QO P B N V L ⟨d, .call ⟨.value fo, args.toArray, ats⟩, ty, pos, af, gd⟩ F v := fun a w ha hs => by
  unfold Oper.quietAt
  rw [exec_callv he ha hf hv]
  refine ⟨rfl, (hc w (fun p x hp => (hs.view p x hp).1)).mono fun e w' ⟨u, he', hx, V', h1, h2, h3, hR⟩ => ?_⟩
  subst he' hR
  exact ⟨rfl, (hs.call hx h1 h2 h3).less h1 hs.v0⟩

/-! ### Slices whose bounds are reckoned -/
theorem q_sslice_li {lo : Operand} {i : Int} {s : ByteArray} {t : TypeId} (hu : UnderIs P t .string) (hx : evF F x = some (.string s)) (hl : evF F lo = some (.int .i64 i)) (h : 0 ≤ i ∧ i ≤ (s.size : Int)) : QP P B N V L ⟨d, .slice t x (some lo) none none, ty, pos, af, gd⟩ F (.string (s.extract i.toNat s.size)) :=
  q_sslice_l hu hx (by rw [hl, Int.toNat_of_nonneg h.1]) (by omega)
theorem q_sslice_ni {hi : Operand} {i : Int} {s : ByteArray} {t : TypeId} (hu : UnderIs P t .string) (hx : evF F x = some (.string s)) (hl : evF F hi = some (.int .i64 i)) (h : 0 ≤ i ∧ i ≤ (s.size : Int)) : QP P B N V L ⟨d, .slice t x none (some hi) none, ty, pos, af, gd⟩ F (.string (s.extract 0 i.toNat)) :=
  q_sslice_n hu hx (by rw [hl, Int.toNat_of_nonneg h.1]) (by omega)
theorem q_sslice_i {lo hi : Operand} {i j : Int} {s : ByteArray} {t : TypeId} (hu : UnderIs P t .string) (hx : evF F x = some (.string s)) (hl : evF F lo = some (.int .i64 i)) (hh : evF F hi = some (.int .i64 j)) (h1 : 0 ≤ i ∧ i ≤ j) (h2 : j ≤ (s.size : Int)) : QP P B N V L ⟨d, .slice t x (some lo) (some hi) none, ty, pos, af, gd⟩ F (.string (s.extract i.toNat j.toNat)) :=
  q_sslice hu hx (by rw [hl, Int.toNat_of_nonneg h1.1]) (by rw [hh, Int.toNat_of_nonneg (by omega)]) (by omega) (by omega)
theorem q_slice_ni {E sz n c : Nat} {A : Option Addr} {hi : Operand} {i : Int} (hu : UnderIs P T (.slice E)) (hS : SizeIs P E sz) (hx : evF F x = some (.slice A n c)) (hh : evF F hi = some (.int .i64 i)) (h : 0 ≤ i ∧ i ≤ (c : Int)) : QP P B N V L ⟨d, .slice T x none (some hi) none, ty, pos, af, gd⟩ F (.slice A i.toNat c) :=
  q_slice_n hu hS hx (by rw [hh, Int.toNat_of_nonneg h.1]) (by omega)
theorem q_slice_li {E sz n c : Nat} {A : Option Addr} {lo : Operand} {i : Int} (hu : UnderIs P T (.slice E)) (hS : SizeIs P E sz) (hx : evF F x = some (.slice A n c)) (hl : evF F lo = some (.int .i64 i)) (h : 0 ≤ i ∧ i ≤ (n : Int)) : QP P B N V L ⟨d, .slice T x (some lo) none none, ty, pos, af, gd⟩ F (.slice (cutA A c i.toNat sz) (n - i.toNat) (c - i.toNat)) :=
  q_slice_l hu hS hx (by rw [hl, Int.toNat_of_nonneg h.1]) (by omega)
theorem q_slice_i {E sz n c : Nat} {A : Option Addr} {lo hi : Operand} {i j : Int} (hu : UnderIs P T (.slice E)) (hS : SizeIs P E sz) (hx : evF F x = some (.slice A n c)) (hl : evF F lo = some (.int .i64 i)) (hh : evF F hi = some (.int .i64 j)) (h1 : 0 ≤ i ∧ i ≤ j) (h2 : j ≤ (c : Int)) : QP P B N V L ⟨d, .slice T x (some lo) (some hi) none, ty, pos, af, gd⟩ F (.slice (cutA A c i.toNat sz) (j.toNat - i.toNat) (c - i.toNat)) :=
  q_slice hu hS hx (by rw [hl, Int.toNat_of_nonneg h1.1]) (by rw [hh, Int.toNat_of_nonneg (by omega)]) (by omega) (by omega)

/-! ### The greater, the smaller; shifts to the right; ints of other kinds -/
theorem q_max {c : Call} {k : IntKind} {a b : Int} (hc : c = ⟨.builtin .max, #[x, y], #[T, T2]⟩) (hx : evF F x = some (.int k a)) (hy : evF F y = some (.int k b)) : QP P B N V L ⟨d, .call c, ty, pos, af, gd⟩ F (.int k (max a b)) := q_of fun ac w ha _ => by
  subst hc
  have e : (if b > a then b else a) = max a b := by split <;> omega
  simp [execOp, ha.ev hx, ha.ev hy, resolve, invoke, builtin, Builtin.max_, Builtin.max2, e]
theorem q_min {c : Call} {k : IntKind} {a b : Int} (hc : c = ⟨.builtin .min, #[x, y], #[T, T2]⟩) (hx : evF F x = some (.int k a)) (hy : evF F y = some (.int k b)) : QP P B N V L ⟨d, .call c, ty, pos, af, gd⟩ F (.int k (min a b)) := q_of fun ac w ha _ => by
  subst hc
  have e : (if b < a then b else a) = min a b := by split <;> omega
  simp [execOp, ha.ev hx, ha.ev hy, resolve, invoke, builtin, Builtin.min_, Builtin.min2, e]
theorem q_half {k : IntKind} {t ty2 : TypeId} {a : Int} (hx : evF F x = some (.int .u64 a)) (hy : evF F y = some (.int k 1)) (h : 0 ≤ a) : QP P B N V L ⟨d, .binOp .shr t x y ty2, ty, pos, af, gd⟩ F (.int .u64 (a / 2)) := by
  refine q_bin hx hy (fun w => by simp [eqGuard]) (fun w => ?_)
  have e : a.fdiv 2 = a / 2 := Int.fdiv_eq_ediv_of_nonneg a (by decide)
  simp [binOp, Op.shift, IntKind.bits, e]
theorem q_conv {k : IntKind} {k0 : IntKind} {s t : TypeId} {ds : TypeDesc} {a : Int} (hs : UnderIs P s ds) (ht : UnderIs P t (.int k)) (hx : evF F x = some (.int k0 a)) (h : k.wrap a = a) : QP P B N V L ⟨d, .convert s t x, ty, pos, af, gd⟩ F (.int k a) := q_of fun ac w ha _ => by
  have e : (Conv.intToInt k a) = pure (.int k a) := by unfold Conv.intToInt; rw [h]
  simp [execOp, ha.ev hx, convert, hs.h, ht.h, e]
theorem wrap_u64 {a : Int} (h : 0 ≤ a ∧ a ≤ 9223372036854775807) : IntKind.wrap .u64 a = a := by
  simp [IntKind.wrap, IntKind.signed, IntKind.bits]; omega
theorem wrap_i64 {a : Int} (h : -9223372036854775808 ≤ a ∧ a ≤ 9223372036854775807) : IntKind.wrap .i64 a = a := IntWalk.i64_in _ h

/-! ### Structs compared -/
structure EqIs (P : Program) (T : TypeId) (xs ys : List Value) (b : Bool) : Prop where
  h : ∀ w, (Op.equalIn 10000 T (.agg xs.toArray) (.agg ys.toArray)).run P w = .ok b w
structure NoGuard (P : Program) (T : TypeId) : Prop where
  h : P.eqGuardType P.depth T = false
theorem q_aeql {t ty2 : TypeId} {xs ys : List Value} {b : Bool} (hg : NoGuard P t) (hx : evF F x = some (.agg xs.toArray)) (hy : evF F y = some (.agg ys.toArray)) (he : EqIs P t xs ys b) : QP P B N V L ⟨d, .binOp .eql t x y ty2, ty, pos, af, gd⟩ F (.bool b) :=
  q_bin hx hy (fun w => run_eqGuard_agg w _ _ _ _ _ _ hg.h) (fun w => by rw [run_eql_struct, he.h]; rfl)
theorem q_aneq {t ty2 : TypeId} {xs ys : List Value} {b : Bool} (hg : NoGuard P t) (hx : evF F x = some (.agg xs.toArray)) (hy : evF F y = some (.agg ys.toArray)) (he : EqIs P t xs ys b) : QP P B N V L ⟨d, .binOp .neq t x y ty2, ty, pos, af, gd⟩ F (.bool (!b)) :=
  q_bin hx hy (fun w => run_eqGuard_agg w _ _ _ _ _ _ hg.h) (fun w => by rw [run_neq_struct, he.h]; rfl)

/-! ### Rows, opened and closed -/
theorem RowL.open {α : Type} {f : α → List Value} {A : Option Addr} {n c E sz : Nat} {xs : List α} {L1 : List Box} (h : RowL A n c E sz (xs.flatMap f) L1) (hn : 0 < n) : ∃ g rest, A = some ⟨g, 0, none⟩ ∧ L1 = [⟨g, E, xs.flatMap f ++ rest⟩] ∧ (xs.flatMap f ++ rest).length = c * sz ∧ n ≤ c ∧ c ≤ maxLen := by
  obtain ⟨h1, h | h⟩ := h
  · omega
  · obtain ⟨g, cs, rfl, rfl, h2, h3, h4, h5⟩ := h
    refine ⟨g, cs.drop (n * sz), rfl, ?_, ?_, h2, h3⟩
    · rw [← h5, List.take_append_drop]
    · rw [← h5, List.take_append_drop]; exact h4
theorem RowL.close {α : Type} {f : α → List Value} {sz : Nat} (hf : ∀ x, (f x).length = sz) {n c E g : Nat} {xs : List α} {rest : List Value} (hl : xs.length = n) (hc : (xs.flatMap f ++ rest).length = c * sz) (hn : n ≤ c) (hm : c ≤ maxLen) : RowL (some ⟨g, 0, none⟩) n c E sz (xs.flatMap f) [⟨g, E, xs.flatMap f ++ rest⟩] := by
  have e := flat_len f hf xs
  rw [hl] at e
  exact ⟨e, .inr ⟨g, _, rfl, rfl, hn, hm, hc, by rw [List.take_left' e]⟩⟩
/-- A cell, a part of an opened row. -/
theorem row_cell {α : Type} {f : α → List Value} {sz : Nat} (hf : ∀ x, (f x).length = sz) {xs : List α} {rest : List Value} {k j : Nat} {x : α} {v : Value} (hx : xs[k]? = some x) (hj : (f x)[j]? = some v) : (xs.flatMap f ++ rest)[0 + k * sz + j]? = some v := by
  have h := flat_at f hf xs k j x v hx hj
  have hlt : k * sz + j < (xs.flatMap f).length := by
    rcases Nat.lt_or_ge (k * sz + j) (xs.flatMap f).length with h1 | h1
    · exact h1
    · rw [List.getElem?_eq_none h1] at h; cases h
  rw [show 0 + k * sz + j = k * sz + j by omega, List.getElem?_append_left hlt]; exact h
theorem flat_cut {α : Type} {f : α → List Value} {sz : Nat} (hf : ∀ x, (f x).length = sz) (xs : List α) (k : Nat) : (xs.flatMap f).take (k * sz) = (xs.take k).flatMap f ∧ (xs.flatMap f).drop (k * sz) = (xs.drop k).flatMap f := by
  rcases Nat.lt_or_ge k xs.length with h | h
  · have e : xs.flatMap f = (xs.take k).flatMap f ++ (xs.drop k).flatMap f := by rw [← List.flatMap_append, List.take_append_drop]
    have hl : ((xs.take k).flatMap f).length = k * sz := by rw [flat_len f hf, List.length_take]; congr 1; omega
    rw [e]
    exact ⟨List.take_left' hl, List.drop_left' hl⟩
  · have hl : (xs.flatMap f).length ≤ k * sz := by rw [flat_len f hf]; exact Nat.mul_le_mul_right sz h
    rw [List.take_of_length_le hl, List.drop_eq_nil_of_le hl, List.take_of_length_le h, List.drop_eq_nil_of_le h]
    exact ⟨rfl, rfl⟩
theorem row_part {α : Type} {f : α → List Value} {sz : Nat} (hf : ∀ x, (f x).length = sz) {xs : List α} {rest : List Value} {k : Nat} {x : α} (hx : xs[k]? = some x) : ((xs.flatMap f ++ rest).drop (0 + k * sz)).take sz = f x := by
  have hk : k < xs.length := by
    rcases Nat.lt_or_ge k xs.length with h | h
    · exact h
    · rw [List.getElem?_eq_none h] at hx; cases hx
  rw [Nat.zero_add, List.drop_append_of_le_length (by rw [flat_len f hf]; exact Nat.mul_le_mul_right sz (by omega)), (flat_cut hf xs k).2, drop_at hx, List.flatMap_cons, List.append_assoc, List.take_left' (hf x)]
theorem spl_app (vs : List Value) : ∀ (cs : List Value) (i : Nat), i + vs.length ≤ cs.length → spl cs i vs = cs.take i ++ vs ++ cs.drop (i + vs.length) := by
  induction vs with
  | nil => intro cs i h; simp [spl]
  | cons v vs ih =>
    intro cs i h
    simp at h
    rw [spl, ih _ _ (by simp; omega)]
    apply List.ext_getElem?
    intro j
    simp only [List.getElem?_append, List.length_append, List.length_take, List.length_set, List.length_cons, List.getElem?_take, List.getElem?_set, List.getElem?_drop, List.getElem?_cons]
    rcases Nat.lt_trichotomy j i with hj | hj | hj
    · rw [if_pos (by omega), if_pos (by omega), if_pos (by omega), if_neg (by omega), if_pos (by omega), if_pos (by omega), if_pos (by omega)]
    · subst hj
      rw [if_pos (by omega), if_pos (by omega), if_pos (by omega), if_pos rfl, if_pos (by omega), if_pos (by omega), if_neg (by omega), if_pos (by omega)]
    · by_cases h2 : j < i + (vs.length + 1)
      · rw [if_pos (by omega), if_neg (by omega), if_pos (by omega), if_neg (by omega), if_neg (by omega)]
        congr 1; omega
      · rw [if_neg (by omega), if_neg (by omega), if_neg (by omega)]
        congr 1; omega
/-- An element that is written over. -/
theorem row_set {α : Type} {f : α → List Value} {sz : Nat} (hf : ∀ x, (f x).length = sz) {xs : List α} {rest : List Value} {k : Nat} (hk : k < xs.length) (x : α) : spl (xs.flatMap f ++ rest) (0 + k * sz) (f x) = (xs.set k x).flatMap f ++ rest := by
  have hle : k * sz + sz ≤ (xs.flatMap f).length := by
    rw [flat_len f hf]
    have := Nat.mul_le_mul_right sz (show k + 1 ≤ xs.length by omega)
    rw [Nat.succ_mul] at this; exact this
  rw [spl_app _ _ _ (by rw [hf, List.length_append]; omega), Nat.zero_add, hf, List.take_append_of_le_length (by omega), List.drop_append_of_le_length (by omega), show k * sz + sz = (k + 1) * sz by rw [Nat.succ_mul], (flat_cut hf xs k).1, (flat_cut hf xs (k + 1)).2, List.set_eq_take_append_cons_drop, if_pos hk, List.flatMap_append, List.flatMap_cons]
  simp [List.append_assoc]
/-- One cell of an element that is written over. -/
theorem row_set1 {α : Type} {f : α → List Value} {sz : Nat} (hf : ∀ x, (f x).length = sz) {xs : List α} {rest : List Value} {k j : Nat} {x y : α} {v : Value} (hx : xs[k]? = some x) (hj : j < sz) (hy : (f x).set j v = f y) : spl (xs.flatMap f ++ rest) (0 + k * sz + j) [v] = (xs.set k y).flatMap f ++ rest := by
  have hk : k < xs.length := by
    rcases Nat.lt_or_ge k xs.length with h | h
    · exact h
    · rw [List.getElem?_eq_none h] at hx; cases hx
  rw [← row_set hf hk y]
  have hle : k * sz + sz ≤ (xs.flatMap f).length := by
    rw [flat_len f hf]
    have := Nat.mul_le_mul_right sz (show k + 1 ≤ xs.length by omega)
    rw [Nat.succ_mul] at this; exact this
  rw [spl_app (f y) _ _ (by rw [hf, List.length_append]; omega)]
  show (xs.flatMap f ++ rest).set (0 + k * sz + j) v = _
  have hp := row_part (rest := rest) hf hx
  have h1 : xs.flatMap f ++ rest = (xs.flatMap f ++ rest).take (0 + k * sz) ++ f x ++ (xs.flatMap f ++ rest).drop (0 + k * sz + sz) := by
    rw [← hp, List.append_assoc]
    conv => lhs; rw [← List.take_append_drop (0 + k * sz) (xs.flatMap f ++ rest)]
    congr 1
    rw [show (xs.flatMap f ++ rest).drop (0 + k * sz + sz) = ((xs.flatMap f ++ rest).drop (0 + k * sz)).drop sz by rw [List.drop_drop], List.take_append_drop]
  have hlen : ((xs.flatMap f ++ rest).take (0 + k * sz)).length = 0 + k * sz := by rw [List.length_take, List.length_append]; omega
  conv => lhs; rw [h1]
  rw [hf, List.append_assoc, List.set_append_right _ _ (by rw [hlen]; omega), hlen, show 0 + k * sz + j - (0 + k * sz) = j by omega, List.set_append_left _ _ (by rw [hf]; exact hj), hy, List.append_assoc]
end
end Go.Proofs.Ytejkmomfpidnbab

/- Structs of the program compared. -/
namespace Go.Proofs.Ytejkmomfpidnbab
open Go.RowKit
theorem ng_78 : NoGuard Try.prog 78 := ⟨by kernel_rfl⟩
theorem ng_158 : NoGuard Try.prog 158 := ⟨by kernel_rfl⟩
theorem eqs_78 (a0 a1 a2 b0 b1 b2 : Int) : EqIs Try.prog 78 [.int .i64 a0, .int .i64 a1, .int .i64 a2] [.int .i64 b0, .int .i64 b1, .int .i64 b2] (decide (a0 = b0 ∧ a1 = b1 ∧ a2 = b2)) := ⟨fun w => by
  rw [run_equalIn_struct w 9999 _ _ _ (by kernel_rfl) (by kernel_rfl)]
  have hi := Try.underlying3
  by_cases h0 : a0 = b0 <;> by_cases h1 : a1 = b1 <;> by_cases h2 : a2 = b2 <;>
    simp [Program.fieldsOf, Try.underlying78, Op.eqFields, hi, run_equalIn_int, go_sem, h0, h1, h2]⟩
theorem eqs_158 (a0 a1 b0 b1 : ByteArray) : EqIs Try.prog 158 [.string a0, .string a1] [.string b0, .string b1] (decide (a0 = b0 ∧ a1 = b1)) := ⟨fun w => by
  rw [run_equalIn_struct w 9999 _ _ _ (by kernel_rfl) (by kernel_rfl)]
  have hi := Try.underlying9
  have e := str_beq a0 b0
  have e1 := str_beq a1 b1
  by_cases h0 : a0 = b0 <;> by_cases h1 : a1 = b1 <;>
    simp [Program.fieldsOf, Try.underlying158, Op.eqFields, hi, run_equalIn_string, go_sem, h0, h1, e, e1]⟩
end Go.Proofs.Ytejkmomfpidnbab

/- Package attr in plain terms, and that the reference's loop makes the same of a list that is right. No program is named here. -/
namespace Go.Proofs.Ytejkmomfpidnbab
open Go.RowKit
set_option linter.unusedSimpArgs false
set_option linter.unusedVariables false

/-- An attribute: its name, its value. -/
@[ext] structure PA where
  n : ByteArray
  v : ByteArray
instance : DecidableEq PA := fun a b => decidable_of_iff (a.n = b.n ∧ a.v = b.v) ⟨fun ⟨h1, h2⟩ => PA.ext h1 h2, fun h => by subst h; exact ⟨rfl, rfl⟩⟩
abbrev paC (a : PA) : List Value := [.string a.n, .string a.v]
abbrev AttrsV (V : View) (A : Option Addr) (n : Nat) (xs : List PA) : Prop := ElsV V 2 paC A n xs
/-- Which class of name; 0: it is none. -/
def classZ (s : ByteArray) : Int :=
  if 2 ≤ s.size ∧ nameZ (s.toList.drop 2) = true then (if s.toList.take 2 = [117, 46] then 1 else if s.toList.take 2 = [116, 46] then 2 else 0) else 0
def aF (prev : Option ByteArray) : List PA → Int
  | [] => 0
  | a :: l => if classZ a.n = 0 then 4 else if 20 < a.v.size then 1 else if (∃ y, prev = some y ∧ ¬ y.toList < a.n.toList) then 3 else aF (some a.n) l
def attrF (xs : List PA) : Int := if 4 < xs.length then 2 else aF none xs
def prevA (xs : List PA) (k : Nat) : Option ByteArray := if k = 0 then none else (xs[k - 1]?).map PA.n
theorem prevA_pos {xs : List PA} {k : Nat} (h : ¬ k = 0) : prevA xs k = (xs[k - 1]?).map PA.n := if_neg h
theorem prevA_succ {xs : List PA} {k : Nat} : prevA xs (k + 1) = (xs[k]?).map PA.n := by rw [prevA, if_neg (by omega)]; rfl
theorem aF_name {p : Option ByteArray} {a : PA} {l : List PA} (h : classZ a.n = 0) : aF p (a :: l) = 4 := by rw [aF, if_pos h]
theorem aF_big {p : Option ByteArray} {a : PA} {l : List PA} (h : ¬ classZ a.n = 0) (h2 : 20 < a.v.size) : aF p (a :: l) = 1 := by rw [aF, if_neg h, if_pos h2]
theorem aF_down {y : ByteArray} {a : PA} {l : List PA} (h : ¬ classZ a.n = 0) (h2 : ¬ 20 < a.v.size) (h3 : ¬ y.toList < a.n.toList) : aF (some y) (a :: l) = 3 := by rw [aF, if_neg h, if_neg h2, if_pos ⟨y, rfl, h3⟩]
theorem aF_on {y : ByteArray} {a : PA} {l : List PA} (h : ¬ classZ a.n = 0) (h2 : ¬ 20 < a.v.size) (h3 : y.toList < a.n.toList) : aF (some y) (a :: l) = aF (some a.n) l := by
  rw [aF, if_neg h, if_neg h2, if_neg (by rintro ⟨z, hz, hl⟩; injection hz with hz; subst hz; exact hl h3)]
theorem aF_first {a : PA} {l : List PA} (h : ¬ classZ a.n = 0) (h2 : ¬ 20 < a.v.size) : aF none (a :: l) = aF (some a.n) l := by
  rw [aF, if_neg h, if_neg h2, if_neg (by rintro ⟨z, hz, hl⟩; cases hz)]
theorem aF_bd : ∀ (l : List PA) (p : Option ByteArray), 0 ≤ aF p l ∧ aF p l ≤ 4
  | [], _ => by simp [aF]
  | a :: l, p => by
    rw [aF]
    (repeat' split) <;> first | omega | exact aF_bd l _
theorem attrF_bd (xs : List PA) : 0 ≤ attrF xs ∧ attrF xs ≤ 4 := by
  unfold attrF; split
  · omega
  · exact aF_bd xs _

/-! ### A list that is right rises -/
theorem lt_trans' {a b c : List UInt8} (h : a < b) (k : b < c) : a < c := List.lt_trans h k
theorem lt_irr (a : List UInt8) : ¬ a < a := List.lt_irrefl a
theorem lt_tri (a b : ByteArray) (h : ¬ a.toList < b.toList) (h2 : ¬ a = b) : b.toList < a.toList := by
  rcases List.le_iff_lt_or_eq.1 (show b.toList ≤ a.toList from h) with h3 | h3
  · exact h3
  · exact absurd (str_ext h3.symm) h2
def ltA (a b : PA) : Prop := a.n.toList < b.n.toList
theorem aF_rises : ∀ (l : List PA) (p : Option ByteArray), aF p l = 0 → l.Pairwise ltA ∧ (∀ a ∈ l, ¬ classZ a.n = 0 ∧ a.v.size ≤ 20) ∧ ∀ y, p = some y → ∀ a ∈ l, y.toList < a.n.toList
  | [], _, _ => by simp
  | a :: l, p, h => by
    rw [aF] at h
    split at h
    · omega
    · rename_i h1
      split at h
      · omega
      · rename_i h2
        split at h
        · omega
        · rename_i h3
          obtain ⟨q1, q2, q3⟩ := aF_rises l _ h
          refine ⟨List.pairwise_cons.2 ⟨fun b hb => q3 a.n rfl b hb, q1⟩, fun b hb => ?_, fun y hy b hb => ?_⟩
          · rcases List.mem_cons.1 hb with rfl | hb
            · exact ⟨h1, by omega⟩
            · exact q2 b hb
          · have hya : y.toList < a.n.toList := by
              apply Classical.byContradiction; intro hn; exact h3 ⟨y, hy, hn⟩
            rcases List.mem_cons.1 hb with rfl | hb
            · exact hya
            · exact lt_trans' hya (q3 a.n rfl b hb)
theorem attrF_rises {xs : List PA} (h : attrF xs = 0) : xs.length ≤ 4 ∧ xs.Pairwise ltA ∧ ∀ a ∈ xs, ¬ classZ a.n = 0 ∧ a.v.size ≤ 20 := by
  unfold attrF at h
  split at h
  · omega
  · obtain ⟨a, b, _⟩ := aF_rises xs none h
    exact ⟨by omega, a, b⟩
theorem aF_of : ∀ (l : List PA) (p : Option ByteArray), l.Pairwise ltA → (∀ a ∈ l, ¬ classZ a.n = 0 ∧ a.v.size ≤ 20) → (∀ y, p = some y → ∀ a ∈ l, y.toList < a.n.toList) → aF p l = 0
  | [], _, _, _, _ => rfl
  | a :: l, p, h1, h2, h3 => by
    rw [List.pairwise_cons] at h1
    have ha := h2 a (by simp)
    rw [aF, if_neg ha.1, if_neg (by omega), if_neg (by rintro ⟨y, hy, hn⟩; exact hn (h3 y hy a (by simp)))]
    exact aF_of l _ h1.2 (fun b hb => h2 b (by simp [hb])) (fun y hy b hb => by injection hy with hy; subst hy; exact h1.1 b hb)
theorem attrF_of {xs : List PA} (h : xs.length ≤ 4) (h1 : xs.Pairwise ltA) (h2 : ∀ a ∈ xs, ¬ classZ a.n = 0 ∧ a.v.size ≤ 20) : attrF xs = 0 := by
  unfold attrF
  rw [if_neg (by omega)]
  exact aF_of xs none h1 h2 (by intro y hy; cases hy)

/-! ### Where a name is -/
/-- How many are below. -/
def atA (nm : ByteArray) : List PA → Nat
  | [] => 0
  | a :: l => if a.n.toList < nm.toList then atA nm l + 1 else 0
def isA (nm : ByteArray) (xs : List PA) : Prop := ∃ a ∈ xs, a.n = nm
theorem atA_le (nm : ByteArray) : ∀ xs : List PA, atA nm xs ≤ xs.length
  | [] => Nat.le_refl _
  | a :: l => by
    rw [atA]; split
    · have := atA_le nm l; simp; omega
    · simp
theorem atA_below {nm : ByteArray} : ∀ {xs : List PA} {j : Nat} {a : PA}, j < atA nm xs → xs[j]? = some a → a.n.toList < nm.toList
  | [], j, a, h, _ => by simp [atA] at h
  | b :: l, j, a, h, hj => by
    rw [atA] at h
    split at h
    · rename_i hb
      cases j with
      | zero => simp at hj; subst hj; exact hb
      | succ j => exact atA_below (xs := l) (j := j) (by omega) (by simpa using hj)
    · omega
theorem atA_above {nm : ByteArray} : ∀ {xs : List PA} {j : Nat} {a : PA}, xs.Pairwise ltA → atA nm xs ≤ j → xs[j]? = some a → ¬ a.n.toList < nm.toList
  | [], j, a, _, _, hj => by simp at hj
  | b :: l, j, a, hp, h, hj => by
    rw [List.pairwise_cons] at hp
    rw [atA] at h
    split at h
    · rename_i hb
      cases j with
      | zero => omega
      | succ j => exact atA_above (xs := l) (j := j) hp.2 (by omega) (by simpa using hj)
    · rename_i hb
      cases j with
      | zero => simp at hj; subst hj; exact hb
      | succ j =>
        have hm : a ∈ l := List.mem_of_getElem? (by simpa using hj)
        exact fun hlt => hb (lt_trans' (hp.1 a hm) hlt)
/-- What a search by halves finds. -/
theorem atA_of {nm : ByteArray} {xs : List PA} (hp : xs.Pairwise ltA) {k : Nat} (hk : k ≤ xs.length) (h1 : ∀ j a, j < k → xs[j]? = some a → a.n.toList < nm.toList) (h2 : ∀ j a, k ≤ j → xs[j]? = some a → ¬ a.n.toList < nm.toList) : k = atA nm xs := by
  have hle := atA_le nm xs
  rcases Nat.lt_trichotomy k (atA nm xs) with h | h | h
  · have hx : xs[k]? = some (xs[k]'(by omega)) := List.getElem?_eq_getElem (by omega)
    exact absurd (atA_below h hx) (h2 k _ (Nat.le_refl _) hx)
  · exact h
  · have hx : xs[atA nm xs]? = some (xs[atA nm xs]'(by omega)) := List.getElem?_eq_getElem (by omega)
    exact absurd (h1 _ _ h hx) (atA_above hp (Nat.le_refl _) hx)
theorem isA_at {nm : ByteArray} {xs : List PA} (hp : xs.Pairwise ltA) : isA nm xs ↔ ∃ a, xs[atA nm xs]? = some a ∧ a.n = nm := by
  constructor
  · rintro ⟨a, ha, rfl⟩
    obtain ⟨j, hj, he⟩ := List.mem_iff_getElem.1 ha
    have hx : xs[j]? = some a := by rw [List.getElem?_eq_getElem hj, he]
    have h1 : ¬ j < atA a.n xs := fun h => lt_irr _ (atA_below h hx)
    rcases Nat.lt_or_ge (atA a.n xs) j with h | h
    · have hy : xs[atA a.n xs]? = some (xs[atA a.n xs]'(by omega)) := List.getElem?_eq_getElem (by omega)
      have h3 := List.pairwise_iff_getElem.1 hp (atA a.n xs) j (by omega) hj h
      rw [he] at h3
      exact absurd h3 (atA_above hp (Nat.le_refl _) hy)
    · have : j = atA a.n xs := by omega
      exact ⟨a, this ▸ hx, rfl⟩
  · rintro ⟨a, ha, rfl⟩
    exact ⟨a, List.mem_of_getElem? ha, rfl⟩

/-! ### Get, set, drop -/
def getA (nm : ByteArray) (xs : List PA) : ByteArray := ((xs[atA nm xs]?).map PA.v).getD ⟨#[]⟩
noncomputable def getF (xs : List PA) (nm : ByteArray) : Int := open Classical in if ¬ attrF xs = 0 then attrF xs else if classZ nm = 0 then 4 else if isA nm xs then 0 else 5
noncomputable def setA (xs : List PA) (nm vl : ByteArray) : List PA := open Classical in xs.take (atA nm xs) ++ ⟨nm, vl⟩ :: xs.drop (if isA nm xs then atA nm xs + 1 else atA nm xs)
noncomputable def setF (xs : List PA) (nm vl : ByteArray) : Int := open Classical in if ¬ attrF xs = 0 then attrF xs else if classZ nm = 0 then 4 else if 20 < vl.size then 1 else if ¬ isA nm xs ∧ xs.length = 4 then 2 else 0
def dropA (xs : List PA) (nm : ByteArray) : List PA := xs.take (atA nm xs) ++ xs.drop (atA nm xs + 1)
theorem getF_bd (xs : List PA) (nm : ByteArray) : 0 ≤ getF xs nm ∧ getF xs nm ≤ 5 := by
  have := attrF_bd xs
  unfold getF; (repeat' split) <;> omega
theorem setF_bd (xs : List PA) (nm vl : ByteArray) : 0 ≤ setF xs nm vl ∧ setF xs nm vl ≤ 5 := by
  have := attrF_bd xs
  unfold setF; (repeat' split) <;> omega

/-! ### The reference's loop -/
/-- One round: how, the list so far, what was found, whether it is there, whether the new one is laid. -/
structure RS where
  out : List PA
  old : ByteArray
  there : Bool
  laid : Bool
def rStep (nm vl : ByteArray) (s : RS) (a : PA) : RS :=
  if a.n = nm then ⟨s.out, a.v, true, s.laid⟩
  else if s.laid = false ∧ nm.toList < a.n.toList then ⟨s.out ++ [⟨nm, vl⟩, a], s.old, s.there, true⟩
  else ⟨s.out ++ [a], s.old, s.there, s.laid⟩
def rRun (set : Bool) (nm vl : ByteArray) (xs : List PA) : RS :=
  let s := xs.foldl (rStep nm vl) ⟨[], ⟨#[]⟩, false, !set⟩
  if s.laid = false then ⟨s.out ++ [⟨nm, vl⟩], s.old, s.there, true⟩ else s
theorem rStep_len (nm vl : ByteArray) (s : RS) (a : PA) : (rStep nm vl s a).out.length ≤ s.out.length + 2 := by
  unfold rStep; (repeat' split) <;> simp
theorem rFold_len (nm vl : ByteArray) : ∀ (l : List PA) (s : RS), (l.foldl (rStep nm vl) s).out.length ≤ s.out.length + 2 * l.length
  | [], s => by simp
  | a :: l, s => by
    have h1 := rFold_len nm vl l (rStep nm vl s a)
    have h2 := rStep_len nm vl s a
    rw [List.foldl_cons, List.length_cons]; omega
/-- Above the name: all is taken over; the new one ahead, if it isn't laid. -/
theorem rAbove (nm vl : ByteArray) : ∀ (l : List PA) (s : RS), (∀ a ∈ l, nm.toList < a.n.toList) →
    l.foldl (rStep nm vl) s = (if s.laid = false ∧ l ≠ [] then ⟨s.out ++ ⟨nm, vl⟩ :: l, s.old, s.there, true⟩ else ⟨s.out ++ l, s.old, s.there, s.laid⟩ : RS)
  | [], s, _ => by simp
  | a :: l, s, h => by
    have ha := h a (by simp)
    have hne : ¬ a.n = nm := fun e => by rw [e] at ha; exact lt_irr _ ha
    rw [List.foldl_cons, rAbove nm vl l _ (fun b hb => h b (by simp [hb]))]
    unfold rStep
    rw [if_neg hne]
    cases hl : s.laid
    · simp [ha]
    · simp
theorem rBelow (nm vl : ByteArray) : ∀ (l : List PA) (s : RS), (∀ a ∈ l, a.n.toList < nm.toList) → l.foldl (rStep nm vl) s = ⟨s.out ++ l, s.old, s.there, s.laid⟩
  | [], s, _ => by simp
  | a :: l, s, h => by
    have ha := h a (by simp)
    have hne : ¬ a.n = nm := fun e => by rw [e] at ha; exact lt_irr _ ha
    have hn : ¬ nm.toList < a.n.toList := fun k => lt_irr _ (lt_trans' ha k)
    rw [List.foldl_cons, rBelow nm vl l _ (fun b hb => h b (by simp [hb]))]
    unfold rStep
    rw [if_neg hne, if_neg (by simp [hn])]
    simp
theorem split_at (nm : ByteArray) {xs : List PA} (hp : xs.Pairwise ltA) : (∀ a ∈ xs.take (atA nm xs), a.n.toList < nm.toList) ∧ ((isA nm xs ∧ ∃ a, xs.drop (atA nm xs) = a :: xs.drop (atA nm xs + 1) ∧ a.n = nm ∧ getA nm xs = a.v ∧ ∀ b ∈ xs.drop (atA nm xs + 1), nm.toList < b.n.toList) ∨ (¬ isA nm xs ∧ ∀ b ∈ xs.drop (atA nm xs), nm.toList < b.n.toList)) := by
  refine ⟨fun a ha => ?_, ?_⟩
  · obtain ⟨j, hj, rfl⟩ := List.mem_iff_getElem.1 ha
    rw [List.length_take] at hj
    rw [List.getElem_take]
    exact atA_below (xs := xs) (j := j) (by omega) (List.getElem?_eq_getElem (by omega))
  · by_cases hi : isA nm xs
    · refine .inl ⟨hi, ?_⟩
      obtain ⟨a, ha, hn⟩ := (isA_at hp).1 hi
      have hd : xs.drop (atA nm xs) = a :: xs.drop (atA nm xs + 1) := drop_at ha
      refine ⟨a, hd, hn, by simp [getA, ha], fun b hb => ?_⟩
      have := hp.sublist (List.drop_sublist (atA nm xs) xs)
      rw [hd, List.pairwise_cons] at this
      have := this.1 b hb
      unfold ltA at this; rw [hn] at this; exact this
    · refine .inr ⟨hi, fun b hb => ?_⟩
      obtain ⟨j, hj, rfl⟩ := List.mem_iff_getElem.1 hb
      rw [List.length_drop] at hj
      rw [List.getElem_drop]
      have hx : xs[atA nm xs + j]? = some (xs[atA nm xs + j]'(by omega)) := List.getElem?_eq_getElem (by omega)
      refine lt_tri _ _ (atA_above hp (by omega) hx) fun e => hi ⟨_, List.mem_of_getElem? hx, e⟩
/-- What the reference makes of a list that is right. -/
theorem rRun_get (nm vl : ByteArray) {xs : List PA} (hp : xs.Pairwise ltA) : (rRun false nm vl xs).there = true ↔ isA nm xs := by
  obtain ⟨h1, h2⟩ := split_at nm hp
  have e := List.take_append_drop (atA nm xs) xs
  unfold rRun
  rw [← e, List.foldl_append, rBelow nm vl _ _ h1, e]
  rcases h2 with ⟨hi, a, hd, hn, hv, hb⟩ | ⟨hi, hb⟩
  · rw [hd, List.foldl_cons, rAbove nm vl _ _ hb]
    simp [rStep, hn, hi]
  · rw [rAbove nm vl _ _ hb]
    simp [hi]
theorem rRun_old (nm vl : ByteArray) {xs : List PA} (hp : xs.Pairwise ltA) (hi : isA nm xs) : (rRun false nm vl xs).old = getA nm xs ∧ (rRun false nm vl xs).out = dropA xs nm := by
  obtain ⟨h1, h2⟩ := split_at nm hp
  have e := List.take_append_drop (atA nm xs) xs
  unfold rRun
  rcases h2 with ⟨_, a, hd, hn, hv, hb⟩ | ⟨hi', hb⟩
  · have : xs.foldl (rStep nm vl) ⟨[], ⟨#[]⟩, false, !false⟩ = ⟨xs.take (atA nm xs) ++ xs.drop (atA nm xs + 1), a.v, true, true⟩ := by
      conv => lhs; rw [← e]
      rw [List.foldl_append, rBelow nm vl _ _ h1, hd, List.foldl_cons, rAbove nm vl _ _ hb]
      simp [rStep, hn]
    rw [this]
    simp [hv, dropA]
  · exact absurd hi hi'
theorem rRun_set (nm vl : ByteArray) {xs : List PA} (hp : xs.Pairwise ltA) : (rRun true nm vl xs).out = setA xs nm vl := by
  obtain ⟨h1, h2⟩ := split_at nm hp
  have e := List.take_append_drop (atA nm xs) xs
  unfold rRun setA
  rcases h2 with ⟨hi, a, hd, hn, hv, hb⟩ | ⟨hi, hb⟩
  · have : xs.foldl (rStep nm vl) ⟨[], ⟨#[]⟩, false, !true⟩ = if xs.drop (atA nm xs + 1) = [] then ⟨xs.take (atA nm xs), a.v, true, false⟩ else ⟨xs.take (atA nm xs) ++ ⟨nm, vl⟩ :: xs.drop (atA nm xs + 1), a.v, true, true⟩ := by
      conv => lhs; rw [← e]
      rw [List.foldl_append, rBelow nm vl _ _ h1, hd, List.foldl_cons, rAbove nm vl _ _ hb]
      simp only [rStep, hn, if_true]
      by_cases hz : xs.drop (atA nm xs + 1) = []
      · simp [hz]
      · simp [hz]
    rw [this, if_pos hi]
    by_cases hz : xs.drop (atA nm xs + 1) = []
    · simp [hz]
    · simp [hz]
  · have : xs.foldl (rStep nm vl) ⟨[], ⟨#[]⟩, false, !true⟩ = if xs.drop (atA nm xs) = [] then ⟨xs.take (atA nm xs), ⟨#[]⟩, false, false⟩ else ⟨xs.take (atA nm xs) ++ ⟨nm, vl⟩ :: xs.drop (atA nm xs), ⟨#[]⟩, false, true⟩ := by
      conv => lhs; rw [← e]
      rw [List.foldl_append, rBelow nm vl _ _ h1, rAbove nm vl _ _ hb]
      by_cases hz : xs.drop (atA nm xs) = []
      · simp [hz]
      · simp [hz]
    rw [this, if_neg hi]
    by_cases hz : xs.drop (atA nm xs) = []
    · simp [hz]
    · simp [hz]
theorem setA_len (nm vl : ByteArray) {xs : List PA} (hp : xs.Pairwise ltA) : (isA nm xs → (setA xs nm vl).length = xs.length) ∧ (¬ isA nm xs → (setA xs nm vl).length = xs.length + 1) := by
  have hle := atA_le nm xs
  constructor
  · intro hi
    obtain ⟨a, ha, _⟩ := (isA_at hp).1 hi
    have : atA nm xs < xs.length := by
      rcases Nat.lt_or_ge (atA nm xs) xs.length with h | h
      · exact h
      · rw [List.getElem?_eq_none h] at ha; cases ha
    unfold setA; rw [if_pos hi]; simp; omega
  · intro hi; unfold setA; rw [if_neg hi]; simp; omega
end Go.Proofs.Ytejkmomfpidnbab

/- Names and classes of strings, as the walks meet them. No program is named here. -/
namespace Go.Proofs.Ytejkmomfpidnbab
open Go.RowKit
set_option linter.unusedSimpArgs false
set_option linter.unusedVariables false
theorem ba_get (s : ByteArray) (k : Nat) : s[k]? = s.toList[k]? := by
  rw [Lib.toList_data, Array.getElem?_toList]
  rcases Nat.lt_or_ge k s.size with h | h
  · rw [getElem?_pos s k h, getElem?_pos s.data k h]; rfl
  · rw [getElem?_neg s k (by omega), getElem?_neg s.data k (by have : s.data.size = s.size := rfl; omega)]
theorem ba_len (s : ByteArray) : s.toList.length = s.size := by rw [Lib.toList_data]; rfl
theorem ba_at {s : ByteArray} {k : Nat} (h : k < s.size) : ∃ c, s.toList[k]? = some c ∧ s[((k : Nat) : Int).toNat]? = some c := by
  have hk : k < s.toList.length := by rw [ba_len]; exact h
  refine ⟨_, List.getElem?_eq_getElem hk, ?_⟩
  rw [Int.toNat_natCast, ba_get, List.getElem?_eq_getElem hk]
theorem ba_eq {s : ByteArray} {a : Array UInt8} : s = ⟨a⟩ ↔ s.toList = a.toList := by
  constructor
  · intro h; subst h; rw [Lib.toList_data]
  · intro h; apply str_ext; rw [h, Lib.toList_data]
theorem okCh_iff (c : UInt8) : okCh c = true ↔ (97 ≤ (c.toNat : Int) ∧ (c.toNat : Int) ≤ 122) ∨ (48 ≤ (c.toNat : Int) ∧ (c.toNat : Int) ≤ 57) ∨ (c.toNat : Int) = 46 ∨ (c.toNat : Int) = 95 ∨ (c.toNat : Int) = 45 := by
  have e : ∀ k : UInt8, c = k ↔ (c.toNat : Int) = (k.toNat : Int) := fun k => by
    rw [← UInt8.toNat_inj]; omega
  simp only [okCh, Bool.or_eq_true, Bool.and_eq_true, decide_eq_true_eq, beq_iff_eq, e]
  have h1 : ((46 : UInt8).toNat : Int) = 46 := rfl
  have h2 : ((95 : UInt8).toNat : Int) = 95 := rfl
  have h3 : ((45 : UInt8).toNat : Int) = 45 := rfl
  rw [h1, h2, h3]
  omega
theorem nameZ_iff (s : ByteArray) : nameZ s.toList = true ↔ 1 ≤ s.size ∧ s.size ≤ 12 ∧ ¬ s = ⟨#[46]⟩ ∧ ¬ s = ⟨#[46, 46]⟩ ∧ s.toList.all okCh = true := by
  rw [ba_eq, ba_eq, ← ba_len]
  simp only [nameZ, Bool.and_eq_true, decide_eq_true_eq, Bool.not_eq_true', beq_eq_false_iff_ne, ne_eq, and_assoc]
theorem all_snoc {s : List UInt8} {k : Nat} {c : UInt8} (h : s[k]? = some c) (h1 : (s.take k).all okCh = true) (h2 : okCh c = true) : (s.take (k + 1)).all okCh = true := by
  rw [List.take_add_one, h, List.all_append, h1]; simp [h2]
theorem all_not {s : List UInt8} {k : Nat} {c : UInt8} (h : s[k]? = some c) (h2 : ¬ okCh c = true) : ¬ s.all okCh = true := by
  rw [List.all_eq_true]
  intro hh
  exact h2 (hh c (List.mem_of_getElem? h))
theorem nameZ_not {s : ByteArray} (h : ¬ (1 ≤ s.size ∧ s.size ≤ 12) ∨ s = ⟨#[46]⟩ ∨ s = ⟨#[46, 46]⟩ ∨ ¬ s.toList.all okCh = true) : nameZ s.toList = false := by
  cases hb : nameZ s.toList
  · rfl
  · rw [nameZ_iff] at hb
    obtain ⟨h1, h2, h3, h4, h5⟩ := hb
    rcases h with h | h | h | h
    · exact absurd ⟨h1, h2⟩ h
    · exact absurd h h3
    · exact absurd h h4
    · exact absurd h5 h
theorem nameZ_yes {s : ByteArray} (h1 : 1 ≤ s.size) (h2 : s.size ≤ 12) (h3 : ¬ s = ⟨#[46]⟩) (h4 : ¬ s = ⟨#[46, 46]⟩) (h5 : s.toList.all okCh = true) : nameZ s.toList = true := (nameZ_iff s).2 ⟨h1, h2, h3, h4, h5⟩
/-- Parts of a string. -/
theorem ba_drop (s : ByteArray) (l : Nat) (h : l ≤ s.size) : (s.extract l s.size).toList = s.toList.drop l := by
  rw [Lib.toList_data, Lib.toList_data]
  apply List.ext_getElem?
  intro i
  rw [List.getElem?_drop, Array.getElem?_toList, Array.getElem?_toList]
  have e : (s.extract l s.size).data = s.data.extract l s.size := by simp [ByteArray.extract, ByteArray.copySlice]; congr 1; omega
  rw [e, Array.getElem?_extract]
  have hs : s.data.size = s.size := rfl
  split
  · rfl
  · rw [Array.getElem?_eq_none]; omega
theorem ba_take (s : ByteArray) (h' : Nat) (h : h' ≤ s.size) : (s.extract 0 h').toList = s.toList.take h' := by
  rw [Lib.toList_data, Lib.toList_data]
  apply List.ext_getElem?
  intro i
  rw [List.getElem?_take, Array.getElem?_toList, Array.getElem?_toList]
  have e : (s.extract 0 h').data = s.data.extract 0 h' := by simp [ByteArray.extract, ByteArray.copySlice]; try rfl
  rw [e, Array.getElem?_extract]
  have hs : s.data.size = s.size := rfl
  by_cases hi : i < h'
  · rw [if_pos (by omega), if_pos hi, Nat.zero_add]
  · rw [if_neg (by omega), if_neg hi]
theorem ba_size (s : ByteArray) (l h : Nat) (h1 : l ≤ h) (h2 : h ≤ s.size) : (s.extract l h).size = h - l := by
  rw [ByteArray.size_extract]; omega
end Go.Proofs.Ytejkmomfpidnbab

/- The walks of names and classes, by the engine. -/
namespace Go.Proofs.Ytejkmomfpidnbab
open Go.RowKit
set_option linter.unusedSimpArgs false
set_option linter.unusedVariables false
attribute [local irreducible] AtQ GoC GoL GoW QO QP Fn RV OwnAt CellsFrom VLe SrcIs errV
set_option maxRecDepth 100000
theorem Name_c (V : View) (s : ByteArray) (hm : s.size ≤ 9223372036854775807) : Fn Try.prog 85 [.string s] V fun v _ => v = .bool (nameZ s.toList) := by
  (refine fn_enter Try.func85 rfl Try.ntmps85 rfl ?_; intro w0)
  repeat' (first | (refine k_gw ?_; (first | (refine k_assign ?_; (first | refine gw_q rfl (q_assign rfl) ?_)) | (refine k_move ?_; (first | refine gw_q rfl (q_move rfl) ?_)) | (refine k_call ?_; (first | refine gw_q rfl (q_slen rfl und_9 rfl) ?_)) | (refine k_binOp ?_; (first | refine gw_q rfl (q_lss rfl rfl) ?_ | refine gw_q rfl (q_gtr rfl rfl) ?_ | refine gw_q rfl (q_seql rfl rfl) ?_ | refine gw_q rfl (q_neq rfl rfl) ?_ | refine gw_q rfl (q_add rfl rfl (by omega)) ?_ | refine gw_q rfl (q_addw rfl rfl) ?_)) | (refine k_pick ?_; (first | refine gw_q rfl (q_pick_t rfl rfl) ?_ | refine gw_q rfl (q_pick_f rfl rfl) ?_)))) | (refine k_gl ?_; (first | refine gl_nil rfl ?_ | refine gl_go rfl rfl ?_ | refine gl_yes rfl rfl rfl rfl rfl ?_ | refine gl_no rfl rfl rfl rfl rfl rfl rfl ?_ | (refine gl_split_p rfl rfl rfl ?_ ?_ <;> intro hq <;> try (exfalso; first | exact hq rfl | omega)))) | (refine k_gc ?_; (first | refine gc_seq ?_ | refine gc_region ?_ | refine gc_cond_t rfl ?_ | (refine gc_cond_p rfl ?_ ?_ <;> intro hq <;> try (exfalso; first | exact hq rfl | omega)) | refine gc_block ?_ | refine gc_ret ?_ | refine gc_skip ?_)) | (refine k_at ?_; (first | refine at_seq ?_ | refine at_then_ret ?_ | refine at_then_exit ?_ | refine at_thn_ret ?_ | refine at_thn_exit ?_ | refine at_block_normal ?_ | refine at_block_ret ?_ | refine at_block_hit ?_ | refine at_block_miss rfl ?_)))
  all_goals try ((refine at_ret1 Try.results85 (rv_tmp rfl) ?_); refine congrArg Value.bool (nameZ_not ?_).symm; first | (left; omega) | (right; left; assumption) | (right; right; left; assumption))
  have h3 : ¬ s = ⟨#[46]⟩ := by assumption
  have h4 : ¬ s = ⟨#[46, 46]⟩ := by assumption
  refine gc_loop (fun F V' L' m => ∃ k : Nat, k ≤ s.size ∧ m = s.size - k ∧ V = V' ∧ [] = L' ∧ (s.toList.take k).all okCh = true ∧ F = [(0, .string s), (22, .int .i64 s.size), (23, .int .i64 k)]) (m := s.size) ⟨0, Nat.zero_le _, by omega, rfl, rfl, by simp, rfl⟩ (by repeat (first | exact sub_nil | refine sub_cons (by exact rfl) ?_)) rfl (by repeat (first | exact List.Sublist.refl _ | refine List.Sublist.cons _ ?_ | refine List.sublist_append_of_sublist_right ?_)) ?_
  rintro F V' L' m ⟨k, hk, rfl, rfl, rfl, ha, rfl⟩
  by_cases hlt : k < s.size
  · obtain ⟨c, hc, hcc⟩ := ba_at hlt
    have hch := okCh_iff c
    repeat' (first | (refine k_gw ?_; (first | (refine k_assign ?_; (first | refine gw_q rfl (q_assign rfl) ?_)) | (refine k_move ?_; (first | refine gw_q rfl (q_move rfl) ?_)) | (refine k_binOp ?_; (first | refine gw_q rfl (q_lss rfl rfl) ?_ | refine gw_q rfl (q_gtr rfl rfl) ?_ | refine gw_q rfl (q_seql rfl rfl) ?_ | refine gw_q rfl (q_neq rfl rfl) ?_ | refine gw_q rfl (q_add rfl rfl (by omega)) ?_ | refine gw_q rfl (q_addw rfl rfl) ?_)) | (refine k_pick ?_; (first | refine gw_q rfl (q_pick_t rfl rfl) ?_ | refine gw_q rfl (q_pick_f rfl rfl) ?_)) | (refine k_index ?_; (first | refine gw_q rfl (q_sindex und_9 rfl rfl (by omega) (by assumption)) ?_)))) | (refine k_gl ?_; (first | refine gl_nil rfl ?_ | refine gl_go rfl rfl ?_ | refine gl_yes rfl rfl rfl rfl rfl ?_ | refine gl_no rfl rfl rfl rfl rfl rfl rfl ?_ | refine gl_nou rfl rfl rfl rfl rfl rfl ?_ | (refine gl_split_p rfl rfl rfl ?_ ?_ <;> intro hq <;> try (exfalso; first | exact hq rfl | omega)))) | (refine k_gc ?_; (first | refine gc_seq ?_ | refine gc_region ?_ | refine gc_cond_f rfl ?_ | (refine gc_cond_p rfl ?_ ?_ <;> intro hq <;> try (exfalso; first | exact hq rfl | omega)) | refine gc_block ?_ | refine gc_ret ?_ | refine gc_skip ?_)) | (refine k_at ?_; (first | refine at_seq ?_ | refine at_then_ret ?_ | refine at_then_exit ?_ | refine at_thn_ret ?_ | refine at_thn_exit ?_ | refine at_block_normal ?_ | refine at_block_ret ?_ | refine at_block_hit ?_ | refine at_block_miss rfl ?_)))
    all_goals first
      | ((refine at_ret1 Try.results85 (rv_tmp rfl) ?_); exact congrArg Value.bool (nameZ_not (.inr (.inr (.inr (all_not hc (by rw [hch]; omega)))))).symm)
      | (refine at_round _ (s.size - (k + 1)) ⟨k + 1, by omega, rfl, rfl, rfl, all_snoc hc ha (by rw [hch]; omega), rfl⟩ (by omega) (by repeat (first | exact sub_nil | refine sub_cons (by exact rfl) ?_)) (by repeat (first | exact List.Sublist.refl _ | refine List.Sublist.cons _ ?_ | refine List.sublist_append_of_sublist_right ?_)))
  · repeat' (first | (refine k_gw ?_; (first | (refine k_assign ?_; (first | refine gw_q rfl (q_assign rfl) ?_)) | (refine k_binOp ?_; (first | refine gw_q rfl (q_lss rfl rfl) ?_ | refine gw_q rfl (q_gtr rfl rfl) ?_ | refine gw_q rfl (q_seql rfl rfl) ?_ | refine gw_q rfl (q_neq rfl rfl) ?_ | refine gw_q rfl (q_add rfl rfl (by omega)) ?_ | refine gw_q rfl (q_addw rfl rfl) ?_)))) | (refine k_gl ?_; (first | refine gl_nil rfl ?_ | refine gl_go rfl rfl ?_)) | (refine k_gc ?_; (first | refine gc_seq ?_ | refine gc_region ?_ | (refine gc_cond_p rfl ?_ ?_ <;> intro hq <;> try (exfalso; first | exact hq rfl | omega)) | refine gc_exit ?_ | refine gc_ret ?_)) | (refine k_at ?_; (first | refine at_seq ?_ | refine at_then_ret ?_ | refine at_then_exit ?_ | refine at_thn_ret ?_ | refine at_thn_exit ?_ | refine at_block_normal ?_ | refine at_block_ret ?_ | refine at_block_hit ?_ | refine at_block_miss rfl ?_)))
    (refine at_ret1 Try.results85 (rv_tmp rfl) ?_)
    rw [List.take_of_length_le (by rw [ba_len]; omega)] at ha
    exact congrArg Value.bool (nameZ_yes (by omega) (by omega) h3 h4 ha).symm
theorem RName_c (V : View) (s : ByteArray) (hm : s.size ≤ 9223372036854775807) : Fn Try.prog 96 [.string s] V fun v _ => v = .bool (nameZ s.toList) := by
  (refine fn_enter Try.func96 rfl Try.ntmps96 rfl ?_; intro w0)
  repeat' (first | (refine k_gw ?_; (first | (refine k_assign ?_; (first | refine gw_q rfl (q_assign rfl) ?_)))) | (refine k_gl ?_; (first | refine gl_nil rfl ?_ | refine gl_go rfl rfl ?_)) | (refine k_gc ?_; (first | refine gc_seq ?_ | refine gc_region ?_ | refine gc_block ?_)) | (refine k_at ?_; (first | refine at_seq ?_ | refine at_then_ret ?_ | refine at_then_exit ?_ | refine at_thn_ret ?_ | refine at_thn_exit ?_ | refine at_block_normal ?_ | refine at_block_ret ?_ | refine at_block_hit ?_ | refine at_block_miss rfl ?_)))
  refine gc_loop (fun F V' L' m => ∃ k : Nat, k ≤ s.size ∧ m = s.size - k ∧ V = V' ∧ [] = L' ∧ (s.toList.take k).all okCh = true ∧ F = [(0, .string s), (3, .int .i64 k)]) (m := s.size) ⟨0, Nat.zero_le _, by omega, rfl, rfl, by simp, rfl⟩ (by repeat (first | exact sub_nil | refine sub_cons (by exact rfl) ?_)) rfl (by repeat (first | exact List.Sublist.refl _ | refine List.Sublist.cons _ ?_ | refine List.sublist_append_of_sublist_right ?_)) ?_
  rintro F V' L' m ⟨k, hk, rfl, rfl, rfl, ha, rfl⟩
  by_cases hlt : k < s.size
  · obtain ⟨c, hc, hcc⟩ := ba_at hlt
    have hch := okCh_iff c
    repeat' (first | (refine k_gw ?_; (first | (refine k_assign ?_; (first | refine gw_q rfl (q_assign rfl) ?_)) | (refine k_move ?_; (first | refine gw_q rfl (q_move rfl) ?_)) | (refine k_call ?_; (first | refine gw_q rfl (q_slen rfl und_9 rfl) ?_)) | (refine k_binOp ?_; (first | refine gw_q rfl (q_lss rfl rfl) ?_ | refine gw_q rfl (q_geq rfl rfl) ?_ | refine gw_q rfl (q_leq rfl rfl) ?_ | refine gw_q rfl (q_neq rfl rfl) ?_ | refine gw_q rfl (q_add rfl rfl (by omega)) ?_)) | (refine k_index ?_; (first | refine gw_q rfl (q_sindex und_9 rfl rfl (by omega) (by assumption)) ?_)) | (refine k_pick ?_; (first | refine gw_q rfl (q_pick_t rfl rfl) ?_ | refine gw_q rfl (q_pick_f rfl rfl) ?_)) | (refine k_unOp ?_; (first | refine gw_q rfl (q_not_t rfl) ?_ | refine gw_q rfl (q_not_f rfl) ?_ | refine gw_q rfl (q_not_p rfl) ?_ | refine gw_q rfl (q_not_b rfl) ?_)))) | (refine k_gl ?_; (first | refine gl_nil rfl ?_ | refine gl_go rfl rfl ?_ | refine gl_yes rfl rfl rfl rfl rfl ?_ | refine gl_no rfl rfl rfl rfl rfl rfl rfl ?_ | refine gl_nou rfl rfl rfl rfl rfl rfl ?_ | (refine gl_split_p rfl rfl rfl ?_ ?_ <;> intro hq <;> try (exfalso; first | exact hq rfl | omega)))) | (refine k_gc ?_; (first | refine gc_seq ?_ | refine gc_region ?_ | refine gc_cond_f rfl ?_ | (refine gc_cond_p rfl ?_ ?_ <;> intro hq <;> try (exfalso; first | exact hq rfl | omega)) | refine gc_block ?_ | refine gc_ret ?_ | refine gc_skip ?_)) | (refine k_at ?_; (first | refine at_seq ?_ | refine at_then_ret ?_ | refine at_then_exit ?_ | refine at_thn_ret ?_ | refine at_thn_exit ?_ | refine at_block_normal ?_ | refine at_block_ret ?_ | refine at_block_hit ?_ | refine at_block_miss rfl ?_)))
    all_goals first
      | ((refine at_ret1 Try.results96 (rv_tmp rfl) ?_); exact congrArg Value.bool (nameZ_not (.inr (.inr (.inr (all_not hc (by rw [hch]; omega)))))).symm)
      | (refine at_round _ (s.size - (k + 1)) ⟨k + 1, by omega, rfl, rfl, rfl, all_snoc hc ha (by rw [hch]; omega), rfl⟩ (by omega) (by repeat (first | exact sub_nil | refine sub_cons (by exact rfl) ?_)) (by repeat (first | exact List.Sublist.refl _ | refine List.Sublist.cons _ ?_ | refine List.sublist_append_of_sublist_right ?_)))
  · repeat' (first | (refine k_gw ?_; (first | (refine k_assign ?_; (first | refine gw_q rfl (q_assign rfl) ?_)) | (refine k_move ?_; (first | refine gw_q rfl (q_move rfl) ?_)) | (refine k_call ?_; (first | refine gw_q rfl (q_slen rfl und_9 rfl) ?_)) | (refine k_binOp ?_; (first | refine gw_q rfl (q_lss rfl rfl) ?_ | refine gw_q rfl (q_leq rfl rfl) ?_ | refine gw_q rfl (q_gtr rfl rfl) ?_ | refine gw_q rfl (q_sneq rfl rfl) ?_)) | (refine k_pick ?_; (first | refine gw_q rfl (q_pick_t rfl rfl) ?_ | refine gw_q rfl (q_pick_f rfl rfl) ?_)))) | (refine k_gl ?_; (first | refine gl_nil rfl ?_ | refine gl_go rfl rfl ?_ | refine gl_yes rfl rfl rfl rfl rfl ?_ | refine gl_no rfl rfl rfl rfl rfl rfl rfl ?_ | (refine gl_split_p rfl rfl rfl ?_ ?_ <;> intro hq <;> try (exfalso; first | exact hq rfl | omega)))) | (refine k_gc ?_; (first | refine gc_seq ?_ | refine gc_region ?_ | (refine gc_cond_p rfl ?_ ?_ <;> intro hq <;> try (exfalso; first | exact hq rfl | omega)) | refine gc_exit ?_ | refine gc_ret ?_)) | (refine k_at ?_; (first | refine at_seq ?_ | refine at_then_ret ?_ | refine at_then_exit ?_ | refine at_thn_ret ?_ | refine at_thn_exit ?_ | refine at_block_normal ?_ | refine at_block_ret ?_ | refine at_block_hit ?_ | refine at_block_miss rfl ?_)))
    rw [List.take_of_length_le (by rw [ba_len]; omega)] at ha
    all_goals (refine at_ret1 Try.results96 (rv_tmp rfl) ?_)
    all_goals (refine congrArg Value.bool ?_; by_cases h3 : s = ⟨#[46]⟩ <;> by_cases h4 : s = ⟨#[46, 46]⟩ <;> first
      | exact (nameZ_not (.inl (by omega))).symm
      | exact (nameZ_not (.inr (.inl h3))).symm
      | exact (nameZ_not (.inr (.inr (.inl h4)))).symm
      | exact (nameZ_yes (by omega) (by omega) h3 h4 ha).symm
      | (rw [nameZ_yes (by omega) (by omega) h3 h4 ha]; simp [h3, h4]; done)
      | (rw [nameZ_not (.inr (.inl h3))]; simp [h3]; done)
      | (rw [nameZ_not (.inr (.inr (.inl h4)))]; simp [h4]; done)
      | (exfalso; exact hq (fun e => h4 e); done)
      | (exfalso; exact absurd h3 (by assumption))
      | (exfalso; exact absurd h4 (by assumption))
      | (exfalso; omega))
theorem class_of {s : ByteArray} (h : 2 ≤ s.size) (hn : nameZ (s.toList.drop 2) = true) : classZ s = if s.toList.take 2 = [117, 46] then 1 else if s.toList.take 2 = [116, 46] then 2 else 0 := by rw [classZ, if_pos ⟨h, hn⟩]
theorem class_not {s : ByteArray} (h : ¬ (2 ≤ s.size ∧ nameZ (s.toList.drop 2) = true)) : classZ s = 0 := by rw [classZ, if_neg h]
theorem take_two {s : ByteArray} {c d a b : UInt8} (hc : s.toList[0]? = some c) (hd : s.toList[1]? = some d) : s.toList.take 2 = [a, b] ↔ (c.toNat : Int) = a.toNat ∧ (d.toNat : Int) = b.toNat := by
  have e : s.toList.take 2 = [c, d] := by
    rw [List.take_add_one, List.take_add_one, hc, hd]; simp
  rw [e]
  have h1 : ∀ x y : UInt8, x = y ↔ (x.toNat : Int) = (y.toNat : Int) := fun x y => by rw [← UInt8.toNat_inj]; omega
  simp [h1]
theorem name_short {s : ByteArray} (h : ¬ 3 ≤ s.size) : ¬ (2 ≤ s.size ∧ nameZ (s.toList.drop 2) = true) := by
  rintro ⟨h1, h2⟩
  have : s.toList.drop 2 = [] := List.drop_eq_nil_of_le (by rw [ba_len]; omega)
  rw [this] at h2; exact absurd h2 (by decide)
theorem Class_c (V : View) (s : ByteArray) (hm : s.size ≤ 9223372036854775807) : Fn Try.prog 158 [.string s] V fun v _ => v = .int .i64 (classZ s) := by
  by_cases h3 : 3 ≤ s.size
  · obtain ⟨c, hc, hcc⟩ := ba_at (s := s) (k := 0) (by omega)
    obtain ⟨d, hd, hdd⟩ := ba_at (s := s) (k := 1) (by omega)
    have hn := Name_c V (s.extract 2 s.size) (by rw [ba_size _ _ _ (by omega) (Nat.le_refl _)]; omega)
    rw [ba_drop _ _ (by omega)] at hn
    have hcl := @class_of s (by omega)
    have hc0 := @take_two s c d 117 46 hc hd
    have hc1 := @take_two s c d 116 46 hc hd
    have e0 : ((117 : UInt8).toNat : Int) = 117 := rfl
    have e1 : ((116 : UInt8).toNat : Int) = 116 := rfl
    have e2 : ((46 : UInt8).toNat : Int) = 46 := rfl
    rw [e0, e2] at hc0
    rw [e1, e2] at hc1
    have hcc0 : s[(0 : Int).toNat]? = some c := hcc
    have hdd0 : s[(1 : Int).toNat]? = some d := hdd
    cases hb : nameZ (s.toList.drop 2)
    · rw [class_not (by rintro ⟨_, h⟩; rw [hb] at h; cases h)]
      rw [hb] at hn
      (refine fn_enter Try.func158 rfl Try.ntmps158 rfl ?_; intro w0)
      repeat' (first | (refine k_gw ?_; (first | (refine k_assign ?_; (first | refine gw_q rfl (q_assign rfl) ?_)) | (refine k_move ?_; (first | refine gw_q rfl (q_move rfl) ?_)) | (refine k_call ?_; (first | refine gw_q rfl (q_slen rfl und_9 rfl) ?_ | refine gw_q' rfl (q_call ⟨Try.call85⟩ rfl (hn)) ?_)) | (refine k_binOp ?_; (first | refine gw_q rfl (q_lss rfl rfl) ?_ | refine gw_q rfl (q_neq rfl rfl) ?_ | refine gw_q rfl (q_eql rfl rfl) ?_)) | (refine k_index ?_; (first | refine gw_q rfl (q_sindex und_9 rfl rfl (by omega) (by assumption)) ?_)) | (refine k_pick ?_; (first | refine gw_q rfl (q_pick_t rfl rfl) ?_ | refine gw_q rfl (q_pick_f rfl rfl) ?_)) | (refine k_slice ?_; (first | refine gw_q rfl (q_sslice_l und_9 rfl rfl (by omega)) ?_ | refine gw_q rfl (q_sslice_li und_9 rfl rfl (by omega)) ?_)) | (refine k_unOp ?_; (first | refine gw_q rfl (q_not_t rfl) ?_ | refine gw_q rfl (q_not_f rfl) ?_ | refine gw_q rfl (q_not_p rfl) ?_ | refine gw_q rfl (q_not_b rfl) ?_)))) | (refine k_gl ?_; (first | refine gl_nil rfl ?_ | refine gl_go rfl rfl ?_ | refine gl_yes rfl rfl rfl rfl rfl ?_ | refine gl_no rfl rfl rfl rfl rfl rfl rfl ?_ | (refine gl_split_p rfl rfl rfl ?_ ?_ <;> intro hq <;> try (exfalso; first | exact hq rfl | omega)))) | (refine k_gc ?_; (first | refine gc_seq ?_ | refine gc_region ?_ | refine gc_cond_t rfl ?_ | refine gc_ret ?_)) | (refine k_at ?_; (first | refine at_seq ?_ | refine at_then_ret ?_ | refine at_then_exit ?_ | refine at_thn_ret ?_ | refine at_thn_exit ?_ | refine at_block_normal ?_ | refine at_block_ret ?_ | refine at_block_hit ?_ | refine at_block_miss rfl ?_)))
      all_goals (refine at_ret1 Try.results158 (rv_tmp rfl) ?_)
      all_goals rfl
    · rw [hcl hb]
      rw [hb] at hn
      (refine fn_enter Try.func158 rfl Try.ntmps158 rfl ?_; intro w0)
      repeat' (first | (refine k_gw ?_; (first | (refine k_assign ?_; (first | refine gw_q rfl (q_assign rfl) ?_)) | (refine k_move ?_; (first | refine gw_q rfl (q_move rfl) ?_)) | (refine k_call ?_; (first | refine gw_q rfl (q_slen rfl und_9 rfl) ?_ | refine gw_q' rfl (q_call ⟨Try.call85⟩ rfl (hn)) ?_)) | (refine k_binOp ?_; (first | refine gw_q rfl (q_lss rfl rfl) ?_ | refine gw_q rfl (q_neq rfl rfl) ?_ | refine gw_q rfl (q_eql rfl rfl) ?_)) | (refine k_index ?_; (first | refine gw_q rfl (q_sindex und_9 rfl rfl (by omega) (by assumption)) ?_)) | (refine k_pick ?_; (first | refine gw_q rfl (q_pick_t rfl rfl) ?_ | refine gw_q rfl (q_pick_f rfl rfl) ?_)) | (refine k_slice ?_; (first | refine gw_q rfl (q_sslice_l und_9 rfl rfl (by omega)) ?_ | refine gw_q rfl (q_sslice_li und_9 rfl rfl (by omega)) ?_)) | (refine k_unOp ?_; (first | refine gw_q rfl (q_not_t rfl) ?_ | refine gw_q rfl (q_not_f rfl) ?_ | refine gw_q rfl (q_not_p rfl) ?_ | refine gw_q rfl (q_not_b rfl) ?_)))) | (refine k_gl ?_; (first | refine gl_nil rfl ?_ | refine gl_go rfl rfl ?_ | refine gl_yes rfl rfl rfl rfl rfl ?_ | refine gl_no rfl rfl rfl rfl rfl rfl rfl ?_ | (refine gl_split_p rfl rfl rfl ?_ ?_ <;> intro hq <;> try (exfalso; first | exact hq rfl | omega)))) | (refine k_gc ?_; (first | refine gc_seq ?_ | refine gc_region ?_ | refine gc_cond_t rfl ?_ | refine gc_cond_f rfl ?_ | (refine gc_cond_p rfl ?_ ?_ <;> intro hq <;> try (exfalso; first | exact hq rfl | omega)) | refine gc_block ?_ | refine gc_ret ?_ | refine gc_skip ?_)) | (refine k_at ?_; (first | refine at_seq ?_ | refine at_then_ret ?_ | refine at_then_exit ?_ | refine at_thn_ret ?_ | refine at_thn_exit ?_ | refine at_block_normal ?_ | refine at_block_ret ?_ | refine at_block_hit ?_ | refine at_block_miss rfl ?_)))
      all_goals (refine at_ret1 Try.results158 (rv_tmp rfl) ?_)
      all_goals first
        | (rw [if_pos (hc0.2 (by omega))]; done)
        | (rw [if_neg (fun h => by have := hc0.1 h; omega), if_pos (hc1.2 (by omega))]; done)
        | (rw [if_neg (fun h => by have := hc0.1 h; omega), if_neg (fun h => by have := hc1.1 h; omega)]; done)
  · rw [class_not (name_short h3)]
    (refine fn_enter Try.func158 rfl Try.ntmps158 rfl ?_; intro w0)
    repeat' (first | (refine k_gw ?_; (first | (refine k_assign ?_; (first | refine gw_q rfl (q_assign rfl) ?_)) | (refine k_move ?_; (first | refine gw_q rfl (q_move rfl) ?_)) | (refine k_call ?_; (first | refine gw_q rfl (q_slen rfl und_9 rfl) ?_)) | (refine k_binOp ?_; (first | refine gw_q rfl (q_lss rfl rfl) ?_ | refine gw_q rfl (q_neq rfl rfl) ?_ | refine gw_q rfl (q_eql rfl rfl) ?_)) | (refine k_pick ?_; (first | refine gw_q rfl (q_pick_t rfl rfl) ?_ | refine gw_q rfl (q_pick_f rfl rfl) ?_)))) | (refine k_gl ?_; (first | refine gl_nil rfl ?_ | refine gl_go rfl rfl ?_ | refine gl_no rfl rfl rfl rfl rfl rfl rfl ?_ | (refine gl_split_p rfl rfl rfl ?_ ?_ <;> intro hq <;> try (exfalso; first | exact hq rfl | omega)))) | (refine k_gc ?_; (first | refine gc_seq ?_ | refine gc_region ?_ | refine gc_cond_t rfl ?_ | refine gc_ret ?_)) | (refine k_at ?_; (first | refine at_seq ?_ | refine at_then_ret ?_ | refine at_then_exit ?_ | refine at_thn_ret ?_ | refine at_thn_exit ?_ | refine at_block_normal ?_ | refine at_block_ret ?_ | refine at_block_hit ?_ | refine at_block_miss rfl ?_)))
    all_goals (refine at_ret1 Try.results158 (rv_tmp rfl) ?_)
    all_goals rfl
theorem RClass_c (V : View) (s : ByteArray) (hm : s.size ≤ 9223372036854775807) : Fn Try.prog 150 [.string s] V fun v _ => v = .int .i64 (classZ s) := by
  by_cases h2 : 2 ≤ s.size
  · have hn := RName_c V (s.extract 2 s.size) (by rw [ba_size _ _ _ (by omega) (Nat.le_refl _)]; omega)
    rw [ba_drop _ _ (by omega)] at hn
    have hcl := @class_of s (by omega)
    have ht := ba_take s 2 h2
    have hu : (s.extract 0 2 = ⟨#[117, 46]⟩) ↔ s.toList.take 2 = [117, 46] := by rw [ba_eq, ht]
    have hv : (s.extract 0 2 = ⟨#[116, 46]⟩) ↔ s.toList.take 2 = [116, 46] := by rw [ba_eq, ht]
    cases hb : nameZ (s.toList.drop 2)
    · rw [class_not (by rintro ⟨_, h⟩; rw [hb] at h; cases h)]
      rw [hb] at hn
      (refine fn_enter Try.func150 rfl Try.ntmps150 rfl ?_; intro w0)
      repeat' (first | (refine k_gw ?_; (first | (refine k_assign ?_; (first | refine gw_q rfl (q_assign rfl) ?_)) | (refine k_move ?_; (first | refine gw_q rfl (q_move rfl) ?_)) | (refine k_call ?_; (first | refine gw_q rfl (q_slen rfl und_9 rfl) ?_ | refine gw_q' rfl (q_call ⟨Try.call96⟩ rfl (hn)) ?_)) | (refine k_binOp ?_; (first | refine gw_q rfl (q_lss rfl rfl) ?_ | refine gw_q rfl (q_seql rfl rfl) ?_)) | (refine k_slice ?_; (first | refine gw_q rfl (q_sslice_l und_9 rfl rfl (by omega)) ?_ | refine gw_q rfl (q_sslice_li und_9 rfl rfl (by omega)) ?_ | refine gw_q rfl (q_sslice_n und_9 rfl rfl (by omega)) ?_ | refine gw_q rfl (q_sslice_ni und_9 rfl rfl (by omega)) ?_)) | (refine k_pick ?_; (first | refine gw_q rfl (q_pick_t rfl rfl) ?_ | refine gw_q rfl (q_pick_f rfl rfl) ?_)))) | (refine k_gl ?_; (first | refine gl_nil rfl ?_ | refine gl_go rfl rfl ?_ | refine gl_no rfl rfl rfl rfl rfl rfl rfl ?_)) | (refine k_gc ?_; (first | refine gc_seq ?_ | refine gc_region ?_ | refine gc_cond_f rfl ?_ | (refine gc_cond_p rfl ?_ ?_ <;> intro hq <;> try (exfalso; first | exact hq rfl | omega)) | refine gc_ret ?_ | refine gc_skip ?_)) | (refine k_at ?_; (first | refine at_seq ?_ | refine at_then_ret ?_ | refine at_then_exit ?_ | refine at_thn_ret ?_ | refine at_thn_exit ?_ | refine at_block_normal ?_ | refine at_block_ret ?_ | refine at_block_hit ?_ | refine at_block_miss rfl ?_)))
      all_goals (refine at_ret1 Try.results150 (rv_tmp rfl) ?_)
      all_goals rfl
    · rw [hcl hb]
      rw [hb] at hn
      (refine fn_enter Try.func150 rfl Try.ntmps150 rfl ?_; intro w0)
      repeat' (first | (refine k_gw ?_; (first | (refine k_assign ?_; (first | refine gw_q rfl (q_assign rfl) ?_)) | (refine k_move ?_; (first | refine gw_q rfl (q_move rfl) ?_)) | (refine k_call ?_; (first | refine gw_q rfl (q_slen rfl und_9 rfl) ?_ | refine gw_q' rfl (q_call ⟨Try.call96⟩ rfl (hn)) ?_)) | (refine k_binOp ?_; (first | refine gw_q rfl (q_lss rfl rfl) ?_ | refine gw_q rfl (q_seql rfl rfl) ?_)) | (refine k_slice ?_; (first | refine gw_q rfl (q_sslice_l und_9 rfl rfl (by omega)) ?_ | refine gw_q rfl (q_sslice_li und_9 rfl rfl (by omega)) ?_ | refine gw_q rfl (q_sslice_n und_9 rfl rfl (by omega)) ?_ | refine gw_q rfl (q_sslice_ni und_9 rfl rfl (by omega)) ?_)) | (refine k_pick ?_; (first | refine gw_q rfl (q_pick_t rfl rfl) ?_ | refine gw_q rfl (q_pick_f rfl rfl) ?_)))) | (refine k_gl ?_; (first | refine gl_nil rfl ?_ | refine gl_go rfl rfl ?_ | refine gl_yes rfl rfl rfl rfl rfl ?_)) | (refine k_gc ?_; (first | refine gc_seq ?_ | refine gc_region ?_ | (refine gc_cond_p rfl ?_ ?_ <;> intro hq <;> try (exfalso; first | exact hq rfl | omega)) | refine gc_ret ?_ | refine gc_skip ?_)) | (refine k_at ?_; (first | refine at_seq ?_ | refine at_then_ret ?_ | refine at_then_exit ?_ | refine at_thn_ret ?_ | refine at_thn_exit ?_ | refine at_block_normal ?_ | refine at_block_ret ?_ | refine at_block_hit ?_ | refine at_block_miss rfl ?_)))
      all_goals (refine at_ret1 Try.results150 (rv_tmp rfl) ?_)
      all_goals first
        | (rw [if_pos (hu.1 (by assumption))]; done)
        | (rw [if_neg (fun h => by have := hu.2 h; contradiction), if_pos (hv.1 (by assumption))]; done)
        | (rw [if_neg (fun h => by have := hu.2 h; contradiction), if_neg (fun h => by have := hv.2 h; contradiction)]; done)
  · rw [class_not (fun h => h2 h.1)]
    (refine fn_enter Try.func150 rfl Try.ntmps150 rfl ?_; intro w0)
    repeat' (first | (refine k_gw ?_; (first | (refine k_assign ?_; (first | refine gw_q rfl (q_assign rfl) ?_)) | (refine k_move ?_; (first | refine gw_q rfl (q_move rfl) ?_)) | (refine k_call ?_; (first | refine gw_q rfl (q_slen rfl und_9 rfl) ?_)) | (refine k_binOp ?_; (first | refine gw_q rfl (q_lss rfl rfl) ?_ | refine gw_q rfl (q_seql rfl rfl) ?_)))) | (refine k_gl ?_; (first | refine gl_nil rfl ?_ | refine gl_go rfl rfl ?_)) | (refine k_gc ?_; (first | refine gc_seq ?_ | refine gc_region ?_ | (refine gc_cond_p rfl ?_ ?_ <;> intro hq <;> try (exfalso; first | exact hq rfl | omega)) | refine gc_ret ?_)) | (refine k_at ?_; (first | refine at_seq ?_ | refine at_then_ret ?_ | refine at_then_exit ?_ | refine at_thn_ret ?_ | refine at_thn_exit ?_ | refine at_block_normal ?_ | refine at_block_ret ?_ | refine at_block_hit ?_ | refine at_block_miss rfl ?_)))
    all_goals (refine at_ret1 Try.results150 (rv_tmp rfl) ?_)
    all_goals rfl
end Go.Proofs.Ytejkmomfpidnbab

/- Attributes: what is set is what one gets, what is dropped is none, nothing else is moved. No program is named here. -/
namespace Go.Proofs.Ytejkmomfpidnbab
open Go.RowKit
set_option linter.unusedSimpArgs false
set_option linter.unusedVariables false

theorem getA_mem {xs : List PA} (hp : xs.Pairwise ltA) {a : PA} (ha : a ∈ xs) : isA a.n xs ∧ getA a.n xs = a.v := by
  refine ⟨⟨a, ha, rfl⟩, ?_⟩
  obtain ⟨b, hb, hn⟩ := (isA_at hp).1 ⟨a, ha, rfl⟩
  have hbm := List.mem_of_getElem? hb
  have : b = a := by
    obtain ⟨i, hi, he⟩ := List.mem_iff_getElem.1 ha
    obtain ⟨j, hj, hf⟩ := List.mem_iff_getElem.1 hbm
    rcases Nat.lt_trichotomy i j with h | h | h
    · have := List.pairwise_iff_getElem.1 hp i j hi hj h
      rw [he, hf] at this; unfold ltA at this; rw [hn] at this; exact absurd this (lt_irr _)
    · subst h; rw [← he, ← hf]
    · have := List.pairwise_iff_getElem.1 hp j i hj hi h
      rw [he, hf] at this; unfold ltA at this; rw [hn] at this; exact absurd this (lt_irr _)
  rw [getA, hb, this]; rfl
theorem setA_mem {xs : List PA} (hp : xs.Pairwise ltA) (nm vl : ByteArray) (a : PA) : a ∈ setA xs nm vl ↔ a = ⟨nm, vl⟩ ∨ (a ∈ xs ∧ ¬ a.n = nm) := by
  obtain ⟨h1, h2⟩ := split_at nm hp
  have hlo : ∀ a ∈ xs.take (atA nm xs), ¬ a.n = nm := fun a ha e => by have := h1 a ha; rw [e] at this; exact lt_irr _ this
  have e : a ∈ xs ↔ a ∈ xs.take (atA nm xs) ∨ a ∈ xs.drop (atA nm xs) := by rw [← List.mem_append, List.take_append_drop]
  rw [e]
  unfold setA
  rcases h2 with ⟨hi, b, hd, hn, hv, hb⟩ | ⟨hi, hb⟩
  · have hhi : ∀ a ∈ xs.drop (atA nm xs + 1), ¬ a.n = nm := fun a ha e => by have := hb a ha; rw [e] at this; exact lt_irr _ this
    rw [if_pos hi, hd, List.mem_append, List.mem_cons, List.mem_cons]
    constructor
    · rintro (h | h | h)
      · exact .inr ⟨.inl h, hlo a h⟩
      · exact .inl h
      · exact .inr ⟨.inr (.inr h), hhi a h⟩
    · rintro (h | ⟨h | h | h, hne⟩)
      · exact .inr (.inl h)
      · exact .inl h
      · subst h; exact absurd hn hne
      · exact .inr (.inr h)
  · have hhi : ∀ a ∈ xs.drop (atA nm xs), ¬ a.n = nm := fun a ha e => by have := hb a ha; rw [e] at this; exact lt_irr _ this
    rw [if_neg hi, List.mem_append, List.mem_cons]
    constructor
    · rintro (h | h | h)
      · exact .inr ⟨.inl h, hlo a h⟩
      · exact .inl h
      · exact .inr ⟨.inr h, hhi a h⟩
    · rintro (h | ⟨h | h, hne⟩)
      · exact .inr (.inl h)
      · exact .inl h
      · exact .inr (.inr h)
theorem dropA_mem {xs : List PA} (hp : xs.Pairwise ltA) {nm : ByteArray} (hi : isA nm xs) (a : PA) : a ∈ dropA xs nm ↔ a ∈ xs ∧ ¬ a.n = nm := by
  obtain ⟨h1, h2⟩ := split_at nm hp
  have hlo : ∀ a ∈ xs.take (atA nm xs), ¬ a.n = nm := fun a ha e => by have := h1 a ha; rw [e] at this; exact lt_irr _ this
  have e : a ∈ xs ↔ a ∈ xs.take (atA nm xs) ∨ a ∈ xs.drop (atA nm xs) := by rw [← List.mem_append, List.take_append_drop]
  rw [e]
  unfold dropA
  rcases h2 with ⟨_, b, hd, hn, hv, hb⟩ | ⟨hi', hb⟩
  · have hhi : ∀ a ∈ xs.drop (atA nm xs + 1), ¬ a.n = nm := fun a ha e => by have := hb a ha; rw [e] at this; exact lt_irr _ this
    rw [hd, List.mem_append, List.mem_cons]
    constructor
    · rintro (h | h)
      · exact ⟨.inl h, hlo a h⟩
      · exact ⟨.inr (.inr h), hhi a h⟩
    · rintro ⟨h | h | h, hne⟩
      · exact .inl h
      · subst h; exact absurd hn hne
      · exact .inr h
  · exact absurd hi hi'
theorem setA_rises {xs : List PA} (hp : xs.Pairwise ltA) (nm vl : ByteArray) : (setA xs nm vl).Pairwise ltA := by
  obtain ⟨h1, h2⟩ := split_at nm hp
  have hj := hp
  rw [← List.take_append_drop (atA nm xs) xs, List.pairwise_append] at hj
  obtain ⟨q1, q2, q3⟩ := hj
  unfold setA
  rcases h2 with ⟨hi, b, hd, hn, hv, hb⟩ | ⟨hi, hb⟩
  · rw [hd] at q2 q3
    rw [if_pos hi, List.pairwise_append]
    refine ⟨q1, ?_, fun a ha c hc => ?_⟩
    · rw [List.pairwise_cons] at q2 ⊢
      exact ⟨fun c hc => hb c hc, q2.2⟩
    · rcases List.mem_cons.1 hc with rfl | hc
      · exact h1 a ha
      · exact q3 a ha c (by simp [hc])
  · rw [if_neg hi, List.pairwise_append]
    refine ⟨q1, ?_, fun a ha c hc => ?_⟩
    · rw [List.pairwise_cons]
      exact ⟨fun c hc => hb c hc, q2⟩
    · rcases List.mem_cons.1 hc with rfl | hc
      · exact h1 a ha
      · exact q3 a ha c hc
theorem dropA_sub (xs : List PA) (nm : ByteArray) : (dropA xs nm).Sublist xs := by
  unfold dropA
  have : (xs.drop (atA nm xs + 1)).Sublist (xs.drop (atA nm xs)) := by
    rw [← List.drop_drop]; exact List.drop_sublist _ _
  calc (xs.take (atA nm xs) ++ xs.drop (atA nm xs + 1)).Sublist (xs.take (atA nm xs) ++ xs.drop (atA nm xs)) := (List.Sublist.refl _).append this
    _ = xs := List.take_append_drop _ _
/-- A list that is right, and a name that may be: is the value there? -/
theorem getF_of {xs : List PA} (h : attrF xs = 0) {nm : ByteArray} (hc : ¬ classZ nm = 0) : (isA nm xs → getF xs nm = 0) ∧ (¬ isA nm xs → getF xs nm = 5) := by
  constructor
  · intro hi; unfold getF; rw [if_neg (by omega), if_neg hc, if_pos hi]
  · intro hi; unfold getF; rw [if_neg (by omega), if_neg hc, if_neg hi]
/-- What is behind a list that has become another one. -/
structure Kept (xs ys : List PA) (nm : ByteArray) : Prop where
  right : attrF ys = 0
  rest : ∀ a ∈ xs, ¬ a.n = nm → getF ys a.n = 0 ∧ getA a.n ys = a.v
theorem setA_kept {xs : List PA} {nm vl : ByteArray} (h : setF xs nm vl = 0) : Kept xs (setA xs nm vl) nm ∧ getF (setA xs nm vl) nm = 0 ∧ getA nm (setA xs nm vl) = vl := by
  unfold setF at h
  split at h
  · omega
  · rename_i h0
    have h0 : attrF xs = 0 := Classical.byContradiction h0
    split at h
    · omega
    · rename_i hc
      split at h
      · omega
      · rename_i hv
        split at h
        · omega
        · rename_i hl
          obtain ⟨r1, r2, r3⟩ := attrF_rises h0
          have hr := setA_rises r2 nm vl
          have hlen : (setA xs nm vl).length ≤ 4 := by
            by_cases hi : isA nm xs
            · rw [(setA_len nm vl r2).1 hi]; exact r1
            · rw [(setA_len nm vl r2).2 hi]
              have : ¬ xs.length = 4 := fun e => hl ⟨hi, e⟩
              omega
          have hok : attrF (setA xs nm vl) = 0 := attrF_of hlen hr fun a ha => by
            rcases (setA_mem r2 nm vl a).1 ha with rfl | ⟨ha, _⟩
            · exact ⟨hc, by simp only []; omega⟩
            · exact r3 a ha
          have hme := getA_mem hr ((setA_mem r2 nm vl ⟨nm, vl⟩).2 (.inl rfl))
          refine ⟨⟨hok, fun a ha hne => ?_⟩, (getF_of hok hc).1 hme.1, hme.2⟩
          have hm := getA_mem hr ((setA_mem r2 nm vl a).2 (.inr ⟨ha, hne⟩))
          exact ⟨(getF_of hok (r3 a ha).1).1 hm.1, hm.2⟩
theorem getF_zero {xs : List PA} {nm : ByteArray} (h : getF xs nm = 0) : attrF xs = 0 ∧ ¬ classZ nm = 0 ∧ isA nm xs := by
  unfold getF at h
  split at h
  · omega
  · rename_i h0
    split at h
    · omega
    · rename_i hc
      split at h
      · rename_i hi; exact ⟨Classical.byContradiction h0, hc, hi⟩
      · omega
theorem dropA_kept {xs : List PA} {nm : ByteArray} (h : getF xs nm = 0) : Kept xs (dropA xs nm) nm ∧ getF (dropA xs nm) nm = 5 := by
  obtain ⟨h0, hc, hi⟩ := getF_zero h
  obtain ⟨r1, r2, r3⟩ := attrF_rises h0
  have hsub := dropA_sub xs nm
  have hr := r2.sublist hsub
  have hok : attrF (dropA xs nm) = 0 := attrF_of (Nat.le_trans hsub.length_le r1) hr fun a ha => r3 a (hsub.subset ha)
  refine ⟨⟨hok, fun a ha hne => ?_⟩, (getF_of hok hc).2 ?_⟩
  · have hm := getA_mem hr ((dropA_mem r2 hi a).2 ⟨ha, hne⟩)
    exact ⟨(getF_of hok (r3 a ha).1).1 hm.1, hm.2⟩
  · rintro ⟨a, ha, hn⟩
    exact ((dropA_mem r2 hi a).1 ha).2 hn
end Go.Proofs.Ytejkmomfpidnbab

