/- Closed facts on the types of the program. Printed by a program of our own (steps.py). -/
import Derived.Test.YtejkmomfpidnbacProg
import Derived.Test.YtejkmomfpidnbacChecked
import Derived.Test.YtejkmomfpidnbacCore
import Derived.KernelRfl
namespace Go.Proofs.Ytejkmomfpidnbac
open Go.RowKit
theorem mixed : Try.prog.follows .mixedOrders = true := by kernel_rfl
theorem fld_25_0 : FieldIs Try.prog 25 0 0 := ⟨fun a w => by kernel_rfl⟩
theorem fld_25_1 : FieldIs Try.prog 25 1 1 := ⟨fun a w => by kernel_rfl⟩
theorem fld_25_2 : FieldIs Try.prog 25 2 2 := ⟨fun a w => by kernel_rfl⟩
theorem fld_36_0 : FieldIs Try.prog 36 0 0 := ⟨fun a w => by kernel_rfl⟩
theorem fld_36_1 : FieldIs Try.prog 36 1 1 := ⟨fun a w => by kernel_rfl⟩
theorem fld_40_0 : FieldIs Try.prog 40 0 0 := ⟨fun a w => by kernel_rfl⟩
theorem fld_40_1 : FieldIs Try.prog 40 1 1 := ⟨fun a w => by kernel_rfl⟩
theorem fld_40_2 : FieldIs Try.prog 40 2 2 := ⟨fun a w => by kernel_rfl⟩
theorem fld_40_3 : FieldIs Try.prog 40 3 3 := ⟨fun a w => by kernel_rfl⟩
theorem fld_40_4 : FieldIs Try.prog 40 4 4 := ⟨fun a w => by kernel_rfl⟩
theorem fld_40_5 : FieldIs Try.prog 40 5 5 := ⟨fun a w => by kernel_rfl⟩
theorem fld_40_6 : FieldIs Try.prog 40 6 6 := ⟨fun a w => by kernel_rfl⟩
theorem fld_40_7 : FieldIs Try.prog 40 7 7 := ⟨fun a w => by kernel_rfl⟩
theorem fld_66_0 : FieldIs Try.prog 66 0 0 := ⟨fun a w => by kernel_rfl⟩
theorem fld_66_1 : FieldIs Try.prog 66 1 1 := ⟨fun a w => by kernel_rfl⟩
theorem fld_80_0 : FieldIs Try.prog 80 0 0 := ⟨fun a w => by kernel_rfl⟩
theorem fld_80_1 : FieldIs Try.prog 80 1 1 := ⟨fun a w => by kernel_rfl⟩
theorem fld_91_0 : FieldIs Try.prog 91 0 0 := ⟨fun a w => by kernel_rfl⟩
theorem fld_91_1 : FieldIs Try.prog 91 1 8 := ⟨fun a w => by kernel_rfl⟩
theorem fld_105_0 : FieldIs Try.prog 105 0 0 := ⟨fun a w => by kernel_rfl⟩
theorem fld_105_1 : FieldIs Try.prog 105 1 1 := ⟨fun a w => by kernel_rfl⟩
theorem fld_121_0 : FieldIs Try.prog 121 0 0 := ⟨fun a w => by kernel_rfl⟩
theorem fld_121_1 : FieldIs Try.prog 121 1 1 := ⟨fun a w => by kernel_rfl⟩
theorem fld_121_2 : FieldIs Try.prog 121 2 2 := ⟨fun a w => by kernel_rfl⟩
theorem und_3 : UnderIs Try.prog 3 (.int .i64) := ⟨Try.underlying3⟩
theorem one_3 : IsOne Try.prog 3 := ⟨Try.isAgg3⟩
theorem siz_3 : SizeIs Try.prog 3 1 := ⟨Try.sizeOf3⟩
theorem zer_3 : ZeroIs Try.prog 3 [.int .i64 0] := ⟨_, Try.zeroValue3, rfl⟩
theorem zec_3 : ZeroCells Try.prog 3 (.int .i64 0) := ⟨Try.zeroValue3⟩
theorem und_4 : UnderIs Try.prog 4 .bool := ⟨Try.underlying4⟩
theorem one_4 : IsOne Try.prog 4 := ⟨Try.isAgg4⟩
theorem siz_4 : SizeIs Try.prog 4 1 := ⟨Try.sizeOf4⟩
theorem zer_4 : ZeroIs Try.prog 4 [.bool false] := ⟨_, Try.zeroValue4, rfl⟩
theorem zec_4 : ZeroCells Try.prog 4 (.bool false) := ⟨Try.zeroValue4⟩
theorem und_5 : UnderIs Try.prog 5 (.int .u8) := ⟨Try.underlying5⟩
theorem one_5 : IsOne Try.prog 5 := ⟨Try.isAgg5⟩
theorem siz_5 : SizeIs Try.prog 5 1 := ⟨Try.sizeOf5⟩
theorem zer_5 : ZeroIs Try.prog 5 [.int .u8 0] := ⟨_, Try.zeroValue5, rfl⟩
theorem zec_5 : ZeroCells Try.prog 5 (.int .u8 0) := ⟨Try.zeroValue5⟩
theorem und_9 : UnderIs Try.prog 9 .string := ⟨Try.underlying9⟩
theorem one_9 : IsOne Try.prog 9 := ⟨Try.isAgg9⟩
theorem siz_9 : SizeIs Try.prog 9 1 := ⟨Try.sizeOf9⟩
theorem zer_9 : ZeroIs Try.prog 9 [.string ⟨#[]⟩] := ⟨_, Try.zeroValue9, rfl⟩
theorem zec_9 : ZeroCells Try.prog 9 (.string ⟨#[]⟩) := ⟨Try.zeroValue9⟩
theorem und_22 : UnderIs Try.prog 22 (.slice 25) := ⟨Try.underlying22⟩
theorem one_22 : IsOne Try.prog 22 := ⟨Try.isAgg22⟩
theorem siz_22 : SizeIs Try.prog 22 1 := ⟨Try.sizeOf22⟩
theorem zer_22 : ZeroIs Try.prog 22 [.slice none 0 0] := ⟨_, Try.zeroValue22, rfl⟩
theorem zec_22 : ZeroCells Try.prog 22 (.slice none 0 0) := ⟨Try.zeroValue22⟩
theorem und_23 : UnderIs Try.prog 23 (.slice 36) := ⟨Try.underlying23⟩
theorem one_23 : IsOne Try.prog 23 := ⟨Try.isAgg23⟩
theorem siz_23 : SizeIs Try.prog 23 1 := ⟨Try.sizeOf23⟩
theorem zer_23 : ZeroIs Try.prog 23 [.slice none 0 0] := ⟨_, Try.zeroValue23, rfl⟩
theorem zec_23 : ZeroCells Try.prog 23 (.slice none 0 0) := ⟨Try.zeroValue23⟩
theorem agg_25 : IsAg Try.prog 25 3 := ⟨Try.isAgg25, Try.sizeOf25⟩
theorem siz_25 : SizeIs Try.prog 25 3 := ⟨Try.sizeOf25⟩
theorem zer_25 : ZeroIs Try.prog 25 [.bool false, .string ⟨#[]⟩, .string ⟨#[]⟩] := ⟨_, Try.zeroValue25, rfl⟩
theorem zec_25 : ZeroCells Try.prog 25 (.agg #[.bool false, .string ⟨#[]⟩, .string ⟨#[]⟩]) := ⟨Try.zeroValue25⟩
theorem one_27 : IsOne Try.prog 27 := ⟨Try.isAgg27⟩
theorem siz_27 : SizeIs Try.prog 27 1 := ⟨Try.sizeOf27⟩
theorem zer_27 : ZeroIs Try.prog 27 [.nilIface] := ⟨_, Try.zeroValue27, rfl⟩
theorem zec_27 : ZeroCells Try.prog 27 (.nilIface) := ⟨Try.zeroValue27⟩
theorem agg_36 : IsAg Try.prog 36 2 := ⟨Try.isAgg36, Try.sizeOf36⟩
theorem siz_36 : SizeIs Try.prog 36 2 := ⟨Try.sizeOf36⟩
theorem zer_36 : ZeroIs Try.prog 36 [.string ⟨#[]⟩, .string ⟨#[]⟩] := ⟨_, Try.zeroValue36, rfl⟩
theorem zec_36 : ZeroCells Try.prog 36 (.agg #[.string ⟨#[]⟩, .string ⟨#[]⟩]) := ⟨Try.zeroValue36⟩
theorem und_38 : UnderIs Try.prog 38 (.slice 80) := ⟨Try.underlying38⟩
theorem one_38 : IsOne Try.prog 38 := ⟨Try.isAgg38⟩
theorem siz_38 : SizeIs Try.prog 38 1 := ⟨Try.sizeOf38⟩
theorem zer_38 : ZeroIs Try.prog 38 [.slice none 0 0] := ⟨_, Try.zeroValue38, rfl⟩
theorem zec_38 : ZeroCells Try.prog 38 (.slice none 0 0) := ⟨Try.zeroValue38⟩
theorem agg_40 : IsAg Try.prog 40 8 := ⟨Try.isAgg40, Try.sizeOf40⟩
theorem siz_40 : SizeIs Try.prog 40 8 := ⟨Try.sizeOf40⟩
theorem zer_40 : ZeroIs Try.prog 40 [.int .i64 0, .int .i64 0, .int .i64 0, .int .i64 0, .bool false, .slice none 0 0, .string ⟨#[]⟩, .slice none 0 0] := ⟨_, Try.zeroValue40, rfl⟩
theorem zec_40 : ZeroCells Try.prog 40 (.agg #[.int .i64 0, .int .i64 0, .int .i64 0, .int .i64 0, .bool false, .slice none 0 0, .string ⟨#[]⟩, .slice none 0 0]) := ⟨Try.zeroValue40⟩
theorem und_41 : UnderIs Try.prog 41 (.slice 9) := ⟨Try.underlying41⟩
theorem one_41 : IsOne Try.prog 41 := ⟨Try.isAgg41⟩
theorem siz_41 : SizeIs Try.prog 41 1 := ⟨Try.sizeOf41⟩
theorem zer_41 : ZeroIs Try.prog 41 [.slice none 0 0] := ⟨_, Try.zeroValue41, rfl⟩
theorem zec_41 : ZeroCells Try.prog 41 (.slice none 0 0) := ⟨Try.zeroValue41⟩
theorem und_56 : UnderIs Try.prog 56 (.slice 40) := ⟨Try.underlying56⟩
theorem one_56 : IsOne Try.prog 56 := ⟨Try.isAgg56⟩
theorem siz_56 : SizeIs Try.prog 56 1 := ⟨Try.sizeOf56⟩
theorem zer_56 : ZeroIs Try.prog 56 [.slice none 0 0] := ⟨_, Try.zeroValue56, rfl⟩
theorem zec_56 : ZeroCells Try.prog 56 (.slice none 0 0) := ⟨Try.zeroValue56⟩
theorem und_64 : UnderIs Try.prog 64 (.slice 121) := ⟨Try.underlying64⟩
theorem one_64 : IsOne Try.prog 64 := ⟨Try.isAgg64⟩
theorem siz_64 : SizeIs Try.prog 64 1 := ⟨Try.sizeOf64⟩
theorem zer_64 : ZeroIs Try.prog 64 [.slice none 0 0] := ⟨_, Try.zeroValue64, rfl⟩
theorem zec_64 : ZeroCells Try.prog 64 (.slice none 0 0) := ⟨Try.zeroValue64⟩
theorem agg_66 : IsAg Try.prog 66 2 := ⟨Try.isAgg66, Try.sizeOf66⟩
theorem siz_66 : SizeIs Try.prog 66 2 := ⟨Try.sizeOf66⟩
theorem zer_66 : ZeroIs Try.prog 66 [.slice none 0 0, .slice none 0 0] := ⟨_, Try.zeroValue66, rfl⟩
theorem zec_66 : ZeroCells Try.prog 66 (.agg #[.slice none 0 0, .slice none 0 0]) := ⟨Try.zeroValue66⟩
theorem und_71 : UnderIs Try.prog 71 (.int .i64) := ⟨Try.underlying71⟩
theorem one_71 : IsOne Try.prog 71 := ⟨Try.isAgg71⟩
theorem siz_71 : SizeIs Try.prog 71 1 := ⟨Try.sizeOf71⟩
theorem zer_71 : ZeroIs Try.prog 71 [.int .i64 0] := ⟨_, Try.zeroValue71, rfl⟩
theorem zec_71 : ZeroCells Try.prog 71 (.int .i64 0) := ⟨Try.zeroValue71⟩
theorem agg_80 : IsAg Try.prog 80 9 := ⟨Try.isAgg80, Try.sizeOf80⟩
theorem siz_80 : SizeIs Try.prog 80 9 := ⟨Try.sizeOf80⟩
theorem zer_80 : ZeroIs Try.prog 80 [.string ⟨#[]⟩, .int .i64 0, .int .i64 0, .int .i64 0, .int .i64 0, .bool false, .slice none 0 0, .string ⟨#[]⟩, .slice none 0 0] := ⟨_, Try.zeroValue80, rfl⟩
theorem zec_80 : ZeroCells Try.prog 80 (.agg #[.string ⟨#[]⟩, .int .i64 0, .int .i64 0, .int .i64 0, .int .i64 0, .bool false, .slice none 0 0, .string ⟨#[]⟩, .slice none 0 0]) := ⟨Try.zeroValue80⟩
theorem und_88 : UnderIs Try.prog 88 (.slice 91) := ⟨Try.underlying88⟩
theorem one_88 : IsOne Try.prog 88 := ⟨Try.isAgg88⟩
theorem siz_88 : SizeIs Try.prog 88 1 := ⟨Try.sizeOf88⟩
theorem zer_88 : ZeroIs Try.prog 88 [.slice none 0 0] := ⟨_, Try.zeroValue88, rfl⟩
theorem zec_88 : ZeroCells Try.prog 88 (.slice none 0 0) := ⟨Try.zeroValue88⟩
theorem agg_91 : IsAg Try.prog 91 9 := ⟨Try.isAgg91, Try.sizeOf91⟩
theorem siz_91 : SizeIs Try.prog 91 9 := ⟨Try.sizeOf91⟩
theorem zer_91 : ZeroIs Try.prog 91 [.int .i64 0, .int .i64 0, .int .i64 0, .int .i64 0, .bool false, .slice none 0 0, .string ⟨#[]⟩, .slice none 0 0, .int .i64 0] := ⟨_, Try.zeroValue91, rfl⟩
theorem zec_91 : ZeroCells Try.prog 91 (.agg #[.int .i64 0, .int .i64 0, .int .i64 0, .int .i64 0, .bool false, .slice none 0 0, .string ⟨#[]⟩, .slice none 0 0, .int .i64 0]) := ⟨Try.zeroValue91⟩
theorem und_102 : UnderIs Try.prog 102 (.pointer 105) := ⟨Try.underlying102⟩
theorem one_102 : IsOne Try.prog 102 := ⟨Try.isAgg102⟩
theorem siz_102 : SizeIs Try.prog 102 1 := ⟨Try.sizeOf102⟩
theorem zer_102 : ZeroIs Try.prog 102 [.pointer none] := ⟨_, Try.zeroValue102, rfl⟩
theorem zec_102 : ZeroCells Try.prog 102 (.pointer none) := ⟨Try.zeroValue102⟩
theorem und_103 : UnderIs Try.prog 103 (.slice 5) := ⟨Try.underlying103⟩
theorem one_103 : IsOne Try.prog 103 := ⟨Try.isAgg103⟩
theorem siz_103 : SizeIs Try.prog 103 1 := ⟨Try.sizeOf103⟩
theorem zer_103 : ZeroIs Try.prog 103 [.slice none 0 0] := ⟨_, Try.zeroValue103, rfl⟩
theorem zec_103 : ZeroCells Try.prog 103 (.slice none 0 0) := ⟨Try.zeroValue103⟩
theorem agg_105 : IsAg Try.prog 105 2 := ⟨Try.isAgg105, Try.sizeOf105⟩
theorem siz_105 : SizeIs Try.prog 105 2 := ⟨Try.sizeOf105⟩
theorem zer_105 : ZeroIs Try.prog 105 [.pointer none, .slice none 0 0] := ⟨_, Try.zeroValue105, rfl⟩
theorem zec_105 : ZeroCells Try.prog 105 (.agg #[.pointer none, .slice none 0 0]) := ⟨Try.zeroValue105⟩
theorem und_111 : UnderIs Try.prog 111 (.map 9 4) := ⟨Try.underlying111⟩
theorem one_111 : IsOne Try.prog 111 := ⟨Try.isAgg111⟩
theorem siz_111 : SizeIs Try.prog 111 1 := ⟨Try.sizeOf111⟩
theorem zer_111 : ZeroIs Try.prog 111 [.map none] := ⟨_, Try.zeroValue111, rfl⟩
theorem zec_111 : ZeroCells Try.prog 111 (.map none) := ⟨Try.zeroValue111⟩
theorem und_114 : UnderIs Try.prog 114 (.int .u64) := ⟨Try.underlying114⟩
theorem one_114 : IsOne Try.prog 114 := ⟨Try.isAgg114⟩
theorem siz_114 : SizeIs Try.prog 114 1 := ⟨Try.sizeOf114⟩
theorem zer_114 : ZeroIs Try.prog 114 [.int .u64 0] := ⟨_, Try.zeroValue114, rfl⟩
theorem zec_114 : ZeroCells Try.prog 114 (.int .u64 0) := ⟨Try.zeroValue114⟩
theorem und_115 : UnderIs Try.prog 115 (.pointer 5) := ⟨Try.underlying115⟩
theorem one_115 : IsOne Try.prog 115 := ⟨Try.isAgg115⟩
theorem siz_115 : SizeIs Try.prog 115 1 := ⟨Try.sizeOf115⟩
theorem zer_115 : ZeroIs Try.prog 115 [.pointer none] := ⟨_, Try.zeroValue115, rfl⟩
theorem zec_115 : ZeroCells Try.prog 115 (.pointer none) := ⟨Try.zeroValue115⟩
theorem agg_121 : IsAg Try.prog 121 3 := ⟨Try.isAgg121, Try.sizeOf121⟩
theorem siz_121 : SizeIs Try.prog 121 3 := ⟨Try.sizeOf121⟩
theorem zer_121 : ZeroIs Try.prog 121 [.int .i64 0, .int .i64 0, .int .i64 0] := ⟨_, Try.zeroValue121, rfl⟩
theorem zec_121 : ZeroCells Try.prog 121 (.agg #[.int .i64 0, .int .i64 0, .int .i64 0]) := ⟨Try.zeroValue121⟩
theorem one_123 : IsOne Try.prog 123 := ⟨Try.isAgg123⟩
theorem siz_123 : SizeIs Try.prog 123 1 := ⟨Try.sizeOf123⟩
theorem inf_25 : InfoIs Try.prog 25 3 40 := ⟨by obtain ⟨i, h0, h1, h2, h3⟩ := info_parts (show (Try.prog.info? 25).map (fun i => (i.zero, i.size, i.bytes)) = some (some (.agg #[.bool false, .string ⟨#[]⟩, .string ⟨#[]⟩]), 3, 40) by kernel_rfl); exact ⟨i, _, h0, h1, h2, h3, rfl⟩⟩
theorem inf_36 : InfoIs Try.prog 36 2 32 := ⟨by obtain ⟨i, h0, h1, h2, h3⟩ := info_parts (show (Try.prog.info? 36).map (fun i => (i.zero, i.size, i.bytes)) = some (some (.agg #[.string ⟨#[]⟩, .string ⟨#[]⟩]), 2, 32) by kernel_rfl); exact ⟨i, _, h0, h1, h2, h3, rfl⟩⟩
theorem inf_80 : InfoIs Try.prog 80 9 120 := ⟨by obtain ⟨i, h0, h1, h2, h3⟩ := info_parts (show (Try.prog.info? 80).map (fun i => (i.zero, i.size, i.bytes)) = some (some (.agg #[.string ⟨#[]⟩, .int .i64 0, .int .i64 0, .int .i64 0, .int .i64 0, .bool false, .slice none 0 0, .string ⟨#[]⟩, .slice none 0 0]), 9, 120) by kernel_rfl); exact ⟨i, _, h0, h1, h2, h3, rfl⟩⟩
theorem inf_9 : InfoIs Try.prog 9 1 16 := ⟨by obtain ⟨i, h0, h1, h2, h3⟩ := info_parts (show (Try.prog.info? 9).map (fun i => (i.zero, i.size, i.bytes)) = some (some (.string ⟨#[]⟩), 1, 16) by kernel_rfl); exact ⟨i, _, h0, h1, h2, h3, rfl⟩⟩
theorem inf_40 : InfoIs Try.prog 40 8 104 := ⟨by obtain ⟨i, h0, h1, h2, h3⟩ := info_parts (show (Try.prog.info? 40).map (fun i => (i.zero, i.size, i.bytes)) = some (some (.agg #[.int .i64 0, .int .i64 0, .int .i64 0, .int .i64 0, .bool false, .slice none 0 0, .string ⟨#[]⟩, .slice none 0 0]), 8, 104) by kernel_rfl); exact ⟨i, _, h0, h1, h2, h3, rfl⟩⟩
theorem inf_121 : InfoIs Try.prog 121 3 24 := ⟨by obtain ⟨i, h0, h1, h2, h3⟩ := info_parts (show (Try.prog.info? 121).map (fun i => (i.zero, i.size, i.bytes)) = some (some (.agg #[.int .i64 0, .int .i64 0, .int .i64 0]), 3, 24) by kernel_rfl); exact ⟨i, _, h0, h1, h2, h3, rfl⟩⟩
theorem inf_91 : InfoIs Try.prog 91 9 112 := ⟨by obtain ⟨i, h0, h1, h2, h3⟩ := info_parts (show (Try.prog.info? 91).map (fun i => (i.zero, i.size, i.bytes)) = some (some (.agg #[.int .i64 0, .int .i64 0, .int .i64 0, .int .i64 0, .bool false, .slice none 0 0, .string ⟨#[]⟩, .slice none 0 0, .int .i64 0]), 9, 112) by kernel_rfl); exact ⟨i, _, h0, h1, h2, h3, rfl⟩⟩
theorem inf_5 : InfoIs Try.prog 5 1 1 := ⟨by obtain ⟨i, h0, h1, h2, h3⟩ := info_parts (show (Try.prog.info? 5).map (fun i => (i.zero, i.size, i.bytes)) = some (some (.int .u8 0), 1, 1) by kernel_rfl); exact ⟨i, _, h0, h1, h2, h3, rfl⟩⟩
theorem bld_36 : BuildIs Try.prog 36 [(0, 1), (1, 1)] [.string ⟨#[]⟩, .string ⟨#[]⟩] := ⟨⟨_, Try.runUnderlying36, fun w => by kernel_rfl⟩, ⟨_, Try.zeroValue36, rfl⟩⟩
theorem bld_40 : BuildIs Try.prog 40 [(0, 1), (1, 1), (2, 1), (3, 1), (4, 1), (5, 1), (6, 1), (7, 1)] [.int .i64 0, .int .i64 0, .int .i64 0, .int .i64 0, .bool false, .slice none 0 0, .string ⟨#[]⟩, .slice none 0 0] := ⟨⟨_, Try.runUnderlying40, fun w => by kernel_rfl⟩, ⟨_, Try.zeroValue40, rfl⟩⟩
theorem bld_80 : BuildIs Try.prog 80 [(0, 1), (1, 8)] [.string ⟨#[]⟩, .int .i64 0, .int .i64 0, .int .i64 0, .int .i64 0, .bool false, .slice none 0 0, .string ⟨#[]⟩, .slice none 0 0] := ⟨⟨_, Try.runUnderlying80, fun w => by kernel_rfl⟩, ⟨_, Try.zeroValue80, rfl⟩⟩
theorem bld_91 : BuildIs Try.prog 91 [(0, 8), (8, 1)] [.int .i64 0, .int .i64 0, .int .i64 0, .int .i64 0, .bool false, .slice none 0 0, .string ⟨#[]⟩, .slice none 0 0, .int .i64 0] := ⟨⟨_, Try.runUnderlying91, fun w => by kernel_rfl⟩, ⟨_, Try.zeroValue91, rfl⟩⟩
end Go.Proofs.Ytejkmomfpidnbac
