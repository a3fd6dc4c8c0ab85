/- Walks and plain laws, part 3: what functions compute, proved once each (Ty, ErrE, DiskE, PermP, CredQ, CredE, CredE2, PermE, Eqs, Name, NameE, AttrE, TreeE, TreeE2, TreeE3, TreeE4, TreeE5, TreeE6, TreeE7, TreeE8, TreeE9, TreeE10, TreeE11, AttrE2). -/
import Derived.Test.YtejkmomfpidnbacGreatProg
import Derived.Test.YtejkmomfpidnbacGreatChecked
import Derived.Test.YtejkmomfpidnbacGreatPart1
import Derived.Test.YtejkmomfpidnbacGreatPart2
import Derived.KernelRfl
set_option linter.unusedSimpArgs false
set_option linter.unusedVariables false
set_option maxRecDepth 100000
set_option maxHeartbeats 40000000
namespace Go.Proofs.YtejkmomfpidnbacGreat
open Go.RowKit
section
theorem mixed:Tryz.prog.follows .mixedOrders=true:=by kernel_rfl
instance fld_24_0 : bP Tryz.prog 24 0 0 := ⟨fun a w => by kernel_rfl⟩
instance fld_24_1 : bP Tryz.prog 24 1 1 := ⟨fun a w => by kernel_rfl⟩
instance fld_27_0 : bP Tryz.prog 27 0 0 := ⟨fun a w => by kernel_rfl⟩
instance fld_27_1 : bP Tryz.prog 27 1 1 := ⟨fun a w => by kernel_rfl⟩
instance fld_27_2 : bP Tryz.prog 27 2 2 := ⟨fun a w => by kernel_rfl⟩
instance fld_27_3 : bP Tryz.prog 27 3 3 := ⟨fun a w => by kernel_rfl⟩
instance fld_29_0 : bP Tryz.prog 29 0 0 := ⟨fun a w => by kernel_rfl⟩
instance fld_29_1 : bP Tryz.prog 29 1 2 := ⟨fun a w => by kernel_rfl⟩
instance fld_29_2 : bP Tryz.prog 29 2 6 := ⟨fun a w => by kernel_rfl⟩
instance fld_29_3 : bP Tryz.prog 29 3 7 := ⟨fun a w => by kernel_rfl⟩
instance fld_46_0 : bP Tryz.prog 46 0 0 := ⟨fun a w => by kernel_rfl⟩
instance fld_46_1 : bP Tryz.prog 46 1 1 := ⟨fun a w => by kernel_rfl⟩
instance fld_46_2 : bP Tryz.prog 46 2 2 := ⟨fun a w => by kernel_rfl⟩
instance fld_46_3 : bP Tryz.prog 46 3 3 := ⟨fun a w => by kernel_rfl⟩
instance fld_46_4 : bP Tryz.prog 46 4 4 := ⟨fun a w => by kernel_rfl⟩
instance fld_46_5 : bP Tryz.prog 46 5 5 := ⟨fun a w => by kernel_rfl⟩
instance fld_46_6 : bP Tryz.prog 46 6 6 := ⟨fun a w => by kernel_rfl⟩
instance fld_50_0 : bP Tryz.prog 50 0 0 := ⟨fun a w => by kernel_rfl⟩
instance fld_50_1 : bP Tryz.prog 50 1 1 := ⟨fun a w => by kernel_rfl⟩
instance fld_50_2 : bP Tryz.prog 50 2 2 := ⟨fun a w => by kernel_rfl⟩
instance fld_50_3 : bP Tryz.prog 50 3 3 := ⟨fun a w => by kernel_rfl⟩
instance fld_50_4 : bP Tryz.prog 50 4 4 := ⟨fun a w => by kernel_rfl⟩
instance fld_50_5 : bP Tryz.prog 50 5 5 := ⟨fun a w => by kernel_rfl⟩
instance fld_50_6 : bP Tryz.prog 50 6 6 := ⟨fun a w => by kernel_rfl⟩
instance fld_50_7 : bP Tryz.prog 50 7 7 := ⟨fun a w => by kernel_rfl⟩
instance fld_70_0 : bP Tryz.prog 70 0 0 := ⟨fun a w => by kernel_rfl⟩
instance fld_70_1 : bP Tryz.prog 70 1 1 := ⟨fun a w => by kernel_rfl⟩
instance fld_70_2 : bP Tryz.prog 70 2 2 := ⟨fun a w => by kernel_rfl⟩
instance fld_70_3 : bP Tryz.prog 70 3 9 := ⟨fun a w => by kernel_rfl⟩
instance fld_70_4 : bP Tryz.prog 70 4 17 := ⟨fun a w => by kernel_rfl⟩
instance fld_90_0 : bP Tryz.prog 90 0 0 := ⟨fun a w => by kernel_rfl⟩
instance fld_90_1 : bP Tryz.prog 90 1 2 := ⟨fun a w => by kernel_rfl⟩
instance fld_90_2 : bP Tryz.prog 90 2 6 := ⟨fun a w => by kernel_rfl⟩
instance fld_90_3 : bP Tryz.prog 90 3 7 := ⟨fun a w => by kernel_rfl⟩
instance fld_104_0 : bP Tryz.prog 104 0 0 := ⟨fun a w => by kernel_rfl⟩
instance fld_104_1 : bP Tryz.prog 104 1 1 := ⟨fun a w => by kernel_rfl⟩
instance fld_127_0 : bP Tryz.prog 127 0 0 := ⟨fun a w => by kernel_rfl⟩
instance fld_127_1 : bP Tryz.prog 127 1 1 := ⟨fun a w => by kernel_rfl⟩
instance fld_127_2 : bP Tryz.prog 127 2 2 := ⟨fun a w => by kernel_rfl⟩
instance fld_127_3 : bP Tryz.prog 127 3 3 := ⟨fun a w => by kernel_rfl⟩
instance fld_127_4 : bP Tryz.prog 127 4 4 := ⟨fun a w => by kernel_rfl⟩
instance fld_127_5 : bP Tryz.prog 127 5 5 := ⟨fun a w => by kernel_rfl⟩
instance fld_127_6 : bP Tryz.prog 127 6 10 := ⟨fun a w => by kernel_rfl⟩
instance fld_132_0 : bP Tryz.prog 132 0 0 := ⟨fun a w => by kernel_rfl⟩
instance fld_132_1 : bP Tryz.prog 132 1 8 := ⟨fun a w => by kernel_rfl⟩
instance fld_132_2 : bP Tryz.prog 132 2 9 := ⟨fun a w => by kernel_rfl⟩
instance fld_132_3 : bP Tryz.prog 132 3 11 := ⟨fun a w => by kernel_rfl⟩
instance fld_132_4 : bP Tryz.prog 132 4 12 := ⟨fun a w => by kernel_rfl⟩
instance fld_140_0 : bP Tryz.prog 140 0 0 := ⟨fun a w => by kernel_rfl⟩
instance fld_140_1 : bP Tryz.prog 140 1 8 := ⟨fun a w => by kernel_rfl⟩
instance fld_150_0 : bP Tryz.prog 150 0 0 := ⟨fun a w => by kernel_rfl⟩
instance fld_150_1 : bP Tryz.prog 150 1 1 := ⟨fun a w => by kernel_rfl⟩
instance fld_150_2 : bP Tryz.prog 150 2 2 := ⟨fun a w => by kernel_rfl⟩
instance fld_150_3 : bP Tryz.prog 150 3 3 := ⟨fun a w => by kernel_rfl⟩
instance fld_150_4 : bP Tryz.prog 150 4 4 := ⟨fun a w => by kernel_rfl⟩
instance fld_152_0 : bP Tryz.prog 152 0 0 := ⟨fun a w => by kernel_rfl⟩
instance fld_152_1 : bP Tryz.prog 152 1 8 := ⟨fun a w => by kernel_rfl⟩
instance fld_152_2 : bP Tryz.prog 152 2 9 := ⟨fun a w => by kernel_rfl⟩
instance fld_152_3 : bP Tryz.prog 152 3 14 := ⟨fun a w => by kernel_rfl⟩
instance fld_186_0 : bP Tryz.prog 186 0 0 := ⟨fun a w => by kernel_rfl⟩
instance fld_186_1 : bP Tryz.prog 186 1 8 := ⟨fun a w => by kernel_rfl⟩
instance fld_190_0 : bP Tryz.prog 190 0 0 := ⟨fun a w => by kernel_rfl⟩
instance fld_190_1 : bP Tryz.prog 190 1 1 := ⟨fun a w => by kernel_rfl⟩
instance fld_190_2 : bP Tryz.prog 190 2 2 := ⟨fun a w => by kernel_rfl⟩
instance fld_196_0 : bP Tryz.prog 196 0 0 := ⟨fun a w => by kernel_rfl⟩
instance fld_196_1 : bP Tryz.prog 196 1 1 := ⟨fun a w => by kernel_rfl⟩
instance fld_204_0 : bP Tryz.prog 204 0 0 := ⟨fun a w => by kernel_rfl⟩
instance fld_204_1 : bP Tryz.prog 204 1 1 := ⟨fun a w => by kernel_rfl⟩
instance fld_204_2 : bP Tryz.prog 204 2 2 := ⟨fun a w => by kernel_rfl⟩
instance fld_204_3 : bP Tryz.prog 204 3 3 := ⟨fun a w => by kernel_rfl⟩
instance fld_211_0 : bP Tryz.prog 211 0 0 := ⟨fun a w => by kernel_rfl⟩
instance fld_211_1 : bP Tryz.prog 211 1 1 := ⟨fun a w => by kernel_rfl⟩
instance fld_211_2 : bP Tryz.prog 211 2 2 := ⟨fun a w => by kernel_rfl⟩
instance fld_222_0 : bP Tryz.prog 222 0 0 := ⟨fun a w => by kernel_rfl⟩
instance fld_222_1 : bP Tryz.prog 222 1 1 := ⟨fun a w => by kernel_rfl⟩
instance und_3 : bR Tryz.prog 3 (.int .i64) := ⟨Tryz.underlying3⟩
instance one_3 : kX Tryz.prog 3 := ⟨Tryz.isAgg3⟩
instance siz_3 : dI Tryz.prog 3 1 := ⟨Tryz.sizeOf3⟩
instance zer_3 : iY Tryz.prog 3 [.int .i64 0] := ⟨_, Tryz.zeroValue3, rfl⟩
instance zec_3 : jD Tryz.prog 3 (.int .i64 0) := ⟨Tryz.zeroValue3⟩
instance und_4 : bR Tryz.prog 4 .bool := ⟨Tryz.underlying4⟩
instance one_4 : kX Tryz.prog 4 := ⟨Tryz.isAgg4⟩
instance siz_4 : dI Tryz.prog 4 1 := ⟨Tryz.sizeOf4⟩
instance und_5 : bR Tryz.prog 5 (.int .u8) := ⟨Tryz.underlying5⟩
instance siz_5 : dI Tryz.prog 5 1 := ⟨Tryz.sizeOf5⟩
instance zec_5 : jD Tryz.prog 5 (.int .u8 0) := ⟨Tryz.zeroValue5⟩
instance und_9 : bR Tryz.prog 9 .string := ⟨Tryz.underlying9⟩
instance one_9 : kX Tryz.prog 9 := ⟨Tryz.isAgg9⟩
instance siz_9 : dI Tryz.prog 9 1 := ⟨Tryz.sizeOf9⟩
instance zec_9 : jD Tryz.prog 9 (.string ⟨#[]⟩) := ⟨Tryz.zeroValue9⟩
instance und_22 : bR Tryz.prog 22 (.slice 190) := ⟨Tryz.underlying22⟩
instance one_22 : kX Tryz.prog 22 := ⟨Tryz.isAgg22⟩
instance agg_24 : sS Tryz.prog 24 2 := ⟨Tryz.isAgg24, Tryz.sizeOf24⟩
instance siz_24 : dI Tryz.prog 24 2 := ⟨Tryz.sizeOf24⟩
instance zer_24 : iY Tryz.prog 24 [.slice none 0 0, .slice none 0 0] := ⟨_, Tryz.zeroValue24, rfl⟩
instance und_25 : bR Tryz.prog 25 (.slice 3) := ⟨Tryz.underlying25⟩
instance one_25 : kX Tryz.prog 25 := ⟨Tryz.isAgg25⟩
instance siz_25 : dI Tryz.prog 25 1 := ⟨Tryz.sizeOf25⟩
instance agg_27 : sS Tryz.prog 27 4 := ⟨Tryz.isAgg27, Tryz.sizeOf27⟩
instance siz_27 : dI Tryz.prog 27 4 := ⟨Tryz.sizeOf27⟩
instance zer_27 : iY Tryz.prog 27 [.int .i64 0, .int .i64 0, .slice none 0 0, .int .i64 0] := ⟨_, Tryz.zeroValue27, rfl⟩
instance agg_29 : sS Tryz.prog 29 8 := ⟨Tryz.isAgg29, Tryz.sizeOf29⟩
instance siz_29 : dI Tryz.prog 29 8 := ⟨Tryz.sizeOf29⟩
instance zer_29 : iY Tryz.prog 29 [.slice none 0 0, .slice none 0 0, .int .i64 0, .int .i64 0, .slice none 0 0, .int .i64 0, .int .i64 0, .slice none 0 0] := ⟨_, Tryz.zeroValue29, rfl⟩
instance und_30 : bR Tryz.prog 30 (.slice 50) := ⟨Tryz.underlying30⟩
instance one_30 : kX Tryz.prog 30 := ⟨Tryz.isAgg30⟩
instance siz_30 : dI Tryz.prog 30 1 := ⟨Tryz.sizeOf30⟩
instance und_31 : bR Tryz.prog 31 (.slice 46) := ⟨Tryz.underlying31⟩
instance one_35 : kX Tryz.prog 35 := ⟨Tryz.isAgg35⟩
instance siz_35 : dI Tryz.prog 35 1 := ⟨Tryz.sizeOf35⟩
instance one_37 : kX Tryz.prog 37 := ⟨Tryz.isAgg37⟩
instance siz_37 : dI Tryz.prog 37 1 := ⟨Tryz.sizeOf37⟩
instance zec_37 : jD Tryz.prog 37 (.nilIface) := ⟨Tryz.zeroValue37⟩
instance und_40 : bR Tryz.prog 40 (.slice 9) := ⟨Tryz.underlying40⟩
instance agg_42 : sS Tryz.prog 42 7 := ⟨Tryz.isAgg42, Tryz.sizeOf42⟩
instance siz_42 : dI Tryz.prog 42 7 := ⟨Tryz.sizeOf42⟩
instance zer_42 : iY Tryz.prog 42 [.int .i64 0, .int .i64 0, .int .i64 0, .int .i64 0, .int .i64 0, .slice none 0 0, .string ⟨#[]⟩] := ⟨_, Tryz.zeroValue42, rfl⟩
instance agg_46 : sS Tryz.prog 46 7 := ⟨Tryz.isAgg46, Tryz.sizeOf46⟩
instance siz_46 : dI Tryz.prog 46 7 := ⟨Tryz.sizeOf46⟩
instance zec_46 : jD Tryz.prog 46 (.agg #[.int .i64 0, .string ⟨#[]⟩, .string ⟨#[]⟩, .string ⟨#[]⟩, .string ⟨#[]⟩, .int .i64 0, .int .i64 0]) := ⟨Tryz.zeroValue46⟩
instance und_47 : bR Tryz.prog 47 (.slice 222) := ⟨Tryz.underlying47⟩
instance one_47 : kX Tryz.prog 47 := ⟨Tryz.isAgg47⟩
instance siz_47 : dI Tryz.prog 47 1 := ⟨Tryz.sizeOf47⟩
instance zer_47 : iY Tryz.prog 47 [.slice none 0 0] := ⟨_, Tryz.zeroValue47, rfl⟩
instance und_48 : bR Tryz.prog 48 (.slice 104) := ⟨Tryz.underlying48⟩
instance one_48 : kX Tryz.prog 48 := ⟨Tryz.isAgg48⟩
instance siz_48 : dI Tryz.prog 48 1 := ⟨Tryz.sizeOf48⟩
instance agg_50 : sS Tryz.prog 50 8 := ⟨Tryz.isAgg50, Tryz.sizeOf50⟩
instance siz_50 : dI Tryz.prog 50 8 := ⟨Tryz.sizeOf50⟩
instance zer_50 : iY Tryz.prog 50 [.int .i64 0, .int .i64 0, .int .i64 0, .int .i64 0, .bool false, .slice none 0 0, .string ⟨#[]⟩, .slice none 0 0] := ⟨_, Tryz.zeroValue50, rfl⟩
instance zec_50 : jD Tryz.prog 50 (.agg #[.int .i64 0, .int .i64 0, .int .i64 0, .int .i64 0, .bool false, .slice none 0 0, .string ⟨#[]⟩, .slice none 0 0]) := ⟨Tryz.zeroValue50⟩
instance und_61 : bR Tryz.prog 61 (.slice 70) := ⟨Tryz.underlying61⟩
instance one_63 : kX Tryz.prog 63 := ⟨Tryz.isAgg63⟩
instance zer_67 : iY Tryz.prog 67 [.int .i64 0, .int .i64 0, .int .i64 0, .int .i64 0, .int .i64 0] := ⟨_, Tryz.zeroValue67, rfl⟩
instance agg_70 : sS Tryz.prog 70 26 := ⟨Tryz.isAgg70, Tryz.sizeOf70⟩
instance siz_70 : dI Tryz.prog 70 26 := ⟨Tryz.sizeOf70⟩
instance zer_76 : iY Tryz.prog 76 [.int .i64 0, .int .i64 0, .int .i64 0, .int .i64 0, .bool false, .slice none 0 0, .string ⟨#[]⟩, .slice none 0 0, .int .i64 0, .int .i64 0, .int .i64 0, .int .i64 0, .bool false, .slice none 0 0, .string ⟨#[]⟩, .slice none 0 0, .int .i64 0, .int .i64 0, .int .i64 0, .int .i64 0, .bool false, .slice none 0 0, .string ⟨#[]⟩, .slice none 0 0, .int .i64 0, .int .i64 0, .int .i64 0, .int .i64 0, .bool false, .slice none 0 0, .string ⟨#[]⟩, .slice none 0 0, .int .i64 0, .int .i64 0, .int .i64 0, .int .i64 0, .bool false, .slice none 0 0, .string ⟨#[]⟩, .slice none 0 0] := ⟨_, Tryz.zeroValue76, rfl⟩
instance zer_77 : iY Tryz.prog 77 [.bool false, .bool false, .bool false, .bool false, .bool false] := ⟨_, Tryz.zeroValue77, rfl⟩
instance agg_90 : sS Tryz.prog 90 8 := ⟨Tryz.isAgg90, Tryz.sizeOf90⟩
instance siz_90 : dI Tryz.prog 90 8 := ⟨Tryz.sizeOf90⟩
instance zer_90 : iY Tryz.prog 90 [.slice none 0 0, .slice none 0 0, .int .i64 0, .int .i64 0, .slice none 0 0, .int .i64 0, .int .i64 0, .slice none 0 0] := ⟨_, Tryz.zeroValue90, rfl⟩
instance und_99 : bR Tryz.prog 99 (.int .i64) := ⟨Tryz.underlying99⟩
instance agg_104 : sS Tryz.prog 104 9 := ⟨Tryz.isAgg104, Tryz.sizeOf104⟩
instance siz_104 : dI Tryz.prog 104 9 := ⟨Tryz.sizeOf104⟩
instance zer_104 : iY Tryz.prog 104 [.string ⟨#[]⟩, .int .i64 0, .int .i64 0, .int .i64 0, .int .i64 0, .bool false, .slice none 0 0, .string ⟨#[]⟩, .slice none 0 0] := ⟨_, Tryz.zeroValue104, rfl⟩
instance zec_104 : jD Tryz.prog 104 (.agg #[.string ⟨#[]⟩, .int .i64 0, .int .i64 0, .int .i64 0, .int .i64 0, .bool false, .slice none 0 0, .string ⟨#[]⟩, .slice none 0 0]) := ⟨Tryz.zeroValue104⟩
instance und_108 : bR Tryz.prog 108 (.slice 5) := ⟨Tryz.underlying108⟩
instance one_108 : kX Tryz.prog 108 := ⟨Tryz.isAgg108⟩
instance siz_108 : dI Tryz.prog 108 1 := ⟨Tryz.sizeOf108⟩
instance und_111 : bR Tryz.prog 111 (.int .u64) := ⟨Tryz.underlying111⟩
instance one_121 : kX Tryz.prog 121 := ⟨Tryz.isAgg121⟩
instance one_122 : kX Tryz.prog 122 := ⟨Tryz.isAgg122⟩
instance siz_122 : dI Tryz.prog 122 1 := ⟨Tryz.sizeOf122⟩
instance agg_123 : sS Tryz.prog 123 5 := ⟨Tryz.isAgg123, Tryz.sizeOf123⟩
instance one_124 : kX Tryz.prog 124 := ⟨Tryz.isAgg124⟩
instance siz_124 : dI Tryz.prog 124 1 := ⟨Tryz.sizeOf124⟩
instance agg_125 : sS Tryz.prog 125 5 := ⟨Tryz.isAgg125, Tryz.sizeOf125⟩
instance und_147 : bR Tryz.prog 147 (.slice 37) := ⟨Tryz.underlying147⟩
instance agg_150 : sS Tryz.prog 150 5 := ⟨Tryz.isAgg150, Tryz.sizeOf150⟩
instance siz_150 : dI Tryz.prog 150 5 := ⟨Tryz.sizeOf150⟩
instance zer_150 : iY Tryz.prog 150 [.bool false, .int .i64 0, .int .i64 0, .int .i64 0, .bool false] := ⟨_, Tryz.zeroValue150, rfl⟩
instance agg_152 : sS Tryz.prog 152 19 := ⟨Tryz.isAgg152, Tryz.sizeOf152⟩
instance siz_152 : dI Tryz.prog 152 19 := ⟨Tryz.sizeOf152⟩
instance zer_152 : iY Tryz.prog 152 [.int .i64 0, .int .i64 0, .int .i64 0, .int .i64 0, .bool false, .slice none 0 0, .string ⟨#[]⟩, .slice none 0 0, .int .i64 0, .bool false, .int .i64 0, .int .i64 0, .int .i64 0, .bool false, .bool false, .int .i64 0, .int .i64 0, .int .i64 0, .bool false] := ⟨_, Tryz.zeroValue152, rfl⟩
instance und_183 : bR Tryz.prog 183 (.slice 186) := ⟨Tryz.underlying183⟩
instance one_183 : kX Tryz.prog 183 := ⟨Tryz.isAgg183⟩
instance siz_183 : dI Tryz.prog 183 1 := ⟨Tryz.sizeOf183⟩
instance zer_183 : iY Tryz.prog 183 [.slice none 0 0] := ⟨_, Tryz.zeroValue183, rfl⟩
instance agg_186 : sS Tryz.prog 186 9 := ⟨Tryz.isAgg186, Tryz.sizeOf186⟩
instance siz_186 : dI Tryz.prog 186 9 := ⟨Tryz.sizeOf186⟩
instance zer_186 : iY Tryz.prog 186 [.int .i64 0, .int .i64 0, .int .i64 0, .int .i64 0, .bool false, .slice none 0 0, .string ⟨#[]⟩, .slice none 0 0, .int .i64 0] := ⟨_, Tryz.zeroValue186, rfl⟩
instance zec_186 : jD Tryz.prog 186 (.agg #[.int .i64 0, .int .i64 0, .int .i64 0, .int .i64 0, .bool false, .slice none 0 0, .string ⟨#[]⟩, .slice none 0 0, .int .i64 0]) := ⟨Tryz.zeroValue186⟩
instance agg_190 : sS Tryz.prog 190 3 := ⟨Tryz.isAgg190, Tryz.sizeOf190⟩
instance siz_190 : dI Tryz.prog 190 3 := ⟨Tryz.sizeOf190⟩
instance zer_190 : iY Tryz.prog 190 [.int .i64 0, .int .i64 0, .int .i64 0] := ⟨_, Tryz.zeroValue190, rfl⟩
instance one_194 : kX Tryz.prog 194 := ⟨Tryz.isAgg194⟩
instance siz_194 : dI Tryz.prog 194 1 := ⟨Tryz.sizeOf194⟩
instance zer_196 : iY Tryz.prog 196 [.pointer none, .slice none 0 0] := ⟨_, Tryz.zeroValue196, rfl⟩
instance one_209 : kX Tryz.prog 209 := ⟨Tryz.isAgg209⟩
instance agg_222 : sS Tryz.prog 222 2 := ⟨Tryz.isAgg222, Tryz.sizeOf222⟩
instance siz_222 : dI Tryz.prog 222 2 := ⟨Tryz.sizeOf222⟩
instance zer_222 : iY Tryz.prog 222 [.string ⟨#[]⟩, .string ⟨#[]⟩] := ⟨_, Tryz.zeroValue222, rfl⟩
instance zec_222 : jD Tryz.prog 222 (.agg #[.string ⟨#[]⟩, .string ⟨#[]⟩]) := ⟨Tryz.zeroValue222⟩
instance one_253 : kX Tryz.prog 253 := ⟨Tryz.isAgg253⟩
instance siz_253 : dI Tryz.prog 253 1 := ⟨Tryz.sizeOf253⟩
instance zer_253 : iY Tryz.prog 253 [.map none] := ⟨_, Tryz.zeroValue253, rfl⟩
instance inf_190 : tT Tryz.prog 190 3 24 := ⟨by obtain ⟨i, h0, h1, h2, h3⟩ := info_parts (show (Tryz.prog.info? 190).map (fun i => (i.zero, i.size, i.bytes)) = some (some (.agg #[.int .i64 0, .int .i64 0, .int .i64 0]), 3, 24) by kernel_rfl); exact ⟨i, _, h0, h1, h2, h3, rfl⟩⟩
instance inf_3 : tT Tryz.prog 3 1 8 := ⟨by obtain ⟨i, h0, h1, h2, h3⟩ := info_parts (show (Tryz.prog.info? 3).map (fun i => (i.zero, i.size, i.bytes)) = some (some (.int .i64 0), 1, 8) by kernel_rfl); exact ⟨i, _, h0, h1, h2, h3, rfl⟩⟩
instance inf_50 : tT Tryz.prog 50 8 104 := ⟨by obtain ⟨i, h0, h1, h2, h3⟩ := info_parts (show (Tryz.prog.info? 50).map (fun i => (i.zero, i.size, i.bytes)) = some (some (.agg #[.int .i64 0, .int .i64 0, .int .i64 0, .int .i64 0, .bool false, .slice none 0 0, .string ⟨#[]⟩, .slice none 0 0]), 8, 104) by kernel_rfl); exact ⟨i, _, h0, h1, h2, h3, rfl⟩⟩
instance inf_9 : tT Tryz.prog 9 1 16 := ⟨by obtain ⟨i, h0, h1, h2, h3⟩ := info_parts (show (Tryz.prog.info? 9).map (fun i => (i.zero, i.size, i.bytes)) = some (some (.string ⟨#[]⟩), 1, 16) by kernel_rfl); exact ⟨i, _, h0, h1, h2, h3, rfl⟩⟩
instance inf_222 : tT Tryz.prog 222 2 32 := ⟨by obtain ⟨i, h0, h1, h2, h3⟩ := info_parts (show (Tryz.prog.info? 222).map (fun i => (i.zero, i.size, i.bytes)) = some (some (.agg #[.string ⟨#[]⟩, .string ⟨#[]⟩]), 2, 32) by kernel_rfl); exact ⟨i, _, h0, h1, h2, h3, rfl⟩⟩
instance inf_104 : tT Tryz.prog 104 9 120 := ⟨by obtain ⟨i, h0, h1, h2, h3⟩ := info_parts (show (Tryz.prog.info? 104).map (fun i => (i.zero, i.size, i.bytes)) = some (some (.agg #[.string ⟨#[]⟩, .int .i64 0, .int .i64 0, .int .i64 0, .int .i64 0, .bool false, .slice none 0 0, .string ⟨#[]⟩, .slice none 0 0]), 9, 120) by kernel_rfl); exact ⟨i, _, h0, h1, h2, h3, rfl⟩⟩
instance inf_37 : tT Tryz.prog 37 1 16 := ⟨by obtain ⟨i, h0, h1, h2, h3⟩ := info_parts (show (Tryz.prog.info? 37).map (fun i => (i.zero, i.size, i.bytes)) = some (some (.nilIface), 1, 16) by kernel_rfl); exact ⟨i, _, h0, h1, h2, h3, rfl⟩⟩
instance inf_186 : tT Tryz.prog 186 9 112 := ⟨by obtain ⟨i, h0, h1, h2, h3⟩ := info_parts (show (Tryz.prog.info? 186).map (fun i => (i.zero, i.size, i.bytes)) = some (some (.agg #[.int .i64 0, .int .i64 0, .int .i64 0, .int .i64 0, .bool false, .slice none 0 0, .string ⟨#[]⟩, .slice none 0 0, .int .i64 0]), 9, 112) by kernel_rfl); exact ⟨i, _, h0, h1, h2, h3, rfl⟩⟩
instance bld_24 : iK Tryz.prog 24 [(0, 1), (1, 1)] [.slice none 0 0, .slice none 0 0] := ⟨⟨_, Tryz.runUnderlying24, fun w => by kernel_rfl⟩, ⟨_, Tryz.zeroValue24, rfl⟩⟩
instance bld_27 : iK Tryz.prog 27 [(0, 1), (1, 1), (2, 1), (3, 1)] [.int .i64 0, .int .i64 0, .slice none 0 0, .int .i64 0] := ⟨⟨_, Tryz.runUnderlying27, fun w => by kernel_rfl⟩, ⟨_, Tryz.zeroValue27, rfl⟩⟩
instance bld_29 : iK Tryz.prog 29 [(0, 2), (2, 4), (6, 1), (7, 1)] [.slice none 0 0, .slice none 0 0, .int .i64 0, .int .i64 0, .slice none 0 0, .int .i64 0, .int .i64 0, .slice none 0 0] := ⟨⟨_, Tryz.runUnderlying29, fun w => by kernel_rfl⟩, ⟨_, Tryz.zeroValue29, rfl⟩⟩
instance bld_42 : iK Tryz.prog 42 [(0, 1), (1, 1), (2, 1), (3, 1), (4, 1), (5, 1), (6, 1)] [.int .i64 0, .int .i64 0, .int .i64 0, .int .i64 0, .int .i64 0, .slice none 0 0, .string ⟨#[]⟩] := ⟨⟨_, Tryz.runUnderlying42, fun w => by kernel_rfl⟩, ⟨_, Tryz.zeroValue42, rfl⟩⟩
instance bld_50 : iK Tryz.prog 50 [(0, 1), (1, 1), (2, 1), (3, 1), (4, 1), (5, 1), (6, 1), (7, 1)] [.int .i64 0, .int .i64 0, .int .i64 0, .int .i64 0, .bool false, .slice none 0 0, .string ⟨#[]⟩, .slice none 0 0] := ⟨⟨_, Tryz.runUnderlying50, fun w => by kernel_rfl⟩, ⟨_, Tryz.zeroValue50, rfl⟩⟩
instance bld_90 : iK Tryz.prog 90 [(0, 2), (2, 4), (6, 1), (7, 1)] [.slice none 0 0, .slice none 0 0, .int .i64 0, .int .i64 0, .slice none 0 0, .int .i64 0, .int .i64 0, .slice none 0 0] := ⟨⟨_, Tryz.runUnderlying90, fun w => by kernel_rfl⟩, ⟨_, Tryz.zeroValue90, rfl⟩⟩
instance bld_104 : iK Tryz.prog 104 [(0, 1), (1, 8)] [.string ⟨#[]⟩, .int .i64 0, .int .i64 0, .int .i64 0, .int .i64 0, .bool false, .slice none 0 0, .string ⟨#[]⟩, .slice none 0 0] := ⟨⟨_, Tryz.runUnderlying104, fun w => by kernel_rfl⟩, ⟨_, Tryz.zeroValue104, rfl⟩⟩
instance bld_127 : iK Tryz.prog 127 [(0, 1), (1, 1), (2, 1), (3, 1), (4, 1), (5, 5), (10, 5)] [.pointer none, .bool false, .int .i64 0, .int .i64 0, .pointer none, .pointer none, .pointer none, .pointer none, .pointer none, .pointer none, .pointer none, .pointer none, .pointer none, .pointer none, .pointer none] := ⟨⟨_, Tryz.runUnderlying127, fun w => by kernel_rfl⟩, ⟨_, Tryz.zeroValue127, rfl⟩⟩
instance bld_132 : iK Tryz.prog 132 [(0, 8), (8, 1), (9, 2), (11, 1), (12, 1)] [.slice none 0 0, .slice none 0 0, .int .i64 0, .int .i64 0, .slice none 0 0, .int .i64 0, .int .i64 0, .slice none 0 0, .pointer none, .slice none 0 0, .slice none 0 0, .int .i64 0, .int .i64 0] := ⟨⟨_, Tryz.runUnderlying132, fun w => by kernel_rfl⟩, ⟨_, Tryz.zeroValue132, rfl⟩⟩
instance bld_140 : iK Tryz.prog 140 [(0, 8), (8, 1)] [.int .i64 0, .int .i64 0, .int .i64 0, .int .i64 0, .bool false, .slice none 0 0, .string ⟨#[]⟩, .slice none 0 0, .slice none 0 0] := ⟨⟨_, Tryz.runUnderlying140, fun w => by kernel_rfl⟩, ⟨_, Tryz.zeroValue140, rfl⟩⟩
instance bld_150 : iK Tryz.prog 150 [(0, 1), (1, 1), (2, 1), (3, 1), (4, 1)] [.bool false, .int .i64 0, .int .i64 0, .int .i64 0, .bool false] := ⟨⟨_, Tryz.runUnderlying150, fun w => by kernel_rfl⟩, ⟨_, Tryz.zeroValue150, rfl⟩⟩
instance bld_152 : iK Tryz.prog 152 [(0, 8), (8, 1), (9, 5), (14, 5)] [.int .i64 0, .int .i64 0, .int .i64 0, .int .i64 0, .bool false, .slice none 0 0, .string ⟨#[]⟩, .slice none 0 0, .int .i64 0, .bool false, .int .i64 0, .int .i64 0, .int .i64 0, .bool false, .bool false, .int .i64 0, .int .i64 0, .int .i64 0, .bool false] := ⟨⟨_, Tryz.runUnderlying152, fun w => by kernel_rfl⟩, ⟨_, Tryz.zeroValue152, rfl⟩⟩
instance bld_186 : iK Tryz.prog 186 [(0, 8), (8, 1)] [.int .i64 0, .int .i64 0, .int .i64 0, .int .i64 0, .bool false, .slice none 0 0, .string ⟨#[]⟩, .slice none 0 0, .int .i64 0] := ⟨⟨_, Tryz.runUnderlying186, fun w => by kernel_rfl⟩, ⟨_, Tryz.zeroValue186, rfl⟩⟩
instance bld_204 : iK Tryz.prog 204 [(0, 1), (1, 1), (2, 1), (3, 1)] [.slice none 0 0, .int .i64 0, .bool false, .int .i64 0] := ⟨⟨_, Tryz.runUnderlying204, fun w => by kernel_rfl⟩, ⟨_, Tryz.zeroValue204, rfl⟩⟩
instance bld_211 : iK Tryz.prog 211 [(0, 1), (1, 1), (2, 1)] [.int .i64 0, .int .i64 0, .map none] := ⟨⟨_, Tryz.runUnderlying211, fun w => by kernel_rfl⟩, ⟨_, Tryz.zeroValue211, rfl⟩⟩
instance bld_222 : iK Tryz.prog 222 [(0, 1), (1, 1)] [.string ⟨#[]⟩, .string ⟨#[]⟩] := ⟨⟨_, Tryz.runUnderlying222, fun w => by kernel_rfl⟩, ⟨_, Tryz.zeroValue222, rfl⟩⟩
end
section

def bA (e:Int):Value:=if e=0 then .nilIface else .iface 99 (.int .i64 e)
theorem bO:bA 0=.nilIface:=by simp [bA]
theorem bW {e:Int} (h:e≠0):bA e=.iface 99 (.int .i64 e):=by simp [bA,h]
theorem errV_nil {e:Int} (h:e=0):Value.nilIface=bA e:=by rw [h,bO]
theorem cP {e:Int} (k:Int) (h:e=k) (hk:k≠0:=by decide):Value.iface 99 (.int .i64 k)=bA e:=by rw [h,bW hk]
theorem run_neq_err (e:Int) (w:World):(binOp .neq 37 (bA e) .nilIface).run Tryz.prog w=.ok (.bool (decide (¬e=0))) w:=by
  by_cases h:e=0
  · subst h;rw [bO];kernel_rfl
  · rw [bW h,decide_eq_true h];kernel_rfl
theorem run_eql_err (e:Int) (w:World):(binOp .eql 37 (bA e) .nilIface).run Tryz.prog w=.ok (.bool (decide (e=0))) w:=by
  by_cases h:e=0
  · subst h;rw [bO];kernel_rfl
  · rw [bW h,decide_eq_false h];kernel_rfl
theorem guard_neq_err (x:Operand) (e:Int) (w:World):(eqGuard .neq 37 x (.const .nilIface) (bA e) .nilIface).run Tryz.prog w=.ok () w:=by
  by_cases h:e=0
  · subst h;rw [bO];simp [eqGuard]
  · rw [bW h];rfl
theorem xL (x:Operand) (e:Int) (w:World):(eqGuard .eql 37 x (.const .nilIface) (bA e) .nilIface).run Tryz.prog w=.ok () w:=by
  by_cases h:e=0
  · subst h;rw [bO];simp [eqGuard]
  · rw [bW h];rfl
section
variable {B : Base} {N : Nat} {F : List (Nat × Value)} {V : aE} {L : List Box} {d : Option Tmp} {ty ty2 : TypeId} {pos : String} {af : Array Edge} {gd : Option (Nat × Bool)} {x : Operand} {e : Int}
theorem q_eneq (hx:evF F x=some (bA e)):QP Tryz.prog B N V L ⟨d,.binOp .neq 37 x (.const .nilIface) ty2,ty,pos,af,gd⟩ F (.bool (decide (¬e=0))) :=
  sU (y:=.const .nilIface) hx rfl (guard_neq_err x e) (run_neq_err e)
theorem oV (hx:evF F x=some (bA e)):QP Tryz.prog B N V L ⟨d,.binOp .eql 37 x (.const .nilIface) ty2,ty,pos,af,gd⟩ F (.bool (decide (e=0))) :=
  sU (y:=.const .nilIface) hx rfl (xL x e) (run_eql_err e)
theorem run_assert (e:Int) (w:World):(Instr.typeAssert (.iface 99 (.int .i64 e)) 37 99 true).run Tryz.prog w=.ok (.tuple #[.int .i64 e,.bool true]) w:=by kernel_rfl
theorem q_assert (hx:evF F x=some (.iface 99 (.int .i64 e))):QP Tryz.prog B N V L ⟨d,.typeAssert x 37 99 true,ty,pos,af,gd⟩ F (.tuple #[.int .i64 e,.bool true]):=iD fun a w ha _=>by
  simp [execOp,ha.ev hx,run_assert]
end
attribute [local irreducible] AtQ GoC GoL GoW QO QP Fn RV bF aD VLe bU
end
section
theorem uG (s:ByteArray):s.toList.length=s.size:=by rw [Lib.toList_data];rfl
theorem mk_u8:MakeIs Tryz.prog 5 1 1 (.int .u8 0):=⟨info_parts (by kernel_rfl)⟩
theorem ptr_disk:PtrIs Tryz.prog 63:=⟨by kernel_rfl⟩
def gC (p:Nat) (s:DS) (Bs:List Box):Prop:=∃ A c L1,Bs=⟨p,204,[.slice A s.bs.length c,.int .i64 s.cut,.bool s.off,.int .i64 s.wr]⟩ :: L1∧cX A s.bs.length c 5 1 (s.bs.flatMap u8F) L1
attribute [local irreducible] AtQ GoC GoL GoW QO QP Fn RV bF aD VLe bU bA
theorem within_c (V:aE) (p:Nat) (s:DS) (Bs:List Box) (h:gC p s Bs) (hm:s.bs.length≤1000000) (a n:Int) (g1:-9223372036854775808≤a∧a≤9223372036854775807) :
    FnB Tryz.prog 169 [.pointer (some ⟨p,0,none⟩),.int .i64 a,.int .i64 n] V Bs fun u _ Bs'=>u=.bool (decide (0≤a∧0≤n∧a≤s.bs.length∧n≤s.bs.length - a))∧Bs'=Bs:=by
  obtain⟨A,c,L1,rfl,hr⟩:=h
  (refine aL Tryz.func169 rfl Tryz.ntmps169 rfl ?_;intro w0)
  repeat' (first|(refine aG ?_;refine pu9 ?_)|refine bS ?_|(refine aJ rfl rfl rfl ?_ ?_<;>intro hq<;>try exact no9))
  all_goals
    (refine aV Tryz.results169 (aB rfl) (List.Sublist.refl _) ?_)
    exact⟨by first|rfl|(refine congrArg Value.bool ?_;first|exact(decide_eq_true (by omega)).symm|exact(decide_eq_false (by omega)).symm|exact decide_eq_decide.2 (by omega)),rfl⟩
theorem Power_c (V:aE) (p:Nat) (s:DS) (Bs:List Box) (h:gC p s Bs) (hm:s.bs.length≤1000000) :
    FnB Tryz.prog 74 [.pointer (some ⟨p,0,none⟩)] V Bs fun u _ Bs'=>u=.bool (!s.off)∧Bs'=Bs:=by
  have h0:=h
  obtain⟨A,c,L1,rfl,hr⟩:=h
  (refine aL Tryz.func74 rfl Tryz.ntmps74 rfl ?_;intro w0)
  repeat' (first|(refine aG ?_;refine pu9 ?_)|refine bS ?_|fail)
  all_goals
    (refine aV Tryz.results74 (aB rfl) (List.Sublist.refl _) ?_)
    exact⟨rfl,rfl⟩
theorem Blocks_c (V:aE) (p:Nat) (s:DS) (Bs:List Box) (h:gC p s Bs) (hm:s.bs.length≤1000000) :
    FnB Tryz.prog 167 [.pointer (some ⟨p,0,none⟩)] V Bs fun u _ Bs'=>u=.int .i64 (s.bs.length / 64)∧Bs'=Bs:=by
  have h0:=h
  obtain⟨A,c,L1,rfl,hr⟩:=h
  (refine aL Tryz.func167 rfl Tryz.ntmps167 rfl ?_;intro w0)
  repeat' (first|(refine aG ?_;refine pu9 ?_)|refine bS ?_|fail)
  all_goals
    (refine aV Tryz.results167 (aB rfl) (List.Sublist.refl _) ?_)
    exact⟨rfl,rfl⟩
end
section

theorem small {p:Int→Bool} (N:Nat) (h:(List.range N).all (fun i=>p (i:Int))=true) (x:Int) (h0:0≤x) (h1:x<N):p x=true:=by
  obtain⟨n,rfl⟩:=Int.eq_ofNat_of_zero_le h0
  exact List.all_eq_true.1 h n (List.mem_range.2 (by omega))
theorem and7 (x:Int) (h0:0≤x) (h1:x<4096):bits .and .i64 x 7=x % 8:=by
  simpa using small (p:=fun x=>bits .and .i64 x 7 == x % 8) 4096 (by decide +kernel) x h0 h1
end
section

def gF (prev:Option Int):List Int→Int
  | []=>0
  | x :: l=>if ¬(0≤x∧x≤65535) then 1 else if (∃ y,prev=some y∧x≤y) then 3 else gF (some x) l
def kZ (u g d:Int) (xs:List Int):Int :=
  if ¬(0≤u∧u≤65535)∨¬(0≤g∧g≤65535)∨d<0∨15<d then 1 else if 4<xs.length then 2 else gF none xs
def prevQ (xs:List Int) (k:Nat):Option Int:=if k=0 then none else xs[k - 1]?
theorem gF_bad {p:Option Int} {x:Int} {l:List Int} (h:¬(0≤x∧x≤65535)):gF p (x :: l)=1:=by rw [gF,if_pos h]
theorem gF_down {y x:Int} {l:List Int} (h:0≤x∧x≤65535) (h2:x≤y):gF (some y) (x :: l)=3:=by rw [gF,if_neg (by omega),if_pos ⟨y,rfl,h2⟩]
theorem gF_on {y x:Int} {l:List Int} (h:0≤x∧x≤65535) (h2:¬x≤y):gF (some y) (x :: l)=gF (some x) l:=by
  rw [gF,if_neg (by omega),if_neg (by rintro ⟨z,hz,hl⟩;injection hz with hz;omega)]
theorem gF_first {x:Int} {l:List Int} (h:0≤x∧x≤65535):gF none (x :: l)=gF (some x) l:=by
  rw [gF,if_neg (by omega),if_neg (by rintro ⟨z,hz,hl⟩;cases hz)]
theorem prevQ_pos {xs:List Int} {k:Nat} (h:¬k=0):prevQ xs k=xs[k - 1]?:=if_neg h
theorem prevQ_succ {xs:List Int} {k:Nat}:prevQ xs (k+1)=xs[k]?:=by rw [prevQ,if_neg (by omega)];rfl
theorem drop_at' {α:Type} {xs:List α} {k:Nat} {x:α} (h:xs[k]?=some x):xs.drop k=x :: xs.drop (k+1):=nV h
theorem gF_bd:∀ (l:List Int) (p:Option Int),0≤gF p l∧gF p l≤3
  | [],_=>by simp [gF]
  | x :: l,p=>by
    rw [gF]
    split
    · omega
    · split
      · omega
      · exact gF_bd l _
theorem credF_bd (u g d:Int) (xs:List Int):0≤kZ u g d xs∧kZ u g d xs≤3:=by
  unfold kZ
  (repeat' split)<;>first|omega|exact gF_bd _ _
theorem gF_ids:∀ (l:List Int) (p:Option Int),gF p l=0→∀ x∈l,0≤x∧x≤65535
  | [],_,_,x,h=>by cases h
  | y :: l,p,h,x,hx=>by
    rw [gF] at h
    split at h
    · omega
    · split at h
      · omega
      · rcases List.mem_cons.1 hx with rfl|hx
        · omega
        · exact gF_ids l _ h x hx
theorem eW {u g d:Int} {xs:List Int} (h:kZ u g d xs=0):(0≤u∧u≤65535)∧(0≤g∧g≤65535)∧(0≤d∧d≤15)∧xs.length≤4∧gF none xs=0:=by
  unfold kZ at h
  split at h
  · omega
  · split at h
    · omega
    · refine⟨?_,?_,?_,?_,h⟩<;>omega
theorem credF_of {u g d:Int} {xs:List Int} (h1:0≤u∧u≤65535) (h2:0≤g∧g≤65535) (h3:0≤d∧d≤15) (h4:xs.length≤4):kZ u g d xs=gF none xs:=by
  unfold kZ
  rw [if_neg (by omega),if_neg (by omega)]

def uC (u g d:Int) (xs:List Int) (user group:Int):Int :=
  if ¬kZ u g d xs=0 then kZ u g d xs
  else if ¬(0≤user∧user≤65535)∨¬(0≤group∧group≤65535) then 1
  else if ¬d / 8 % 2=1∧(¬user=u∨¬(g=group∨group∈xs)) then 10 else 0
def nW (u d user:Int):Int:=if ¬user=u∧¬user=0 then 0 else d
theorem becF_bd (u g d:Int) (xs:List Int) (user group:Int):0≤uC u g d xs user group∧uC u g d xs user group≤10:=by
  have:=credF_bd u g d xs
  unfold uC
  (repeat' split)<;>omega

theorem cap_bit (d:Int) (h0:0≤d) (h1:d≤15):decide (bits .and .i64 d 8=8)=decide (d / 8 % 2=1):=by
  have:=small (p:=fun d=>decide (bits .and .i64 d 8=8) == decide (d / 8 % 2=1)) 16 (by decide +kernel) d h0 (by omega)
  simpa using this
theorem cap_bit' {d:Int} (h0:0≤d) (h1:d≤15):bits .and .i64 d 8=8↔d / 8 % 2=1:=by
  have:=cap_bit d h0 h1
  rw [decide_eq_decide] at this;exact this
theorem mode_bit {m:Int} (h0:0≤m) (h1:m≤4095):(¬bits .and .i64 m 1024=0)↔m / 1024 % 2=1:=by
  have:=small (p:=fun d=>decide (¬bits .and .i64 d 1024=0) == decide (d / 1024 % 2=1)) 4096 (by decide +kernel) m h0 (by omega)
  simp only [beq_iff_eq,decide_eq_decide] at this;exact this
def wipeZ (m:Int):Int:=if m / 2048 % 2=1 then (if (m - 2048) / 1024 % 2=1 then m - 2048 - 1024 else m - 2048) else (if m / 1024 % 2=1 then m - 1024 else m)
theorem mode_wipe {m:Int} (h0:0≤m) (h1:m≤4095):bits .andNot .i64 m 3072=wipeZ m:=by
  have:=small (p:=fun d=>decide (bits .andNot .i64 d 3072=wipeZ d)) 4096 (by decide +kernel) m h0 (by omega)
  simpa using this
end
section
attribute [local irreducible] AtQ GoC GoL GoW QO QP Fn RV bF aD VLe bU
abbrev uK (u g:Int) (A:Option Addr) (n c:Nat) (d:Int):Value:=.agg #[.int .i64 u,.int .i64 g,.slice A n c,.int .i64 d]

theorem id_c (V:aE) (x:Int):Fn Tryz.prog 124 [.int .i64 x] V fun v _=>v=.bool (decide (0≤x∧x≤65535)):=by
  (refine aN Tryz.func124 rfl Tryz.ntmps124 rfl ?_;intro w0)
  repeat' (first|(refine aG ?_;refine pu9 ?_)|refine fG ?_|(refine aJ rfl rfl rfl ?_ ?_<;>intro hq<;>try exact no9)|(refine cN rfl rfl rfl ?_ ?_<;>intro hq)|(refine aA rfl ?_ ?_<;>intro hq<;>try exact no9)|(refine bY rfl ?_ ?_<;>intro hq))
  all_goals (refine aR Tryz.results124 (aB rfl) ?_)
  all_goals (simp;try omega)
theorem Can_c (V:aE) (a b d what:Int) (A:Option Addr) (n c:Nat):Fn Tryz.prog 105 [uK a b A n c d,.int .i64 what] V fun v _=>v=.bool (decide (bits .and .i64 d what=what)):=by
  (refine aN Tryz.func105 rfl Tryz.ntmps105 rfl ?_;intro w0)
  repeat' (first|(refine aG ?_;first|(refine bK ?_;refine aI (q_and rfl rfl) ?_)|(refine al9 ?_;intro γ)|refine pu9 ?_)|refine bS ?_|fail)
  (refine aR Tryz.results105 (aB rfl) ?_)
  rfl
theorem contains_at {xs:List Int} {k:Nat} {z:Int} (h:xs[k]?=some z) (g:Int):g∈xs.take (k+1)↔g∈xs.take k∨z=g:=by
  rw [List.take_add_one,h];simp [eq_comm]
theorem Has_c (V:aE) (a b d g:Int) (A:Option Addr) (n c:Nat) (xs:List Int) (h:eD V A n xs) :
    Fn Tryz.prog 106 [uK a b A n c d,.int .i64 g] V fun v _=>v=.bool (decide (b=g∨g∈xs)):=by
  have hm:=h.max
  have hl:=h.1
  (refine aN Tryz.func106 rfl Tryz.ntmps106 rfl ?_;intro w0)
  repeat' (first|(refine aG ?_;first|(refine al9 ?_;intro γ)|refine pu9 ?_)|refine cM ?_|(refine aA rfl ?_ ?_<;>intro hq<;>try exact no9))
  · (refine aR Tryz.results106 (aB rfl) ?_)
    rw [decide_eq_true (.inl hq)]
  · have hb:=hq
    refine bZ (fun F V' L' m=>∃ k:Nat,k≤n∧m=n - k∧V'=V∧L'=[]∧¬g∈xs.take k∧F=[(1,.int .i64 g),(12,.slice A n c),(13,.int .i64 n),(14,.int .i64 k)]) (m:=n) ⟨0,Nat.zero_le _,by omega,rfl,rfl,by simp,rfl⟩ bG rfl sl9 ?_
    rintro F V' L' m ⟨k,hk,rfl,rfl,rfl,hc,rfl⟩
    by_cases hlt:k<n
    · obtain⟨bb,off,z,rfl,hz,hcell⟩:=h.at_ hlt
      have hs:=contains_at hz g
      repeat' (first|(refine aG ?_;refine pu9 ?_)|refine cM ?_|(refine aA rfl ?_ ?_<;>intro hq<;>try exact no9))
      · (refine aR Tryz.results106 (aB rfl) ?_)
        rw [decide_eq_true (.inr (hq▸List.mem_of_getElem? hz))]
      · refine aY _ (n - (k+1)) ⟨k+1,by omega,rfl,rfl,rfl,?_,rfl⟩ (by omega) bG sl9
        rw [hs];rintro (h1|h1)
        · exact hc h1
        · exact hq h1
    · repeat' (first|(refine aG ?_;refine pu9 ?_)|refine eT ?_|(refine aA rfl ?_ ?_<;>intro hq<;>try exact no9))
      (refine aR Tryz.results106 (aB rfl) ?_)
      have:k=n:=by omega
      rw [List.take_of_length_le (by omega)] at hc
      rw [decide_eq_false (by rintro (h1|h1)<;>contradiction)]
end
section
attribute [local irreducible] AtQ GoC GoL GoW QO QP Fn RV bF aD VLe bU
theorem eD.prev {V:aE} {b off n k:Nat} {xs:List Int} (h:eD V (some ⟨b,off,none⟩) n xs) (hk:k<n) (h0:¬k=0):∃ z,xs[k - 1]?=some z∧V ⟨b,off+((k:Int) - 1).toNat * 1,none⟩=some (.int .i64 z):=by
  obtain⟨b',off',z,he,hz,hc⟩:=h.at_ (k:=k - 1) (by omega)
  cases he
  exact⟨z,hz,by rw [show ((k:Int) - 1).toNat=k - 1 by omega];exact hc⟩
theorem Check_c (V:aE) (a b d:Int) (A:Option Addr) (n c:Nat) (xs:List Int) (h:eD V A n xs) :
    Fn Tryz.prog 58 [uK a b A n c d] V fun v _=>v=bA (kZ a b d xs):=by
  have hm:=h.max
  have hl:=h.1
  (refine aN Tryz.func58 rfl Tryz.ntmps58 rfl ?_;intro w0)
  repeat' (first|(refine aG ?_;first|(refine aC ?_;refine aO rfl (aK ⟨Tryz.call124⟩ rfl (id_c _ _)) ?_)|(refine al9 ?_;intro γ)|refine pu9 ?_)|refine dL ?_|(refine aJ rfl rfl rfl ?_ ?_<;>intro hq<;>try exact no9)|(refine aA rfl ?_ ?_<;>intro hq<;>try exact no9))
  all_goals try ((refine aR Tryz.results58 (aB rfl) ?_);refine cP 1 (by unfold kZ;rw [if_pos (by omega)]))
  all_goals try ((refine aR Tryz.results58 (aB rfl) ?_);refine cP 2 (by unfold kZ;rw [if_neg (by omega),if_pos (by omega)]))
  have hr:kZ a b d xs=gF none xs:=by unfold kZ;rw [if_neg (by omega),if_neg (by omega)]
  rw [hr]
  refine bZ (fun F V' L' m=>∃ k:Nat,k≤n∧m=n - k∧V'=V∧L'=[⟨γ,_,[.int .i64 a,.int .i64 b,.slice A n c,.int .i64 d]⟩]∧gF none xs=gF (prevQ xs k) (xs.drop k)∧F=[(1,.pointer (some ⟨γ,0,none⟩)),(32,.slice A n c),(33,.int .i64 n),(34,.int .i64 k)]) (m:=n) ⟨0,Nat.zero_le _,by omega,rfl,rfl,rfl,rfl⟩ bG rfl sl9 ?_
  rintro F V' L' m ⟨k,hk,rfl,rfl,rfl,hg,rfl⟩
  by_cases hlt:k<n
  · obtain⟨bb,off,z,rfl,hz,hcell⟩:=h.at_ hlt
    rw [hg,drop_at' hz]
    by_cases h0:k=0
    · subst h0
      repeat' (first|(refine aG ?_;first|(refine aC ?_;refine aO rfl (aK ⟨Tryz.call124⟩ rfl (id_c _ _)) ?_)|refine pu9 ?_)|refine dL ?_|(refine aA rfl ?_ ?_<;>intro hq<;>try exact no9))
      · (refine aR Tryz.results58 (aB rfl) ?_)
        exact cP 1 (gF_bad hq)
      · refine aY _ (n - (0+1)) ⟨0+1,by omega,rfl,rfl,rfl,?_,rfl⟩ (by omega) bG sl9
        rw [show prevQ xs 0=none from rfl,gF_first (by omega),prevQ_succ,hz]
    · obtain⟨y,hy,hcy⟩:=h.prev hlt h0
      rw [prevQ_pos h0,hy]
      repeat' (first|(refine aG ?_;first|(refine aC ?_;refine aO rfl (aK ⟨Tryz.call124⟩ rfl (id_c _ _)) ?_)|refine pu9 ?_)|refine cM ?_|(refine aJ rfl rfl rfl ?_ ?_<;>intro hq<;>try exact no9)|(refine aA rfl ?_ ?_<;>intro hq<;>try exact no9))
      · (refine aR Tryz.results58 (aB rfl) ?_)
        exact cP 1 (gF_bad hq)
      · (refine aR Tryz.results58 (aB rfl) ?_)
        exact cP 3 (gF_down (by omega) (by omega))
      · refine aY _ (n - (k+1)) ⟨k+1,by omega,rfl,rfl,rfl,?_,rfl⟩ (by omega) bG sl9
        rw [gF_on (by omega) (by omega),prevQ_succ,hz]
  · repeat' (first|(refine aG ?_;refine pu9 ?_)|refine eT ?_|(refine aA rfl ?_ ?_<;>intro hq<;>try exact no9))
    (refine aR Tryz.results58 (aB rfl) ?_)
    rw [hg,List.drop_eq_nil_of_le (by omega)]
    exact errV_nil rfl
def uL (b d:Int) (xs:List Int) (mode g:Int):Int:=if mode / 1024 % 2=1∧¬(b=g∨g∈xs)∧¬d / 8 % 2=1 then mode - 1024 else mode
theorem Keep_c (V:aE) (a b d:Int) (A:Option Addr) (n c:Nat) (xs:List Int) (h:eD V A n xs) (mode g:Int) (h0:0≤mode) (h1:mode≤4095) (d0:0≤d) (d1:d≤15) :
    Fn Tryz.prog 103 [uK a b A n c d,.int .i64 mode,.int .i64 g] V fun v _=>v=.int .i64 (uL b d xs mode g):=by
  have e1:=mode_bit h0 h1
  have e2:=cap_bit' d0 d1
  (refine aN Tryz.func103 rfl Tryz.ntmps103 rfl ?_;intro w0)
  repeat' (first|(refine aG ?_;first|(refine bK ?_;refine aI (q_and rfl rfl) ?_)|(refine aC ?_;(first|refine aO rfl (aK ⟨Tryz.call106⟩ rfl (Has_c _ _ _ _ _ _ _ _ xs h)) ?_|refine aO rfl (aK ⟨Tryz.call105⟩ rfl (Can_c _ _ _ _ _ _ _ _)) ?_))|(refine al9 ?_;intro γ)|refine pu9 ?_)|refine bV ?_|(refine aJ rfl rfl rfl ?_ ?_<;>intro hq<;>try exact no9)|(refine aA rfl ?_ ?_<;>intro hq<;>try exact no9))
  all_goals (refine aR Tryz.results103 (aB rfl) ?_)
  all_goals (unfold uL;split<;>first|rfl|(exfalso;simp_all;done)|(exfalso;omega))
def uT (d mode:Int):Int:=if d / 8 % 2=1 then mode else wipeZ mode
theorem Wipe_c (V:aE) (a b d:Int) (A:Option Addr) (n c:Nat) (mode:Int) (h0:0≤mode) (h1:mode≤4095) (d0:0≤d) (d1:d≤15) :
    Fn Tryz.prog 93 [uK a b A n c d,.int .i64 mode] V fun v _=>v=.int .i64 (uT d mode):=by
  have e1:=mode_wipe h0 h1
  have e2:=cap_bit' d0 d1
  (refine aN Tryz.func93 rfl Tryz.ntmps93 rfl ?_;intro w0)
  repeat' (first|(refine aG ?_;first|(refine aC ?_;refine aO rfl (aK ⟨Tryz.call105⟩ rfl (Can_c _ _ _ _ _ _ _ _)) ?_)|(refine bK ?_;refine aI (q_andNot rfl rfl) ?_)|(refine al9 ?_;intro γ)|refine pu9 ?_)|refine bS ?_|(refine aA rfl ?_ ?_<;>intro hq<;>try exact no9))
  all_goals (refine aR Tryz.results93 (aB rfl) ?_)
  · rw [uT,if_pos (by omega)]
  · rw [uT,if_neg (by omega),←e1]
end
section
section
variable {P : Program} {B : Base} {N : Nat} {F : List (Nat × Value)} {V : aE} {L : List Box}
variable {d : Option Tmp} {ty : TypeId} {pos : String} {af : Array Edge} {gd : Option (Nat × Bool)} {x y : Operand}
theorem q_shr6 {k:IntKind} {t ty2:TypeId} {a:Int} (hx:evF F x=some (.int .i64 a)) (hy:evF F y=some (.int k 6)) (h:0≤a):QP P B N V L ⟨d,.binOp .shr t x y ty2,ty,pos,af,gd⟩ F (.int .i64 (a / 64)):=by
  refine sU hx hy (fun w=>by simp [eqGuard]) (fun w=>?_)
  have e:a.fdiv 64=a / 64:=Int.fdiv_eq_ediv_of_nonneg a (by decide)
  simp [binOp,Op.shift,IntKind.bits,e]
theorem q_shr3 {k:IntKind} {t ty2:TypeId} {a:Int} (hx:evF F x=some (.int .i64 a)) (hy:evF F y=some (.int k 3)) (h:0≤a):QP P B N V L ⟨d,.binOp .shr t x y ty2,ty,pos,af,gd⟩ F (.int .i64 (a / 8)):=by
  refine sU hx hy (fun w=>by simp [eqGuard]) (fun w=>?_)
  have e:a.fdiv 8=a / 8:=Int.fdiv_eq_ediv_of_nonneg a (by decide)
  simp [binOp,Op.shift,IntKind.bits,e]
end
@[ext] structure CR where
  u:Int
  g:Int
  d:Int
  xs:List Int
@[ext] structure TH where
  dir:Bool
  mode:Int
  user:Int
  group:Int
  mapped:Bool
def thZ:TH:=⟨false,0,0,0,false⟩
abbrev crV (c:CR) (A:Option Addr) (n k:Nat):Value:=uK c.u c.g A n k c.d
abbrev thV (t:TH):Value:=.agg #[.bool t.dir,.int .i64 t.mode,.int .i64 t.user,.int .i64 t.group,.bool t.mapped]
def rgtT (c:CR) (t:TH):Int:=if t.mapped=true∧t.user=c.u then t.mode / 64 % 8 else if t.mapped=true∧(c.g=t.group∨t.group∈c.xs) then t.mode / 8 % 8 else t.mode % 8
theorem rgt_bd (c:CR) (t:TH):0≤rgtT c t∧rgtT c t<8:=by
  unfold rgtT
  (repeat' split)<;>omega
def goesT (t:TH):Prop:=t.mode % 2=1∨t.mode / 8 % 2=1∨t.mode / 64 % 2=1
instance (t : TH) : Decidable (goesT t) := by unfold goesT; infer_instance
def oS (c:CR) (t:TH) (w:Int):Bool:=decide (rgtT c t / w % 2=1∨(t.mapped=true∧c.d / 2 % 2=1∧(t.dir=true∨¬w=1∨goesT t)))
def uU (c:CR) (t:TH):Bool:=decide (t.mapped=true∧(t.user=c.u∨c.d / 4 % 2=1))
def takesT (c:CR) (p t:TH):Bool:=decide (¬p.mode / 512 % 2=1∨uU c t=true∨(p.mapped=true∧p.user=c.u))
theorem and7' (x:Int) (h0:0≤x) (h1:x≤4095):bits .and .i64 x 7=x % 8:=and7 x h0 (by omega)
theorem and_bit (r w:Int) (h0:0≤r) (h1:r<8) (hw:w=1∨w=2∨w=4):bits .and .i64 r w=w↔r / w % 2=1:=by
  have k1:=small (p:=fun r=>decide (bits .and .i64 r 1=1) == decide (r / 1 % 2=1)) 8 (by decide +kernel) r h0 h1
  have k2:=small (p:=fun r=>decide (bits .and .i64 r 2=2) == decide (r / 2 % 2=1)) 8 (by decide +kernel) r h0 h1
  have k4:=small (p:=fun r=>decide (bits .and .i64 r 4=4) == decide (r / 4 % 2=1)) 8 (by decide +kernel) r h0 h1
  simp only [beq_iff_eq,decide_eq_decide] at k1 k2 k4
  rcases hw with rfl|rfl|rfl
  · exact k1
  · exact k2
  · exact k4
theorem cap2' {d:Int} (h0:0≤d) (h1:d≤15):bits .and .i64 d 2=2↔d / 2 % 2=1:=by
  have k:=small (p:=fun r=>decide (bits .and .i64 r 2=2) == decide (r / 2 % 2=1)) 16 (by decide +kernel) d h0 (by omega)
  simpa using k
theorem cap4' {d:Int} (h0:0≤d) (h1:d≤15):bits .and .i64 d 4=4↔d / 4 % 2=1:=by
  have k:=small (p:=fun r=>decide (bits .and .i64 r 4=4) == decide (r / 4 % 2=1)) 16 (by decide +kernel) d h0 (by omega)
  simpa using k
theorem want1 (w:Int) (hw:w=1∨w=2∨w=4):bits .and .i64 w 1=0↔¬w=1:=by rcases hw with rfl|rfl|rfl<;>decide +kernel
theorem mode73 {t:TH} (h0:0≤t.mode) (h1:t.mode≤4095):(¬bits .and .i64 t.mode 73=0)↔goesT t:=by
  have k:=small (p:=fun r=>decide (¬bits .and .i64 r 73=0) == decide (r % 2=1∨r / 8 % 2=1∨r / 64 % 2=1)) 4096 (by decide +kernel) t.mode h0 (by omega)
  simp only [beq_iff_eq,decide_eq_decide] at k
  exact k
theorem mode512 {m:Int} (h0:0≤m) (h1:m≤4095):bits .and .i64 m 512=0↔¬m / 512 % 2=1:=by
  have k:=small (p:=fun r=>decide (bits .and .i64 r 512=0) == decide (¬r / 512 % 2=1)) 4096 (by decide +kernel) m h0 (by omega)
  simp only [beq_iff_eq,decide_eq_decide] at k
  exact k
attribute [local irreducible] AtQ GoC GoL GoW QO QP Fn RV bF aD VLe bU
theorem class_c (V:aE) (c:CR) (A:Option Addr) (n k:Nat) (h:eD V A n c.xs) (t:TH) (hm:0≤t.mode∧t.mode≤4095) :
    Fn Tryz.prog 147 [crV c A n k,thV t] V fun v _=>v=.int .i64 (rgtT c t):=by
  (refine aN Tryz.func147 rfl Tryz.ntmps147 rfl ?_;intro w0)
  repeat' (first|(refine aG ?_;first|(refine bK ?_;(first|refine aI (q_shr3 rfl rfl (by omega)) ?_|refine aI (q_shr6 rfl rfl (by omega)) ?_|refine aI (q_shr rfl rfl (by omega)) ?_|refine aI (q_and rfl rfl) ?_))|(refine aC ?_;refine aO rfl (aK ⟨Tryz.call106⟩ rfl (Has_c _ _ _ _ _ _ _ _ c.xs h)) ?_)|(refine al9 ?_;intro γ)|refine pu9 ?_)|refine dL ?_|(refine cN rfl rfl rfl ?_ ?_<;>intro hq)|(refine aA rfl ?_ ?_<;>intro hq<;>try exact no9))
  all_goals (refine aR Tryz.results147 (aB rfl) ?_)
  all_goals
    refine congrArg (Value.int .i64) ?_
    rw [and7' _ (by omega) (by omega)]
    unfold rgtT
    simp_all
theorem May_c (V:aE) (c:CR) (A:Option Addr) (n k:Nat) (h:eD V A n c.xs) (hd:0≤c.d∧c.d≤15) (t:TH) (hm:0≤t.mode∧t.mode≤4095) (w:Int) (hw:w=1∨w=2∨w=4) :
    Fn Tryz.prog 87 [crV c A n k,thV t,.int .i64 w] V fun v _=>v=.bool (oS c t w):=by
  have hb:=and_bit (rgtT c t) w (rgt_bd c t).1 (rgt_bd c t).2 hw
  have h2:=cap2' hd.1 hd.2
  have h1:=want1 w hw
  have h7:=mode73 hm.1 hm.2
  (refine aN Tryz.func87 rfl Tryz.ntmps87 rfl ?_;intro w0)
  repeat' (first|(refine aG ?_;first|(refine bK ?_;refine aI (q_and rfl rfl) ?_)|(refine aC ?_;(first|refine aO rfl (aK ⟨Tryz.call147⟩ rfl (class_c _ c A n k h t hm)) ?_|refine aO rfl (aK ⟨Tryz.call105⟩ rfl (Can_c _ _ _ _ _ _ _ _)) ?_))|(refine al9 ?_;intro γ)|refine pu9 ?_)|refine bV ?_|(refine aJ rfl rfl rfl ?_ ?_<;>intro hq<;>try exact no9)|(refine cN rfl rfl rfl ?_ ?_<;>intro hq)|(refine aA rfl ?_ ?_<;>intro hq<;>try exact no9))
  all_goals (refine aR Tryz.results87 (aB rfl) ?_)
  all_goals first
    | exact no9
    | (refine congrArg Value.bool ?_
       unfold oS
       simp_all)
theorem Owns_c (V:aE) (c:CR) (A:Option Addr) (n k:Nat) (hd:0≤c.d∧c.d≤15) (t:TH) :
    Fn Tryz.prog 102 [crV c A n k,thV t] V fun v _=>v=.bool (uU c t):=by
  have h4:=cap4' hd.1 hd.2
  (refine aN Tryz.func102 rfl Tryz.ntmps102 rfl ?_;intro w0)
  repeat' (first|(refine aG ?_;first|(refine aC ?_;refine aO rfl (aK ⟨Tryz.call105⟩ rfl (Can_c _ _ _ _ _ _ _ _)) ?_)|(refine al9 ?_;intro γ)|refine pu9 ?_)|refine bS ?_|(refine aJ rfl rfl rfl ?_ ?_<;>intro hq<;>try exact no9)|(refine cN rfl rfl rfl ?_ ?_<;>intro hq))
  all_goals (refine aR Tryz.results102 (aB rfl) ?_)
  all_goals
    refine congrArg Value.bool ?_
    unfold uU
    simp_all
theorem Takes_c (V:aE) (c:CR) (A:Option Addr) (n k:Nat) (hd:0≤c.d∧c.d≤15) (p t:TH) (hm:0≤p.mode∧p.mode≤4095) :
    Fn Tryz.prog 150 [crV c A n k,thV p,thV t] V fun v _=>v=.bool (takesT c p t):=by
  have h5:=mode512 hm.1 hm.2
  (refine aN Tryz.func150 rfl Tryz.ntmps150 rfl ?_;intro w0)
  repeat' (first|(refine aG ?_;first|(refine bK ?_;refine aI (q_and rfl rfl) ?_)|(refine aC ?_;refine aO rfl (aK ⟨Tryz.call102⟩ rfl (Owns_c _ c A n k hd t)) ?_)|(refine al9 ?_;intro γ)|refine pu9 ?_)|refine bS ?_|(refine aJ rfl rfl rfl ?_ ?_<;>intro hq<;>try exact no9)|(refine cN rfl rfl rfl ?_ ?_<;>intro hq)|(refine aA rfl ?_ ?_<;>intro hq<;>try exact no9))
  all_goals (refine aR Tryz.results150 (aB rfl) ?_)
  all_goals
    refine congrArg Value.bool ?_
    unfold takesT uU
    simp_all
end
section
theorem ng_222:NoGuard Tryz.prog 222:=⟨by kernel_rfl⟩
theorem eqs_222 (a0 a1 b0 b1:ByteArray):EqIs Tryz.prog 222 [.string a0,.string a1] [.string b0,.string b1] (decide (a0=b0∧a1=b1)):=⟨fun w=>by
  rw [run_equalIn_struct w 9999 _ _ _ (by kernel_rfl) (by kernel_rfl)]
  have hi:=Tryz.underlying9
  have e:=str_beq a0 b0
  have e1:=str_beq a1 b1
  by_cases h0:a0=b0<;>by_cases h1:a1=b1 <;>
    simp [Program.fieldsOf,Tryz.underlying222,Op.eqFields,hi,run_equalIn_string,go_sem,h0,h1,e,e1]⟩
end
section
theorem ba_get (s:ByteArray) (k:Nat):s[k]?=s.toList[k]?:=by
  rw [Lib.toList_data,Array.getElem?_toList]
  rcases Nat.lt_or_ge k s.size with h|h
  · rw [getElem?_pos s k h,getElem?_pos s.data k h];rfl
  · rw [getElem?_neg s k (by omega),getElem?_neg s.data k (by have:s.data.size=s.size:=rfl;omega)]
theorem ba_len (s:ByteArray):s.toList.length=s.size:=by rw [Lib.toList_data];rfl
theorem ba_at {s:ByteArray} {k:Nat} (h:k<s.size):∃ c,s.toList[k]?=some c∧s[((k:Nat):Int).toNat]?=some c:=by
  have hk:k<s.toList.length:=by rw [ba_len];exact h
  refine⟨_,List.getElem?_eq_getElem hk,?_⟩
  rw [Int.toNat_natCast,ba_get,List.getElem?_eq_getElem hk]
theorem ba_eq {s:ByteArray} {a:Array UInt8}:s=⟨a⟩↔s.toList=a.toList:=by
  constructor
  · intro h;subst h;rw [Lib.toList_data]
  · intro h;apply str_ext;rw [h,Lib.toList_data]
theorem okCh_iff (c:UInt8):okCh c=true↔(97≤(c.toNat:Int)∧(c.toNat:Int)≤122)∨(48≤(c.toNat:Int)∧(c.toNat:Int)≤57)∨(c.toNat:Int)=46∨(c.toNat:Int)=95∨(c.toNat:Int)=45:=by
  have e:∀ k:UInt8,c=k↔(c.toNat:Int)=(k.toNat:Int):=fun k=>by
    rw [←UInt8.toNat_inj];omega
  simp only [okCh,Bool.or_eq_true,Bool.and_eq_true,decide_eq_true_eq,beq_iff_eq,e]
  have h1:((46:UInt8).toNat:Int)=46:=rfl
  have h2:((95:UInt8).toNat:Int)=95:=rfl
  have h3:((45:UInt8).toNat:Int)=45:=rfl
  rw [h1,h2,h3]
  omega
theorem nameZ_iff (s:ByteArray):fS s.toList=true↔1≤s.size∧s.size≤12∧¬s=⟨#[46]⟩∧¬s=⟨#[46,46]⟩∧s.toList.all okCh=true:=by
  rw [ba_eq,ba_eq,←ba_len]
  simp only [fS,Bool.and_eq_true,decide_eq_true_eq,Bool.not_eq_true',beq_eq_false_iff_ne,ne_eq,and_assoc]
theorem all_snoc {s:List UInt8} {k:Nat} {c:UInt8} (h:s[k]?=some c) (h1:(s.take k).all okCh=true) (h2:okCh c=true):(s.take (k+1)).all okCh=true:=by
  rw [List.take_add_one,h,List.all_append,h1];simp [h2]
theorem all_not {s:List UInt8} {k:Nat} {c:UInt8} (h:s[k]?=some c) (h2:¬okCh c=true):¬s.all okCh=true:=by
  rw [List.all_eq_true]
  intro hh
  exact h2 (hh c (List.mem_of_getElem? h))
theorem nameZ_not {s:ByteArray} (h:¬(1≤s.size∧s.size≤12)∨s=⟨#[46]⟩∨s=⟨#[46,46]⟩∨¬s.toList.all okCh=true):fS s.toList=false:=by
  cases hb:fS s.toList
  · rfl
  · rw [nameZ_iff] at hb
    obtain⟨h1,h2,h3,h4,h5⟩:=hb
    rcases h with h|h|h|h
    · exact absurd ⟨h1,h2⟩ h
    · exact absurd h h3
    · exact absurd h h4
    · exact absurd h5 h
theorem nameZ_yes {s:ByteArray} (h1:1≤s.size) (h2:s.size≤12) (h3:¬s=⟨#[46]⟩) (h4:¬s=⟨#[46,46]⟩) (h5:s.toList.all okCh=true):fS s.toList=true:=(nameZ_iff s).2 ⟨h1,h2,h3,h4,h5⟩
theorem ba_drop (s:ByteArray) (l:Nat) (h:l≤s.size):(s.extract l s.size).toList=s.toList.drop l:=by
  rw [Lib.toList_data,Lib.toList_data]
  apply List.ext_getElem?
  intro i
  rw [List.getElem?_drop,Array.getElem?_toList,Array.getElem?_toList]
  have e:(s.extract l s.size).data=s.data.extract l s.size:=by simp [ByteArray.extract,ByteArray.copySlice];congr 1;omega
  rw [e,Array.getElem?_extract]
  have hs:s.data.size=s.size:=rfl
  split
  · rfl
  · rw [Array.getElem?_eq_none];omega
theorem ba_size (s:ByteArray) (l h:Nat) (h1:l≤h) (h2:h≤s.size):(s.extract l h).size=h - l:=by
  rw [ByteArray.size_extract];omega
end
section
attribute [local irreducible] AtQ GoC GoL GoW QO QP Fn RV bF aD VLe bU bA
theorem Name_c (V:aE) (s:ByteArray) (hm:s.size≤9223372036854775807):Fn Tryz.prog 120 [.string s] V fun v _=>v=.bool (fS s.toList):=by
  (refine aN Tryz.func120 rfl Tryz.ntmps120 rfl ?_;intro w0)
  repeat' (first|(refine aG ?_;refine pu9 ?_)|refine dL ?_|(refine aJ rfl rfl rfl ?_ ?_<;>intro hq<;>try exact no9)|(refine aA rfl ?_ ?_<;>intro hq<;>try exact no9))
  all_goals try ((refine aR Tryz.results120 (aB rfl) ?_);refine congrArg Value.bool (nameZ_not ?_).symm;first|(left;omega)|(right;left;assumption)|(right;right;left;assumption))
  have h3:¬s=⟨#[46]⟩:=by assumption
  have h4:¬s=⟨#[46,46]⟩:=by assumption
  refine bZ (fun F V' L' m=>∃ k:Nat,k≤s.size∧m=s.size - k∧V=V'∧[]=L'∧(s.toList.take k).all okCh=true∧F=[(0,.string s),(22,.int .i64 s.size),(23,.int .i64 k)]) (m:=s.size) ⟨0,Nat.zero_le _,by omega,rfl,rfl,by simp,rfl⟩ bG rfl sl9 ?_
  rintro F V' L' m ⟨k,hk,rfl,rfl,rfl,ha,rfl⟩
  by_cases hlt:k<s.size
  · obtain⟨c,hc,hcc⟩:=ba_at hlt
    have hch:=okCh_iff c
    repeat' (first|(refine aG ?_;first|(refine iL ?_;refine aI (rU und_9 rfl rfl (by omega) (by assumption)) ?_)|refine pu9 ?_)|refine dL ?_|(refine aJ rfl rfl rfl ?_ ?_<;>intro hq<;>try exact no9)|(refine aA rfl ?_ ?_<;>intro hq<;>try exact no9))
    all_goals first
      | ((refine aR Tryz.results120 (aB rfl) ?_);exact congrArg Value.bool (nameZ_not (.inr (.inr (.inr (all_not hc (by rw [hch];omega)))))).symm)
      | (refine aY _ (s.size - (k+1)) ⟨k+1,by omega,rfl,rfl,rfl,all_snoc hc ha (by rw [hch];omega),rfl⟩ (by omega) bG sl9)
  · repeat' (first|(refine aG ?_;refine pu9 ?_)|refine eT ?_|(refine aA rfl ?_ ?_<;>intro hq<;>try exact no9))
    (refine aR Tryz.results120 (aB rfl) ?_)
    rw [List.take_of_length_le (by rw [ba_len];omega)] at ha
    exact congrArg Value.bool (nameZ_yes (by omega) (by omega) h3 h4 ha).symm
theorem class_of {s:ByteArray} (h:2≤s.size) (hn:fS (s.toList.drop 2)=true):eV s=if s.toList.take 2=[117,46] then 1 else if s.toList.take 2=[116,46] then 2 else 0:=by rw [eV,if_pos ⟨h,hn⟩]
theorem class_not {s:ByteArray} (h:¬(2≤s.size∧fS (s.toList.drop 2)=true)):eV s=0:=by rw [eV,if_neg h]
theorem take_two {s:ByteArray} {c d a b:UInt8} (hc:s.toList[0]?=some c) (hd:s.toList[1]?=some d):s.toList.take 2=[a,b]↔(c.toNat:Int)=a.toNat∧(d.toNat:Int)=b.toNat:=by
  have e:s.toList.take 2=[c,d]:=by
    rw [List.take_add_one,List.take_add_one,hc,hd];simp
  rw [e]
  have h1:∀ x y:UInt8,x=y↔(x.toNat:Int)=(y.toNat:Int):=fun x y=>by rw [←UInt8.toNat_inj];omega
  simp [h1]
theorem name_short {s:ByteArray} (h:¬3≤s.size):¬(2≤s.size∧fS (s.toList.drop 2)=true):=by
  rintro ⟨h1,h2⟩
  have:s.toList.drop 2=[]:=List.drop_eq_nil_of_le (by rw [ba_len];omega)
  rw [this] at h2;exact absurd h2 (by decide)
theorem kV (V:aE) (s:ByteArray) (hm:s.size≤9223372036854775807):Fn Tryz.prog 108 [.string s] V fun v _=>v=.int .i64 (eV s):=by
  by_cases h3:3≤s.size
  · obtain⟨c,hc,hcc⟩:=ba_at (s:=s) (k:=0) (by omega)
    obtain⟨d,hd,hdd⟩:=ba_at (s:=s) (k:=1) (by omega)
    have hn:=Name_c V (s.extract 2 s.size) (by rw [ba_size _ _ _ (by omega) (Nat.le_refl _)];omega)
    rw [ba_drop _ _ (by omega)] at hn
    have hcl:=@class_of s (by omega)
    have hc0:=@take_two s c d 117 46 hc hd
    have hc1:=@take_two s c d 116 46 hc hd
    have e0:((117:UInt8).toNat:Int)=117:=rfl
    have e1:((116:UInt8).toNat:Int)=116:=rfl
    have e2:((46:UInt8).toNat:Int)=46:=rfl
    rw [e0,e2] at hc0
    rw [e1,e2] at hc1
    have hcc0:s[(0:Int).toNat]?=some c:=hcc
    have hdd0:s[(1:Int).toNat]?=some d:=hdd
    cases hb:fS (s.toList.drop 2)
    · rw [class_not (by rintro ⟨_,h⟩;rw [hb] at h;cases h)]
      rw [hb] at hn
      (refine aN Tryz.func108 rfl Tryz.ntmps108 rfl ?_;intro w0)
      repeat' (first|(refine aG ?_;first|(refine aC ?_;refine aO rfl (aK ⟨Tryz.call120⟩ rfl (hn)) ?_)|(refine iL ?_;refine aI (rU und_9 rfl rfl (by omega) (by assumption)) ?_)|(refine fW ?_;(first|refine aI (pT und_9 rfl rfl (by omega)) ?_|refine aI (rA und_9 rfl rfl (by omega)) ?_))|refine pu9 ?_)|refine bV ?_|(refine aJ rfl rfl rfl ?_ ?_<;>intro hq<;>try exact no9))
      all_goals (refine aR Tryz.results108 (aB rfl) ?_)
      all_goals rfl
    · rw [hcl hb]
      rw [hb] at hn
      (refine aN Tryz.func108 rfl Tryz.ntmps108 rfl ?_;intro w0)
      repeat' (first|(refine aG ?_;first|(refine aC ?_;refine aO rfl (aK ⟨Tryz.call120⟩ rfl (hn)) ?_)|(refine iL ?_;refine aI (rU und_9 rfl rfl (by omega) (by assumption)) ?_)|(refine fW ?_;(first|refine aI (pT und_9 rfl rfl (by omega)) ?_|refine aI (rA und_9 rfl rfl (by omega)) ?_))|refine pu9 ?_)|refine dL ?_|(refine aJ rfl rfl rfl ?_ ?_<;>intro hq<;>try exact no9)|(refine aA rfl ?_ ?_<;>intro hq<;>try exact no9))
      all_goals (refine aR Tryz.results108 (aB rfl) ?_)
      all_goals first
        | (rw [if_pos (hc0.2 (by omega))];done)
        | (rw [if_neg (fun h=>by have:=hc0.1 h;omega),if_pos (hc1.2 (by omega))];done)
        | (rw [if_neg (fun h=>by have:=hc0.1 h;omega),if_neg (fun h=>by have:=hc1.1 h;omega)];done)
  · rw [class_not (name_short h3)]
    (refine aN Tryz.func108 rfl Tryz.ntmps108 rfl ?_;intro w0)
    repeat' (first|(refine aG ?_;refine pu9 ?_)|refine bV ?_|(refine aJ rfl rfl rfl ?_ ?_<;>intro hq<;>try exact no9))
    all_goals (refine aR Tryz.results108 (aB rfl) ?_)
    all_goals rfl
end
section
def fD (V:aE) (A:Option Addr) (n:Nat) (xs:List PA):Prop:=AttrsV V A n xs∧∀ a∈xs,a.n.size≤maxLen∧a.v.size≤maxLen
theorem fD.le {V V':aE} {A:Option Addr} {n:Nat} {xs:List PA} (h:fD V A n xs) (hv:VLe V V'):fD V' A n xs:=⟨h.1.le hv,h.2⟩
theorem fD.nil {V:aE} {A:Option Addr}:fD V A 0 []:=⟨fB.nil,by simp⟩
theorem pa_len (a:PA):(paC a).length=2:=rfl
theorem ones_pa (xs:List PA):∀ u∈xs.flatMap paC,jF u=true:=by
  intro u hu
  obtain⟨r,_,hr⟩:=List.mem_flatMap.1 hu
  simp at hr
  rcases hr with rfl|rfl<;>rfl
theorem fD.at_ {V:aE} {A:Option Addr} {n:Nat} {xs:List PA} (h:fD V A n xs) {k:Nat} (hk:k<n):∃ b off a,A=some ⟨b,off,none⟩∧xs[k]?=some a∧aD V b (off+k * 2) [.string a.n,.string a.v]∧V ⟨b,off+k * 2+0,none⟩=some (.string a.n)∧V ⟨b,off+k * 2+1,none⟩=some (.string a.v)∧a.n.size≤9223372036854775807∧a.v.size≤9223372036854775807:=by
  obtain⟨b,off,r,ha,hx,hc⟩:=h.1.at_ hk
  have:=h.2 r (List.mem_of_getElem? hx)
  unfold maxLen at this
  exact⟨b,off,r,ha,hx,hc,hc 0 _ rfl,hc 1 _ rfl,by omega,by omega⟩
theorem fD.prev {V:aE} {b off n k:Nat} {xs:List PA} (h:fD V (some ⟨b,off,none⟩) n xs) (hk:k<n) (h0:¬k=0):∃ y,xs[k - 1]?=some y∧V ⟨b,off+((k:Int) - 1).toNat * 2+0,none⟩=some (.string y.n):=by
  obtain⟨b',off',z,he,hz,_,hc,_⟩:=h.at_ (k:=k - 1) (by omega)
  cases he
  exact⟨z,hz,by rw [show ((k:Int) - 1).toNat=k - 1 by omega];exact hc⟩
theorem aF_all {xs:List PA} (h:¬4<xs.length):fJ xs=aF none xs:=by unfold fJ;rw [if_neg h]
attribute [local irreducible] AtQ GoC GoL GoW QO QP Fn RV bF aD VLe bU bA
theorem lH (V:aE) (A:Option Addr) (n c:Nat) (xs:List PA) (h:fD V A n xs):Fn Tryz.prog 157 [.slice A n c] V fun v _=>v=bA (fJ xs):=by
  have hm:=h.1.max
  have hl:=h.1.1
  (refine aN Tryz.func157 rfl Tryz.ntmps157 rfl ?_;intro w0)
  repeat' (first|(refine aG ?_;refine pu9 ?_)|refine cM ?_|(refine aA rfl ?_ ?_<;>intro hq<;>try exact no9))
  all_goals try ((refine aR Tryz.results157 (aB rfl) ?_);refine cP 2 (by unfold fJ;rw [if_pos (by omega)]))
  rw [aF_all (by omega)]
  refine bZ (fun F V' L' m=>∃ k:Nat,k≤n∧m=n - k∧V=V'∧[]=L'∧aF none xs=aF (prevA xs k) (xs.drop k)∧F=[(0,.slice A n c),(9,.slice A n c),(10,.int .i64 n),(11,.int .i64 k)]) (m:=n) ⟨0,Nat.zero_le _,by omega,rfl,rfl,rfl,rfl⟩ bG rfl sl9 ?_
  rintro F V' L' m ⟨k,hk,rfl,rfl,rfl,hg,rfl⟩
  by_cases hlt:k<n
  · obtain⟨bb,off,a,rfl,hx,hc,c0,c1,w0',w1⟩:=h.at_ hlt
    rw [hg,nV hx]
    by_cases h0:k=0
    · subst h0
      repeat' (first|(refine aG ?_;first|(refine aC ?_;refine aO rfl (aK ⟨Tryz.call108⟩ rfl (kV _ a.n (by omega))) ?_)|refine st9 ?_|(refine al9 ?_;intro γ)|refine pu9 ?_)|refine dL ?_|(refine aA rfl ?_ ?_<;>intro hq<;>try exact no9)|refine cO (id:=10) mixed (by kernel_rfl) ?_)
      all_goals first
        | ((refine aR Tryz.results157 (aB rfl) ?_);exact cP 4 (aF_name (by assumption)))
        | ((refine aR Tryz.results157 (aB rfl) ?_);exact cP 1 (aF_big (by assumption) (by omega)))
        | (refine aY _ (n - (0+1)) ⟨0+1,by omega,rfl,rfl,rfl,?_,rfl⟩ (by omega) bG sl9
           rw [show prevA xs 0=none from rfl,aF_first (by assumption) (by omega),prevA_succ,hx];rfl)
    · obtain⟨y,hy,hcy⟩:=h.prev hlt h0
      rw [prevA_pos h0,hy]
      repeat' (first|(refine aG ?_;first|(refine aC ?_;refine aO rfl (aK ⟨Tryz.call108⟩ rfl (kV _ a.n (by omega))) ?_)|(refine bK ?_;refine aI (q_sgeq rfl rfl) ?_)|refine st9 ?_|(refine al9 ?_;intro γ)|refine pu9 ?_)|refine cM ?_|(refine aJ rfl rfl rfl ?_ ?_<;>intro hq<;>try exact no9)|(refine aA rfl ?_ ?_<;>intro hq<;>try exact no9)|refine cO (id:=10) mixed (by kernel_rfl) ?_)
      all_goals first
        | ((refine aR Tryz.results157 (aB rfl) ?_);exact cP 4 (aF_name (by assumption)))
        | ((refine aR Tryz.results157 (aB rfl) ?_);exact cP 1 (aF_big (by assumption) (by omega)))
        | ((refine aR Tryz.results157 (aB rfl) ?_);exact cP 3 (aF_down (by assumption) (by omega) (by assumption)))
        | (refine aY _ (n - (k+1)) ⟨k+1,by omega,rfl,rfl,rfl,?_,rfl⟩ (by omega) bG sl9
           rw [show (some y).map PA.n=some y.n from rfl,aF_on (by assumption) (by omega) (Classical.byContradiction (by assumption)),prevA_succ,hx];rfl)
  · repeat' (first|(refine aG ?_;refine pu9 ?_)|refine eT ?_|(refine aA rfl ?_ ?_<;>intro hq<;>try exact no9))
    (refine aR Tryz.results157 (aB rfl) ?_)
    rw [hg,List.drop_eq_nil_of_le (by omega)]
    exact errV_nil rfl
theorem SameAttrs_c (V:aE) (A B:Option Addr) (n m c1 c2:Nat) (xs ys:List PA) (h:fD V A n xs) (k:fD V B m ys) :
    Fn Tryz.prog 72 [.slice A n c1,.slice B m c2] V fun v _=>v=.bool (decide (xs=ys)):=by
  have hm:=h.1.max
  have hl:=h.1.1
  have hl2:=k.1.1
  (refine aN Tryz.func72 rfl Tryz.ntmps72 rfl ?_;intro w0)
  repeat' (first|(refine aG ?_;first|(refine bK ?_;refine aI (q_aneq ng_222 rfl rfl (eqs_222 ..)) ?_)|refine pu9 ?_)|refine cM ?_|(refine aA rfl ?_ ?_<;>intro hq<;>try exact no9))
  · (refine aR Tryz.results72 (aB rfl) ?_)
    rw [decide_eq_false (fun e=>by subst e;omega)]
  · have hnm:n=m:=by omega
    subst hnm
    refine bZ (fun F V' L' m=>∃ i:Nat,i≤n∧m=n - i∧V=V'∧L'=[]∧xs.take i=ys.take i∧F=[(0,.slice A n c1),(1,.slice B n c2),(5,.int .i64 i)]) (m:=n) ⟨0,Nat.zero_le _,by omega,rfl,rfl,by simp,rfl⟩ bG rfl sl9 ?_
    rintro F V' L' m ⟨i,hi,rfl,rfl,rfl,he,rfl⟩
    by_cases hlt:i<n
    · obtain⟨b1,o1,x,rfl,hx,hcx,_⟩:=h.at_ hlt
      obtain⟨b2,o2,y,rfl,hy,hcy,_⟩:=k.at_ hlt
      repeat' (first|(refine aG ?_;first|(refine bK ?_;refine aI (q_aneq ng_222 rfl rfl (eqs_222 ..)) ?_)|refine pu9 ?_)|refine cM ?_|(refine aA rfl ?_ ?_<;>intro hq<;>try exact no9)|(refine bY rfl ?_ ?_<;>intro hq)|refine cO (id:=6) mixed (by kernel_rfl) ?_)
      · (refine aR Tryz.results72 (aB rfl) ?_)
        rw [decide_eq_false (fun e=>by subst e;rw [hx] at hy;injection hy with hy;subst hy;simp at hq)]
      · refine aY _ (n - (i+1)) ⟨i+1,by omega,rfl,rfl,rfl,?_,rfl⟩ (by omega) bG sl9
        have hxy:x=y:=by
          simp at hq
          exact PA.ext hq.1 hq.2
        rw [List.take_add_one,List.take_add_one,he,hx,hy,hxy]
    · repeat' (first|(refine aG ?_;first|(refine bK ?_;refine aI (q_aneq ng_222 rfl rfl (eqs_222 ..)) ?_)|refine pu9 ?_)|refine eT ?_|(refine aA rfl ?_ ?_<;>intro hq<;>try exact no9))
      (refine aR Tryz.results72 (aB rfl) ?_)
      rw [List.take_of_length_le (by omega),List.take_of_length_le (by omega)] at he
      rw [decide_eq_true he]
def oT (xs:List PA):Bool:=decide (xs.length≤8) && xs.all fun a=>decide (a.n.size≤60) && decide (a.v.size≤60)
theorem light_snoc {xs:List PA} {k:Nat} {a:PA} (h:xs[k]?=some a) (h1:(xs.take k).all (fun a=>decide (a.n.size≤60) && decide (a.v.size≤60))=true) (h2:a.n.size≤60) (h3:a.v.size≤60):(xs.take (k+1)).all (fun a=>decide (a.n.size≤60) && decide (a.v.size≤60))=true:=by
  rw [List.take_add_one,h,List.all_append,h1];simp [h2,h3]
theorem light_bad {xs:List PA} {k:Nat} {a:PA} (h:xs[k]?=some a) (h2:60<a.n.size∨60<a.v.size):oT xs=false:=by
  cases hb:oT xs
  · rfl
  · unfold oT at hb
    rw [Bool.and_eq_true,List.all_eq_true] at hb
    have:=hb.2 a (List.mem_of_getElem? h)
    simp at this;omega
theorem lightAttrs_c (V:aE) (A:Option Addr) (n c:Nat) (xs:List PA) (h:fD V A n xs):Fn Tryz.prog 142 [.slice A n c] V fun v _=>v=.bool (oT xs):=by
  have hm:=h.1.max
  have hl:=h.1.1
  (refine aN Tryz.func142 rfl Tryz.ntmps142 rfl ?_;intro w0)
  repeat' (first|(refine aG ?_;refine pu9 ?_)|refine cM ?_|(refine aA rfl ?_ ?_<;>intro hq<;>try exact no9))
  · (refine aR Tryz.results142 (aB rfl) ?_)
    rw [oT,decide_eq_false (by omega)];rfl
  · refine bZ (fun F V' L' m=>∃ k:Nat,k≤n∧m=n - k∧V=V'∧[]=L'∧(xs.take k).all (fun a=>decide (a.n.size≤60) && decide (a.v.size≤60))=true∧F=[(0,.slice A n c),(3,.int .i64 k)]) (m:=n) ⟨0,Nat.zero_le _,by omega,rfl,rfl,by simp,rfl⟩ bG rfl sl9 ?_
    rintro F V' L' m ⟨k,hk,rfl,rfl,rfl,ha,rfl⟩
    by_cases hlt:k<n
    · obtain⟨bb,off,a,rfl,hx,hc,c0,c1,w0',w1⟩:=h.at_ hlt
      repeat' (first|(refine aG ?_;refine pu9 ?_)|refine dL ?_|(refine aJ rfl rfl rfl ?_ ?_<;>intro hq<;>try exact no9)|(refine aA rfl ?_ ?_<;>intro hq<;>try exact no9))
      all_goals first
        | ((refine aR Tryz.results142 (aB rfl) ?_);rw [light_bad hx (by omega)];done)
        | (refine aY _ (n - (k+1)) ⟨k+1,by omega,rfl,rfl,rfl,light_snoc hx ha (by omega) (by omega),rfl⟩ (by omega) bG sl9)
    · repeat' (first|(refine aG ?_;refine pu9 ?_)|refine eT ?_|(refine aA rfl ?_ ?_<;>intro hq<;>try exact no9))
      (refine aR Tryz.results142 (aB rfl) ?_)
      rw [List.take_of_length_le (by omega)] at ha
      rw [oT,ha,decide_eq_true (by omega)];rfl
end
section
def jK (h:Hd) (ks:PKs):Prop:=oT h.attrs=true∧h.data.size≤300∧ks.length≤80∧∀ k∈ks,k.1.size≤60
structure LN where
  h:Hd
  A:Option Addr
  na:Nat
  ca:Nat
  K:Option Addr
  nk:Nat
  ck:Nat
  ks:PKs
def LN.n (x:LN):PN:=.mk x.h x.ks
abbrev lnC (x:LN):List Value:=[.int .i64 x.h.kind,.int .i64 x.h.mode,.int .i64 x.h.user,.int .i64 x.h.group,.bool x.h.opq,.slice x.A x.na x.ca,.string x.h.data,.slice x.K x.nk x.ck]
abbrev lnV (x:LN):Value:=.agg #[.int .i64 x.h.kind,.int .i64 x.h.mode,.int .i64 x.h.user,.int .i64 x.h.group,.bool x.h.opq,.slice x.A x.na x.ca,.string x.h.data,.slice x.K x.nk x.ck]
structure LK where
  nm:ByteArray
  x:LN
abbrev lkC (e:LK):List Value:=[.string e.nm,.int .i64 e.x.h.kind,.int .i64 e.x.h.mode,.int .i64 e.x.h.user,.int .i64 e.x.h.group,.bool e.x.h.opq,.slice e.x.A e.x.na e.x.ca,.string e.x.h.data,.slice e.x.K e.x.nk e.x.ck]
def kz (e:LK):ByteArray×PN:=(e.nm,e.x.n)
theorem uR (e:LK):(lkC e).length=9:=rfl
theorem wZ (l:List LK):∀ u∈l.flatMap lkC,jF u=true:=fun u hu=>by
  obtain⟨r,_,hr⟩:=List.mem_flatMap.1 hu
  simp only [List.mem_cons,List.not_mem_nil,or_false] at hr
  rcases hr with rfl|rfl|rfl|rfl|rfl|rfl|rfl|rfl|rfl<;>rfl
inductive aT (V:aE):LN→Prop
  | mk (x:LN) (es:List LK) (ha:fD V x.A x.na x.h.attrs) (hca:x.na≤x.ca) (hd:x.h.data.size≤maxLen) (hk:fB V 9 lkC x.K x.nk es) (hck:x.nk≤x.ck) (hks:x.ks=es.map kz) (hn:∀ e∈es,e.nm.size≤maxLen) (hs:∀ e∈es,aT V e.x):aT V x
def fA (V:aE) (K:Option Addr) (n:Nat) (es:List LK):Prop:=fB V 9 lkC K n es∧∀ e∈es,e.nm.size≤maxLen∧aT V e.x
theorem aT.inv {V:aE} {x:LN} (h:aT V x):fD V x.A x.na x.h.attrs∧x.na≤x.ca∧x.h.data.size≤maxLen∧x.nk≤x.ck∧∃ es,fA V x.K x.nk es∧x.ks=es.map kz:=by
  cases h with
  | mk x es ha hca hd hk hck hks hn hs=>exact⟨ha,hca,hd,hck,es,⟨hk,fun e he=>⟨hn e he,hs e he⟩⟩,hks⟩
theorem aT.of {V:aE} {x:LN} {es:List LK} (ha:fD V x.A x.na x.h.attrs) (hca:x.na≤x.ca) (hd:x.h.data.size≤maxLen) (hck:x.nk≤x.ck) (hk:fA V x.K x.nk es) (hks:x.ks=es.map kz):aT V x :=
  .mk x es ha hca hd hk.1 hck hks (fun e he=>(hk.2 e he).1) (fun e he=>(hk.2 e he).2)
theorem aT.ind {V:aE} {C:LN→Prop} (step:∀ x es,fD V x.A x.na x.h.attrs→x.na≤x.ca→x.h.data.size≤maxLen→x.nk≤x.ck→fA V x.K x.nk es→x.ks=es.map kz→(∀ e∈es,C e.x)→C x) {x:LN} (h:aT V x):C x:=by
  induction h with
  | mk x es ha hca hd hk hck hks hn hs ih=>exact step x es ha hca hd hck ⟨hk,fun e he=>⟨hn e he,hs e he⟩⟩ hks ih
theorem aT.le {V V':aE} (hv:VLe V V') {x:LN} (h:aT V x):aT V' x:=by
  induction h with
  | mk x es ha hca hd hk hck hks hn hs ih=>exact .mk x es (ha.le hv) hca hd (hk.le hv) hck hks hn ih
theorem fA.le {V V':aE} {K:Option Addr} {n:Nat} {es:List LK} (hv:VLe V V') (h:fA V K n es):fA V' K n es:=⟨h.1.le hv,fun e he=>⟨(h.2 e he).1,(h.2 e he).2.le hv⟩⟩
theorem aD.tail {V:aE} {b o:Nat} {c:Value} {cs:List Value} (h:aD V b o (c :: cs)):aD V b (o+1) cs:=fun j v hj=>by
  have:=h (j+1) v (by simpa using hj)
  rw [show o+1+j=o+(j+1) by omega];exact this
theorem fA.at_ {V:aE} {K:Option Addr} {n:Nat} {es:List LK} (h:fA V K n es) {k:Nat} (hk:k<n):∃ b off e,K=some ⟨b,off,none⟩∧es[k]?=some e∧e∈es∧aD V b (off+k * 9) (lkC e)∧V ⟨b,off+k * 9+0,none⟩=some (.string e.nm)∧aD V b (off+k * 9+1) (lnC e.x)∧e.nm.size≤9223372036854775807∧aT V e.x:=by
  obtain⟨b,off,e,ha,hx,hc⟩:=h.1.at_ hk
  have hm:=List.mem_of_getElem? hx
  have:=h.2 e hm
  have h1:=this.1
  unfold maxLen at h1
  exact⟨b,off,e,ha,hx,hm,hc,hc 0 _ rfl,hc.tail,by omega,this.2⟩
theorem fA.len {V:aE} {K:Option Addr} {n:Nat} {es:List LK} (h:fA V K n es):es.length=n:=h.1.1
theorem fA.max {V:aE} {K:Option Addr} {n:Nat} {es:List LK} (h:fA V K n es):n≤9223372036854775807:=h.1.max
theorem kz_at {es:List LK} {ks:PKs} (h:ks=es.map kz) {k:Nat} {e:LK} (he:es[k]?=some e):ks[k]?=some (e.nm,e.x.n):=by
  subst h;rw [List.getElem?_map,he];rfl
theorem take_next {α:Type} {xs ys:List α} {k:Nat} {a b:α} (hx:xs[k]?=some a) (hy:ys[k]?=some b) (h:xs.take k=ys.take k) (e:a=b):xs.take (k+1)=ys.take (k+1):=by
  rw [List.take_add_one,List.take_add_one,h,hx,hy,e]
noncomputable def sameB (a b:PN):Bool:=@decide (a=b) (Classical.propDecidable _)
theorem pM {a b:PN}:sameB a b=true↔a=b:=by unfold sameB;exact @decide_eq_true_iff _ (Classical.propDecidable _)
theorem sameB_h {x y:LN} (h:¬x.h=y.h):Value.bool false=Value.bool (sameB x.n y.n):=by
  congr 1;symm;rw [←Bool.not_eq_true,pM];intro e;injection e with e1 _;exact h e1
theorem sameB_ks {x y:LN} (h:¬x.ks=y.ks):Value.bool false=Value.bool (sameB x.n y.n):=by
  congr 1;symm;rw [←Bool.not_eq_true,pM];intro e;injection e with _ e2;exact h e2
theorem sameB_yes {x y:LN} (h1:x.h=y.h) (h2:x.ks=y.ks):Value.bool true=Value.bool (sameB x.n y.n):=by
  congr 1;symm;rw [pM];unfold LN.n;rw [h1,h2]
theorem ks_ne {us vs:PKs} {i:Nat} {a b:ByteArray×PN} (ha:us[i]?=some a) (hb:vs[i]?=some b) (h:¬a=b):¬us=vs:=by
  intro e;subst e;rw [ha] at hb;injection hb with hb;exact h hb
attribute [local irreducible] AtQ GoC GoL GoW QO QP Fn RV bF aD VLe bU bA
theorem SameNode_c (V:aE) (x:LN) (hx:aT V x):∀ y:LN,aT V y→Fn Tryz.prog 29 [lnV x,lnV y] V fun v _=>v=.bool (sameB x.n y.n):=by
  refine aT.ind (C:=fun x=>∀ y:LN,aT V y→Fn Tryz.prog 29 [lnV x,lnV y] V fun v _=>v=.bool (sameB x.n y.n)) ?_ hx
  intro x es ha hca hd hck hk hks ih y hy
  obtain⟨ha2,hca2,hd2,hck2,fs,hk2,hks2⟩:=hy.inv
  have hl1:=hk.len
  have hl2:=hk2.len
  have hm1:=hk.max
  have hm2:=hk2.max
  have hz1:x.ks.length=x.nk:=by rw [hks,List.length_map,hl1]
  have hz2:y.ks.length=y.nk:=by rw [hks2,List.length_map,hl2]
  have hsame:=SameAttrs_c V _ _ _ _ x.ca y.ca _ _ ha ha2
  (refine aN Tryz.func29 rfl Tryz.ntmps29 rfl ?_;intro w0)
  repeat' (first|(refine aG ?_;first|(refine bK ?_;refine aI (vT und_4 rfl rfl) ?_)|(refine al9 ?_;intro γ)|refine pu9 ?_)|refine dL ?_|(refine aJ rfl rfl rfl ?_ ?_<;>intro hq<;>try exact no9)|(refine aA rfl ?_ ?_<;>intro hq<;>try exact no9))
  all_goals first
    | ((refine aR Tryz.results29 (aB rfl) ?_);first|exact sameB_h (fun e=>by rw [e] at hq;exact hq rfl)|exact sameB_ks (fun e=>by rw [←hz1,←hz2,e] at hq;exact hq rfl))
    | skip
  have hh:x.h.kind=y.h.kind∧x.h.mode=y.h.mode∧x.h.user=y.h.user∧x.h.group=y.h.group∧x.h.opq=y.h.opq∧x.h.data=y.h.data∧x.nk=y.nk:=by
    refine⟨?_,?_,?_,?_,?_,?_,?_⟩<;>first|omega|(apply Decidable.not_not.1;assumption)
  rename_i γ1 _ _ _ _ _ _
  refine bZ (fun F V' L' m=>∃ k:Nat,V=V'∧[⟨γ,50,lnC y⟩,⟨γ1,50,lnC x⟩]=L'∧k≤x.nk∧m=x.nk - k∧x.ks.take k=y.ks.take k∧F=[(2,.pointer (some ⟨γ1,0,none⟩)),(3,.pointer (some ⟨γ,0,none⟩)),(5,.int .i64 k)]) (m:=x.nk) ⟨0,rfl,rfl,Nat.zero_le _,by omega,rfl,rfl⟩ bG rfl sl9 ?_
  rintro F V' L' m ⟨k,rfl,rfl,hkn,rfl,htk,rfl⟩
  have hxy:x.nk=y.nk:=hh.2.2.2.2.2.2
  by_cases hlt:k<x.nk
  · obtain⟨b1,o1,e,hK1,he,hem,hc,c0,c1,_,hne⟩:=hk.at_ hlt
    obtain⟨b2,o2,f,hK2,hf,hfm,hc',c0',c1',_,hnf⟩:=hk2.at_ (k:=k) (by omega)
    have hcall:=ih e hem f.x hnf
    have hz1:=kz_at hks he
    have hz2:=kz_at hks2 hf
    repeat' (first|(refine aG ?_;first|(refine bK ?_;refine aI (vT und_4 rfl rfl) ?_)|(refine aC ?_;refine aO rfl (aK ⟨Tryz.call29⟩ rfl (hcall)) ?_)|refine pu9 ?_)|refine cM ?_|(refine aA rfl ?_ ?_<;>intro hq<;>try exact no9)|(refine bY rfl ?_ ?_<;>intro hq)|refine cO (id:=6) mixed (by kernel_rfl) ?_|refine cO (id:=8) mixed (by kernel_rfl) ?_)
    all_goals first
      | ((refine aR Tryz.results29 (aB rfl) ?_);first|exact sameB_ks (ks_ne hz1 hz2 (fun e=>hq (congrArg Prod.fst e)))|exact sameB_ks (ks_ne hz1 hz2 (fun e=>by injection e with _ e;rw [pM.2 e] at hq;cases hq)))
      | skip
    have hst:=take_next hz1 hz2 htk (by rw [Prod.mk.injEq];exact⟨Decidable.not_not.1 (by assumption),pM.1 (by simpa using hq)⟩)
    refine aY _ (x.nk - (k+1)) ⟨k+1,rfl,rfl,by omega,rfl,hst,rfl⟩ (by omega) bG sl9
  · repeat' (first|(refine aG ?_;first|(refine bK ?_;refine aI (vT und_4 rfl rfl) ?_)|(refine aC ?_;refine aO rfl (aK ⟨Tryz.call72⟩ rfl (hsame)) ?_)|refine pu9 ?_)|refine eT ?_|(refine aA rfl ?_ ?_<;>intro hq<;>try exact no9))
    all_goals (refine aR Tryz.results29 (aB rfl) ?_)
    have hks:x.ks=y.ks:=by
      rw [List.take_of_length_le (by omega),List.take_of_length_le (by omega)] at htk;exact htk
    by_cases hat:x.h.attrs=y.h.attrs
    · rw [decide_eq_true hat]
      obtain⟨e1,e2,e3,e4,e5,e6,_⟩:=hh
      exact sameB_yes (Hd.ext e1 e2 e3 e4 e5 hat e6) hks
    · rw [decide_eq_false hat]
      exact sameB_h (fun e=>hat (by rw [e]))
end
section
abbrev strC (s:ByteArray):List Value:=[.string s]
def cV (V:aE) (A:Option Addr) (n:Nat) (xs:List ByteArray):Prop:=fB V 1 strC A n xs∧∀ s∈xs,s.size≤maxLen
theorem cV.le {V V':aE} {A:Option Addr} {n:Nat} {xs:List ByteArray} (hv:VLe V V') (h:cV V A n xs):cV V' A n xs:=⟨h.1.le hv,h.2⟩
theorem cV.nil {V:aE} {A:Option Addr}:cV V A 0 []:=⟨fB.nil,by simp⟩
theorem cV.at_ {V:aE} {A:Option Addr} {n:Nat} {xs:List ByteArray} (h:cV V A n xs) {k:Nat} (hk:k<n):∃ b off s,A=some ⟨b,off,none⟩∧xs[k]?=some s∧V ⟨b,off+k * 1,none⟩=some (.string s)∧s.size≤9223372036854775807:=by
  obtain⟨b,off,r,ha,hx,hc⟩:=h.1.at_ hk
  have:=h.2 r (List.mem_of_getElem? hx)
  unfold maxLen at this
  exact⟨b,off,r,ha,hx,hc 0 _ rfl,by omega⟩
attribute [local irreducible] AtQ GoC GoL GoW QO QP Fn RV bF aD VLe bU bA
theorem light_c (V:aE) (x:LN) (hx:aT V x):∀ V',VLe V V'→∀ left:Nat,left≤80→Fn Tryz.prog 81 [lnV x,.int .i64 left] V' fun v _=>∃ r:Nat,v=.int .i64 r∧r≤left∧(0<r→cH jK x.n):=by
  refine aT.ind (C:=fun x=>∀ V',VLe V V'→∀ left:Nat,left≤80→Fn Tryz.prog 81 [lnV x,.int .i64 left] V' fun v _=>∃ r:Nat,v=.int .i64 r∧r≤left∧(0<r→cH jK x.n)) ?_ hx
  intro x es ha hca hd hck hk hks ih V' hV left hleft
  have hl:=hk.len
  have hm:=hk.max
  have hz:x.ks.length=x.nk:=by rw [hks,List.length_map,hl]
  have hla:=lightAttrs_c V' _ _ x.ca _ (ha.le hV)
  have hmd:x.h.data.size≤9223372036854775807:=by unfold maxLen at hd;omega
  (refine aN Tryz.func81 rfl Tryz.ntmps81 rfl ?_;intro w0)
  repeat' (first|(refine aG ?_;first|(refine aC ?_;refine aO rfl (aK ⟨Tryz.call142⟩ rfl (hla)) ?_)|(refine al9 ?_;intro γ)|refine pu9 ?_)|refine dL ?_|(refine aJ rfl rfl rfl ?_ ?_<;>intro hq<;>try exact no9)|(refine cN rfl rfl rfl ?_ ?_<;>intro hq)|(refine aA rfl ?_ ?_<;>intro hq<;>try exact no9))
  all_goals first
    | ((refine aR Tryz.results81 (aB rfl) ?_);exact⟨0,rfl,Nat.zero_le _,fun h=>absurd h (by omega)⟩)
    | skip
  refine bZ (fun F V2 L' m=>∃ (k r:Nat) (R:Int),VLe V V2∧[⟨γ,50,lnC x⟩]=L'∧k≤x.nk∧r≤left∧(0<r→∀ j e,j<k→es[j]?=some e→e.nm.size≤60∧cH jK e.x.n)∧m=x.nk - k∧R=r∧F=[(1,.int .i64 R),(2,.pointer (some ⟨γ,0,none⟩)),(5,.int .i64 k)]) (m:=x.nk) ⟨0,left - 1,(left:Int) - 1,hV,rfl,Nat.zero_le _,by omega,fun _ j e hj=>by omega,by omega,by omega,rfl⟩ bG rfl sl9 ?_
  rintro F V2 L' m ⟨k,r,_,hV2,rfl,hkn,hr,hold,rfl,rfl,rfl⟩
  by_cases hlt:k<x.nk∧0<r
  · obtain⟨b1,o1,e,hK1,he,hem,hc,c0,c1,hms,hne⟩:=(hk.le hV2).at_ hlt.1
    repeat' (first|(refine aG ?_;first|(refine aC ?_;(refine aS rfl ⟨Tryz.call81⟩ rfl rfl (ih e hem _ (by assumption) r (by omega)) ?_;rintro v V3 hV3 ⟨r2,rfl,hr2,hall⟩))|refine pu9 ?_)|refine cM ?_|(refine aJ rfl rfl rfl ?_ ?_<;>intro hq<;>try exact no9)|(refine aA rfl ?_ ?_<;>intro hq<;>try exact no9))
    all_goals first
      | ((refine aR Tryz.results81 (aB rfl) ?_);exact⟨0,rfl,Nat.zero_le _,fun h=>absurd h (by omega)⟩)
      | skip
    refine aY _ (x.nk - (k+1)) ⟨k+1,r2,r2,vl9,rfl,by omega,by omega,fun h j f hj hf=>?_,rfl,rfl,rfl⟩ (by omega) bG sl9
    rcases Nat.lt_or_ge j k with h2|h2
    · exact hold (by omega) j f h2 hf
    · obtain rfl:j=k:=by omega
      rw [he] at hf;injection hf with hf;subst hf
      exact⟨by omega,hall h⟩
  · repeat' (first|(refine aG ?_;refine pu9 ?_)|refine mV ?_|(refine aJ rfl rfl rfl ?_ ?_<;>intro hq<;>try exact no9)|(refine aA rfl ?_ ?_<;>intro hq<;>try exact no9))
    all_goals (refine aR Tryz.results81 (aB rfl) ?_)
    all_goals
      refine⟨r,rfl,hr,fun h=>?_⟩
      refine .mk ⟨by simpa using ‹(!oT x.h.attrs)=false›,by omega,by omega,fun k hk=>?_⟩ fun k hk=>?_
      all_goals
        rw [hks] at hk
        obtain⟨f,hf,rfl⟩:=List.mem_map.1 hk
        obtain⟨j,hj,he⟩:=List.getElem_of_mem hf
        have:=hold h j f (by omega) (by rw [List.getElem?_eq_getElem hj,he])
        first
          | exact this.1
          | exact this.2
theorem Light_c (V:aE) (x:LN) (hx:aT V x):Fn Tryz.prog 34 [lnV x] V fun v _=>∃ b:Bool,v=.bool b∧(b=true→cH jK x.n):=by
  (refine aN Tryz.func34 rfl Tryz.ntmps34 rfl ?_;intro w0)
  repeat' (first|(refine aG ?_;first|(refine aC ?_;(refine aS rfl ⟨Tryz.call81⟩ rfl rfl (light_c V x hx _ vl9 80 (by decide)) ?_;rintro v V3 hV3 ⟨r2,rfl,hr2,hall⟩))|(refine al9 ?_;intro γ)|refine pu9 ?_)|refine bS ?_|fail)
  all_goals (refine aR Tryz.results34 (aB rfl) ?_)
  exact⟨_,rfl,fun h=>hall (by have:=of_decide_eq_true h;omega)⟩
end
section
def eR (h:Hd) (ks:PKs):Prop:=h.attrs.length≤100000∧ks.length≤100000
theorem cH.imp {p q:Hd→PKs→Prop} (hpq:∀ h ks,p h ks→q h ks) {n:PN} (h:cH p n):cH q n:=by
  induction h with
  | mk h1 h2 ih=>exact .mk (hpq _ _ h1) ih
theorem vK {h:Hd} {ks:PKs} (k:jK h ks):eR h ks:=by
  obtain⟨h1,_,h3,_⟩:=k
  unfold oT at h1
  simp at h1
  exact⟨by omega,by omega⟩
def OwnV (V:aE) (y:LN) (es:List LK) (Bs:List Box):Prop :=
  fD V y.A y.na y.h.attrs∧y.na≤y.ca∧y.h.data.size≤maxLen∧cX y.K y.nk y.ck 104 9 (es.flatMap lkC) Bs∧es.length=y.nk∧(∀ e∈es,e.nm.size≤maxLen∧aT V e.x)∧y.ks=es.map kz
theorem wB {V:aE} {A:Option Addr} {n:Nat} {xs:List PA} (hc:fH V 2 A n (xs.flatMap paC)) (hl:xs.length=n) (hm:n≤maxLen) (hg:∀ a∈xs,a.n.size≤maxLen∧a.v.size≤maxLen):fD V A n xs :=
  ⟨fB.of_cells hc pa_len hl hm,hg⟩
theorem OwnV.node {V V':aE} {y:LN} {es:List LK} {Bs:List Box} (h:OwnV V y es Bs) (hV:VLe V V') (hc:fH V' 9 y.K y.nk (es.flatMap lkC)) (hm:y.nk≤maxLen):aT V' y:=by
  obtain⟨h1,h2,h3,h4,h5,h6,h7⟩:=h
  exact aT.of (h1.le hV) h2 h3 h4.cap ⟨fB.of_cells hc uR h5 hm,fun e he=>⟨(h6 e he).1,(h6 e he).2.le hV⟩⟩ h7
theorem OwnV.row {V:aE} {y:LN} {es:List LK} {Bs:List Box} (h:OwnV V y es Bs):cX y.K y.nk y.ck 104 9 (es.flatMap lkC) Bs:=h.2.2.2.1
theorem OwnV.bound {V:aE} {y x:LN} {es:List LK} {Bs:List Box} (h:OwnV V y es Bs) (he:y.n=x.n) (hs:cH eR x.n):y.nk≤maxLen:=by
  have h1:=hs.here.2
  rw [←he] at h1
  obtain⟨_,_,_,_,h5,_,h7⟩:=h
  have h2:y.ks.length≤100000:=h1
  rw [h7,List.length_map] at h2
  unfold maxLen;omega
theorem kz_mem {es:List LK} {ks:PKs} (h:ks=es.map kz) {e:LK} (he:e∈es):(e.nm,e.x.n)∈ks:=by
  subst h;exact List.mem_map_of_mem (f:=kz) he
attribute [local irreducible] AtQ GoC GoL GoW QO QP Fn RV bF aD VLe bU bA
theorem Own_c (V:aE) (x:LN) (hx:aT V x):∀ V',VLe V V'→cH eR x.n→FnB Tryz.prog 39 [lnV x] V' [] fun v V2 Bs=>∃ (y:LN) (es:List LK),v=lnV y∧y.n=x.n∧OwnV V2 y es Bs:=by
  refine aT.ind (C:=fun x=>∀ V',VLe V V'→cH eR x.n→FnB Tryz.prog 39 [lnV x] V' [] fun v V2 Bs=>∃ (y:LN) (es:List LK),v=lnV y∧y.n=x.n∧OwnV V2 y es Bs) ?_ hx
  intro x es ha hca hd hck hk hks ih V' hV hsm
  have hl:=hk.len
  have hm:=hk.max
  have hz:x.ks.length=x.nk:=by rw [hks,List.length_map,hl]
  obtain⟨s1,s2⟩:=hsm.here
  replace s1:x.h.attrs.length≤100000:=s1
  replace s2:x.ks.length≤100000:=s2
  have hal:=ha.1.1
  have hsrc:=(ha.le hV).1.cells pa_len
  have h1:=ones_pa x.h.attrs
  (refine aL Tryz.func39 rfl Tryz.ntmps39 rfl ?_;intro w0)
  repeat' (first|(refine aG ?_;first|(refine aC ?_;(refine bQ rfl und_47 inf_222 rfl rfl rfl cX.nil (cT eL) (nE hsrc) cI (by omega) rfl rfl ?_;intro A1 c1 L1 hr1;rw [Nat.zero_add] at hr1 ⊢;rw [List.nil_append] at hr1))|refine st9 ?_|(refine al9 ?_;intro γ)|refine pu9 ?_)|refine cM ?_|fail)
  rename_i γ1
  have hcap1:=hr1.cap
  refine rG hr1 bD ?_
  intro V2 hV2 hc2
  have ha2:fD V2 A1 x.na x.h.attrs:=wB hc2 hal (by unfold maxLen;omega) ha.2
  refine bZ (fun F V3 L' m=>∃ (k:Nat) (fs:List LK) (A3:Option Addr) (c3:Nat) (L3:List Box),VLe V2 V3∧L3 ++ [⟨γ,50,lnC ⟨hZ,none,0,0,none,0,0,[]⟩⟩,⟨γ1,50,[.int .i64 x.h.kind,.int .i64 x.h.mode,.int .i64 x.h.user,.int .i64 x.h.group,.bool x.h.opq,.slice A1 x.na c1,.string x.h.data,.slice x.K x.nk x.ck]⟩]=L'∧k≤x.nk∧m=x.nk - k∧cX A3 k c3 104 9 (fs.flatMap lkC) L3∧fs.length=k∧fs.map kz=(es.take k).map kz∧(∀ f∈fs,f.nm.size≤maxLen∧aT V3 f.x)∧F=[(1,.pointer (some ⟨γ1,0,none⟩)),(2,.pointer (some ⟨γ,0,none⟩)),(3,.slice A3 k c3),(11,.slice x.K x.nk x.ck),(12,.int .i64 x.nk),(13,.int .i64 k)]) (m:=x.nk) ⟨0,[],none,0,[],VLe.refl _,rfl,Nat.zero_le _,by omega,cX.nil,rfl,rfl,by simp,rfl⟩ bG rfl sl9 ?_
  rintro F V3 L' m ⟨k,fs,A3,c3,L3,hV3,rfl,hkn,rfl,hr3,hfl,hfm,hfn,rfl⟩
  by_cases hlt:k<x.nk
  · obtain⟨b1,o1,e,hK1,he,hem,hc,c0,c1',hms,hne⟩:=((hk.le hV).le (VLe.trans hV2 hV3)).at_ hlt
    have hse:cH eR e.x.n:=hsm.kid (kz_mem hks hem)
    repeat' (first|(refine aG ?_;first|refine st9 ?_|(refine al9 ?_;intro γ)|refine pu9 ?_)|refine cM ?_|(refine aA rfl ?_ ?_<;>intro hq<;>try exact no9))
    refine bT (id:=6) _ mixed (List.Sublist.cons_cons _ (List.nil_sublist _)) ?_;refine gt9 0 ?_;refine gt9 1 ?_;refine gt9 2 ?_;refine gt9 3 ?_;refine gt9 4 ?_;refine bM (i:=5) rfl ?_;(refine aM rfl ⟨Tryz.call39⟩ rfl bD rfl (ih e hem _ vl9 hse) ?_;rintro v V4 B4 hV4 ⟨y,gs,rfl,hyn,hO⟩;refine gl_shut rfl hO.row bD ?_;intro V5 hV5 hc5;have hyN:=hO.node hV5 hc5 (hO.bound hyn hse));refine gt9 6 ?_;refine bM (i:=7) rfl ?_;(refine aZ rfl und_48 siz_104 zec_104 rfl rfl rfl rfl rfl rfl rfl ?_;intro γ);refine bM (i:=8) rfl ?_;(refine bQ rfl und_48 inf_104 rfl rfl rfl hr3 bD (fY bN rfl) cI (by omega) rfl rfl ?_;intro A4 c4 L4 hr4);refine gt9 9 ?_;refine bC (by kernel_rfl) vl9 vl9 cC ?_
    repeat' (first|(refine aG ?_;refine pu9 ?_)|refine bS ?_|fail)
    refine aY _ (x.nk - (k+1)) ⟨k+1,fs ++ [⟨e.nm,y⟩],A4,c4,L4,vl9,rfl,by omega,rfl,by rw [List.flatMap_append];exact hr4,by rw [List.length_append,hfl];rfl,?_,?_,rfl⟩ (by omega) bG sl9
    · rw [List.map_append,hfm,List.take_add_one,he,List.map_append]
      simp [kz,hyn]
    · intro f hf
      rcases List.mem_append.1 hf with hf|hf
      · exact⟨(hfn f hf).1,(hfn f hf).2.le vl9⟩
      · rw [List.mem_singleton] at hf;subst hf
        exact⟨(hk.2 e hem).1,hyN⟩
  · repeat' (first|(refine aG ?_;first|refine st9 ?_|refine pu9 ?_)|refine eT ?_|(refine aA rfl ?_ ?_<;>intro hq<;>try exact no9))
    all_goals
      (refine aV Tryz.results39 (aU agg_50 rfl bN (by exact rfl)) (List.sublist_append_left _ _) ?_)
      refine⟨⟨x.h,A1,x.na,c1,A3,k,c3,x.ks⟩,fs,rfl,rfl,ha2.le hV3,hcap1,hd,hr3,hfl,hfn,?_⟩
      show x.ks=_
      rw [hks,hfm,List.take_of_length_le (by omega)]
end
section
def lnZ:LN:=⟨hZ,none,0,0,none,0,0,[]⟩
theorem aT.zero {V:aE}:aT V lnZ:=aT.of (es:=[]) fD.nil (Nat.le_refl _) (Nat.zero_le _) (Nat.le_refl _) ⟨fB.nil,by simp⟩ rfl
theorem lt_of_get {α:Type} {xs:List α} {k:Nat} {a:α} (h:xs[k]?=some a):k<xs.length:=by
  rcases Nat.lt_or_ge k xs.length with h2|h2
  · exact h2
  · rw [List.getElem?_eq_none h2] at h;cases h
theorem drop_get {α:Type} {xs:List α} {k:Nat} {a:α} (h:xs[k]?=some a):xs.drop k=a :: xs.drop (k+1):=by
  have hk:=lt_of_get h
  rw [List.drop_eq_getElem_cons hk]
  rw [List.getElem?_eq_getElem hk] at h;injection h with h;rw [h]
attribute [local irreducible] AtQ GoC GoL GoW QO QP Fn RV bF aD VLe bU bA
theorem tplace_c (V:aE) (K:Option Addr) (n c:Nat) (es:List LK) (h:fA V K n es) (ks:PKs) (hks:ks=es.map kz) (s:ByteArray):Fn Tryz.prog 153 [.slice K n c,.string s] V fun v _=>v=.tuple #[.int .i64 (cQ ks s),.bool (kT ks s)]:=by
  have hl:=h.len
  have hm:=h.max
  have hz:ks.length=n:=by rw [hks,List.length_map,hl]
  (refine aN Tryz.func153 rfl Tryz.ntmps153 rfl ?_;intro w0)
  repeat' (first|(refine aG ?_;refine pu9 ?_)|refine cM ?_|fail)
  refine bZ (fun F V' L' m=>∃ (j:Nat) (I R:Int),V=V'∧[]=L'∧j≤n∧j=m∧I=j - 1∧R=((j+gtN (ks.drop j) s:Nat):Int)∧F=[(0,.slice K n c),(1,.string s),(6,.int .i64 R),(7,.int .i64 I)]) (m:=n) ⟨n,_,_,rfl,rfl,Nat.le_refl _,rfl,rfl,by rw [List.drop_of_length_le (by omega)],rfl⟩ bG rfl sl9 ?_
  rintro F V' L' m ⟨j,I,R,rfl,rfl,hj,rfl,hI,hR,rfl⟩
  by_cases hlt:0<j
  · obtain⟨k,rfl⟩:∃ k,j=k+1:=⟨j - 1,by omega⟩
    have hIk:I.toNat=k:=by omega
    obtain⟨b1,o1,e,hK1,he,hem,hc,c0,c1,hms,hne⟩:=h.at_ (k:=k) (by omega)
    have hg:=gt_drop (s:=s) (kz_at hks he)
    rw [←hIk] at c0
    repeat' (first|(refine aG ?_;first|(refine bK ?_;refine aI (q_sgtr rfl rfl) ?_)|refine pu9 ?_)|refine cM ?_|(refine aA rfl ?_ ?_<;>intro hq<;>try exact no9))
    · refine aY _ k ⟨k,_,_,rfl,rfl,by omega,rfl,?_,?_,rfl⟩ (by omega) bG sl9
      · omega
      · rw [hg,if_pos (by assumption)];omega
    · refine aY _ k ⟨k,_,_,rfl,rfl,by omega,rfl,?_,?_,rfl⟩ (by omega) bG sl9
      · omega
      · rw [hg,if_neg (by assumption)];omega
  · obtain rfl:j=0:=by omega
    repeat' (first|(refine aG ?_;refine pu9 ?_)|refine gxrbe9 ?_|(refine aA rfl ?_ ?_<;>intro hq<;>try exact no9))
    refine bZ (fun F V' L' m=>∃ k:Nat,V=V'∧[]=L'∧k≤n∧m=n - k∧(∀ i k',i<k→ks[i]?=some k'→¬k'.1=s)∧F=[(1,.string s),(6,.int .i64 R),(27,.slice K n c),(28,.int .i64 n),(29,.int .i64 k)]) (m:=n) ⟨0,rfl,rfl,Nat.zero_le _,by omega,fun i _ hi=>by omega,rfl⟩ bG rfl sl9 ?_
    rintro F V' L' m ⟨k,rfl,rfl,hkn,rfl,hold,rfl⟩
    by_cases hlt:k<n
    · obtain⟨b1,o1,e,hK1,he,hem,hc,c0,c1,hms,hne⟩:=h.at_ (k:=k) hlt
      have hke:=kz_at hks he
      repeat' (first|(refine aG ?_;first|refine st9 ?_|(refine al9 ?_;intro γ)|refine pu9 ?_)|refine cM ?_|(refine aA rfl ?_ ?_<;>intro hq<;>try exact no9))
      · (refine bL Tryz.results153 (aB rfl) (aB rfl) ?_)
        obtain⟨h1,h2⟩:=at_eq hke (show e.nm=s by assumption) hold
        unfold cQ;rw [h1,if_pos rfl,h2]
      · refine aY _ (n - (k+1)) ⟨k+1,rfl,rfl,by omega,rfl,fun i k' hi hk'=>?_,rfl⟩ (by omega) bG sl9
        rcases Nat.lt_or_ge i k with h2|h2
        · exact hold i k' h2 hk'
        · obtain rfl:i=k:=by omega
          rw [hke] at hk';injection hk' with hk';subst hk';assumption
    · repeat' (first|(refine aG ?_;refine pu9 ?_)|refine eT ?_|(refine aA rfl ?_ ?_<;>intro hq<;>try exact no9))
      (refine bL Tryz.results153 (aB rfl) (aB rfl) ?_)
      have h1:=at_none (ks:=ks) (s:=s) (fun i k' hi hk'=>hold i k' (by omega) hk')
      unfold cQ;rw [h1,if_neg (by decide),hR,List.drop_zero,Nat.zero_add]
theorem findP_no {n:PN} {s:ByteArray} {l:List ByteArray} (h:¬n.h.kind=2∨kT n.ks s=false):eP n (s :: l)=none:=by
  rw [eP,if_neg (fun hh=>by rcases h with h|h;exact h hh.1;rw [h] at hh;cases hh.2)]
theorem findP_yes {n:PN} {s:ByteArray} {l:List ByteArray} {k:ByteArray×PN} (h:n.h.kind=2) (h2:kT n.ks s=true) (hk:n.ks[cQ n.ks s]?=some k):eP n (s :: l)=eP k.2 l:=by
  rw [eP,if_pos ⟨h,h2⟩,hk]
def FindR (r:Option PN) (v:Value) (V':aE):Prop:=∃ z:LN,v=.tuple #[lnV z,.bool r.isSome]∧aT V' z∧z.n=r.getD pnZ
theorem Find_c (V:aE) (x:LN) (hx:aT V x) (hsm:cH eR x.n) (A:Option Addr) (n c:Nat) (xs:List ByteArray) (hs:cV V A n xs):Fn Tryz.prog 100 [lnV x,.slice A n c] V (FindR (eP x.n xs)):=by
  have hl:=hs.1.1
  have hm:=hs.1.max
  (refine aN Tryz.func100 rfl Tryz.ntmps100 rfl ?_;intro w0)
  repeat' (first|(refine aG ?_;first|(refine al9 ?_;intro γ)|refine pu9 ?_)|refine cM ?_|fail)
  rename_i γ1
  refine bZ (fun F V' L' m=>∃ (k:Nat) (y:LN),VLe V V'∧[⟨γ,50,lnC lnZ⟩,⟨γ1,50,lnC y⟩]=L'∧k≤n∧m=n - k∧aT V' y∧cH eR y.n∧eP x.n xs=eP y.n (xs.drop k)∧F=[(2,.pointer (some ⟨γ1,0,none⟩)),(4,.pointer (some ⟨γ,0,none⟩)),(10,.slice A n c),(11,.int .i64 n),(12,.int .i64 k)]) (m:=n) ⟨0,x,VLe.refl _,rfl,Nat.zero_le _,by omega,hx,hsm,rfl,rfl⟩ bG rfl sl9 ?_
  rintro F V' L' m ⟨k,y,hV',rfl,hkn,rfl,hy,hsy,hf,rfl⟩
  by_cases hlt:k<n
  · obtain⟨b1,o1,s,rfl,hxs,hc,hss⟩:=(hs.le hV').at_ hlt
    obtain⟨ha,hca,hd,hck,es,hk,hks⟩:=hy.inv
    rw [drop_get hxs] at hf
    have hzl:y.ks.length=y.nk:=by rw [hks,List.length_map,hk.len]
    have hpl:=xA y.ks s
    repeat' (first|(refine aG ?_;first|(refine aC ?_;refine aO rfl (aK ⟨Tryz.call153⟩ rfl (tplace_c _ _ _ _ es hk _ hks s)) ?_)|refine st9 ?_|refine pu9 ?_)|refine dL ?_|(refine aJ rfl rfl rfl ?_ ?_<;>intro hq<;>try exact no9)|(refine aA rfl ?_ ?_<;>intro hq<;>try exact no9)|(refine bY rfl ?_ ?_<;>intro hq))
    all_goals first
      | ((refine bL Tryz.results100 (aU agg_50 rfl bN (by exact rfl)) (aB rfl) ?_);rw [hf,findP_no (.inl (show ¬y.n.h.kind=2 from hq))];exact⟨lnZ,rfl,aT.zero,rfl⟩)
      | ((refine bL Tryz.results100 (aU agg_50 rfl bN (by exact rfl)) (aB rfl) ?_);rw [hf,findP_no (.inr (show kT y.n.ks s=false by rw [Bool.not_eq_true'] at hq;exact hq))];exact⟨lnZ,rfl,aT.zero,rfl⟩)
      | skip
    have hia:kT y.ks s=true:=by simpa using hq
    have hpl2:=tD hia
    obtain⟨b2,o2,e,hK1,he,hem,hc',c0,c1,hms,hne⟩:=hk.at_ (k:=cQ y.ks s) (by omega)
    have hke:=kz_at hks he
    repeat' (first|(refine aG ?_;first|refine st9 ?_|refine pu9 ?_)|refine bS ?_|fail)
    refine aY _ (n - (k+1)) ⟨k+1,e.x,hV',rfl,by omega,rfl,hne,hsy.kid (List.mem_of_getElem? hke),?_,rfl⟩ (by omega) bG sl9
    rw [hf,findP_yes (n:=y.n) (Decidable.not_not.1 (by assumption)) hia hke]
  · repeat' (first|(refine aG ?_;first|(refine aC ?_;(refine aM rfl ⟨Tryz.call39⟩ rfl bD rfl (Own_c _ y hy _ (VLe.refl _) hsy) ?_;rintro v V4 B4 hV4 ⟨z,gs,rfl,hyn,hO⟩;refine gl_shut rfl hO.row bD ?_;intro V5 hV5 hc5;have hzN:=hO.node hV5 hc5 (hO.bound hyn hsy)))|refine st9 ?_|refine pu9 ?_)|refine eT ?_|(refine aA rfl ?_ ?_<;>intro hq<;>try exact no9))
    all_goals
      (refine bL Tryz.results100 (aU agg_50 rfl bN (by exact rfl)) (aB rfl) ?_)
      rw [List.drop_of_length_le (by omega)] at hf
      rw [hf]
      exact⟨z,rfl,hzN,hyn⟩
end
section
def EditR (cut:Bool) (x:PN) (ks:PKs) (s:ByteArray) (v:Value) (V':aE):Prop :=
  ∃ (K:Option Addr) (n c:Nat) (es:List LK),v=.tuple #[.slice K n c,bA (pA cut ks s)]∧n≤c∧fA V' K n es∧(pA cut ks s=0→es.map kz=nF cut x ks s)
theorem fA.nil {V:aE}:fA V none 0 []:=⟨fB.nil,by simp⟩
theorem fA.take {V:aE} {K:Option Addr} {n k:Nat} {es:List LK} (h:fA V K n es) (hk:k≤n):fA V K k (es.take k):=⟨h.1.take hk,fun e he=>h.2 e (List.mem_of_mem_take he)⟩
theorem fA.drop {V:aE} {K:Option Addr} {n k c:Nat} {es:List LK} (h:fA V K n es) (hk:k≤n) (hc:n≤c):fA V (pX K c k 9) (n - k) (es.drop k):=⟨h.1.drop hk hc,fun e he=>h.2 e (List.mem_of_mem_drop he)⟩
theorem fA.src {B:Base} {V:aE} {L:List Box} {K:Option Addr} {n:Nat} {es:List LK} (h:fA V K n es):bU B V L 9 K n (es.flatMap lkC):=nE (h.1.cells uR)
theorem fA.of {V:aE} {K:Option Addr} {n:Nat} {es:List LK} (hc:fH V 9 K n (es.flatMap lkC)) (hl:es.length=n) (hm:n≤maxLen) (hg:∀ e∈es,e.nm.size≤maxLen∧aT V e.x):fA V K n es:=⟨fB.of_cells hc uR hl hm,hg⟩
theorem edit_cells {es fs:List LK} {e:LK} {l:List Value} (h:l=(es ++ e :: fs).flatMap lkC):l=([] ++ es.flatMap lkC ++ lkC e) ++ fs.flatMap lkC:=by
  rw [h,List.flatMap_append,List.flatMap_cons];simp only [List.nil_append,List.append_assoc]
theorem edit_mem {V V':aE} {K:Option Addr} {n p q:Nat} {es:List LK} {s:ByteArray} {x:LN} (hV:VLe V V') (h:fA V K n es) (hs:s.size≤maxLen) (hx:aT V x):∀ e∈es.take p ++ ⟨s,x⟩ :: es.drop q,e.nm.size≤maxLen∧aT V' e.x:=by
  intro e he
  rcases List.mem_append.1 he with he|he
  · have:=h.2 e (List.mem_of_mem_take he);exact⟨this.1,this.2.le hV⟩
  · rcases List.mem_cons.1 he with rfl|he
    · exact⟨hs,hx.le hV⟩
    · have:=h.2 e (List.mem_of_mem_drop he);exact⟨this.1,this.2.le hV⟩
theorem edit_map {es:List LK} {e:LK} {p q:Nat}:(es.take p ++ e :: es.drop q).map kz=(es.map kz).take p ++ kz e :: (es.map kz).drop q:=by
  rw [List.map_append,List.map_cons,List.map_take,List.map_drop]
theorem editF_put {ks:PKs} {s:ByteArray} (h:fS s.toList=true):pA false ks s=0:=by unfold pA;rw [if_neg (by decide),if_pos h]
theorem editF_name {ks:PKs} {s:ByteArray} (h:fS s.toList=false):pA false ks s=4:=by unfold pA;rw [if_neg (by decide),if_neg (by rw [h];decide)]
theorem editF_cut {ks:PKs} {s:ByteArray} (h:kT ks s=true):pA true ks s=0:=by unfold pA;rw [if_pos rfl,if_pos h]
theorem editF_none {ks:PKs} {s:ByteArray} (h:kT ks s=false):pA true ks s=5:=by unfold pA;rw [if_pos rfl,if_neg (by rw [h];decide)]
attribute [local irreducible] AtQ GoC GoL GoW QO QP Fn RV bF aD VLe bU bA
theorem PutF_c (V:aE) (K:Option Addr) (n c:Nat) (es:List LK) (h:fA V K n es) (hnc:n≤c) (hn:n≤100000) (ks:PKs) (hks:ks=es.map kz) (s:ByteArray) (hs:s.size≤maxLen) (g:Nat) (x:LN) (hg:aD V g 0 (lnC x)) (hx:aT V x):Fn Tryz.prog 155 [.slice K n c,.string s,.pointer (some ⟨g,0,none⟩)] V (EditR false x.n ks s):=by
  have hl:=h.len
  have hm:=h.max
  have hz:ks.length=n:=by rw [hks,List.length_map,hl]
  have hple:=xA ks s
  have hs':s.size≤9223372036854775807:=by unfold maxLen at hs;omega
  have hc1:aD V g 0 (lnC x):=hg
  have o1:=wZ (es.take (cQ ks s))
  have o2:=wZ (es.drop (cQ ks s))
  have o3:=wZ (es.drop (cQ ks s+1))
  cases hnm:fS s.toList with
  | false =>
    have hN:=Name_c V s hs'
    rw [hnm] at hN
    (refine aN Tryz.func155 rfl Tryz.ntmps155 rfl ?_;intro w0)
    repeat' (first|(refine aG ?_;first|(refine aC ?_;refine aO rfl (aK ⟨Tryz.call120⟩ rfl (hN)) ?_)|refine pu9 ?_)|refine bV ?_|fail)
    all_goals
      (refine bL Tryz.results155 (aB rfl) (aB rfl) ?_)
      exact⟨none,0,0,[],by rw [editF_name hnm,bW (by decide)],Nat.le_refl _,fA.nil,fun h0=>by rw [editF_name hnm] at h0;cases h0⟩
  | true =>
    have hN:=Name_c V s hs'
    rw [hnm] at hN
    (refine aN Tryz.func155 rfl Tryz.ntmps155 rfl ?_;intro w0)
    repeat' (first|(refine aG ?_;first|(refine aC ?_;(first|refine aO rfl (aK ⟨Tryz.call120⟩ rfl (hN)) ?_|refine aO rfl (aK ⟨Tryz.call153⟩ rfl (tplace_c _ _ _ _ es h _ hks s)) ?_|(refine bQ rfl und_48 inf_104 rfl rfl rfl cX.nil eL (h.take (k:=cQ ks s) (by omega)).src cI (by omega) rfl rfl ?_;intro A1 c1 L1 hr1)|(refine bQ rfl und_48 inf_104 rfl rfl rfl hr1 bD (fY bN rfl) cI (by omega) rfl rfl ?_;intro A2 c2 L2 hr2)))|(refine fW ?_;(first|refine aI (dY und_48 siz_104 rfl rfl (by omega)) ?_|refine aI (sB und_48 siz_104 rfl rfl (by omega)) ?_))|(refine dC ?_;(refine aZ rfl und_48 siz_104 zec_104 rfl rfl rfl rfl rfl rfl rfl ?_;intro γ))|refine pu9 ?_)|refine bV ?_|(refine bY rfl ?_ ?_<;>intro hq))
    · have hlt:=tD hq
      repeat' (first|(refine aG ?_;first|(refine aC ?_;(refine bQ rfl und_48 inf_104 rfl rfl rfl hr2 bD ((h.drop (k:=cQ ks s+1) (by omega) hnc).src) cI (by omega) rfl rfl ?_;intro A3 c3 L3 hr3))|(refine fW ?_;refine aI (iV und_48 siz_104 rfl rfl (by omega)) ?_)|refine pu9 ?_)|refine gx9 ?_|fail)
      have hr3':cX A3 (0+cQ ks s+1+(n - ((cQ ks s:Int)+1).toNat)) c3 104 9 ((es.take (cQ ks s) ++ ⟨s,x⟩ :: es.drop (cQ ks s+1)).flatMap lkC) L3:=by rw [edit_cells rfl];exact hr3
      refine iJ hr3' bD ?_
      intro V2 hV2 hc2
      (refine bL Tryz.results155 (aB rfl) (aB rfl) ?_)
      refine⟨A3,_,c3,_,by rw [editF_put hnm,bO],hr3'.cap,fA.of hc2 (by simp;omega) (by unfold maxLen;omega) ?_,fun _=>?_⟩
      · exact edit_mem hV2 h hs hx
      · rw [edit_map,←hks];unfold nF;rw [if_pos hq];simp [kz]
    · skip
      repeat' (first|(refine aG ?_;first|(refine aC ?_;(refine bQ rfl und_48 inf_104 rfl rfl rfl hr2 bD ((h.drop (k:=cQ ks s) (by omega) hnc).src) cI (by omega) rfl rfl ?_;intro A3 c3 L3 hr3))|refine pu9 ?_)|refine gx9 ?_|fail)
      have hr3':cX A3 (0+cQ ks s+1+(n - cQ ks s)) c3 104 9 ((es.take (cQ ks s) ++ ⟨s,x⟩ :: es.drop (cQ ks s)).flatMap lkC) L3:=by rw [edit_cells rfl];exact hr3
      refine iJ hr3' bD ?_
      intro V2 hV2 hc2
      (refine bL Tryz.results155 (aB rfl) (aB rfl) ?_)
      refine⟨A3,_,c3,_,by rw [editF_put hnm,bO],hr3'.cap,fA.of hc2 (by simp;omega) (by unfold maxLen;omega) ?_,fun _=>?_⟩
      · exact edit_mem hV2 h hs hx
      · rw [edit_map,←hks];unfold nF;rw [if_neg (show ¬kT ks s=true by rw [hq];decide)];simp [kz]
theorem CutF_c (V:aE) (K:Option Addr) (n c:Nat) (es:List LK) (h:fA V K n es) (hnc:n≤c) (hn:n≤100000) (ks:PKs) (hks:ks=es.map kz) (s:ByteArray) (x:PN):Fn Tryz.prog 183 [.slice K n c,.string s] V (EditR true x ks s):=by
  have hl:=h.len
  have hm:=h.max
  have hz:ks.length=n:=by rw [hks,List.length_map,hl]
  have hple:=xA ks s
  have o1:=wZ (es.take (cQ ks s))
  have o3:=wZ (es.drop (cQ ks s+1))
  have hP:=tplace_c V K n c es h ks hks s
  cases hia:kT ks s with
  | false =>
    rw [hia] at hP
    (refine aN Tryz.func183 rfl Tryz.ntmps183 rfl ?_;intro w0)
    repeat' (first|(refine aG ?_;first|(refine aC ?_;refine aO rfl (aK ⟨Tryz.call153⟩ rfl (hP)) ?_)|refine pu9 ?_)|refine bV ?_|fail)
    all_goals
      (refine bL Tryz.results183 (aB rfl) (aB rfl) ?_)
      exact⟨none,0,0,[],by rw [editF_none hia,bW (by decide)],Nat.le_refl _,fA.nil,fun h0=>by rw [editF_none hia] at h0;cases h0⟩
  | true =>
    rw [hia] at hP
    have hlt:=tD hia
    (refine aN Tryz.func183 rfl Tryz.ntmps183 rfl ?_;intro w0)
    repeat' (first|(refine aG ?_;first|(refine aC ?_;refine aO rfl (aK ⟨Tryz.call153⟩ rfl (hP)) ?_)|refine pu9 ?_)|refine bV ?_|(refine bT (id:=4) _ mixed (List.Sublist.refl _) ?_;refine gt9 0 ?_;refine gt9 1 ?_;refine gO 2 rfl rfl (dY und_48 siz_104 rfl rfl (by omega)) ?_;refine gt9 4 ?_;refine gt9 5 ?_;refine gt9 6 ?_;refine gO 7 rfl rfl (iV und_48 siz_104 rfl rfl (by omega)) ?_;refine bM (i:=3) rfl ?_;(refine bQ rfl und_48 inf_104 rfl rfl rfl cX.nil eL (h.take (k:=cQ ks s) (by omega)).src cI (by omega) rfl rfl ?_;intro A1 c1 L1 hr1);refine bM (i:=8) rfl ?_;(refine bQ rfl und_48 inf_104 rfl rfl rfl hr1 bD ((h.drop (k:=cQ ks s+1) (by omega) hnc).src) cI (by omega) rfl rfl ?_;intro A3 c3 L3 hr3);refine gt9 9 ?_;refine gt9 10 ?_;refine bC (by kernel_rfl) vl9 vl9 cC ?_))
    have hr3':cX A3 (0+cQ ks s+(n - ((cQ ks s:Int)+1).toNat)) c3 104 9 ((es.take (cQ ks s) ++ es.drop (cQ ks s+1)).flatMap lkC) L3:=by rw [List.flatMap_append];exact hr3
    refine iJ hr3' bD ?_
    intro V2 hV2 hc2
    (refine bL Tryz.results183 (aB rfl) (aB rfl) ?_)
    refine⟨A3,_,c3,_,by rw [editF_cut hia,bO],hr3'.cap,fA.of hc2 (by simp;omega) (by unfold maxLen;omega) ?_,fun _=>?_⟩
    · intro e he
      rcases List.mem_append.1 he with he|he
      · have:=h.2 e (List.mem_of_mem_take he);exact⟨this.1,this.2.le hV2⟩
      · have:=h.2 e (List.mem_of_mem_drop he);exact⟨this.1,this.2.le hV2⟩
    · rw [List.map_append,List.map_take,List.map_drop,←hks];unfold nF;rw [if_pos hia];simp
end
section
def midP (h:Hd) (ks:PKs):Prop:=h.attrs.length≤50000∧ks.length≤50000
theorem mid_small {h:Hd} {ks:PKs} (k:midP h ks):eR h ks:=⟨by have:=k.1;omega,by have:=k.2;omega⟩
theorem pO {cut:Bool} {x:PN} {ks:PKs} {s:ByteArray} {k:ByteArray×PN} (h:k∈nF cut x ks s):k∈ks∨k=(s,x):=by
  unfold nF at h
  rcases List.mem_append.1 h with h|h
  · rcases List.mem_append.1 h with h|h
    · exact .inl (List.mem_of_mem_take h)
    · split at h
      · cases h
      · exact .inr (by simpa using h)
  · exact .inl (List.mem_of_mem_drop h)
theorem edit_len {cut:Bool} {x:PN} {ks:PKs} {s:ByteArray}:(nF cut x ks s).length≤ks.length+1:=by
  unfold nF
  have h1:(if cut=true then ([]:PKs) else [(s,x)]).length≤1:=by split<;>simp
  have h2:cQ ks s≤(if kT ks s=true then cQ ks s+1 else cQ ks s):=by split<;>omega
  simp only [List.length_append,List.length_take,List.length_drop]
  omega
theorem edit_small {cut:Bool} {x:PN} {h:Hd} {ks:PKs} {s:ByteArray} (hm:cH midP (.mk h ks)) (hx:cH eR x):cH eR (.mk h (nF cut x ks s)):=by
  have hh:=hm.here
  have hl:ks.length≤50000:=hh.2
  have:=edit_len (cut:=cut) (x:=x) (ks:=ks) (s:=s)
  refine .mk ⟨(mid_small hh).1,by omega⟩ fun k hk=>?_
  rcases pO hk with hk|rfl
  · exact(hm.kid hk).imp fun _ _=>mid_small
  · exact hx
def rR (cut:Bool) (x n:PN) (l:List ByteArray) (v:Value) (V':aE):Prop:=∃ z:LN,v=.tuple #[lnV z,bA (pF cut x n l)]∧aT V' z∧z.n=putP cut x n l
theorem rR.bad {cut:Bool} {x n:PN} {l:List ByteArray} {V':aE} {e:Int} (h:pF cut x n l=e) (h0:¬e=0):rR cut x n l (.tuple #[lnV lnZ,bA e]) V' :=
  ⟨lnZ,by rw [h],aT.zero,by unfold putP;rw [h,if_neg h0];rfl⟩
theorem rR.good {cut:Bool} {x n:PN} {l:List ByteArray} {V':aE} {z:LN} (h:pF cut x n l=0) (hz:aT V' z) (hn:z.n=pN cut x n l):rR cut x n l (.tuple #[lnV z,.nilIface]) V' :=
  ⟨z,by rw [h,bO],hz,by unfold putP;rw [if_pos h,hn]⟩
theorem cV.tail {V:aE} {A:Option Addr} {n c:Nat} {s:ByteArray} {l:List ByteArray} (h:cV V A n (s :: l)) (hc:n≤c):cV V (pX A c 1 1) (n - 1) l :=
  ⟨h.1.drop (k:=1) (by have:=h.1.1;simp at this;omega) hc,fun t ht=>h.2 t (List.mem_cons_of_mem _ ht)⟩
theorem spl_part {α:Type} {f:α→List Value} {sz:Nat} (hf:∀ x,(f x).length=sz) {xs:List α} {rest us:List Value} {k j:Nat} {x y:α} (hx:xs[k]?=some x) (hj:j+us.length≤sz) (hy:spl (f x) j us=f y):spl (xs.flatMap f ++ rest) (0+k * sz+j) us=(xs.set k y).flatMap f ++ rest:=by
  have hk:=lt_of_get hx
  have e:xs=xs.take k ++ x :: xs.drop (k+1):=by rw [←drop_get hx,List.take_append_drop]
  have hl:(xs.take k).length=k:=by rw [List.length_take];omega
  have hl2:((xs.take k).flatMap f).length=k * sz:=by rw [eU f hf,hl]
  have e2:xs.flatMap f ++ rest=(xs.take k).flatMap f ++ (f x ++ ((xs.drop (k+1)).flatMap f ++ rest)):=by
    conv=>lhs;rw [e]
    rw [List.flatMap_append,List.flatMap_cons];simp only [List.append_assoc]
  have e3:(xs.set k y).flatMap f ++ rest=(xs.take k).flatMap f ++ (f y ++ ((xs.drop (k+1)).flatMap f ++ rest)):=by
    rw [List.set_eq_take_append_cons_drop,if_pos hk,List.flatMap_append,List.flatMap_cons];simp only [List.append_assoc]
  rw [e2,e3,←hy]
  have hfx:=hf x
  rw [spl_app _ _ _ (by simp only [List.length_append,hl2,hfx];omega),spl_app _ _ _ (by rw [hfx];omega)]
  rw [show 0+k * sz+j=((xs.take k).flatMap f).length+j by rw [hl2];omega]
  simp only [List.append_assoc]
  rw [List.take_length_add_append,show ((xs.take k).flatMap f).length+j+us.length=((xs.take k).flatMap f).length+(j+us.length) by omega,List.drop_length_add_append,List.take_append_of_le_length (by rw [hfx];omega),List.drop_append_of_le_length (by rw [hfx];omega)]
  simp only [List.append_assoc]
end
section
theorem pF_kind {cut:Bool} {x n:PN} {l:List ByteArray} (h:¬n.h.kind=2):pF cut x n l=7:=by
  match l with
  | []=>rfl
  | [s]=>rw [pF,if_neg h]
  | s :: t :: l=>rw [pF,if_pos h]
theorem pF_one {cut:Bool} {x n:PN} {s:ByteArray} (h:n.h.kind=2):pF cut x n [s]=pA cut n.ks s:=by rw [pF,if_pos h]
theorem pF_none {cut:Bool} {x n:PN} {s t:ByteArray} {l:List ByteArray} (h:n.h.kind=2) (h2:kT n.ks s=false):pF cut x n (s :: t :: l)=5:=by rw [pF,if_neg (by omega),if_neg (by rw [h2];decide)]
theorem pF_on {cut:Bool} {x n:PN} {s t:ByteArray} {l:List ByteArray} {k:ByteArray×PN} (h:n.h.kind=2) (h2:kT n.ks s=true) (hk:n.ks[cQ n.ks s]?=some k):pF cut x n (s :: t :: l)=pF cut x k.2 (t :: l):=by rw [pF,if_neg (by omega),if_pos h2,hk]
theorem pN_on {cut:Bool} {x n:PN} {s t:ByteArray} {l:List ByteArray} {k:ByteArray×PN} (hk:n.ks[cQ n.ks s]?=some k):pN cut x n (s :: t :: l)=.mk n.h (n.ks.set (cQ n.ks s) (k.1,pN cut x k.2 (t :: l))):=by rw [pN,hk]
theorem rR.badI {cut:Bool} {x n:PN} {l:List ByteArray} {V':aE} {e:Int} (h:pF cut x n l=e) (h0:¬e=0):rR cut x n l (.tuple #[lnV lnZ,.iface 99 (.int .i64 e)]) V':=by
  rw [←bW h0];exact rR.bad h h0
theorem kz_back {es:List LK} {ks:PKs} (h:ks=es.map kz) {k:Nat} {u:ByteArray×PN} (hk:ks[k]?=some u):∃ e,es[k]?=some e∧kz e=u:=by
  subst h
  rw [List.getElem?_map] at hk
  cases he:es[k]? with
  | none=>rw [he] at hk;cases hk
  | some e=>rw [he] at hk;exact⟨e,rfl,by simpa using hk⟩
def EditC (V:aE) (f:FuncId) (cs:List Value) (cut:Bool) (x0:PN):Prop :=
  ∀ V',VLe V V'→∀ (K:Option Addr) (n c:Nat) (es:List LK),fA V' K n es→n≤c→n≤100000→∀ (ks:PKs),ks=es.map kz→∀ s:ByteArray,s.size≤maxLen→Fn Tryz.prog f ([.slice K n c,.string s] ++ cs) V' (EditR cut x0 ks s)
attribute [local irreducible] AtQ GoC GoL GoW QO QP Fn RV bF aD VLe bU bA
theorem change_c (V:aE) (f:FuncId) (cs:List Value) (cut:Bool) (x0:PN) (he:lB Tryz.prog f) (hed:EditC V f cs cut x0) (hx0:cH eR x0):∀ (l:List ByteArray) (x:LN) (A:Option Addr) (n c:Nat) (V':aE),VLe V V'→aT V' x→cH midP x.n→cV V' A n l→n≤c →
    Fn Tryz.prog 154 [lnV x,.slice A n c,.func (.func f) #[] cs.toArray] V' (rR cut x0 x.n l):=by
  intro l
  induction l with
  | nil =>
    intro x A n c V' hV hx hmid hs hnc
    have hl:=hs.1.1
    simp at hl
    subst hl
    (refine aN Tryz.func154 rfl Tryz.ntmps154 rfl ?_;intro w0)
    repeat' (first|(refine aG ?_;first|refine st9 ?_|(refine al9 ?_;intro γ)|refine pu9 ?_)|refine bV ?_|(refine aJ rfl rfl rfl ?_ ?_<;>intro hq<;>try exact no9))
    all_goals
      (refine bL Tryz.results154 (aU agg_50 rfl bN (by exact rfl)) (aB rfl) ?_)
      exact rR.badI (V':=V') (cut:=cut) (x:=x0) (n:=x.n) (l:=[]) rfl (by decide)
  | cons s l ih =>
    intro x A n c V' hV hx hmid hs hnc
    have hl:=hs.1.1
    have hm:=hs.1.max
    have hn0:0<n:=by rw [←hl];simp
    obtain⟨b1,o1,s',rfl,hs0,hsc,hss⟩:=hs.at_ hn0
    obtain rfl:s=s':=by simpa using hs0
    have hsm:=hs.2 s (by simp)
    obtain⟨ha,hca,hd,hck,es,hk,hks⟩:=hx.inv
    have hzl:x.ks.length=x.nk:=by rw [hks,List.length_map,hk.len]
    have hmn:=hmid.here
    replace hmn:x.ks.length≤50000:=hmn.2
    have hsmall:=hmid.imp fun _ _=>mid_small
    have hple:=xA x.ks s
    by_cases hkind:x.h.kind=2
    · cases l with
      | nil =>
        have hn1:n=1:=by rw [←hl];rfl
        subst hn1
        have e1:=pF_one (cut:=cut) (x:=x0) (n:=x.n) (s:=s) hkind
        (refine aN Tryz.func154 rfl Tryz.ntmps154 rfl ?_;intro w0)
        repeat' (first|(refine aG ?_;first|(refine al9 ?_;intro γ)|refine pu9 ?_)|refine bV ?_|(refine aJ rfl rfl rfl ?_ ?_<;>intro hq<;>try exact no9))
        refine bT (id:=4) _ mixed (List.Sublist.refl _) ?_;refine gt9 0 ?_;refine gt9 1 ?_;refine gt9 2 ?_;refine gt9 3 ?_;refine gt9 4 ?_;refine gt9 5 ?_;refine bM (i:=6) rfl ?_;(refine gw_callv rfl he rfl rfl rfl (hed V' hV _ _ _ es hk hck (by omega) _ hks s hsm) ?_;rintro v V4 hV4 ⟨K2,n2,c2,es2,rfl,hnc2,hk2,hm2⟩);refine gt9 7 ?_;refine gt9 8 ?_;refine gt9 9 ?_;refine gt9 10 ?_;refine gt9 11 ?_;refine bC (by kernel_rfl) vl9 vl9 cC ?_
        repeat' (first|(refine aG ?_;first|refine st9 ?_|refine pu9 ?_)|refine bS ?_|(refine aA rfl ?_ ?_<;>intro hq<;>try exact no9))
        · (refine bL Tryz.results154 (aU agg_50 rfl bN (by exact rfl)) (aB rfl) ?_)
          exact rR.bad (V':=V4) e1 hq
        · have e0:pA cut x.ks s=0:=Decidable.not_not.1 hq
          have hx':aT V4 ⟨x.h,x.A,x.na,x.ca,K2,n2,c2,nF cut x0 x.ks s⟩:=aT.of (ha.le hV4) hca hd hnc2 hk2 (hm2 e0).symm
          have hs':=edit_small (cut:=cut) (s:=s) hmid hx0
          repeat' (first|(refine aG ?_;first|(refine aC ?_;(refine aM rfl ⟨Tryz.call39⟩ rfl bD rfl (Own_c _ _ hx' _ (VLe.refl _) hs') ?_;rintro v V5 B5 hV5 ⟨z,gs,rfl,hzn,hO⟩;refine gl_shut rfl hO.row bD ?_;intro V6 hV6 hc6;have hzN:=hO.node hV6 hc6 (hO.bound hzn hs')))|refine st9 ?_|refine pu9 ?_)|refine gx9 ?_|fail)
          all_goals
            (refine bL Tryz.results154 (aU agg_50 rfl bN (by exact rfl)) (aB rfl) ?_)
            exact rR.good (n:=x.n) (e1.trans e0) hzN hzn
      | cons t l =>
        have hn2:n=l.length+2:=by rw [←hl];rfl
        (refine aN Tryz.func154 rfl Tryz.ntmps154 rfl ?_;intro w0)
        repeat' (first|(refine aG ?_;first|(refine al9 ?_;intro γ)|refine pu9 ?_)|refine bS ?_|(refine aJ rfl rfl rfl ?_ ?_<;>intro hq<;>try exact no9)|(refine aA rfl ?_ ?_<;>intro hq<;>try exact no9))
        repeat' (first|(refine aG ?_;first|(refine aC ?_;refine aO rfl (aK ⟨Tryz.call153⟩ rfl (tplace_c _ _ _ _ es hk _ hks s)) ?_)|refine st9 ?_|refine pu9 ?_)|refine bS ?_|(refine bY rfl ?_ ?_<;>intro hq)|refine cO (id:=9) mixed (by kernel_rfl) ?_)
        · (refine bL Tryz.results154 (aU agg_50 rfl bN (by exact rfl)) (aB rfl) ?_)
          exact rR.badI (V':=V') (pF_none (n:=x.n) hkind (show kT x.ks s=false by rw [Bool.not_eq_true'] at hq;exact hq)) (by decide)
        · have hia:kT x.ks s=true:=by rw [Bool.not_eq_false'] at hq;exact hq
          have hpl:=tD hia
          obtain⟨b2,o2,e,hK1,he2,hem,hc',c0,c1,hms,hne⟩:=hk.at_ (k:=cQ x.ks s) (by omega)
          have hke:=kz_at hks he2
          have e1:=pF_on (cut:=cut) (x:=x0) (n:=x.n) (s:=s) (t:=t) (l:=l) hkind hia hke
          have e2:=pN_on (cut:=cut) (x:=x0) (n:=x.n) (s:=s) (t:=t) (l:=l) hke
          have htl:=hs.tail hnc
          have hcall:=ih e.x _ _ (c - 1) V' hV hne (hmid.kid (List.mem_of_getElem? hke)) htl (by omega)
          refine bT (id:=12) _ mixed (List.Sublist.refl _) ?_;refine gt9 0 ?_;refine gt9 1 ?_;refine gt9 2 ?_;refine gt9 3 ?_;refine gt9 4 ?_;refine gt9 5 ?_;refine gt9 6 ?_;refine gO 7 rfl rfl (iV und_40 siz_9 rfl rfl (by omega)) ?_;refine gt9 8 ?_;(refine iC (i:=9) (j:=13) (by kernel_rfl) rfl rfl rfl rfl vl9 vl9 cC ?_ ?_<;>first|((refine aS rfl ⟨Tryz.call154⟩ rfl rfl (hcall) ?_;rintro v V4 hV4 ⟨z,rfl,hzN,hzn⟩);refine gt9 10 ?_;refine gt9 11 ?_;refine gt9 12 ?_;refine bM (i:=13) rfl ?_;(refine eN rfl zer_50 rfl ?_;intro γ);refine bM (i:=14) rfl ?_;refine aP rfl siz_50 rfl rfl rfl rfl cI fU rfl ?_;refine gt9 15 ?_;refine bC (by kernel_rfl) vl9 vl9 cC ?_)|((refine eN rfl zer_50 rfl ?_;intro γ);refine bM (i:=9) rfl ?_;(refine aS rfl ⟨Tryz.call154⟩ rfl rfl (hcall) ?_;rintro v V4 hV4 ⟨z,rfl,hzN,hzn⟩);refine gt9 10 ?_;refine gt9 11 ?_;refine gt9 12 ?_;refine bM (i:=14) rfl ?_;refine aP rfl siz_50 rfl rfl rfl rfl cI fU rfl ?_;refine gt9 15 ?_;refine bC (by kernel_rfl) vl9 vl9 cC ?_))
          repeat' (first|(refine aG ?_;first|refine st9 ?_|refine pu9 ?_)|refine bS ?_|(refine aA rfl ?_ ?_<;>intro hq<;>try exact no9))
          all_goals first
            | ((refine bL Tryz.results154 (aU agg_50 rfl bN (by exact rfl)) (aB rfl) ?_);exact rR.bad e1 hq)
            | skip
          all_goals
            have e0:pF cut x0 e.x.n (t :: l)=0:=Decidable.not_not.1 hq
            repeat' (first|(refine aG ?_;first|(refine aC ?_;(refine aM rfl ⟨Tryz.call39⟩ rfl bD rfl (Own_c _ x (hx.le hV4) _ (VLe.refl _) hsmall) ?_;rintro v V5 B5 hV5 ⟨z2,gs,rfl,hzn2,hO⟩;obtain⟨hh2,hk2⟩:=PN.mk.inj hzn2;obtain⟨ha3,hca3,hd3,hr3,hl3,hg3,hks3⟩:=hO;obtain⟨f2,hgf,hf2⟩:=kz_back hks3 (k:=cQ x.ks s) (u:=(e.nm,e.x.n)) (by rw [hk2];exact hke);have hlg:=lt_of_get hgf;obtain⟨g,rest,hK2,rfl,hlen,hcap,hmax⟩:=hr3.open (by omega);have hfit:0+cQ x.ks s * 9+1+(lnC z).length≤(gs.flatMap lkC ++ rest).length:=(by rw [hlen];show 0+cQ x.ks s * 9+1+8≤z2.ck * 9;omega)))|(refine cY ?_;refine aP rfl siz_50 rfl rfl rfl rfl cI puts9 rfl ?_)|refine st9 ?_|(refine al9 ?_;intro γ)|refine pu9 ?_)|refine bS ?_|fail)
            rw [spl_part (f:=lkC) uR (y:=⟨f2.nm,z⟩) hgf (by show 1+8≤9;omega) rfl]
            have hlen':((gs.set (cQ x.ks s) ⟨f2.nm,z⟩).flatMap lkC ++ rest).length=z2.ck * 9:=by rw [List.length_append,eU lkC uR,List.length_set,←eU lkC uR gs,←List.length_append];exact hlen
            refine iJ (cX.close (g:=g) (E:=104) uR (by rw [List.length_set,hl3]) hlen' hcap hmax) bD ?_
            intro V6 hV6 hc6
            rw [←hK2] at hc6
            (refine bL Tryz.results154 (aU agg_50 rfl bN (by exact rfl)) (aB rfl) ?_)
            refine rR.good (z:=⟨z2.h,z2.A,z2.na,z2.ca,z2.K,z2.nk,z2.ck,z2.ks.set (cQ x.ks s) (f2.nm,z.n)⟩) (n:=x.n) (e1.trans e0) (aT.of (ha3.le hV6) hca3 hd3 hcap (fA.of hc6 (by rw [List.length_set,hl3]) (by have h1:z2.ks.length=gs.length:=(by rw [hks3,List.length_map]);rw [hk2] at h1;show z2.nk≤maxLen;unfold maxLen;omega) ?_) ?_) ?_
            · intro u hu
              rcases List.mem_or_eq_of_mem_set hu with hu|rfl
              · exact⟨(hg3 u hu).1,(hg3 u hu).2.le hV6⟩
              · exact⟨(hg3 f2 (List.mem_of_getElem? hgf)).1,hzN.le (VLe.trans hV5 hV6)⟩
            · show z2.ks.set _ _=_
              rw [hks3,List.map_set];rfl
            · rw [e2]
              have hzz:z.n=pN cut x0 e.x.n (t :: l):=by rw [hzn];unfold putP;rw [if_pos e0]
              show PN.mk z2.h (z2.ks.set _ _)=PN.mk x.h (x.ks.set _ _)
              rw [hzz,hh2,hk2]
              have:=congrArg Prod.fst hf2
              simp only [kz] at this
              rw [this]
              rfl
    · (refine aN Tryz.func154 rfl Tryz.ntmps154 rfl ?_;intro w0)
      repeat' (first|(refine aG ?_;first|refine st9 ?_|(refine al9 ?_;intro γ)|refine pu9 ?_)|refine bV ?_|(refine aJ rfl rfl rfl ?_ ?_<;>intro hq<;>try exact no9))
      all_goals
        (refine bL Tryz.results154 (aU agg_50 rfl bN (by exact rfl)) (aB rfl) ?_)
        exact rR.badI (V':=V') (cut:=cut) (x:=x0) (pF_kind (n:=x.n) (l:=s :: l) hkind) (by decide)
end
section
attribute [local irreducible] AtQ GoC GoL GoW QO QP Fn RV bF aD VLe bU bA
theorem putC {V:aE} {g:Nat} {x:LN} (hg:aD V g 0 (lnC x)) (hx:aT V x):EditC V 155 [.pointer (some ⟨g,0,none⟩)] false x.n :=
  fun V' hV' K n c es hk hnc hn ks hks s hs=>PutF_c V' K n c es hk hnc hn ks hks s hs g x (hg.le hV') (hx.le hV')
theorem cutC {V:aE} {x:PN}:EditC V 183 [] true x :=
  fun V' hV' K n c es hk hnc hn ks hks s hs=>CutF_c V' K n c es hk hnc hn ks hks s x
theorem Put_c (V:aE) (x:LN) (hx:aT V x) (hmid:cH midP x.n) (A:Option Addr) (n c:Nat) (l:List ByteArray) (hs:cV V A n l) (hnc:n≤c) (y:LN) (hy:aT V y) (hys:cH eR y.n):Fn Tryz.prog 101 [lnV x,.slice A n c,lnV y] V (rR false y.n x.n l):=by
  (refine aN Tryz.func101 rfl Tryz.ntmps101 rfl ?_;intro w0)
  repeat' (first|(refine aG ?_;first|(refine al9 ?_;intro γ)|refine pu9 ?_)|refine bS ?_|fail)
  refine gw_retire rfl (gB.next _ _ _ _ _ (gB.here _ _ _ _)) ?_
  intro V1 hV1 hg1
  have hC:=putC hg1 (hy.le hV1)
  repeat' (first|(refine aG ?_;first|(refine aC ?_;(refine aS rfl ⟨Tryz.call154⟩ rfl rfl (change_c V1 _ _ false y.n ⟨Tryz.call155⟩ hC hys l x A n c V1 (VLe.refl _) (hx.le hV1) hmid (hs.le hV1) hnc) ?_;rintro v V4 hV4 ⟨z,rfl,hzN,hzn⟩))|refine st9 ?_|refine pu9 ?_)|refine gx9 ?_|fail)
  all_goals
    (refine bL Tryz.results101 (aU agg_50 rfl bN (by exact rfl)) (aB rfl) ?_)
    exact⟨z,rfl,hzN,hzn⟩
theorem Cut_tc (V:aE) (x:LN) (hx:aT V x) (hmid:cH midP x.n) (A:Option Addr) (n c:Nat) (l:List ByteArray) (hs:cV V A n l) (hnc:n≤c):Fn Tryz.prog 152 [lnV x,.slice A n c] V (rR true pnZ x.n l):=by
  (refine aN Tryz.func152 rfl Tryz.ntmps152 rfl ?_;intro w0)
  repeat' (first|(refine aG ?_;first|(refine aC ?_;(refine aS rfl ⟨Tryz.call154⟩ rfl rfl (change_c V _ [] true pnZ ⟨Tryz.call183⟩ cutC (.mk ⟨Nat.zero_le _,Nat.zero_le _⟩ (by simp)) l x A n c V (VLe.refl _) hx hmid hs hnc) ?_;rintro v V4 hV4 ⟨z,rfl,hzN,hzn⟩))|refine st9 ?_|(refine al9 ?_;intro γ)|refine pu9 ?_)|refine bS ?_|fail)
  all_goals
    (refine bL Tryz.results152 (aU agg_50 rfl bN (by exact rfl)) (aB rfl) ?_)
    exact⟨z,rfl,hzN,hzn⟩
end
section
def RPutR (cut:Bool) (x n:PN) (l:List ByteArray) (v:Value) (V':aE):Prop:=∃ z:LN,v=.tuple #[lnV z,.int .i64 (pF cut x n l)]∧aT V' z∧z.n=putP cut x n l
theorem RPutR.bad {cut:Bool} {x n:PN} {l:List ByteArray} {V':aE} {e:Int} (h:pF cut x n l=e) (h0:¬e=0):RPutR cut x n l (.tuple #[lnV lnZ,.int .i64 e]) V' :=
  ⟨lnZ,by rw [h],aT.zero,by unfold putP;rw [h,if_neg h0];rfl⟩
theorem RPutR.good {cut:Bool} {x n:PN} {l:List ByteArray} {V':aE} {z:LN} (h:pF cut x n l=0) (hz:aT V' z) (hn:z.n=pN cut x n l):RPutR cut x n l (.tuple #[lnV z,.int .i64 0]) V' :=
  ⟨z,by rw [h],hz,by unfold putP;rw [if_pos h,hn]⟩
attribute [local irreducible] AtQ GoC GoL GoW QO QP Fn RV bF aD VLe bU bA
end
section
attribute [local irreducible] AtQ GoC GoL GoW QO QP Fn RV bF aD VLe bU bA
end
section
attribute [local irreducible] AtQ GoC GoL GoW QO QP Fn RV bF aD VLe bU bA
end
section
theorem not_t' {b:Bool} (h:(!b)=true):b=false:=by cases b<;>simp_all
theorem not_f' {b:Bool} (h:(!b)=false):b=true:=by cases b<;>simp_all
attribute [local irreducible] AtQ GoC GoL GoW QO QP Fn RV bF aD VLe bU bA
theorem Search_c (V:aE) (n:Nat) (hn:n≤1000000) (f:FuncId) (cs:List Value) (g:Nat→Bool) (he:lB Tryz.prog f) (hmono:∀ i j,i≤j→j<n→g i=true→g j=true)
    (hc:∀ (V':aE) (i:Nat),VLe V V'→i<n→Fn Tryz.prog f (.int .i64 i :: cs) V' fun v _=>v=.bool (g i)) :
    Fn Tryz.prog 184 [.int .i64 n,.func (.func f) #[] cs.toArray] V fun v _=>∃ k:Nat,v=.int .i64 k∧k≤n∧(∀ i,i<k→g i=false)∧∀ i,k≤i→i<n→g i=true:=by
  (refine aN Tryz.func184 rfl Tryz.ntmps184 rfl ?_;intro w0)
  repeat' (first|(refine aG ?_;first|(refine bK ?_;refine aI (q_shr rfl rfl (by omega)) ?_)|refine pu9 ?_)|refine fG ?_|(refine aJ rfl rfl rfl ?_ ?_<;>intro hq<;>try exact no9)|(refine cN rfl rfl rfl ?_ ?_<;>intro hq)|(refine aA rfl ?_ ?_<;>intro hq<;>try exact no9)|(refine bY rfl ?_ ?_<;>intro hq))
  refine bZ (fun F V' L' m=>∃ i j:Nat,i≤j∧j≤n∧m=j - i∧V=V'∧[]=L'∧(∀ t,t<i→g t=false)∧(∀ t,j≤t→t<n→g t=true)∧F=[(1,.func (.func f) #[] cs.toArray),(5,.int .i64 i),(6,.int .i64 j)]) (m:=n) ⟨0,n,Nat.zero_le _,Nat.le_refl _,by omega,rfl,rfl,by omega,by omega,rfl⟩ bG rfl sl9 ?_
  rintro F V' L' m ⟨i,j,hij,hj,rfl,rfl,rfl,h1,h2,rfl⟩
  by_cases hlt:i<j
  · have hh:(((i+j) / 2:Nat):Int)=((i:Int)+j) / 2:=by omega
    have hci:=hc V ((i+j) / 2) (VLe.refl V) (by omega)
    rw [hh] at hci
    repeat' (first|(refine aG ?_;first|(refine bK ?_;(first|refine aI (q_half rfl rfl (by omega)) ?_|refine aI (q_shr rfl rfl (by omega)) ?_))|(refine nQ ?_;(first|refine aI (q_conv und_111 und_3 rfl (wrap_i64 (by omega))) ?_|refine aI (q_conv und_3 und_111 rfl (wrap_u64 (by omega))) ?_))|(refine aC ?_;refine aO rfl (q_callv he rfl rfl (hci)) ?_)|refine pu9 ?_)|refine cM ?_|(refine aA rfl ?_ ?_<;>intro hq<;>try exact no9)|(refine bY rfl ?_ ?_<;>intro hq))
    all_goals first
      | (have hg:g ((i+j) / 2)=false:=by first|assumption|exact not_t' (by assumption)
         rw [←hh]
         refine aY _ (j - ((i+j) / 2+1)) ⟨(i+j) / 2+1,j,by omega,hj,rfl,rfl,rfl,?_,h2,rfl⟩ (by omega) bG sl9
         intro t ht
         by_cases htt:t<i
         · exact h1 t htt
         · cases hgt:g t
           · rfl
           · rw [hmono t ((i+j) / 2) (by omega) (by omega) hgt] at hg;cases hg)
      | (have hg:g ((i+j) / 2)=true:=by first|assumption|exact not_f' (by assumption)
         rw [←hh]
         refine aY _ ((i+j) / 2 - i) ⟨i,(i+j) / 2,by omega,by omega,rfl,rfl,rfl,h1,?_,rfl⟩ (by omega) bG sl9
         intro t ht htn
         exact hmono _ t ht htn hg)
  · have hij:i=j:=by omega
    subst hij
    repeat' (first|(refine aG ?_;first|(refine bK ?_;refine aI (q_shr rfl rfl (by omega)) ?_)|refine pu9 ?_)|refine fG ?_|(refine aJ rfl rfl rfl ?_ ?_<;>intro hq<;>try exact no9)|(refine cN rfl rfl rfl ?_ ?_<;>intro hq)|(refine aA rfl ?_ ?_<;>intro hq<;>try exact no9)|(refine bY rfl ?_ ?_<;>intro hq))
    (refine aR Tryz.results184 (aB rfl) ?_)
    exact⟨i,rfl,hj,h1,h2⟩
end
end Go.Proofs.YtejkmomfpidnbacGreat
