/- Printed by a program of ours: each Go function computes its Lean function. -/
import Derived.Test.YtlfpehhlkccdiaaGreatDoorProg
import Derived.Test.YtlfpehhlkccdiaaGreatDoorWExactDefTextMod
import Derived.Test.YtlfpehhlkccdiaaGreatDoorWExactDefTextLib
namespace Go.Proofs.YtlfpehhlkccdiaaGreatDoor
open Eng
open Go.RowKit (Below)
set_option linter.unusedVariables false
set_option linter.unusedSimpArgs false

set_option maxRecDepth 100000
set_option maxHeartbeats 1000000
theorem mixed : Tryz.prog.follows .mixedOrders = true := by kernel_rfl
theorem Fld_77_2 : Fld Tryz.prog 77 2 2 = true := by kernel_rfl
theorem T1_9 : T1 Tryz.prog 9 = true := by kernel_rfl
theorem Str_9 : Str Tryz.prog 9 = true := by kernel_rfl
theorem Fld_79_1 : Fld Tryz.prog 79 1 1 = true := by kernel_rfl
theorem Fld_79_2 : Fld Tryz.prog 79 2 2 = true := by kernel_rfl
theorem Tn_77 : Tn Tryz.prog 77 3 = true := by kernel_rfl
theorem Fun_105 : Fun Tryz.prog 105 = true := by kernel_rfl
theorem Sl_72 : Sl Tryz.prog 72 79 5 = true := by kernel_rfl
theorem Tn_79 : Tn Tryz.prog 79 5 = true := by kernel_rfl
theorem Fun_73 : Fun Tryz.prog 73 = true := by kernel_rfl
theorem Fld_74_0 : Fld Tryz.prog 74 0 0 = true := by kernel_rfl
theorem Fld_74_1 : Fld Tryz.prog 74 1 1 = true := by kernel_rfl
theorem T1_72 : T1 Tryz.prog 72 = true := by kernel_rfl
theorem Fun_72 : Fun Tryz.prog 72 = true := by kernel_rfl
theorem Sl_22 : Sl Tryz.prog 22 74 3 = true := by kernel_rfl
theorem Tn_74 : Tn Tryz.prog 74 3 = true := by kernel_rfl
theorem Fun_35 : Fun Tryz.prog 35 = true := by kernel_rfl
theorem Fld_81_1 : Fld Tryz.prog 81 1 1 = true := by kernel_rfl
theorem Fld_81_2 : Fld Tryz.prog 81 2 6 = true := by kernel_rfl
theorem Sl_23 : Sl Tryz.prog 23 81 11 = true := by kernel_rfl
theorem Tn_81 : Tn Tryz.prog 81 11 = true := by kernel_rfl
theorem Fun_36 : Fun Tryz.prog 36 = true := by kernel_rfl
theorem Fld_148_0 : Fld Tryz.prog 148 0 0 = true := by kernel_rfl
theorem Fld_148_1 : Fld Tryz.prog 148 1 1 = true := by kernel_rfl
theorem Fld_148_2 : Fld Tryz.prog 148 2 6 = true := by kernel_rfl
theorem Sl_83 : Sl Tryz.prog 83 148 11 = true := by kernel_rfl
theorem Tn_148 : Tn Tryz.prog 148 11 = true := by kernel_rfl
theorem Fun_106 : Fun Tryz.prog 106 = true := by kernel_rfl
theorem Fld_85_1 : Fld Tryz.prog 85 1 1 = true := by kernel_rfl
theorem Fld_85_2 : Fld Tryz.prog 85 2 2 = true := by kernel_rfl
theorem T1_83 : T1 Tryz.prog 83 = true := by kernel_rfl
theorem Fun_74 : Fun Tryz.prog 74 = true := by kernel_rfl
theorem Fld_85_4 : Fld Tryz.prog 85 4 4 = true := by kernel_rfl
theorem Sl_24 : Sl Tryz.prog 24 85 5 = true := by kernel_rfl
theorem Tn_85 : Tn Tryz.prog 85 5 = true := by kernel_rfl
theorem Fun_37 : Fun Tryz.prog 37 = true := by kernel_rfl
theorem Fld_26_0 : Fld Tryz.prog 26 0 0 = true := by kernel_rfl
theorem Fld_26_2 : Fld Tryz.prog 26 2 2 = true := by kernel_rfl
theorem T1_22 : T1 Tryz.prog 22 = true := by kernel_rfl
theorem Fun_15 : Fun Tryz.prog 15 = true := by kernel_rfl
theorem Fld_26_3 : Fld Tryz.prog 26 3 3 = true := by kernel_rfl
theorem T1_23 : T1 Tryz.prog 23 = true := by kernel_rfl
theorem Fun_16 : Fun Tryz.prog 16 = true := by kernel_rfl
theorem Fld_26_4 : Fld Tryz.prog 26 4 4 = true := by kernel_rfl
theorem T1_24 : T1 Tryz.prog 24 = true := by kernel_rfl
theorem Fun_17 : Fun Tryz.prog 17 = true := by kernel_rfl
theorem Sl_37 : Sl Tryz.prog 37 26 5 = true := by kernel_rfl
theorem Tn_26 : Tn Tryz.prog 26 5 = true := by kernel_rfl
theorem Fun_5 : Fun Tryz.prog 5 = true := by kernel_rfl
theorem Fld_39_0 : Fld Tryz.prog 39 0 0 = true := by kernel_rfl
theorem Fld_39_1 : Fld Tryz.prog 39 1 1 = true := by kernel_rfl
theorem T1_37 : T1 Tryz.prog 37 = true := by kernel_rfl
theorem Fun_28 : Fun Tryz.prog 28 = true := by kernel_rfl
theorem Fun_45 : Fun Tryz.prog 45 = true := by kernel_rfl
theorem Ik_3 : Ik Tryz.prog 3 .i64 = true := by kernel_rfl
theorem Ik_5 : Ik Tryz.prog 5 .u8 = true := by kernel_rfl
theorem MC_5_1 : madeCells (Value.int .u8 0 : Value).cells (1 * 1) = #[.int .u8 0] := by kernel_rfl
theorem Sl_62 : Sl Tryz.prog 62 5 1 = true := by kernel_rfl
theorem Zr_5 : (Tryz.prog.info? 5).map (·.zero) = some (some (.int .u8 0)) := by kernel_rfl
theorem Fun_40 : Fun Tryz.prog 40 = true := by kernel_rfl
theorem Fun_77 : Fun Tryz.prog 77 = true := by kernel_rfl
theorem Fun_134 : Fun Tryz.prog 134 = true := by kernel_rfl
theorem Fld_100_0 : Fld Tryz.prog 100 0 0 = true := by kernel_rfl
theorem T1_3 : T1 Tryz.prog 3 = true := by kernel_rfl
theorem Fld_100_1 : Fld Tryz.prog 100 1 1 = true := by kernel_rfl
theorem Fld_100_2 : Fld Tryz.prog 100 2 2 = true := by kernel_rfl
theorem Fun_135 : Fun Tryz.prog 135 = true := by kernel_rfl
theorem Fld_102_2 : Fld Tryz.prog 102 2 2 = true := by kernel_rfl
theorem Tn_100 : Tn Tryz.prog 100 3 = true := by kernel_rfl
theorem Pl_100 : Pl Tryz.prog 100 #[(0, 1), (1, 1), (2, 1)] = true := by kernel_rfl
theorem Zr_100 : (Tryz.prog.info? 100).map (·.zero) = some (some (.agg #[.int .i64 0, .int .i64 0, .string ⟨#[]⟩])) := by kernel_rfl
theorem EqT_100 : EqT Tryz.prog 100 [.i .i64, .i .i64, .s] = true := by kernel_rfl
theorem Fld_102_0 : Fld Tryz.prog 102 0 0 = true := by kernel_rfl
theorem Fld_102_1 : Fld Tryz.prog 102 1 1 = true := by kernel_rfl
theorem Fun_123 : Fun Tryz.prog 123 = true := by kernel_rfl
theorem Fun_124 : Fun Tryz.prog 124 = true := by kernel_rfl
theorem Fld_98_1 : Fld Tryz.prog 98 1 1 = true := by kernel_rfl
theorem T1_96 : T1 Tryz.prog 96 = true := by kernel_rfl
theorem Sl_96 : Sl Tryz.prog 96 102 5 = true := by kernel_rfl
theorem Tn_102 : Tn Tryz.prog 102 5 = true := by kernel_rfl
theorem Fun_107 : Fun Tryz.prog 107 = true := by kernel_rfl
theorem Fld_98_0 : Fld Tryz.prog 98 0 0 = true := by kernel_rfl
theorem Fun_39 : Fun Tryz.prog 39 = true := by kernel_rfl
theorem Fun_109 : Fun Tryz.prog 109 = true := by kernel_rfl
theorem Tn_98 : Tn Tryz.prog 98 3 = true := by kernel_rfl
theorem Fun_78 : Fun Tryz.prog 78 = true := by kernel_rfl
theorem Fld_98_2 : Fld Tryz.prog 98 2 2 = true := by kernel_rfl
theorem T1_4 : T1 Tryz.prog 4 = true := by kernel_rfl
theorem Fun_82 : Fun Tryz.prog 82 = true := by kernel_rfl
theorem Fld_104_0 : Fld Tryz.prog 104 0 0 = true := by kernel_rfl
theorem Fld_104_1 : Fld Tryz.prog 104 1 1 = true := by kernel_rfl
theorem Fld_104_2 : Fld Tryz.prog 104 2 6 = true := by kernel_rfl
theorem Tn_104 : Tn Tryz.prog 104 11 = true := by kernel_rfl
theorem Fun_79 : Fun Tryz.prog 79 = true := by kernel_rfl
theorem MC_9_3 : madeCells (Value.string ⟨#[]⟩ : Value).cells (3 * 1) = #[.string ⟨#[]⟩, .string ⟨#[]⟩, .string ⟨#[]⟩] := by kernel_rfl
theorem Sl_86 : Sl Tryz.prog 86 9 1 = true := by kernel_rfl
theorem Zr_9 : (Tryz.prog.info? 9).map (·.zero) = some (some (.string ⟨#[]⟩)) := by kernel_rfl
theorem Fld_129_0 : Fld Tryz.prog 129 0 0 = true := by kernel_rfl
theorem Fld_129_1 : Fld Tryz.prog 129 1 1 = true := by kernel_rfl
theorem Fun_136 : Fun Tryz.prog 136 = true := by kernel_rfl
theorem Fld_129_2 : Fld Tryz.prog 129 2 6 = true := by kernel_rfl
theorem Pl_102 : Pl Tryz.prog 102 #[(0, 1), (1, 1), (2, 3)] = true := by kernel_rfl
theorem Zr_102 : (Tryz.prog.info? 102).map (·.zero) = some (some (.agg #[.int .i64 0, .string ⟨#[]⟩, .int .i64 0, .int .i64 0, .string ⟨#[]⟩])) := by kernel_rfl
theorem EqT_102 : EqT Tryz.prog 102 [.i .i64, .s, .i .i64, .i .i64, .s] = true := by kernel_rfl
theorem Sl_106 : Sl Tryz.prog 106 129 11 = true := by kernel_rfl
theorem Tn_129 : Tn Tryz.prog 129 11 = true := by kernel_rfl
theorem Fun_125 : Fun Tryz.prog 125 = true := by kernel_rfl
theorem Fld_108_1 : Fld Tryz.prog 108 1 1 = true := by kernel_rfl
theorem Fld_108_2 : Fld Tryz.prog 108 2 2 = true := by kernel_rfl
theorem T1_106 : T1 Tryz.prog 106 = true := by kernel_rfl
theorem Fld_108_4 : Fld Tryz.prog 108 4 4 = true := by kernel_rfl
theorem Fld_108_0 : Fld Tryz.prog 108 0 0 = true := by kernel_rfl
theorem Fun_108 : Fun Tryz.prog 108 = true := by kernel_rfl
theorem Fld_108_3 : Fld Tryz.prog 108 3 3 = true := by kernel_rfl
theorem Fun_110 : Fun Tryz.prog 110 = true := by kernel_rfl
theorem Tn_108 : Tn Tryz.prog 108 5 = true := by kernel_rfl
theorem Fun_81 : Fun Tryz.prog 81 = true := by kernel_rfl
theorem Fun_83 : Fun Tryz.prog 83 = true := by kernel_rfl
theorem Fld_33_0 : Fld Tryz.prog 33 0 0 = true := by kernel_rfl
theorem Fld_33_1 : Fld Tryz.prog 33 1 1 = true := by kernel_rfl
theorem Fld_33_2 : Fld Tryz.prog 33 2 2 = true := by kernel_rfl
theorem T1_29 : T1 Tryz.prog 29 = true := by kernel_rfl
theorem Sl_29 : Sl Tryz.prog 29 98 3 = true := by kernel_rfl
theorem Fun_46 : Fun Tryz.prog 46 = true := by kernel_rfl
theorem Fld_33_3 : Fld Tryz.prog 33 3 3 = true := by kernel_rfl
theorem T1_30 : T1 Tryz.prog 30 = true := by kernel_rfl
theorem Sl_30 : Sl Tryz.prog 30 104 11 = true := by kernel_rfl
theorem Fun_47 : Fun Tryz.prog 47 = true := by kernel_rfl
theorem Fld_33_4 : Fld Tryz.prog 33 4 4 = true := by kernel_rfl
theorem T1_31 : T1 Tryz.prog 31 = true := by kernel_rfl
theorem Sl_31 : Sl Tryz.prog 31 108 5 = true := by kernel_rfl
theorem Fun_48 : Fun Tryz.prog 48 = true := by kernel_rfl
theorem MC_9_0 : madeCells (Value.string ⟨#[]⟩ : Value).cells (0 * 1) = #[] := by kernel_rfl
theorem Fun_76 : Fun Tryz.prog 76 = true := by kernel_rfl
theorem MC_9_1 : madeCells (Value.string ⟨#[]⟩ : Value).cells (1 * 1) = #[.string ⟨#[]⟩] := by kernel_rfl
theorem Ei_9 : (Tryz.prog.info? 9).map (fun i => (i.zero, i.size, i.bytes)) = some (some (.string ⟨#[]⟩), 1, 16) := by kernel_rfl
theorem Fun_75 : Fun Tryz.prog 75 = true := by kernel_rfl
theorem Fun_80 : Fun Tryz.prog 80 = true := by kernel_rfl
theorem Tn_33 : Tn Tryz.prog 33 5 = true := by kernel_rfl
theorem Fun_38 : Fun Tryz.prog 38 = true := by kernel_rfl
theorem Fun_41 : Fun Tryz.prog 41 = true := by kernel_rfl
theorem Fun_42 : Fun Tryz.prog 42 = true := by kernel_rfl
theorem Fun_44 : Fun Tryz.prog 44 = true := by kernel_rfl
theorem Fun_43 : Fun Tryz.prog 43 = true := by kernel_rfl
theorem Fld_44_1 : Fld Tryz.prog 44 1 1 = true := by kernel_rfl
theorem T1_42 : T1 Tryz.prog 42 = true := by kernel_rfl
theorem Sl_42 : Sl Tryz.prog 42 33 5 = true := by kernel_rfl
theorem Fun_18 : Fun Tryz.prog 18 = true := by kernel_rfl
theorem Tn_44 : Tn Tryz.prog 44 2 = true := by kernel_rfl
theorem Fun_69 : Fun Tryz.prog 69 = true := by kernel_rfl
theorem Fld_44_0 : Fld Tryz.prog 44 0 0 = true := by kernel_rfl
theorem Fun_29 : Fun Tryz.prog 29 = true := by kernel_rfl
theorem Fun_19 : Fun Tryz.prog 19 = true := by kernel_rfl
theorem Fld_77_0 : Fld Tryz.prog 77 0 0 = true := by kernel_rfl
theorem Sz_3 : Sz Tryz.prog 3 1 = true := by kernel_rfl
theorem Fld_77_1 : Fld Tryz.prog 77 1 1 = true := by kernel_rfl
theorem Sz_9 : Sz Tryz.prog 9 1 = true := by kernel_rfl
theorem Sz_100 : Sz Tryz.prog 100 3 = true := by kernel_rfl
theorem Fld_79_0 : Fld Tryz.prog 79 0 0 = true := by kernel_rfl
theorem Fun_111 : Fun Tryz.prog 111 = true := by kernel_rfl
theorem Sz_102 : Sz Tryz.prog 102 5 = true := by kernel_rfl
theorem By_102 : By Tryz.prog 102 56 = true := by kernel_rfl
theorem Fun_85 : Fun Tryz.prog 85 = true := by kernel_rfl
theorem Zr_98 : (Tryz.prog.info? 98).map (·.zero) = some (some (.agg #[.string ⟨#[]⟩, .slice none 0 0, .bool false])) := by kernel_rfl
theorem Fun_84 : Fun Tryz.prog 84 = true := by kernel_rfl
theorem Sz_96 : Sz Tryz.prog 96 1 = true := by kernel_rfl
theorem Fld_74_2 : Fld Tryz.prog 74 2 2 = true := by kernel_rfl
theorem Sz_4 : Sz Tryz.prog 4 1 = true := by kernel_rfl
theorem Sz_98 : Sz Tryz.prog 98 3 = true := by kernel_rfl
theorem By_98 : By Tryz.prog 98 48 = true := by kernel_rfl
theorem Fun_49 : Fun Tryz.prog 49 = true := by kernel_rfl
theorem Zr_104 : (Tryz.prog.info? 104).map (·.zero) = some (some (.agg #[.int .i64 0, .int .i64 0, .string ⟨#[]⟩, .int .i64 0, .int .i64 0, .string ⟨#[]⟩, .int .i64 0, .string ⟨#[]⟩, .int .i64 0, .int .i64 0, .string ⟨#[]⟩])) := by kernel_rfl
theorem Fld_81_0 : Fld Tryz.prog 81 0 0 = true := by kernel_rfl
theorem Sz_104 : Sz Tryz.prog 104 11 = true := by kernel_rfl
theorem By_104 : By Tryz.prog 104 120 = true := by kernel_rfl
theorem Fun_50 : Fun Tryz.prog 50 = true := by kernel_rfl
theorem Zr_129 : (Tryz.prog.info? 129).map (·.zero) = some (some (.agg #[.string ⟨#[]⟩, .int .i64 0, .string ⟨#[]⟩, .int .i64 0, .int .i64 0, .string ⟨#[]⟩, .int .i64 0, .string ⟨#[]⟩, .int .i64 0, .int .i64 0, .string ⟨#[]⟩])) := by kernel_rfl
theorem Sz_129 : Sz Tryz.prog 129 11 = true := by kernel_rfl
theorem By_129 : By Tryz.prog 129 128 = true := by kernel_rfl
theorem Fun_112 : Fun Tryz.prog 112 = true := by kernel_rfl
theorem Zr_108 : (Tryz.prog.info? 108).map (·.zero) = some (some (.agg #[.int .i64 0, .string ⟨#[]⟩, .slice none 0 0, .int .i64 0, .string ⟨#[]⟩])) := by kernel_rfl
theorem Fld_85_0 : Fld Tryz.prog 85 0 0 = true := by kernel_rfl
theorem Fun_86 : Fun Tryz.prog 86 = true := by kernel_rfl
theorem Sz_106 : Sz Tryz.prog 106 1 = true := by kernel_rfl
theorem Fld_85_3 : Fld Tryz.prog 85 3 3 = true := by kernel_rfl
theorem Sz_108 : Sz Tryz.prog 108 5 = true := by kernel_rfl
theorem By_108 : By Tryz.prog 108 72 = true := by kernel_rfl
theorem Fun_51 : Fun Tryz.prog 51 = true := by kernel_rfl
theorem Zr_33 : (Tryz.prog.info? 33).map (·.zero) = some (some (.agg #[.string ⟨#[]⟩, .int .i64 0, .slice none 0 0, .slice none 0 0, .slice none 0 0])) := by kernel_rfl
theorem Fld_26_1 : Fld Tryz.prog 26 1 1 = true := by kernel_rfl
theorem Fun_20 : Fun Tryz.prog 20 = true := by kernel_rfl
theorem Sz_29 : Sz Tryz.prog 29 1 = true := by kernel_rfl
theorem Fun_21 : Fun Tryz.prog 21 = true := by kernel_rfl
theorem Sz_30 : Sz Tryz.prog 30 1 = true := by kernel_rfl
theorem Fun_22 : Fun Tryz.prog 22 = true := by kernel_rfl
theorem Sz_31 : Sz Tryz.prog 31 1 = true := by kernel_rfl
theorem Sz_33 : Sz Tryz.prog 33 5 = true := by kernel_rfl
theorem By_33 : By Tryz.prog 33 96 = true := by kernel_rfl
theorem Fun_7 : Fun Tryz.prog 7 = true := by kernel_rfl
theorem Zr_44 : (Tryz.prog.info? 44).map (·.zero) = some (some (.agg #[.string ⟨#[]⟩, .slice none 0 0])) := by kernel_rfl
theorem Fun_30 : Fun Tryz.prog 30 = true := by kernel_rfl
theorem Sz_42 : Sz Tryz.prog 42 1 = true := by kernel_rfl
theorem Sz_44 : Sz Tryz.prog 44 2 = true := by kernel_rfl
theorem Fun_87 : Fun Tryz.prog 87 = true := by kernel_rfl
theorem Fun_126 : Fun Tryz.prog 126 = true := by kernel_rfl
theorem Fun_113 : Fun Tryz.prog 113 = true := by kernel_rfl
theorem Fun_88 : Fun Tryz.prog 88 = true := by kernel_rfl
theorem Fun_137 : Fun Tryz.prog 137 = true := by kernel_rfl
theorem Fun_53 : Fun Tryz.prog 53 = true := by kernel_rfl
theorem Fun_127 : Fun Tryz.prog 127 = true := by kernel_rfl
theorem Fun_128 : Fun Tryz.prog 128 = true := by kernel_rfl
theorem Fun_52 : Fun Tryz.prog 52 = true := by kernel_rfl
theorem Fun_114 : Fun Tryz.prog 114 = true := by kernel_rfl
theorem Fun_64 : Fun Tryz.prog 64 = true := by kernel_rfl
theorem Fun_117 : Fun Tryz.prog 117 = true := by kernel_rfl
theorem Fun_89 : Fun Tryz.prog 89 = true := by kernel_rfl
theorem Fun_95 : Fun Tryz.prog 95 = true := by kernel_rfl
theorem Fun_65 : Fun Tryz.prog 65 = true := by kernel_rfl
theorem Fun_90 : Fun Tryz.prog 90 = true := by kernel_rfl
theorem Fun_55 : Fun Tryz.prog 55 = true := by kernel_rfl
theorem Fun_115 : Fun Tryz.prog 115 = true := by kernel_rfl
theorem Fun_91 : Fun Tryz.prog 91 = true := by kernel_rfl
theorem Fun_92 : Fun Tryz.prog 92 = true := by kernel_rfl
theorem Fun_118 : Fun Tryz.prog 118 = true := by kernel_rfl
theorem Fun_56 : Fun Tryz.prog 56 = true := by kernel_rfl
theorem Fun_96 : Fun Tryz.prog 96 = true := by kernel_rfl
theorem Fun_61 : Fun Tryz.prog 61 = true := by kernel_rfl
theorem Fun_62 : Fun Tryz.prog 62 = true := by kernel_rfl
theorem Fun_63 : Fun Tryz.prog 63 = true := by kernel_rfl
theorem Fun_57 : Fun Tryz.prog 57 = true := by kernel_rfl
theorem Bo_4 : Bo Tryz.prog 4 = true := by kernel_rfl
theorem Fun_94 : Fun Tryz.prog 94 = true := by kernel_rfl
theorem Fun_60 : Fun Tryz.prog 60 = true := by kernel_rfl
theorem Fun_116 : Fun Tryz.prog 116 = true := by kernel_rfl
theorem Fun_93 : Fun Tryz.prog 93 = true := by kernel_rfl
theorem MC_102_2 : madeCells (Value.agg #[.int .i64 0, .string ⟨#[]⟩, .int .i64 0, .int .i64 0, .string ⟨#[]⟩] : Value).cells (2 * 5) = #[.int .i64 0, .string ⟨#[]⟩, .int .i64 0, .int .i64 0, .string ⟨#[]⟩, .int .i64 0, .string ⟨#[]⟩, .int .i64 0, .int .i64 0, .string ⟨#[]⟩] := by kernel_rfl
theorem Fun_54 : Fun Tryz.prog 54 = true := by kernel_rfl
theorem Fun_58 : Fun Tryz.prog 58 = true := by kernel_rfl
theorem Fun_59 : Fun Tryz.prog 59 = true := by kernel_rfl
theorem Fun_103 : Fun Tryz.prog 103 = true := by kernel_rfl
theorem Fun_102 : Fun Tryz.prog 102 = true := by kernel_rfl
theorem Fun_23 : Fun Tryz.prog 23 = true := by kernel_rfl
theorem Fun_70 : Fun Tryz.prog 70 = true := by kernel_rfl
theorem Fun_31 : Fun Tryz.prog 31 = true := by kernel_rfl
theorem Fun_24 : Fun Tryz.prog 24 = true := by kernel_rfl
theorem Fun_32 : Fun Tryz.prog 32 = true := by kernel_rfl
theorem Fun_33 : Fun Tryz.prog 33 = true := by kernel_rfl
theorem Zr_64 : (Tryz.prog.info? 64).map (·.zero) = some (some (.agg #[.pointer none, .slice none 0 0])) := by kernel_rfl
theorem Fun_121 : Fun Tryz.prog 121 = true := by kernel_rfl
theorem Fun_100 : Fun Tryz.prog 100 = true := by kernel_rfl
theorem Fun_99 : Fun Tryz.prog 99 = true := by kernel_rfl
theorem Fun_66 : Fun Tryz.prog 66 = true := by kernel_rfl
theorem Fun_67 : Fun Tryz.prog 67 = true := by kernel_rfl
theorem Fun_122 : Fun Tryz.prog 122 = true := by kernel_rfl
theorem Fun_101 : Fun Tryz.prog 101 = true := by kernel_rfl
theorem Fun_68 : Fun Tryz.prog 68 = true := by kernel_rfl
theorem Fun_25 : Fun Tryz.prog 25 = true := by kernel_rfl
theorem Fun_26 : Fun Tryz.prog 26 = true := by kernel_rfl
theorem Fun_27 : Fun Tryz.prog 27 = true := by kernel_rfl
theorem Fun_9 : Fun Tryz.prog 9 = true := by kernel_rfl
theorem Fun_34 : Fun Tryz.prog 34 = true := by kernel_rfl
theorem Tn_39 : Tn Tryz.prog 39 2 = true := by kernel_rfl
theorem Fun_10 : Fun Tryz.prog 10 = true := by kernel_rfl
theorem Fun_12 : Fun Tryz.prog 12 = true := by kernel_rfl
theorem Fun_11 : Fun Tryz.prog 11 = true := by kernel_rfl
theorem Fun_13 : Fun Tryz.prog 13 = true := by kernel_rfl
theorem Fun_14 : Fun Tryz.prog 14 = true := by kernel_rfl
theorem m_l_szVal_ok {Φ : Hp} {w : World} (hΦ : In Φ w) (N : Nat) (p0 : TVal) (p1 : Int)   {r : Int} (h : m_l_szVal N p0 p1 = some r) :
  Calls Tryz.prog 105 [.agg [.int .i64 p0.K, .int .i64 p0.N, .string p0.S].toArray, .int .i64 p1].toArray w (Post (.int .i64 r) w) := by
 refine enter Tryz.func105 rfl Tryz.ntmps105 rfl (St.start0 hΦ) ?_
 unfold m_l_szVal at h
 refine sr ?_
 refine ln (nb rfl) rfl (fun b_1 => ?_)
 refine la rfl <| en <| sr <| la rfl <| lf Fld_77_2 rfl rfl rfl <| lo T1_9 0 rfl <| lq (q_lenS Str_9 rfl rfl) rfl <| la rfl <| la rfl <| en <| sq <| sr <| la rfl <| la rfl <| en ?_
 refine cdh rfl h (fun c1 h => ?_) (fun c1 h => ?_)
 ·refine sr <| la rfl <| en ?_
  refine WT.ret Tryz.func105 (resOk.one rfl) (fun w1 hw => ?_)
  cases h
  exact post_of_St hw
 refine WT.skip <| sr <| la rfl <| la rfl <| en ?_
 refine WT.ret Tryz.func105 (resOk.one rfl) (fun w1 hw => ?_)
 cases h
 exact post_of_St hw
theorem m_l_szArg_ok {Φ : Hp} {w : World} (hΦ : In Φ w) (N : Nat) (p0 : TArg) (p1 : Int)   {r : Int} (h : m_l_szArg N p0 p1 = some r) :
  Calls Tryz.prog 73 [.agg [.int .i64 p0.K, .string p0.S, .int .i64 p0.V.K, .int .i64 p0.V.N, .string p0.V.S].toArray, .int .i64 p1].toArray w (Post (.int .i64 r) w) := by
 refine enter Tryz.func73 rfl Tryz.ntmps73 rfl (St.start0 hΦ) ?_
 unfold m_l_szArg at h
 refine sr ?_
 refine ln (nb rfl) rfl (fun b_1 => ?_)
 refine la rfl <| en <| sr <| la rfl <| lf Fld_79_1 rfl rfl rfl <| lo T1_9 0 rfl <| lq (q_lenS Str_9 rfl rfl) rfl <| la rfl <| la rfl <| en <| sq <| sr <| la rfl <| la rfl <| en ?_
 refine cdh rfl h (fun c1 h => ?_) (fun c1 h => ?_)
 ·refine sr <| la rfl <| en ?_
  refine WT.ret Tryz.func73 (resOk.one rfl) (fun w1 hw => ?_)
  cases h
  exact post_of_St hw
 refine WT.skip <| sr <| lf Fld_79_2 rfl rfl rfl <| ld3 Tn_77 0 rfl <| la rfl ?_
 obtain ⟨x1, hx1, h⟩ := bs h
 refine lp (p_call Fun_105 rfl (fun w1 hw => m_l_szVal_ok hw.fro N p0.V (IntKind.i64.wrap (p1 - (p0.S.size : Int))) hx1)) rfl <| la rfl <| en <| sq <| sr <| la rfl <| la rfl <| en ?_
 refine cdh rfl h (fun c2 h => ?_) (fun c2 h => ?_)
 ·refine sr <| la rfl <| en ?_
  refine WT.ret Tryz.func73 (resOk.one rfl) (fun w1 hw => ?_)
  cases h
  exact post_of_St hw
 refine WT.skip <| sr <| la rfl <| la rfl <| en ?_
 refine WT.ret Tryz.func73 (resOk.one rfl) (fun w1 hw => ?_)
 cases h
 exact post_of_St hw
theorem m_l_szArgS_ok {Φ : Hp} {w : World} (hΦ : In Φ w) (N : Nat) (p0 : (List TArg)) (p1 : Int) {pv0 : Value} {pG0 : List Nat} (ph0 : RSl RTArg 5 Φ pG0 pv0 p0) {r : Int} (h : m_l_szArgS N p0 p1 = some r) :
  Calls Tryz.prog 72 [pv0, .int .i64 p1].toArray w (Post (.int .i64 r) w) := by
 refine enter Tryz.func72 rfl Tryz.ntmps72 rfl (St.start0 hΦ) ?_
 generalize hb0 : (⟨w, [], Φ⟩ : Base) = w0
 unfold m_l_szArgS at h
 refine sr <| la rfl <| en <| sr <| la rfl <| la rfl <| lq (q_lenR Sl_72 rfl rfl ph0) rfl <| la rfl <| la rfl <| en <| sq <| sr <| la rfl <| la rfl <| en ?_
 refine cdh rfl h (fun c1 h => ?_) (fun c1 h => ?_)
 ·refine sr <| la rfl <| en ?_
  refine WT.ret Tryz.func72 (resOk.one rfl) (fun w1 hw => ?_)
  subst hb0
  cases h
  exact post_of_St hw
 refine WT.skip <| sq <| sr <| la rfl <| en <| blk ?_
 refine loop_in (σ := Int × Int) (fun s => [(0, pv0), (1, .int .i64 s.1), (5, .int .i64 s.2)]) (fun s => St w0 Φ [] []) (fun m s => m_l_szArgS_l1 N p0 m s.1 s.2 = some r) (IntKind.i64.wrap (p1 - (p0.length : Int)), 0) N h ⟨rfl, rfl, rfl, trivial⟩ (fun w1 hw => (hw.sel (js := []) rfl).selO (js := []) rfl) (fun s hm => none_ne hm) (fun n1 ih1 s hm => ?_)
 obtain ⟨s1, s2⟩ := s
 have h : m_l_szArgS_l1 N p0 (n1 + 1) s1 s2 = some r := hm
 show WT _ _ [(0, pv0), (1, .int .i64 s1), (5, .int .i64 s2)] (St w0 Φ [] [])
 unfold m_l_szArgS_l1 at h
 refine sq <| sr <| la rfl <| la rfl <| lq (q_lenR Sl_72 rfl rfl ph0) rfl <| la rfl <| en ?_
 refine cdh rfl h (fun c2 h => ?_) (fun c2 h => ?_)
 ·refine WT.skip <| sq <| blk <| sr <| la rfl <| la rfl ?_
  obtain ⟨x1, hx1, h⟩ := bs h
  obtain ⟨cs1, F1, -, g1, hb1, hs1, r1⟩ := ph0.el (idx_some hx1).2.2
  obtain ⟨rfl, -⟩ := r1
  refine lq (q_indexAddr Sl_72 rfl rfl ph0 hx1) rfl <| lg5 0 Tn_79 g1 rfl rfl <| la rfl ?_
  obtain ⟨x2, hx2, h⟩ := bs h
  refine lp (p_call Fun_73 rfl (fun w1 hw => m_l_szArg_ok hw.fro N x1 s1 hx2)) rfl <| la rfl <| en <| sr <| la rfl <| la rfl <| en ?_
  refine cdh rfl h (fun c3 h => ?_) (fun c3 h => ?_)
  ·refine sr <| la rfl <| en ?_
   refine WT.ret Tryz.func72 (resOk.one rfl) (fun w1 hw => ?_)
   subst hb0
   cases h
   exact post_of_St hw
  refine WT.skip <| ib <| rgn <| la rfl <| la rfl <| la rfl <| en ?_
  exact lback (ih1 (x2, IntKind.i64.wrap (s2 + 1)) h) ⟨rfl, rfl, rfl, trivial⟩ (fun w1 hw => (hw.sel (js := []) rfl).selO (js := []) rfl)
 refine xt rfl <| sr <| la rfl <| la rfl <| en ?_
 refine WT.ret Tryz.func72 (resOk.one rfl) (fun w1 hw => ?_)
 subst hb0
 cases h
 exact post_of_St hw
theorem m_l_szPat_ok {Φ : Hp} {w : World} (hΦ : In Φ w) (N : Nat) (p0 : TPat) (p1 : Int) {pv0_0 : Value} {pG0_0 : List Nat} (ph0_0 : RSl RTArg 5 Φ pG0_0 pv0_0 p0.Args) {r : Int} (h : m_l_szPat N p0 p1 = some r) :
  Calls Tryz.prog 35 [.agg [.string p0.Kind, pv0_0, .bool p0.Not].toArray, .int .i64 p1].toArray w (Post (.int .i64 r) w) := by
 refine enter Tryz.func35 rfl Tryz.ntmps35 rfl (St.start0 hΦ) ?_
 unfold m_l_szPat at h
 refine sr ?_
 refine ln (nb rfl) rfl (fun b_1 => ?_)
 refine la rfl <| en <| sr <| la rfl <| lf Fld_74_0 rfl rfl rfl <| lo T1_9 0 rfl <| lq (q_lenS Str_9 rfl rfl) rfl <| la rfl <| la rfl <| en <| sq <| sr <| la rfl <| la rfl <| en ?_
 refine cdh rfl h (fun c1 h => ?_) (fun c1 h => ?_)
 ·refine sr <| la rfl <| en ?_
  refine WT.ret Tryz.func35 (resOk.one rfl) (fun w1 hw => ?_)
  cases h
  exact post_of_St hw
 refine WT.skip <| sr <| lf Fld_74_1 rfl rfl rfl <| lo T1_72 0 rfl <| la rfl ?_
 obtain ⟨x1, hx1, h⟩ := bs h
 refine lp (p_call Fun_72 rfl (fun w1 hw => m_l_szArgS_ok hw.fro N p0.Args (IntKind.i64.wrap (p1 - (p0.Kind.size : Int))) ph0_0 hx1)) rfl <| la rfl <| en <| sq <| sr <| la rfl <| la rfl <| en ?_
 refine cdh rfl h (fun c2 h => ?_) (fun c2 h => ?_)
 ·refine sr <| la rfl <| en ?_
  refine WT.ret Tryz.func35 (resOk.one rfl) (fun w1 hw => ?_)
  cases h
  exact post_of_St hw
 refine WT.skip <| sr <| la rfl <| la rfl <| en ?_
 refine WT.ret Tryz.func35 (resOk.one rfl) (fun w1 hw => ?_)
 cases h
 exact post_of_St hw
theorem m_l_szPatS_ok {Φ : Hp} {w : World} (hΦ : In Φ w) (N : Nat) (p0 : (List TPat)) (p1 : Int) {pv0 : Value} {pG0 : List Nat} (ph0 : RSl RTPat 3 Φ pG0 pv0 p0) {r : Int} (h : m_l_szPatS N p0 p1 = some r) :
  Calls Tryz.prog 15 [pv0, .int .i64 p1].toArray w (Post (.int .i64 r) w) := by
 refine enter Tryz.func15 rfl Tryz.ntmps15 rfl (St.start0 hΦ) ?_
 generalize hb0 : (⟨w, [], Φ⟩ : Base) = w0
 unfold m_l_szPatS at h
 refine sr <| la rfl <| en <| sr <| la rfl <| la rfl <| lq (q_lenR Sl_22 rfl rfl ph0) rfl <| la rfl <| la rfl <| en <| sq <| sr <| la rfl <| la rfl <| en ?_
 refine cdh rfl h (fun c1 h => ?_) (fun c1 h => ?_)
 ·refine sr <| la rfl <| en ?_
  refine WT.ret Tryz.func15 (resOk.one rfl) (fun w1 hw => ?_)
  subst hb0
  cases h
  exact post_of_St hw
 refine WT.skip <| sq <| sr <| la rfl <| en <| blk ?_
 refine loop_in (σ := Int × Int) (fun s => [(0, pv0), (1, .int .i64 s.1), (5, .int .i64 s.2)]) (fun s => St w0 Φ [] []) (fun m s => m_l_szPatS_l1 N p0 m s.1 s.2 = some r) (IntKind.i64.wrap (p1 - (p0.length : Int)), 0) N h ⟨rfl, rfl, rfl, trivial⟩ (fun w1 hw => (hw.sel (js := []) rfl).selO (js := []) rfl) (fun s hm => none_ne hm) (fun n1 ih1 s hm => ?_)
 obtain ⟨s1, s2⟩ := s
 have h : m_l_szPatS_l1 N p0 (n1 + 1) s1 s2 = some r := hm
 show WT _ _ [(0, pv0), (1, .int .i64 s1), (5, .int .i64 s2)] (St w0 Φ [] [])
 unfold m_l_szPatS_l1 at h
 refine sq <| sr <| la rfl <| la rfl <| lq (q_lenR Sl_22 rfl rfl ph0) rfl <| la rfl <| en ?_
 refine cdh rfl h (fun c2 h => ?_) (fun c2 h => ?_)
 ·refine WT.skip <| sq <| blk <| sr <| la rfl <| la rfl ?_
  obtain ⟨x1, hx1, h⟩ := bs h
  obtain ⟨cs1, F1, -, g1, hb1, hs1, r1⟩ := ph0.el (idx_some hx1).2.2
  obtain ⟨v1, G1, rfl, hq1, h1⟩ := r1
  obtain rfl := hq1.symm
  refine lq (q_indexAddr Sl_22 rfl rfl ph0 hx1) rfl <| lg3 0 Tn_74 g1 rfl rfl <| la rfl ?_
  obtain ⟨x2, hx2, h⟩ := bs h
  refine lp (p_call Fun_35 rfl (fun w1 hw => m_l_szPat_ok hw.fro N x1 s1 h1 hx2)) rfl <| la rfl <| en <| sr <| la rfl <| la rfl <| en ?_
  refine cdh rfl h (fun c3 h => ?_) (fun c3 h => ?_)
  ·refine sr <| la rfl <| en ?_
   refine WT.ret Tryz.func15 (resOk.one rfl) (fun w1 hw => ?_)
   subst hb0
   cases h
   exact post_of_St hw
  refine WT.skip <| ib <| rgn <| la rfl <| la rfl <| la rfl <| en ?_
  exact lback (ih1 (x2, IntKind.i64.wrap (s2 + 1)) h) ⟨rfl, rfl, rfl, trivial⟩ (fun w1 hw => (hw.sel (js := []) rfl).selO (js := []) rfl)
 refine xt rfl <| sr <| la rfl <| la rfl <| en ?_
 refine WT.ret Tryz.func15 (resOk.one rfl) (fun w1 hw => ?_)
 subst hb0
 cases h
 exact post_of_St hw
theorem m_l_szCond_ok {Φ : Hp} {w : World} (hΦ : In Φ w) (N : Nat) (p0 : TCond) (p1 : Int)   {r : Int} (h : m_l_szCond N p0 p1 = some r) :
  Calls Tryz.prog 36 [.agg [.int .i64 p0.Op, .int .i64 p0.L.K, .string p0.L.S, .int .i64 p0.L.V.K, .int .i64 p0.L.V.N, .string p0.L.V.S, .int .i64 p0.R.K, .string p0.R.S, .int .i64 p0.R.V.K, .int .i64 p0.R.V.N, .string p0.R.V.S].toArray, .int .i64 p1].toArray w (Post (.int .i64 r) w) := by
 refine enter Tryz.func36 rfl Tryz.ntmps36 rfl (St.start0 hΦ) ?_
 unfold m_l_szCond at h
 refine sr ?_
 refine ln (nb rfl) rfl (fun b_1 => ?_)
 refine la rfl <| en <| sr <| lf Fld_81_1 rfl rfl rfl <| ld5 Tn_79 0 rfl <| la rfl ?_
 obtain ⟨x1, hx1, h⟩ := bs h
 refine lp (p_call Fun_73 rfl (fun w1 hw => m_l_szArg_ok hw.fro N p0.L p1 hx1)) rfl <| la rfl <| en <| sq <| sr <| la rfl <| la rfl <| en ?_
 refine cdh rfl h (fun c1 h => ?_) (fun c1 h => ?_)
 ·refine sr <| la rfl <| en ?_
  refine WT.ret Tryz.func36 (resOk.one rfl) (fun w1 hw => ?_)
  cases h
  exact post_of_St hw
 refine WT.skip <| sr <| lf Fld_81_2 rfl rfl rfl <| ld5 Tn_79 0 rfl <| la rfl ?_
 obtain ⟨x2, hx2, h⟩ := bs h
 refine lp (p_call Fun_73 rfl (fun w1 hw => m_l_szArg_ok hw.fro N p0.R x1 hx2)) rfl <| la rfl <| en <| sq <| sr <| la rfl <| la rfl <| en ?_
 refine cdh rfl h (fun c2 h => ?_) (fun c2 h => ?_)
 ·refine sr <| la rfl <| en ?_
  refine WT.ret Tryz.func36 (resOk.one rfl) (fun w1 hw => ?_)
  cases h
  exact post_of_St hw
 refine WT.skip <| sr <| la rfl <| la rfl <| en ?_
 refine WT.ret Tryz.func36 (resOk.one rfl) (fun w1 hw => ?_)
 cases h
 exact post_of_St hw
theorem m_l_szCondS_ok {Φ : Hp} {w : World} (hΦ : In Φ w) (N : Nat) (p0 : (List TCond)) (p1 : Int) {pv0 : Value} {pG0 : List Nat} (ph0 : RSl RTCond 11 Φ pG0 pv0 p0) {r : Int} (h : m_l_szCondS N p0 p1 = some r) :
  Calls Tryz.prog 16 [pv0, .int .i64 p1].toArray w (Post (.int .i64 r) w) := by
 refine enter Tryz.func16 rfl Tryz.ntmps16 rfl (St.start0 hΦ) ?_
 generalize hb0 : (⟨w, [], Φ⟩ : Base) = w0
 unfold m_l_szCondS at h
 refine sr <| la rfl <| en <| sr <| la rfl <| la rfl <| lq (q_lenR Sl_23 rfl rfl ph0) rfl <| la rfl <| la rfl <| en <| sq <| sr <| la rfl <| la rfl <| en ?_
 refine cdh rfl h (fun c1 h => ?_) (fun c1 h => ?_)
 ·refine sr <| la rfl <| en ?_
  refine WT.ret Tryz.func16 (resOk.one rfl) (fun w1 hw => ?_)
  subst hb0
  cases h
  exact post_of_St hw
 refine WT.skip <| sq <| sr <| la rfl <| en <| blk ?_
 refine loop_in (σ := Int × Int) (fun s => [(0, pv0), (1, .int .i64 s.1), (5, .int .i64 s.2)]) (fun s => St w0 Φ [] []) (fun m s => m_l_szCondS_l1 N p0 m s.1 s.2 = some r) (IntKind.i64.wrap (p1 - (p0.length : Int)), 0) N h ⟨rfl, rfl, rfl, trivial⟩ (fun w1 hw => (hw.sel (js := []) rfl).selO (js := []) rfl) (fun s hm => none_ne hm) (fun n1 ih1 s hm => ?_)
 obtain ⟨s1, s2⟩ := s
 have h : m_l_szCondS_l1 N p0 (n1 + 1) s1 s2 = some r := hm
 show WT _ _ [(0, pv0), (1, .int .i64 s1), (5, .int .i64 s2)] (St w0 Φ [] [])
 unfold m_l_szCondS_l1 at h
 refine sq <| sr <| la rfl <| la rfl <| lq (q_lenR Sl_23 rfl rfl ph0) rfl <| la rfl <| en ?_
 refine cdh rfl h (fun c2 h => ?_) (fun c2 h => ?_)
 ·refine WT.skip <| sq <| blk <| sr <| la rfl <| la rfl ?_
  obtain ⟨x1, hx1, h⟩ := bs h
  obtain ⟨cs1, F1, -, g1, hb1, hs1, r1⟩ := ph0.el (idx_some hx1).2.2
  obtain ⟨rfl, -⟩ := r1
  refine lq (q_indexAddr Sl_23 rfl rfl ph0 hx1) rfl <| lg11 0 Tn_81 g1 rfl rfl <| la rfl ?_
  obtain ⟨x2, hx2, h⟩ := bs h
  refine lp (p_call Fun_36 rfl (fun w1 hw => m_l_szCond_ok hw.fro N x1 s1 hx2)) rfl <| la rfl <| en <| sr <| la rfl <| la rfl <| en ?_
  refine cdh rfl h (fun c3 h => ?_) (fun c3 h => ?_)
  ·refine sr <| la rfl <| en ?_
   refine WT.ret Tryz.func16 (resOk.one rfl) (fun w1 hw => ?_)
   subst hb0
   cases h
   exact post_of_St hw
  refine WT.skip <| ib <| rgn <| la rfl <| la rfl <| la rfl <| en ?_
  exact lback (ih1 (x2, IntKind.i64.wrap (s2 + 1)) h) ⟨rfl, rfl, rfl, trivial⟩ (fun w1 hw => (hw.sel (js := []) rfl).selO (js := []) rfl)
 refine xt rfl <| sr <| la rfl <| la rfl <| en ?_
 refine WT.ret Tryz.func16 (resOk.one rfl) (fun w1 hw => ?_)
 subst hb0
 cases h
 exact post_of_St hw
theorem m_l_szExpr_ok {Φ : Hp} {w : World} (hΦ : In Φ w) (N : Nat) (p0 : TExpr) (p1 : Int)   {r : Int} (h : m_l_szExpr N p0 p1 = some r) :
  Calls Tryz.prog 106 [.agg [.string p0.Op, .int .i64 p0.L.K, .string p0.L.S, .int .i64 p0.L.V.K, .int .i64 p0.L.V.N, .string p0.L.V.S, .int .i64 p0.R.K, .string p0.R.S, .int .i64 p0.R.V.K, .int .i64 p0.R.V.N, .string p0.R.V.S].toArray, .int .i64 p1].toArray w (Post (.int .i64 r) w) := by
 refine enter Tryz.func106 rfl Tryz.ntmps106 rfl (St.start0 hΦ) ?_
 unfold m_l_szExpr at h
 refine sr ?_
 refine ln (nb rfl) rfl (fun b_1 => ?_)
 refine la rfl <| en <| sr <| la rfl <| lf Fld_148_0 rfl rfl rfl <| lo T1_9 0 rfl <| lq (q_lenS Str_9 rfl rfl) rfl <| la rfl <| la rfl <| en <| sq <| sr <| la rfl <| la rfl <| en ?_
 refine cdh rfl h (fun c1 h => ?_) (fun c1 h => ?_)
 ·refine sr <| la rfl <| en ?_
  refine WT.ret Tryz.func106 (resOk.one rfl) (fun w1 hw => ?_)
  cases h
  exact post_of_St hw
 refine WT.skip <| sr <| lf Fld_148_1 rfl rfl rfl <| ld5 Tn_79 0 rfl <| la rfl ?_
 obtain ⟨x1, hx1, h⟩ := bs h
 refine lp (p_call Fun_73 rfl (fun w1 hw => m_l_szArg_ok hw.fro N p0.L (IntKind.i64.wrap (p1 - (p0.Op.size : Int))) hx1)) rfl <| la rfl <| en <| sq <| sr <| la rfl <| la rfl <| en ?_
 refine cdh rfl h (fun c2 h => ?_) (fun c2 h => ?_)
 ·refine sr <| la rfl <| en ?_
  refine WT.ret Tryz.func106 (resOk.one rfl) (fun w1 hw => ?_)
  cases h
  exact post_of_St hw
 refine WT.skip <| sr <| lf Fld_148_2 rfl rfl rfl <| ld5 Tn_79 0 rfl <| la rfl ?_
 obtain ⟨x2, hx2, h⟩ := bs h
 refine lp (p_call Fun_73 rfl (fun w1 hw => m_l_szArg_ok hw.fro N p0.R x1 hx2)) rfl <| la rfl <| en <| sq <| sr <| la rfl <| la rfl <| en ?_
 refine cdh rfl h (fun c3 h => ?_) (fun c3 h => ?_)
 ·refine sr <| la rfl <| en ?_
  refine WT.ret Tryz.func106 (resOk.one rfl) (fun w1 hw => ?_)
  cases h
  exact post_of_St hw
 refine WT.skip <| sr <| la rfl <| la rfl <| en ?_
 refine WT.ret Tryz.func106 (resOk.one rfl) (fun w1 hw => ?_)
 cases h
 exact post_of_St hw
theorem m_l_szExprS_ok {Φ : Hp} {w : World} (hΦ : In Φ w) (N : Nat) (p0 : (List TExpr)) (p1 : Int) {pv0 : Value} {pG0 : List Nat} (ph0 : RSl RTExpr 11 Φ pG0 pv0 p0) {r : Int} (h : m_l_szExprS N p0 p1 = some r) :
  Calls Tryz.prog 74 [pv0, .int .i64 p1].toArray w (Post (.int .i64 r) w) := by
 refine enter Tryz.func74 rfl Tryz.ntmps74 rfl (St.start0 hΦ) ?_
 generalize hb0 : (⟨w, [], Φ⟩ : Base) = w0
 unfold m_l_szExprS at h
 refine sr <| la rfl <| en <| sr <| la rfl <| la rfl <| lq (q_lenR Sl_83 rfl rfl ph0) rfl <| la rfl <| la rfl <| en <| sq <| sr <| la rfl <| la rfl <| en ?_
 refine cdh rfl h (fun c1 h => ?_) (fun c1 h => ?_)
 ·refine sr <| la rfl <| en ?_
  refine WT.ret Tryz.func74 (resOk.one rfl) (fun w1 hw => ?_)
  subst hb0
  cases h
  exact post_of_St hw
 refine WT.skip <| sq <| sr <| la rfl <| en <| blk ?_
 refine loop_in (σ := Int × Int) (fun s => [(0, pv0), (1, .int .i64 s.1), (5, .int .i64 s.2)]) (fun s => St w0 Φ [] []) (fun m s => m_l_szExprS_l1 N p0 m s.1 s.2 = some r) (IntKind.i64.wrap (p1 - (p0.length : Int)), 0) N h ⟨rfl, rfl, rfl, trivial⟩ (fun w1 hw => (hw.sel (js := []) rfl).selO (js := []) rfl) (fun s hm => none_ne hm) (fun n1 ih1 s hm => ?_)
 obtain ⟨s1, s2⟩ := s
 have h : m_l_szExprS_l1 N p0 (n1 + 1) s1 s2 = some r := hm
 show WT _ _ [(0, pv0), (1, .int .i64 s1), (5, .int .i64 s2)] (St w0 Φ [] [])
 unfold m_l_szExprS_l1 at h
 refine sq <| sr <| la rfl <| la rfl <| lq (q_lenR Sl_83 rfl rfl ph0) rfl <| la rfl <| en ?_
 refine cdh rfl h (fun c2 h => ?_) (fun c2 h => ?_)
 ·refine WT.skip <| sq <| blk <| sr <| la rfl <| la rfl ?_
  obtain ⟨x1, hx1, h⟩ := bs h
  obtain ⟨cs1, F1, -, g1, hb1, hs1, r1⟩ := ph0.el (idx_some hx1).2.2
  obtain ⟨rfl, -⟩ := r1
  refine lq (q_indexAddr Sl_83 rfl rfl ph0 hx1) rfl <| lg11 0 Tn_148 g1 rfl rfl <| la rfl ?_
  obtain ⟨x2, hx2, h⟩ := bs h
  refine lp (p_call Fun_106 rfl (fun w1 hw => m_l_szExpr_ok hw.fro N x1 s1 hx2)) rfl <| la rfl <| en <| sr <| la rfl <| la rfl <| en ?_
  refine cdh rfl h (fun c3 h => ?_) (fun c3 h => ?_)
  ·refine sr <| la rfl <| en ?_
   refine WT.ret Tryz.func74 (resOk.one rfl) (fun w1 hw => ?_)
   subst hb0
   cases h
   exact post_of_St hw
  refine WT.skip <| ib <| rgn <| la rfl <| la rfl <| la rfl <| en ?_
  exact lback (ih1 (x2, IntKind.i64.wrap (s2 + 1)) h) ⟨rfl, rfl, rfl, trivial⟩ (fun w1 hw => (hw.sel (js := []) rfl).selO (js := []) rfl)
 refine xt rfl <| sr <| la rfl <| la rfl <| en ?_
 refine WT.ret Tryz.func74 (resOk.one rfl) (fun w1 hw => ?_)
 subst hb0
 cases h
 exact post_of_St hw
theorem m_l_szAct_ok {Φ : Hp} {w : World} (hΦ : In Φ w) (N : Nat) (p0 : TAct) (p1 : Int) {pv0_0 : Value} {pG0_0 : List Nat} (ph0_0 : RSl RTExpr 11 Φ pG0_0 pv0_0 p0.Args) {r : Int} (h : m_l_szAct N p0 p1 = some r) :
  Calls Tryz.prog 37 [.agg [.int .i64 p0.Kind, .string p0.Name, pv0_0, .int .i64 p0.N, .string p0.Undo].toArray, .int .i64 p1].toArray w (Post (.int .i64 r) w) := by
 refine enter Tryz.func37 rfl Tryz.ntmps37 rfl (St.start0 hΦ) ?_
 unfold m_l_szAct at h
 refine sr ?_
 refine ln (nb rfl) rfl (fun b_1 => ?_)
 refine la rfl <| en <| sr <| la rfl <| lf Fld_85_1 rfl rfl rfl <| lo T1_9 0 rfl <| lq (q_lenS Str_9 rfl rfl) rfl <| la rfl <| la rfl <| en <| sq <| sr <| la rfl <| la rfl <| en ?_
 refine cdh rfl h (fun c1 h => ?_) (fun c1 h => ?_)
 ·refine sr <| la rfl <| en ?_
  refine WT.ret Tryz.func37 (resOk.one rfl) (fun w1 hw => ?_)
  cases h
  exact post_of_St hw
 refine WT.skip <| sr <| lf Fld_85_2 rfl rfl rfl <| lo T1_83 0 rfl <| la rfl ?_
 obtain ⟨x1, hx1, h⟩ := bs h
 refine lp (p_call Fun_74 rfl (fun w1 hw => m_l_szExprS_ok hw.fro N p0.Args (IntKind.i64.wrap (p1 - (p0.Name.size : Int))) ph0_0 hx1)) rfl <| la rfl <| en <| sq <| sr <| la rfl <| la rfl <| en ?_
 refine cdh rfl h (fun c2 h => ?_) (fun c2 h => ?_)
 ·refine sr <| la rfl <| en ?_
  refine WT.ret Tryz.func37 (resOk.one rfl) (fun w1 hw => ?_)
  cases h
  exact post_of_St hw
 refine WT.skip <| sr <| la rfl <| lf Fld_85_4 rfl rfl rfl <| lo T1_9 0 rfl <| lq (q_lenS Str_9 rfl rfl) rfl <| la rfl <| la rfl <| en <| sq <| sr <| la rfl <| la rfl <| en ?_
 refine cdh rfl h (fun c3 h => ?_) (fun c3 h => ?_)
 ·refine sr <| la rfl <| en ?_
  refine WT.ret Tryz.func37 (resOk.one rfl) (fun w1 hw => ?_)
  cases h
  exact post_of_St hw
 refine WT.skip <| sr <| la rfl <| la rfl <| en ?_
 refine WT.ret Tryz.func37 (resOk.one rfl) (fun w1 hw => ?_)
 cases h
 exact post_of_St hw
theorem m_l_szActS_ok {Φ : Hp} {w : World} (hΦ : In Φ w) (N : Nat) (p0 : (List TAct)) (p1 : Int) {pv0 : Value} {pG0 : List Nat} (ph0 : RSl RTAct 5 Φ pG0 pv0 p0) {r : Int} (h : m_l_szActS N p0 p1 = some r) :
  Calls Tryz.prog 17 [pv0, .int .i64 p1].toArray w (Post (.int .i64 r) w) := by
 refine enter Tryz.func17 rfl Tryz.ntmps17 rfl (St.start0 hΦ) ?_
 generalize hb0 : (⟨w, [], Φ⟩ : Base) = w0
 unfold m_l_szActS at h
 refine sr <| la rfl <| en <| sr <| la rfl <| la rfl <| lq (q_lenR Sl_24 rfl rfl ph0) rfl <| la rfl <| la rfl <| en <| sq <| sr <| la rfl <| la rfl <| en ?_
 refine cdh rfl h (fun c1 h => ?_) (fun c1 h => ?_)
 ·refine sr <| la rfl <| en ?_
  refine WT.ret Tryz.func17 (resOk.one rfl) (fun w1 hw => ?_)
  subst hb0
  cases h
  exact post_of_St hw
 refine WT.skip <| sq <| sr <| la rfl <| en <| blk ?_
 refine loop_in (σ := Int × Int) (fun s => [(0, pv0), (1, .int .i64 s.1), (5, .int .i64 s.2)]) (fun s => St w0 Φ [] []) (fun m s => m_l_szActS_l1 N p0 m s.1 s.2 = some r) (IntKind.i64.wrap (p1 - (p0.length : Int)), 0) N h ⟨rfl, rfl, rfl, trivial⟩ (fun w1 hw => (hw.sel (js := []) rfl).selO (js := []) rfl) (fun s hm => none_ne hm) (fun n1 ih1 s hm => ?_)
 obtain ⟨s1, s2⟩ := s
 have h : m_l_szActS_l1 N p0 (n1 + 1) s1 s2 = some r := hm
 show WT _ _ [(0, pv0), (1, .int .i64 s1), (5, .int .i64 s2)] (St w0 Φ [] [])
 unfold m_l_szActS_l1 at h
 refine sq <| sr <| la rfl <| la rfl <| lq (q_lenR Sl_24 rfl rfl ph0) rfl <| la rfl <| en ?_
 refine cdh rfl h (fun c2 h => ?_) (fun c2 h => ?_)
 ·refine WT.skip <| sq <| blk <| sr <| la rfl <| la rfl ?_
  obtain ⟨x1, hx1, h⟩ := bs h
  obtain ⟨cs1, F1, -, g1, hb1, hs1, r1⟩ := ph0.el (idx_some hx1).2.2
  obtain ⟨v1, G1, rfl, hq1, h1⟩ := r1
  obtain rfl := hq1.symm
  refine lq (q_indexAddr Sl_24 rfl rfl ph0 hx1) rfl <| lg5 0 Tn_85 g1 rfl rfl <| la rfl ?_
  obtain ⟨x2, hx2, h⟩ := bs h
  refine lp (p_call Fun_37 rfl (fun w1 hw => m_l_szAct_ok hw.fro N x1 s1 h1 hx2)) rfl <| la rfl <| en <| sr <| la rfl <| la rfl <| en ?_
  refine cdh rfl h (fun c3 h => ?_) (fun c3 h => ?_)
  ·refine sr <| la rfl <| en ?_
   refine WT.ret Tryz.func17 (resOk.one rfl) (fun w1 hw => ?_)
   subst hb0
   cases h
   exact post_of_St hw
  refine WT.skip <| ib <| rgn <| la rfl <| la rfl <| la rfl <| en ?_
  exact lback (ih1 (x2, IntKind.i64.wrap (s2 + 1)) h) ⟨rfl, rfl, rfl, trivial⟩ (fun w1 hw => (hw.sel (js := []) rfl).selO (js := []) rfl)
 refine xt rfl <| sr <| la rfl <| la rfl <| en ?_
 refine WT.ret Tryz.func17 (resOk.one rfl) (fun w1 hw => ?_)
 subst hb0
 cases h
 exact post_of_St hw
theorem m_l_szRule_ok {Φ : Hp} {w : World} (hΦ : In Φ w) (N : Nat) (p0 : TRule) (p1 : Int) {pv0_0 pv0_1 pv0_2 : Value} {pG0_0 pG0_1 pG0_2 : List Nat} (ph0_0 : RSl RTPat 3 Φ pG0_0 pv0_0 p0.Pats) (ph0_1 : RSl RTCond 11 Φ pG0_1 pv0_1 p0.Conds) (ph0_2 : RSl RTAct 5 Φ pG0_2 pv0_2 p0.Acts) {r : Int} (h : m_l_szRule N p0 p1 = some r) :
  Calls Tryz.prog 5 [.agg [.string p0.Name, .int .i64 p0.Sal, pv0_0, pv0_1, pv0_2].toArray, .int .i64 p1].toArray w (Post (.int .i64 r) w) := by
 refine enter Tryz.func5 rfl Tryz.ntmps5 rfl (St.start0 hΦ) ?_
 unfold m_l_szRule at h
 refine sr ?_
 refine ln (nb rfl) rfl (fun b_1 => ?_)
 refine la rfl <| en <| sr <| la rfl <| lf Fld_26_0 rfl rfl rfl <| lo T1_9 0 rfl <| lq (q_lenS Str_9 rfl rfl) rfl <| la rfl <| la rfl <| en <| sq <| sr <| la rfl <| la rfl <| en ?_
 refine cdh rfl h (fun c1 h => ?_) (fun c1 h => ?_)
 ·refine sr <| la rfl <| en ?_
  refine WT.ret Tryz.func5 (resOk.one rfl) (fun w1 hw => ?_)
  cases h
  exact post_of_St hw
 refine WT.skip <| sr <| lf Fld_26_2 rfl rfl rfl <| lo T1_22 0 rfl <| la rfl ?_
 obtain ⟨x1, hx1, h⟩ := bs h
 refine lp (p_call Fun_15 rfl (fun w1 hw => m_l_szPatS_ok hw.fro N p0.Pats (IntKind.i64.wrap (p1 - (p0.Name.size : Int))) ph0_0 hx1)) rfl <| la rfl <| en <| sq <| sr <| la rfl <| la rfl <| en ?_
 refine cdh rfl h (fun c2 h => ?_) (fun c2 h => ?_)
 ·refine sr <| la rfl <| en ?_
  refine WT.ret Tryz.func5 (resOk.one rfl) (fun w1 hw => ?_)
  cases h
  exact post_of_St hw
 refine WT.skip <| sr <| lf Fld_26_3 rfl rfl rfl <| lo T1_23 0 rfl <| la rfl ?_
 obtain ⟨x2, hx2, h⟩ := bs h
 refine lp (p_call Fun_16 rfl (fun w1 hw => m_l_szCondS_ok hw.fro N p0.Conds x1 ph0_1 hx2)) rfl <| la rfl <| en <| sq <| sr <| la rfl <| la rfl <| en ?_
 refine cdh rfl h (fun c3 h => ?_) (fun c3 h => ?_)
 ·refine sr <| la rfl <| en ?_
  refine WT.ret Tryz.func5 (resOk.one rfl) (fun w1 hw => ?_)
  cases h
  exact post_of_St hw
 refine WT.skip <| sr <| lf Fld_26_4 rfl rfl rfl <| lo T1_24 0 rfl <| la rfl ?_
 obtain ⟨x3, hx3, h⟩ := bs h
 refine lp (p_call Fun_17 rfl (fun w1 hw => m_l_szActS_ok hw.fro N p0.Acts x2 ph0_2 hx3)) rfl <| la rfl <| en <| sq <| sr <| la rfl <| la rfl <| en ?_
 refine cdh rfl h (fun c4 h => ?_) (fun c4 h => ?_)
 ·refine sr <| la rfl <| en ?_
  refine WT.ret Tryz.func5 (resOk.one rfl) (fun w1 hw => ?_)
  cases h
  exact post_of_St hw
 refine WT.skip <| sr <| la rfl <| la rfl <| en ?_
 refine WT.ret Tryz.func5 (resOk.one rfl) (fun w1 hw => ?_)
 cases h
 exact post_of_St hw
theorem m_l_szRuleS_ok {Φ : Hp} {w : World} (hΦ : In Φ w) (N : Nat) (p0 : (List TRule)) (p1 : Int) {pv0 : Value} {pG0 : List Nat} (ph0 : RSl RTRule 5 Φ pG0 pv0 p0) {r : Int} (h : m_l_szRuleS N p0 p1 = some r) :
  Calls Tryz.prog 28 [pv0, .int .i64 p1].toArray w (Post (.int .i64 r) w) := by
 refine enter Tryz.func28 rfl Tryz.ntmps28 rfl (St.start0 hΦ) ?_
 generalize hb0 : (⟨w, [], Φ⟩ : Base) = w0
 unfold m_l_szRuleS at h
 refine sr <| la rfl <| en <| sr <| la rfl <| la rfl <| lq (q_lenR Sl_37 rfl rfl ph0) rfl <| la rfl <| la rfl <| en <| sq <| sr <| la rfl <| la rfl <| en ?_
 refine cdh rfl h (fun c1 h => ?_) (fun c1 h => ?_)
 ·refine sr <| la rfl <| en ?_
  refine WT.ret Tryz.func28 (resOk.one rfl) (fun w1 hw => ?_)
  subst hb0
  cases h
  exact post_of_St hw
 refine WT.skip <| sq <| sr <| la rfl <| en <| blk ?_
 refine loop_in (σ := Int × Int) (fun s => [(0, pv0), (1, .int .i64 s.1), (5, .int .i64 s.2)]) (fun s => St w0 Φ [] []) (fun m s => m_l_szRuleS_l1 N p0 m s.1 s.2 = some r) (IntKind.i64.wrap (p1 - (p0.length : Int)), 0) N h ⟨rfl, rfl, rfl, trivial⟩ (fun w1 hw => (hw.sel (js := []) rfl).selO (js := []) rfl) (fun s hm => none_ne hm) (fun n1 ih1 s hm => ?_)
 obtain ⟨s1, s2⟩ := s
 have h : m_l_szRuleS_l1 N p0 (n1 + 1) s1 s2 = some r := hm
 show WT _ _ [(0, pv0), (1, .int .i64 s1), (5, .int .i64 s2)] (St w0 Φ [] [])
 unfold m_l_szRuleS_l1 at h
 refine sq <| sr <| la rfl <| la rfl <| lq (q_lenR Sl_37 rfl rfl ph0) rfl <| la rfl <| en ?_
 refine cdh rfl h (fun c2 h => ?_) (fun c2 h => ?_)
 ·refine WT.skip <| sq <| blk <| sr <| la rfl <| la rfl ?_
  obtain ⟨x1, hx1, h⟩ := bs h
  obtain ⟨cs1, F1, -, g1, hb1, hs1, r1⟩ := ph0.el (idx_some hx1).2.2
  obtain ⟨v1, G1, v2, G2, v3, G3, rfl, rfl, h1, h2, h3⟩ := r1
  refine lq (q_indexAddr Sl_37 rfl rfl ph0 hx1) rfl <| lg5 0 Tn_26 g1 rfl rfl <| la rfl ?_
  obtain ⟨x2, hx2, h⟩ := bs h
  refine lp (p_call Fun_5 rfl (fun w1 hw => m_l_szRule_ok hw.fro N x1 s1 h1 h2 h3 hx2)) rfl <| la rfl <| en <| sr <| la rfl <| la rfl <| en ?_
  refine cdh rfl h (fun c3 h => ?_) (fun c3 h => ?_)
  ·refine sr <| la rfl <| en ?_
   refine WT.ret Tryz.func28 (resOk.one rfl) (fun w1 hw => ?_)
   subst hb0
   cases h
   exact post_of_St hw
  refine WT.skip <| ib <| rgn <| la rfl <| la rfl <| la rfl <| en ?_
  exact lback (ih1 (x2, IntKind.i64.wrap (s2 + 1)) h) ⟨rfl, rfl, rfl, trivial⟩ (fun w1 hw => (hw.sel (js := []) rfl).selO (js := []) rfl)
 refine xt rfl <| sr <| la rfl <| la rfl <| en ?_
 refine WT.ret Tryz.func28 (resOk.one rfl) (fun w1 hw => ?_)
 subst hb0
 cases h
 exact post_of_St hw
theorem m_l_szDef_ok {Φ : Hp} {w : World} (hΦ : In Φ w) (N : Nat) (p0 : TDef) (p1 : Int) {pv0_0 : Value} {pG0_0 : List Nat} (ph0_0 : RSl RTRule 5 Φ pG0_0 pv0_0 p0.Rules) {r : Int} (h : m_l_szDef N p0 p1 = some r) :
  Calls Tryz.prog 10 [.agg [.string p0.Name, pv0_0].toArray, .int .i64 p1].toArray w (Post (.int .i64 r) w) := by
 refine enter Tryz.func10 rfl Tryz.ntmps10 rfl (St.start0 hΦ) ?_
 unfold m_l_szDef at h
 refine sr ?_
 refine ln (nb rfl) rfl (fun b_1 => ?_)
 refine la rfl <| en <| sr <| la rfl <| lf Fld_39_0 rfl rfl rfl <| lo T1_9 0 rfl <| lq (q_lenS Str_9 rfl rfl) rfl <| la rfl <| la rfl <| en <| sq <| sr <| la rfl <| la rfl <| en ?_
 refine cdh rfl h (fun c1 h => ?_) (fun c1 h => ?_)
 ·refine sr <| la rfl <| en ?_
  refine WT.ret Tryz.func10 (resOk.one rfl) (fun w1 hw => ?_)
  cases h
  exact post_of_St hw
 refine WT.skip <| sr <| lf Fld_39_1 rfl rfl rfl <| lo T1_37 0 rfl <| la rfl ?_
 obtain ⟨x1, hx1, h⟩ := bs h
 refine lp (p_call Fun_28 rfl (fun w1 hw => m_l_szRuleS_ok hw.fro N p0.Rules (IntKind.i64.wrap (p1 - (p0.Name.size : Int))) ph0_0 hx1)) rfl <| la rfl <| en <| sq <| sr <| la rfl <| la rfl <| en ?_
 refine cdh rfl h (fun c2 h => ?_) (fun c2 h => ?_)
 ·refine sr <| la rfl <| en ?_
  refine WT.ret Tryz.func10 (resOk.one rfl) (fun w1 hw => ?_)
  cases h
  exact post_of_St hw
 refine WT.skip <| sr <| la rfl <| la rfl <| en ?_
 refine WT.ret Tryz.func10 (resOk.one rfl) (fun w1 hw => ?_)
 cases h
 exact post_of_St hw
theorem m_s_l2Num_ok (N : Nat) : ∀ {Φ : Hp} {w : World} (hΦ : In Φ w) (p0 : Int)   {r : ByteArray} (h : m_s_l2Num N p0 = some r),
  Calls Tryz.prog 45 [.int .i64 p0].toArray w (Post (.string r) w) := by
 induction N with
 | zero => intros; rename_i h; simp [m_s_l2Num] at h
 | succ N ih =>
 intro Φ w hΦ p0 r h
 refine enter Tryz.func45 rfl Tryz.ntmps45 rfl (St.start0 hΦ) ?_
 generalize hb0 : (⟨w, [], Φ⟩ : Base) = w0
 unfold m_s_l2Num at h
 refine sr <| la rfl <| en <| sq <| blk <| sr <| la rfl <| la rfl <| la rfl <| en ?_
 refine cdh rfl h (fun c1 h => ?_) (fun c1 h => ?_)
 ·refine sr <| la rfl <| lq (q_neg rfl) rfl ?_
  obtain ⟨x1, hx1, h⟩ := bs h
  refine lp (p_call Fun_45 rfl (fun w1 hw => ih hw.fro (IntKind.i64.wrap (0 - p0)) hx1)) rfl ?_
  obtain ⟨z1, hz1, h⟩ := bs h
  refine lq (q_cat rfl rfl hz1) rfl <| la rfl <| en ?_
  refine WT.ret Tryz.func45 (resOk.one rfl) (fun w1 hw => ?_)
  subst hb0
  cases h
  exact post_of_St hw
 refine sr <| la rfl <| la rfl <| la rfl <| en ?_
 refine cdh rfl h (fun c2 h => ?_) (fun c2 h => ?_)
 ·refine sr <| la rfl <| la rfl <| lq (q_convI Ik_3 Ik_5 rfl) rfl ?_
  have rc1 : RC (RI .u8) 1 Φ ([[]] : List (List Nat)) [.int .u8 (IntKind.u8.wrap (IntKind.i64.wrap (48 + p0)))] ([(IntKind.u8.wrap (IntKind.i64.wrap (48 + p0)))] : List Int) := RC.cons (c := [.int .u8 (IntKind.u8.wrap (IntKind.i64.wrap (48 + p0)))]) (cells := []) ⟨rfl, rfl⟩ rfl (RC.nil _ _ _)
  refine le' (e_lit (vs := [(0, .int .u8 (IntKind.u8.wrap (IntKind.i64.wrap (48 + p0))))]) (C := #[.int .u8 (IntKind.u8.wrap (IntKind.i64.wrap (48 + p0)))]) RI.lasts Sl_62 Zr_5 rfl rfl rfl rfl (fill_made MC_5_1 (fill_cons (C' := [.int .u8 (IntKind.u8.wrap (IntKind.i64.wrap (48 + p0)))]) rfl rfl rfl rfl rfl (fill_nil))) rfl rc1 rfl (by simpa using Kw.nil)) rfl (fun v1 Φ_1 D1 q1 => ?_)
  obtain ⟨fr1, h1⟩ := q1
  replace h1 : OSl (RI .u8) 5 1 Φ_1 [] v1 ([(IntKind.u8.wrap (IntKind.i64.wrap (48 + p0)))] : List Int) := by simpa using h1
  refine lq (q_convB Sl_62 Ik_5 Str_9 rfl h1.rsl) rfl <| la rfl <| en ?_
  refine WT.ret Tryz.func45 (resOk.one rfl) (fun w1 hw => ?_)
  subst hb0
  cases h
  exact post_of_St hw
 refine WT.skip <| ib <| sq ?_
 refine cut (σ := Hp × ByteArray) (fun s => [(2, .string s.2)]) (fun s => St w0 s.1 [] []) (fun s => m_s_l2Num_j1 N s.2 = some r) (fun s hm => ?_) (fun K => ?_)
 ·clear h
  obtain ⟨Φ_3, s1⟩ := s
  have h : m_s_l2Num_j1 N s1 = some r := hm
  show WT _ _ [(2, .string s1)] (St w0 Φ_3 [] [])
  unfold m_s_l2Num_j1 at h
  refine WT.ret Tryz.func45 (resOk.one rfl) (fun w1 hw => ?_)
  subst hb0
  cases h
  exact post_of_St hw
 refine WT.mix (Kn Φ [] []) (fun _ => true) mixed (fun _ h => h.drew) <| ma 0 rfl (by kernel_rfl) (kn Kf.nil aN) rfl <| mq 1 rfl (by kernel_rfl) (kn Kf.nil aN) (q_quo rfl rfl (by decide)) rfl <| ma 3 rfl (by kernel_rfl) (kn Kf.nil aN) rfl <| mq 4 rfl (by kernel_rfl) (kn Kf.nil aN) (q_rem rfl rfl (by decide)) rfl <| ma 5 rfl (by kernel_rfl) (kn Kf.nil aN) rfl <| mq 6 rfl (by kernel_rfl) (kn Kf.nil aN) (q_convI Ik_3 Ik_5 rfl) rfl ?_
 refine WM.two 2 7 (by kernel_rfl) ?_ ?_
 ·obtain ⟨x3, hx3, h⟩ := bs h
  refine mp rfl (fun _ w1 hw => Kn.of Kf.nil aN hw) (p_call Fun_45 rfl (fun w1 hw => ih hw.fro (IntKind.i64.wrap (p0.tdiv 10)) hx3)) rfl ?_
  have rc3 : RC (RI .u8) 1 Φ ([[]] : List (List Nat)) [.int .u8 (IntKind.u8.wrap (IntKind.i64.wrap (48 + (p0.tmod 10))))] ([(IntKind.u8.wrap (IntKind.i64.wrap (48 + (p0.tmod 10))))] : List Int) := RC.cons (c := [.int .u8 (IntKind.u8.wrap (IntKind.i64.wrap (48 + (p0.tmod 10))))]) (cells := []) ⟨rfl, rfl⟩ rfl (RC.nil _ _ _)
  refine WM.one 7 (by kernel_rfl) (me rfl (fun _ v Φx D w1 hq hw => Kn.of Kf.nil aN hw) (e_lit (vs := [(0, .int .u8 (IntKind.u8.wrap (IntKind.i64.wrap (48 + (p0.tmod 10)))))]) (C := #[.int .u8 (IntKind.u8.wrap (IntKind.i64.wrap (48 + (p0.tmod 10))))]) RI.lasts Sl_62 Zr_5 rfl rfl rfl rfl (fill_made MC_5_1 (fill_cons (C' := [.int .u8 (IntKind.u8.wrap (IntKind.i64.wrap (48 + (p0.tmod 10))))]) rfl rfl rfl rfl rfl (fill_nil))) rfl rc3 rfl (by simpa using Kw.nil)) rfl (fun v3 Φ_4 D3 q3 => ?_))
  obtain ⟨fr3, h3⟩ := q3
  replace h3 : OSl (RI .u8) 5 1 Φ_4 [] v3 ([(IntKind.u8.wrap (IntKind.i64.wrap (48 + (p0.tmod 10))))] : List Int) := by simpa using h3
  refine WM.one 8 (by kernel_rfl) (mv rfl (fun _ w1 hw => Kn.of Kf.nil aN hw) (q_convB Sl_62 Ik_5 Str_9 rfl h3.rsl) rfl ?_)
  obtain ⟨z3, hz3, h⟩ := bs h
  refine mq 9 rfl (by kernel_rfl) (kn Kf.nil aN) (q_cat rfl rfl hz3) rfl <| ma 10 rfl (by kernel_rfl) (kn Kf.nil aN) rfl <| WM.nil (by kernel_rfl) ?_
  exact wto (K (Φ_4, z3) h) ⟨rfl, trivial⟩ (fun w1 hw => (hw.sel (js := []) rfl).selO (js := []) rfl)
 have rc4 : RC (RI .u8) 1 Φ ([[]] : List (List Nat)) [.int .u8 (IntKind.u8.wrap (IntKind.i64.wrap (48 + (p0.tmod 10))))] ([(IntKind.u8.wrap (IntKind.i64.wrap (48 + (p0.tmod 10))))] : List Int) := RC.cons (c := [.int .u8 (IntKind.u8.wrap (IntKind.i64.wrap (48 + (p0.tmod 10))))]) (cells := []) ⟨rfl, rfl⟩ rfl (RC.nil _ _ _)
 refine me rfl (fun _ v Φx D w1 hq hw => Kn.of Kf.nil aN hw) (e_lit (vs := [(0, .int .u8 (IntKind.u8.wrap (IntKind.i64.wrap (48 + (p0.tmod 10)))))]) (C := #[.int .u8 (IntKind.u8.wrap (IntKind.i64.wrap (48 + (p0.tmod 10))))]) RI.lasts Sl_62 Zr_5 rfl rfl rfl rfl (fill_made MC_5_1 (fill_cons (C' := [.int .u8 (IntKind.u8.wrap (IntKind.i64.wrap (48 + (p0.tmod 10))))]) rfl rfl rfl rfl rfl (fill_nil))) rfl rc4 rfl (by simpa using Kw.nil)) rfl (fun v4 Φ_5 D4 q4 => ?_)
 obtain ⟨fr4, h4⟩ := q4
 replace h4 : OSl (RI .u8) 5 1 Φ_5 [] v4 ([(IntKind.u8.wrap (IntKind.i64.wrap (48 + (p0.tmod 10))))] : List Int) := by simpa using h4
 refine WM.two 2 8 (by kernel_rfl) ?_ ?_
 ·obtain ⟨x4, hx4, h⟩ := bs h
  refine mp rfl (fun _ w1 hw => Kn.of Kf.nil aN hw) (p_call Fun_45 rfl (fun w1 hw => ih hw.fro (IntKind.i64.wrap (p0.tdiv 10)) hx4)) rfl ?_
  refine WM.one 8 (by kernel_rfl) (mv rfl (fun _ w1 hw => Kn.of Kf.nil aN hw) (q_convB Sl_62 Ik_5 Str_9 rfl h4.rsl) rfl ?_)
  obtain ⟨z4, hz4, h⟩ := bs h
  refine mq 9 rfl (by kernel_rfl) (kn Kf.nil aN) (q_cat rfl rfl hz4) rfl <| ma 10 rfl (by kernel_rfl) (kn Kf.nil aN) rfl <| WM.nil (by kernel_rfl) ?_
  exact wto (K (Φ_5, z4) h) ⟨rfl, trivial⟩ (fun w1 hw => (hw.sel (js := []) rfl).selO (js := []) rfl)
 refine mv rfl (fun _ w1 hw => Kn.of Kf.nil aN hw) (q_convB Sl_62 Ik_5 Str_9 rfl h4.rsl) rfl ?_
 obtain ⟨x5, hx5, h⟩ := bs h
 refine WM.one 2 (by kernel_rfl) (mp rfl (fun _ w1 hw => Kn.of Kf.nil aN hw) (p_call Fun_45 rfl (fun w1 hw => ih hw.fro (IntKind.i64.wrap (p0.tdiv 10)) hx5)) rfl ?_)
 obtain ⟨z5, hz5, h⟩ := bs h
 refine mq 9 rfl (by kernel_rfl) (kn Kf.nil aN) (q_cat rfl rfl hz5) rfl <| ma 10 rfl (by kernel_rfl) (kn Kf.nil aN) rfl <| WM.nil (by kernel_rfl) ?_
 exact wto (K (Φ_5, z5) h) ⟨rfl, trivial⟩ (fun w1 hw => (hw.sel (js := []) rfl).selO (js := []) rfl)
theorem m_s_l1In_ok {Φ : Hp} {w : World} (hΦ : In Φ w) (N : Nat) (p0 : Int) (p1 : Int) (p2 : Int)   {r : Bool} (h : m_s_l1In N p0 p1 p2 = some r) :
  Calls Tryz.prog 40 [.int .i64 p0, .int .i64 p1, .int .i64 p2].toArray w (Post (.bool r) w) := by
 refine enter Tryz.func40 rfl Tryz.ntmps40 rfl (St.start0 hΦ) ?_
 unfold m_s_l1In at h
 refine sr <| la rfl <| en <| sr <| la rfl <| la rfl <| la rfl <| la rfl ?_
 obtain ⟨b1, hb_1, h⟩ := bs h
 refine WL.cutN 4 [(14, .bool b1), (6, .bool false)] ?_ (fun K => ?_)
 rotate_left
 ·refine spl 10 rfl hb_1 (fun c1 hb_1 => ?_) (fun c1 hb_1 => ?_)
  ·refine ly rfl rfl <| la rfl <| ly rfl rfl <| la rfl <| ly rfl rfl <| la rfl <| la rfl ?_
   cases hb_1
   exact kk K ⟨rfl, rfl, trivial⟩
  ·refine la rfl <| la rfl <| la rfl <| la rfl ?_
   cases hb_1
   exact kk K ⟨rfl, rfl, trivial⟩
 refine la rfl <| en ?_
 refine WT.ret Tryz.func40 (resOk.one rfl) (fun w1 hw => ?_)
 cases h
 exact post_of_St hw
theorem m_s_l1Letter_ok {Φ : Hp} {w : World} (hΦ : In Φ w) (N : Nat) (p0 : Int)   {r : Bool} (h : m_s_l1Letter N p0 = some r) :
  Calls Tryz.prog 77 [.int .u8 p0].toArray w (Post (.bool r) w) := by
 refine enter Tryz.func77 rfl Tryz.ntmps77 rfl (St.start0 hΦ) ?_
 unfold m_s_l1Letter at h
 refine sr <| la rfl <| en <| sr <| la rfl <| lq (q_convI Ik_5 Ik_3 rfl) rfl ?_
 obtain ⟨x1, hx1, h⟩ := bs h
 refine lp (p_call Fun_40 rfl (fun w1 hw => m_s_l1In_ok hw.fro N (IntKind.i64.wrap p0) 97 122 hx1)) rfl <| la rfl ?_
 obtain ⟨b1, hb_1, h⟩ := bs h
 refine WL.cutN 4 [(10, .bool b1), (0, .int .u8 p0), (2, .bool false)] ?_ (fun K => ?_)
 rotate_left
 ·refine spl 6 rfl hb_1 (fun c1 hb_1 => ?_) (fun c1 hb_1 => ?_)
  ·refine la rfl <| la rfl <| la rfl <| la rfl ?_
   cases hb_1
   exact kk K ⟨rfl, rfl, rfl, trivial⟩
  ·refine ly rfl rfl <| la rfl <| ly rfl rfl <| lq (q_convI Ik_5 Ik_3 rfl) rfl <| ly rfl rfl ?_
   obtain ⟨x2, hx2, hb_1⟩ := bs hb_1
   refine lp (p_call Fun_40 rfl (fun w1 hw => m_s_l1In_ok hw.fro N (IntKind.i64.wrap p0) 48 57 hx2)) rfl <| la rfl ?_
   cases hb_1
   exact kk K ⟨rfl, rfl, rfl, trivial⟩
 refine la rfl ?_
 obtain ⟨b2, hb_2, h⟩ := bs h
 refine WL.cutN 3 [(14, .bool b2), (2, .bool false)] ?_ (fun K => ?_)
 rotate_left
 ·refine spl 11 rfl hb_2 (fun c2 hb_2 => ?_) (fun c2 hb_2 => ?_)
  ·refine la rfl <| la rfl <| la rfl ?_
   cases hb_2
   exact kk K ⟨rfl, rfl, trivial⟩
  ·refine ly rfl rfl <| la rfl <| ly rfl rfl <| la rfl <| la rfl ?_
   cases hb_2
   exact kk K ⟨rfl, rfl, trivial⟩
 refine la rfl <| en ?_
 refine WT.ret Tryz.func77 (resOk.one rfl) (fun w1 hw => ?_)
 cases h
 exact post_of_St hw
theorem m_s_NameOk_ok {Φ : Hp} {w : World} (hΦ : In Φ w) (N : Nat) (p0 : ByteArray)   {r : Bool} (h : m_s_NameOk N p0 = some r) :
  Calls Tryz.prog 39 [.string p0].toArray w (Post (.bool r) w) := by
 refine enter Tryz.func39 rfl Tryz.ntmps39 rfl (St.start0 hΦ) ?_
 generalize hb0 : (⟨w, [], Φ⟩ : Base) = w0
 unfold m_s_NameOk at h
 refine sr <| la rfl <| en <| sq <| sr <| la rfl <| en <| blk ?_
 refine loop_in (σ := Int) (fun s => [(0, .string p0), (3, .int .i64 s)]) (fun s => St w0 Φ [] []) (fun m s => m_s_NameOk_l1 N p0 m s = some r) (0) N h ⟨rfl, rfl, trivial⟩ (fun w1 hw => (hw.sel (js := []) rfl).selO (js := []) rfl) (fun s hm => none_ne hm) (fun n1 ih1 s hm => ?_)
 revert hm; revert s; intro s1 hm
 have h : m_s_NameOk_l1 N p0 (n1 + 1) s1 = some r := hm
 show WT _ _ [(0, .string p0), (3, .int .i64 s1)] (St w0 Φ [] [])
 unfold m_s_NameOk_l1 at h
 refine sq <| sr <| la rfl <| la rfl <| lq (q_lenS Str_9 rfl rfl) rfl <| la rfl <| en ?_
 refine cdh rfl h (fun c1 h => ?_) (fun c1 h => ?_)
 ·refine WT.skip <| sq <| blk <| sr <| la rfl <| la rfl ?_
  obtain ⟨y1, hy1, h⟩ := bs h
  refine lq (q_indexS Str_9 rfl rfl hy1) rfl ?_
  obtain ⟨x1, hx1, h⟩ := bs h
  refine lp (p_call Fun_77 rfl (fun w1 hw => m_s_l1Letter_ok hw.fro N (y1.toNat : Int) hx1)) rfl <| la rfl <| la rfl ?_
  obtain ⟨b1, hb_1, h⟩ := bs h
  refine WL.cutN 11 [(26, .bool b1), (0, .string p0), (3, .int .i64 s1)] ?_ (fun K => ?_)
  rotate_left
  ·refine spl 15 rfl hb_1 (fun c2 hb_1 => ?_) (fun c2 hb_1 => ?_)
   ·refine la rfl <| la rfl <| la rfl <| WL.nox rfl rfl rfl rfl <| WL.nox rfl rfl rfl rfl <| WL.nox rfl rfl rfl rfl <| WL.nox rfl rfl rfl rfl <| WL.nox rfl rfl rfl rfl <| WL.nox rfl rfl rfl rfl <| la rfl <| la rfl ?_
    cases hb_1
    exact kk K ⟨rfl, rfl, rfl, trivial⟩
   ·refine ly rfl rfl <| la rfl <| ly rfl rfl <| la rfl <| ly rfl rfl <| la rfl ?_
    obtain ⟨b2, hb_2, hb_1⟩ := bs hb_1
    refine WL.cutN 7 [(25, .bool b2), (0, .string p0), (3, .int .i64 s1), (15, .bool false)] ?_ (fun K => ?_)
    rotate_left
    ·refine spl 18 rfl hb_2 (fun c3 hb_2 => ?_) (fun c3 hb_2 => ?_)
     ·refine ly rfl rfl <| la rfl <| ly rfl rfl <| la rfl <| ly rfl rfl ?_
      obtain ⟨y2, hy2, hb_2⟩ := bs hb_2
      refine lq (q_indexS Str_9 rfl rfl hy2) rfl <| ly rfl rfl <| lq (q_convI Ik_5 Ik_3 rfl) rfl <| ly rfl rfl ?_
      obtain ⟨x2, hx2, hb_2⟩ := bs hb_2
      refine lp (p_call Fun_40 rfl (fun w1 hw => m_s_l1In_ok hw.fro N (IntKind.i64.wrap (y2.toNat : Int)) 97 122 hx2)) rfl <| ly rfl rfl <| la rfl <| ly rfl rfl <| la rfl ?_
      cases hb_2
      exact kk K ⟨rfl, rfl, rfl, rfl, trivial⟩
     ·refine la rfl <| la rfl <| la rfl <| la rfl <| la rfl <| la rfl <| ly rfl rfl <| la rfl ?_
      cases hb_2
      exact kk K ⟨rfl, rfl, rfl, rfl, trivial⟩
    refine la rfl ?_
    cases hb_1
    exact kk K ⟨rfl, rfl, rfl, trivial⟩
  refine en ?_
  refine cdh rfl h (fun c4 h => ?_) (fun c4 h => ?_)
  ·refine sr <| la rfl <| en ?_
   refine WT.ret Tryz.func39 (resOk.one rfl) (fun w1 hw => ?_)
   subst hb0
   cases h
   exact post_of_St hw
  refine WT.skip <| ib <| rgn <| la rfl <| la rfl <| la rfl <| en ?_
  exact lback (ih1 (IntKind.i64.wrap (s1 + 1)) h) ⟨rfl, rfl, trivial⟩ (fun w1 hw => (hw.sel (js := []) rfl).selO (js := []) rfl)
 refine xt rfl <| sr <| la rfl <| lq (q_lenS Str_9 rfl rfl) rfl ?_
 obtain ⟨x3, hx3, h⟩ := bs h
 refine lp (p_call Fun_40 rfl (fun w1 hw => m_s_l1In_ok hw.fro N (p0.size : Int) 1 12 hx3)) rfl <| la rfl <| en ?_
 refine WT.ret Tryz.func39 (resOk.one rfl) (fun w1 hw => ?_)
 subst hb0
 cases h
 exact post_of_St hw
theorem m_s_l5Large_ok {Φ : Hp} {w : World} (hΦ : In Φ w) (N : Nat) (p0 : Int)   {r : Bool} (h : m_s_l5Large N p0 = some r) :
  Calls Tryz.prog 134 [.int .u8 p0].toArray w (Post (.bool r) w) := by
 refine enter Tryz.func134 rfl Tryz.ntmps134 rfl (St.start0 hΦ) ?_
 unfold m_s_l5Large at h
 refine sr <| la rfl <| en <| sr <| la rfl <| lq (q_convI Ik_5 Ik_3 rfl) rfl ?_
 obtain ⟨x1, hx1, h⟩ := bs h
 refine lp (p_call Fun_40 rfl (fun w1 hw => m_s_l1In_ok hw.fro N (IntKind.i64.wrap p0) 65 90 hx1)) rfl <| la rfl <| en ?_
 refine WT.ret Tryz.func134 (resOk.one rfl) (fun w1 hw => ?_)
 cases h
 exact post_of_St hw
theorem m_s_l5VarOk_ok {Φ : Hp} {w : World} (hΦ : In Φ w) (N : Nat) (p0 : ByteArray)   {r : Bool} (h : m_s_l5VarOk N p0 = some r) :
  Calls Tryz.prog 123 [.string p0].toArray w (Post (.bool r) w) := by
 refine enter Tryz.func123 rfl Tryz.ntmps123 rfl (St.start0 hΦ) ?_
 generalize hb0 : (⟨w, [], Φ⟩ : Base) = w0
 unfold m_s_l5VarOk at h
 refine sr <| la rfl <| en <| sq <| sr <| la rfl <| en <| blk ?_
 refine loop_in (σ := Int) (fun s => [(0, .string p0), (3, .int .i64 s)]) (fun s => St w0 Φ [] []) (fun m s => m_s_l5VarOk_l1 N p0 m s = some r) (0) N h ⟨rfl, rfl, trivial⟩ (fun w1 hw => (hw.sel (js := []) rfl).selO (js := []) rfl) (fun s hm => none_ne hm) (fun n1 ih1 s hm => ?_)
 revert hm; revert s; intro s1 hm
 have h : m_s_l5VarOk_l1 N p0 (n1 + 1) s1 = some r := hm
 show WT _ _ [(0, .string p0), (3, .int .i64 s1)] (St w0 Φ [] [])
 unfold m_s_l5VarOk_l1 at h
 refine sq <| sr <| la rfl <| la rfl <| lq (q_lenS Str_9 rfl rfl) rfl <| la rfl <| en ?_
 refine cdh rfl h (fun c1 h => ?_) (fun c1 h => ?_)
 ·refine WT.skip <| sq <| blk <| sr <| la rfl <| la rfl ?_
  obtain ⟨y1, hy1, h⟩ := bs h
  refine lq (q_indexS Str_9 rfl rfl hy1) rfl ?_
  obtain ⟨x1, hx1, h⟩ := bs h
  refine lp (p_call Fun_134 rfl (fun w1 hw => m_s_l5Large_ok hw.fro N (y1.toNat : Int) hx1)) rfl <| la rfl <| la rfl ?_
  obtain ⟨b1, hb_1, h⟩ := bs h
  refine WL.cutN 10 [(25, .bool b1), (0, .string p0), (3, .int .i64 s1)] ?_ (fun K => ?_)
  rotate_left
  ·refine spl 15 rfl hb_1 (fun c2 hb_1 => ?_) (fun c2 hb_1 => ?_)
   ·refine ly rfl rfl <| la rfl <| ly rfl rfl <| la rfl <| ly rfl rfl <| la rfl ?_
    obtain ⟨b2, hb_2, hb_1⟩ := bs hb_1
    refine WL.cutN 6 [(24, .bool b2), (0, .string p0), (3, .int .i64 s1), (15, .bool true)] ?_ (fun K => ?_)
    rotate_left
    ·refine spl 18 rfl hb_2 (fun c3 hb_2 => ?_) (fun c3 hb_2 => ?_)
     ·refine la rfl <| la rfl <| la rfl <| la rfl <| la rfl <| ly rfl rfl <| la rfl ?_
      cases hb_2
      exact kk K ⟨rfl, rfl, rfl, rfl, trivial⟩
     ·refine ly rfl rfl <| la rfl <| ly rfl rfl <| la rfl <| ly rfl rfl ?_
      obtain ⟨y2, hy2, hb_2⟩ := bs hb_2
      refine lq (q_indexS Str_9 rfl rfl hy2) rfl <| ly rfl rfl ?_
      obtain ⟨x2, hx2, hb_2⟩ := bs hb_2
      refine lp (p_call Fun_77 rfl (fun w1 hw => m_s_l1Letter_ok hw.fro N (y2.toNat : Int) hx2)) rfl <| ly rfl rfl <| la rfl <| ly rfl rfl <| la rfl ?_
      cases hb_2
      exact kk K ⟨rfl, rfl, rfl, rfl, trivial⟩
    refine la rfl ?_
    cases hb_1
    exact kk K ⟨rfl, rfl, rfl, trivial⟩
   ·refine la rfl <| la rfl <| la rfl <| WL.nox rfl rfl rfl rfl <| WL.nox rfl rfl rfl rfl <| WL.nox rfl rfl rfl rfl <| WL.nox rfl rfl rfl rfl <| WL.nox rfl rfl rfl rfl <| la rfl <| la rfl ?_
    cases hb_1
    exact kk K ⟨rfl, rfl, rfl, trivial⟩
  refine en ?_
  refine cdh rfl h (fun c4 h => ?_) (fun c4 h => ?_)
  ·refine sr <| la rfl <| en ?_
   refine WT.ret Tryz.func123 (resOk.one rfl) (fun w1 hw => ?_)
   subst hb0
   cases h
   exact post_of_St hw
  refine WT.skip <| ib <| rgn <| la rfl <| la rfl <| la rfl <| en ?_
  exact lback (ih1 (IntKind.i64.wrap (s1 + 1)) h) ⟨rfl, rfl, trivial⟩ (fun w1 hw => (hw.sel (js := []) rfl).selO (js := []) rfl)
 refine xt rfl <| sr <| la rfl <| lq (q_lenS Str_9 rfl rfl) rfl ?_
 obtain ⟨x3, hx3, h⟩ := bs h
 refine lp (p_call Fun_40 rfl (fun w1 hw => m_s_l1In_ok hw.fro N (p0.size : Int) 1 12 hx3)) rfl <| la rfl <| en ?_
 refine WT.ret Tryz.func123 (resOk.one rfl) (fun w1 hw => ?_)
 subst hb0
 cases h
 exact post_of_St hw
theorem m_s_l2Plain_ok {Φ : Hp} {w : World} (hΦ : In Φ w) (N : Nat) (p0 : ByteArray)   {r : Bool} (h : m_s_l2Plain N p0 = some r) :
  Calls Tryz.prog 135 [.string p0].toArray w (Post (.bool r) w) := by
 refine enter Tryz.func135 rfl Tryz.ntmps135 rfl (St.start0 hΦ) ?_
 generalize hb0 : (⟨w, [], Φ⟩ : Base) = w0
 unfold m_s_l2Plain at h
 refine sr <| la rfl <| en <| sq <| sr <| la rfl <| en <| blk ?_
 refine loop_in (σ := Int) (fun s => [(0, .string p0), (3, .int .i64 s)]) (fun s => St w0 Φ [] []) (fun m s => m_s_l2Plain_l1 N p0 m s = some r) (0) N h ⟨rfl, rfl, trivial⟩ (fun w1 hw => (hw.sel (js := []) rfl).selO (js := []) rfl) (fun s hm => none_ne hm) (fun n1 ih1 s hm => ?_)
 revert hm; revert s; intro s1 hm
 have h : m_s_l2Plain_l1 N p0 (n1 + 1) s1 = some r := hm
 show WT _ _ [(0, .string p0), (3, .int .i64 s1)] (St w0 Φ [] [])
 unfold m_s_l2Plain_l1 at h
 refine sq <| sr <| la rfl <| la rfl <| lq (q_lenS Str_9 rfl rfl) rfl <| la rfl <| en ?_
 refine cdh rfl h (fun c1 h => ?_) (fun c1 h => ?_)
 ·refine WT.skip <| sq <| blk <| sr <| la rfl <| la rfl ?_
  obtain ⟨y1, hy1, h⟩ := bs h
  refine lq (q_indexS Str_9 rfl rfl hy1) rfl ?_
  obtain ⟨x1, hx1, h⟩ := bs h
  refine lp (p_call Fun_77 rfl (fun w1 hw => m_s_l1Letter_ok hw.fro N (y1.toNat : Int) hx1)) rfl <| la rfl <| en ?_
  refine cdh rfl h (fun c2 h => ?_) (fun c2 h => ?_)
  ·refine sr <| la rfl <| en ?_
   refine WT.ret Tryz.func135 (resOk.one rfl) (fun w1 hw => ?_)
   subst hb0
   cases h
   exact post_of_St hw
  refine WT.skip <| ib <| rgn <| la rfl <| la rfl <| la rfl <| en ?_
  exact lback (ih1 (IntKind.i64.wrap (s1 + 1)) h) ⟨rfl, rfl, trivial⟩ (fun w1 hw => (hw.sel (js := []) rfl).selO (js := []) rfl)
 refine xt rfl <| sr <| la rfl <| lq (q_lenS Str_9 rfl rfl) rfl <| la rfl <| la rfl <| en ?_
 refine WT.ret Tryz.func135 (resOk.one rfl) (fun w1 hw => ?_)
 subst hb0
 cases h
 exact post_of_St hw
theorem m_s_ValOk_ok {Φ : Hp} {w : World} (hΦ : In Φ w) (N : Nat) (p0 : TVal)   {r : Bool} (h : m_s_ValOk N p0 = some r) :
  Calls Tryz.prog 124 [.agg [.int .i64 p0.K, .int .i64 p0.N, .string p0.S].toArray].toArray w (Post (.bool r) w) := by
 refine enter Tryz.func124 rfl Tryz.ntmps124 rfl (St.start0 hΦ) ?_
 unfold m_s_ValOk at h
 refine sr ?_
 refine ln (nb rfl) rfl (fun b_1 => ?_)
 refine la rfl <| en <| sq <| sr <| lf Fld_100_0 rfl rfl rfl <| lo T1_3 0 rfl <| en <| blk <| sr <| la rfl <| la rfl <| en ?_
 refine cdh rfl h (fun c1 h => ?_) (fun c1 h => ?_)
 ·refine sr <| lf Fld_100_1 rfl rfl rfl <| lo T1_3 0 rfl ?_
  obtain ⟨x1, hx1, h⟩ := bs h
  refine lp (p_call Fun_40 rfl (fun w1 hw => m_s_l1In_ok hw.fro N p0.N (-1000000000) 1000000000 hx1)) rfl <| la rfl ?_
  obtain ⟨b1, hb_1, h⟩ := bs h
  refine WL.cutN 4 [(14, .bool b1), (2, .bool false)] ?_ (fun K => ?_)
  rotate_left
  ·refine spl 10 rfl hb_1 (fun c2 hb_1 => ?_) (fun c2 hb_1 => ?_)
   ·refine ly rfl rfl <| lf Fld_100_2 rfl rfl rfl <| ly rfl rfl <| lo T1_9 0 rfl <| ly rfl rfl <| la rfl <| la rfl ?_
    cases hb_1
    exact kk K ⟨rfl, rfl, trivial⟩
   ·refine la rfl <| la rfl <| la rfl <| la rfl ?_
    cases hb_1
    exact kk K ⟨rfl, rfl, trivial⟩
  refine la rfl <| en ?_
  refine WT.ret Tryz.func124 (resOk.one rfl) (fun w1 hw => ?_)
  cases h
  exact post_of_St hw
 refine sr <| la rfl <| la rfl <| en ?_
 refine cdh rfl h (fun c3 h => ?_) (fun c3 h => ?_)
 ·refine sr <| lf Fld_100_2 rfl rfl rfl <| lo T1_9 0 rfl ?_
  obtain ⟨x2, hx2, h⟩ := bs h
  refine lp (p_call Fun_135 rfl (fun w1 hw => m_s_l2Plain_ok hw.fro N p0.S hx2)) rfl <| la rfl ?_
  obtain ⟨b2, hb_2, h⟩ := bs h
  refine WL.cutN 4 [(24, .bool b2), (2, .bool false)] ?_ (fun K => ?_)
  rotate_left
  ·refine spl 20 rfl hb_2 (fun c4 hb_2 => ?_) (fun c4 hb_2 => ?_)
   ·refine ly rfl rfl <| lf Fld_100_1 rfl rfl rfl <| ly rfl rfl <| lo T1_3 0 rfl <| ly rfl rfl <| la rfl <| la rfl ?_
    cases hb_2
    exact kk K ⟨rfl, rfl, trivial⟩
   ·refine la rfl <| la rfl <| la rfl <| la rfl ?_
    cases hb_2
    exact kk K ⟨rfl, rfl, trivial⟩
  refine la rfl <| en ?_
  refine WT.ret Tryz.func124 (resOk.one rfl) (fun w1 hw => ?_)
  cases h
  exact post_of_St hw
 refine WT.skip <| ib <| sr <| la rfl <| en ?_
 refine WT.ret Tryz.func124 (resOk.one rfl) (fun w1 hw => ?_)
 cases h
 exact post_of_St hw
theorem m_s_ArgOk_ok {Φ : Hp} {w : World} (hΦ : In Φ w) (N : Nat) (p0 : TArg)   {r : Bool} (h : m_s_ArgOk N p0 = some r) :
  Calls Tryz.prog 107 [.agg [.int .i64 p0.K, .string p0.S, .int .i64 p0.V.K, .int .i64 p0.V.N, .string p0.V.S].toArray].toArray w (Post (.bool r) w) := by
 refine enter Tryz.func107 rfl Tryz.ntmps107 rfl (St.start0 hΦ) ?_
 unfold m_s_ArgOk at h
 refine sr ?_
 refine ln (nb rfl) rfl (fun b_1 => ?_)
 refine la rfl <| en <| sr <| lf Fld_102_2 rfl rfl rfl <| ld3 Tn_100 0 rfl <| lq (q_build (vs := []) (C := #[.int .i64 0, .int .i64 0, .string (⟨#[]⟩ : ByteArray)]) Pl_100 Zr_100 rfl (fill_nil)) rfl <| lq (q_eqA EqT_100 rfl rfl rfl (r := eqT_TVal p0.V (⟨0, 0, (⟨#[]⟩ : ByteArray)⟩ : TVal)) rfl) rfl <| la rfl <| en <| sq <| sr <| lf Fld_102_0 rfl rfl rfl <| lo T1_3 0 rfl <| en <| blk <| sr <| la rfl <| la rfl <| en ?_
 refine cdh rfl h (fun c1 h => ?_) (fun c1 h => ?_)
 ·refine sr <| lf Fld_102_1 rfl rfl rfl <| lo T1_9 0 rfl ?_
  obtain ⟨x1, hx1, h⟩ := bs h
  refine lp (p_call Fun_123 rfl (fun w1 hw => m_s_l5VarOk_ok hw.fro N p0.S hx1)) rfl <| la rfl ?_
  obtain ⟨b1, hb_1, h⟩ := bs h
  refine WL.cutN 2 [(17, .bool b1), (2, .bool false)] ?_ (fun K => ?_)
  rotate_left
  ·refine spl 15 rfl hb_1 (fun c2 hb_1 => ?_) (fun c2 hb_1 => ?_)
   ·refine ly rfl rfl <| la rfl <| la rfl ?_
    cases hb_1
    exact kk K ⟨rfl, rfl, trivial⟩
   ·refine la rfl <| la rfl ?_
    cases hb_1
    exact kk K ⟨rfl, rfl, trivial⟩
  refine la rfl <| en ?_
  refine WT.ret Tryz.func107 (resOk.one rfl) (fun w1 hw => ?_)
  cases h
  exact post_of_St hw
 refine sr <| la rfl <| la rfl <| en ?_
 refine cdh rfl h (fun c3 h => ?_) (fun c3 h => ?_)
 ·refine sr <| lf Fld_102_2 rfl rfl rfl <| ld3 Tn_100 0 rfl ?_
  obtain ⟨x2, hx2, h⟩ := bs h
  refine lp (p_call Fun_124 rfl (fun w1 hw => m_s_ValOk_ok hw.fro N p0.V hx2)) rfl <| la rfl ?_
  obtain ⟨b2, hb_2, h⟩ := bs h
  refine WL.cutN 4 [(27, .bool b2), (2, .bool false)] ?_ (fun K => ?_)
  rotate_left
  ·refine spl 23 rfl hb_2 (fun c4 hb_2 => ?_) (fun c4 hb_2 => ?_)
   ·refine ly rfl rfl <| lf Fld_102_1 rfl rfl rfl <| ly rfl rfl <| lo T1_9 0 rfl <| ly rfl rfl <| la rfl <| la rfl ?_
    cases hb_2
    exact kk K ⟨rfl, rfl, trivial⟩
   ·refine la rfl <| la rfl <| la rfl <| la rfl ?_
    cases hb_2
    exact kk K ⟨rfl, rfl, trivial⟩
  refine la rfl <| en ?_
  refine WT.ret Tryz.func107 (resOk.one rfl) (fun w1 hw => ?_)
  cases h
  exact post_of_St hw
 refine sr <| la rfl <| la rfl <| en ?_
 refine cdh rfl h (fun c5 h => ?_) (fun c5 h => ?_)
 ·refine sr <| lf Fld_102_1 rfl rfl rfl <| lo T1_9 0 rfl <| la rfl <| la rfl ?_
  obtain ⟨b3, hb_3, h⟩ := bs h
  refine WL.cutN 2 [(35, .bool b3), (2, .bool false)] ?_ (fun K => ?_)
  rotate_left
  ·refine spl 33 rfl hb_3 (fun c6 hb_3 => ?_) (fun c6 hb_3 => ?_)
   ·refine ly rfl rfl <| la rfl <| la rfl ?_
    cases hb_3
    exact kk K ⟨rfl, rfl, trivial⟩
   ·refine la rfl <| la rfl ?_
    cases hb_3
    exact kk K ⟨rfl, rfl, trivial⟩
  refine la rfl <| en ?_
  refine WT.ret Tryz.func107 (resOk.one rfl) (fun w1 hw => ?_)
  cases h
  exact post_of_St hw
 refine WT.skip <| ib <| sr <| la rfl <| en ?_
 refine WT.ret Tryz.func107 (resOk.one rfl) (fun w1 hw => ?_)
 cases h
 exact post_of_St hw
theorem m_s_PatOk_ok {Φ : Hp} {w : World} (hΦ : In Φ w) (N : Nat) (p0 : TPat) {pv0_0 : Value} {pG0_0 : List Nat} (ph0_0 : RSl RTArg 5 Φ pG0_0 pv0_0 p0.Args) {r : Bool} (h : m_s_PatOk N p0 = some r) :
  Calls Tryz.prog 78 [.agg [.string p0.Kind, pv0_0, .bool p0.Not].toArray].toArray w (Post (.bool r) w) := by
 refine enter Tryz.func78 rfl Tryz.ntmps78 rfl (St.start0 hΦ) ?_
 generalize hb0 : (⟨w, [], Φ⟩ : Base) = w0
 unfold m_s_PatOk at h
 refine sr ?_
 refine ln (nb rfl) rfl (fun b_1 => ?_)
 refine la rfl <| en <| sq <| sr <| la rfl <| en <| blk ?_
 refine loop_in (σ := Int) (fun s => [(1, .pointer (some ⟨b_1, 0, none⟩)), (3, .int .i64 s)]) (fun s => St w0 Φ [(b_1, .cells #[.string p0.Kind, pv0_0, .bool p0.Not] 98 (0, 0))] []) (fun m s => m_s_PatOk_l1 N p0 m s = some r) (0) N h ⟨rfl, rfl, trivial⟩ (fun w1 hw => (hw.sel (js := []) rfl).selO (js := [0]) rfl) (fun s hm => none_ne hm) (fun n1 ih1 s hm => ?_)
 revert hm; revert s; intro s1 hm
 have h : m_s_PatOk_l1 N p0 (n1 + 1) s1 = some r := hm
 show WT _ _ [(1, .pointer (some ⟨b_1, 0, none⟩)), (3, .int .i64 s1)] (St w0 Φ [(b_1, .cells #[.string p0.Kind, pv0_0, .bool p0.Not] 98 (0, 0))] [])
 unfold m_s_PatOk_l1 at h
 refine sq <| sr <| la rfl <| lf Fld_98_1 rfl rfl rfl <| lo T1_96 0 rfl <| lq (q_lenR Sl_96 rfl rfl ph0_0) rfl <| la rfl <| en ?_
 refine cdh rfl h (fun c1 h => ?_) (fun c1 h => ?_)
 ·refine WT.skip <| sq <| blk <| sr <| lf Fld_98_1 rfl rfl rfl <| lo T1_96 0 rfl <| la rfl ?_
  obtain ⟨x1, hx1, h⟩ := bs h
  obtain ⟨cs1, F1, -, g1, hb1, hs1, r1⟩ := ph0_0.el (idx_some hx1).2.2
  obtain ⟨rfl, -⟩ := r1
  refine lq (q_indexAddr Sl_96 rfl rfl ph0_0 hx1) rfl <| lg5 0 Tn_102 g1 rfl rfl ?_
  obtain ⟨x2, hx2, h⟩ := bs h
  refine lp (p_call Fun_107 rfl (fun w1 hw => m_s_ArgOk_ok hw.fro N x1 hx2)) rfl <| la rfl <| en ?_
  refine cdh rfl h (fun c2 h => ?_) (fun c2 h => ?_)
  ·refine sr <| la rfl <| en ?_
   refine WT.ret Tryz.func78 (resOk.one rfl) (fun w1 hw => ?_)
   subst hb0
   cases h
   exact post_of_St hw
  refine WT.skip <| ib <| rgn <| la rfl <| la rfl <| la rfl <| en ?_
  exact lback (ih1 (IntKind.i64.wrap (s1 + 1)) h) ⟨rfl, rfl, trivial⟩ (fun w1 hw => (hw.sel (js := []) rfl).selO (js := [0]) rfl)
 refine xt rfl <| sr <| lf Fld_98_0 rfl rfl rfl <| lo T1_9 0 rfl ?_
 obtain ⟨x3, hx3, h⟩ := bs h
 refine lp (p_call Fun_39 rfl (fun w1 hw => m_s_NameOk_ok hw.fro N p0.Kind hx3)) rfl <| la rfl ?_
 obtain ⟨b1, hb_1, h⟩ := bs h
 refine WL.cutN 5 [(26, .bool b1)] ?_ (fun K => ?_)
 rotate_left
 ·refine spl 21 rfl hb_1 (fun c3 hb_1 => ?_) (fun c3 hb_1 => ?_)
  ·refine ly rfl rfl <| lf Fld_98_1 rfl rfl rfl <| ly rfl rfl <| lo T1_96 0 rfl <| ly rfl rfl <| lq (q_lenR Sl_96 rfl rfl ph0_0) rfl <| ly rfl rfl <| la rfl <| la rfl ?_
   cases hb_1
   exact kk K ⟨rfl, trivial⟩
  ·refine la rfl <| la rfl <| la rfl <| la rfl <| la rfl ?_
   cases hb_1
   exact kk K ⟨rfl, trivial⟩
 refine la rfl <| en ?_
 refine WT.ret Tryz.func78 (resOk.one rfl) (fun w1 hw => ?_)
 subst hb0
 cases h
 exact post_of_St hw
theorem m_s_l2Text_ok {Φ : Hp} {w : World} (hΦ : In Φ w) (N : Nat) (p0 : TVal)   {r : ByteArray} (h : m_s_l2Text N p0 = some r) :
  Calls Tryz.prog 109 [.agg [.int .i64 p0.K, .int .i64 p0.N, .string p0.S].toArray].toArray w (Post (.string r) w) := by
 refine enter Tryz.func109 rfl Tryz.ntmps109 rfl (St.start0 hΦ) ?_
 unfold m_s_l2Text at h
 refine sr ?_
 refine ln (nb rfl) rfl (fun b_1 => ?_)
 refine la rfl <| en <| sq <| sr <| lf Fld_100_0 rfl rfl rfl <| lo T1_3 0 rfl <| la rfl <| en ?_
 refine cdh rfl h (fun c1 h => ?_) (fun c1 h => ?_)
 ·refine sr <| lf Fld_100_1 rfl rfl rfl <| lo T1_3 0 rfl ?_
  obtain ⟨x1, hx1, h⟩ := bs h
  refine lp (p_call Fun_45 rfl (fun w1 hw => m_s_l2Num_ok N hw.fro p0.N hx1)) rfl <| la rfl <| en ?_
  refine WT.ret Tryz.func109 (resOk.one rfl) (fun w1 hw => ?_)
  cases h
  exact post_of_St hw
 refine WT.skip <| sr <| lf Fld_100_2 rfl rfl rfl <| lo T1_9 0 rfl ?_
 obtain ⟨z1, hz1, h⟩ := bs h
 refine lq (q_cat rfl rfl hz1) rfl ?_
 obtain ⟨z2, hz2, h⟩ := bs h
 refine lq (q_cat rfl rfl hz2) rfl <| la rfl <| en ?_
 refine WT.ret Tryz.func109 (resOk.one rfl) (fun w1 hw => ?_)
 cases h
 exact post_of_St hw
theorem m_s_l6ArgText_ok {Φ : Hp} {w : World} (hΦ : In Φ w) (N : Nat) (p0 : TArg)   {r : ByteArray} (h : m_s_l6ArgText N p0 = some r) :
  Calls Tryz.prog 82 [.agg [.int .i64 p0.K, .string p0.S, .int .i64 p0.V.K, .int .i64 p0.V.N, .string p0.V.S].toArray].toArray w (Post (.string r) w) := by
 refine enter Tryz.func82 rfl Tryz.ntmps82 rfl (St.start0 hΦ) ?_
 unfold m_s_l6ArgText at h
 refine sr ?_
 refine ln (nb rfl) rfl (fun b_1 => ?_)
 refine la rfl <| en <| sq <| sr <| lf Fld_102_0 rfl rfl rfl <| lo T1_3 0 rfl <| en <| blk <| sr <| la rfl <| la rfl <| en ?_
 refine cdh rfl h (fun c1 h => ?_) (fun c1 h => ?_)
 ·refine sr <| lf Fld_102_1 rfl rfl rfl <| lo T1_9 0 rfl <| la rfl <| en ?_
  refine WT.ret Tryz.func82 (resOk.one rfl) (fun w1 hw => ?_)
  cases h
  exact post_of_St hw
 refine sr <| la rfl <| la rfl <| en ?_
 refine cdh rfl h (fun c2 h => ?_) (fun c2 h => ?_)
 ·refine sr <| lf Fld_102_2 rfl rfl rfl <| ld3 Tn_100 0 rfl ?_
  obtain ⟨x1, hx1, h⟩ := bs h
  refine lp (p_call Fun_109 rfl (fun w1 hw => m_s_l2Text_ok hw.fro N p0.V hx1)) rfl <| la rfl <| en ?_
  refine WT.ret Tryz.func82 (resOk.one rfl) (fun w1 hw => ?_)
  cases h
  exact post_of_St hw
 refine WT.skip <| ib <| sr <| la rfl <| en ?_
 refine WT.ret Tryz.func82 (resOk.one rfl) (fun w1 hw => ?_)
 cases h
 exact post_of_St hw
theorem m_s_PatText_ok {Φ : Hp} {w : World} (hΦ : In Φ w) (N : Nat) (p0 : TPat) {pv0_0 : Value} {pG0_0 : List Nat} (ph0_0 : RSl RTArg 5 Φ pG0_0 pv0_0 p0.Args) {r : ByteArray} (h : m_s_PatText N p0 = some r) :
  Calls Tryz.prog 46 [.agg [.string p0.Kind, pv0_0, .bool p0.Not].toArray].toArray w (Post (.string r) w) := by
 refine enter Tryz.func46 rfl Tryz.ntmps46 rfl (St.start0 hΦ) ?_
 generalize hb0 : (⟨w, [], Φ⟩ : Base) = w0
 unfold m_s_PatText at h
 refine sr ?_
 refine ln (nb rfl) rfl (fun b_1 => ?_)
 refine la rfl <| en <| sq <| sr <| ld3 Tn_98 0 rfl ?_
 obtain ⟨x1, hx1, h⟩ := bs h
 refine lp (p_call Fun_78 rfl (fun w1 hw => m_s_PatOk_ok hw.fro N p0 ph0_0 hx1)) rfl <| la rfl <| en ?_
 refine cdh rfl h (fun c1 h => ?_) (fun c1 h => ?_)
 ·refine sr <| la rfl <| en ?_
  refine WT.ret Tryz.func46 (resOk.one rfl) (fun w1 hw => ?_)
  subst hb0
  cases h
  exact post_of_St hw
 refine WT.skip <| sr <| lf Fld_98_0 rfl rfl rfl <| lo T1_9 0 rfl ?_
 obtain ⟨z1, hz1, h⟩ := bs h
 refine lq (q_cat rfl rfl hz1) rfl <| la rfl <| en <| sq <| sr <| lf Fld_98_2 rfl rfl rfl <| lo T1_4 0 rfl <| en ?_
 refine cut (σ := ByteArray) (fun s => [(1, .pointer (some ⟨b_1, 0, none⟩)), (3, .string s)]) (fun s => St w0 Φ [(b_1, .cells #[.string p0.Kind, pv0_0, .bool p0.Not] 98 (0, 0))] []) (fun s => m_s_PatText_j1 N p0 s = some r) (fun s hm => ?_) (fun K => ?_)
 ·clear h
  revert hm; revert s; intro s1 hm
  have h : m_s_PatText_j1 N p0 s1 = some r := hm
  show WT _ _ [(1, .pointer (some ⟨b_1, 0, none⟩)), (3, .string s1)] (St w0 Φ [(b_1, .cells #[.string p0.Kind, pv0_0, .bool p0.Not] 98 (0, 0))] [])
  unfold m_s_PatText_j1 at h
  refine sq <| sr <| la rfl <| en <| blk ?_
  refine loop_in (σ := ByteArray × Int) (fun s => [(1, .pointer (some ⟨b_1, 0, none⟩)), (3, .string s.1), (4, .int .i64 s.2)]) (fun s => St w0 Φ [(b_1, .cells #[.string p0.Kind, pv0_0, .bool p0.Not] 98 (0, 0))] []) (fun m s => m_s_PatText_l2 N p0 m s.1 s.2 = some r) (s1, 0) N h ⟨rfl, rfl, rfl, trivial⟩ (fun w1 hw => (hw.sel (js := []) rfl).selO (js := [0]) rfl) (fun s hm => none_ne hm) (fun n2 ih2 s hm => ?_)
  obtain ⟨s2, s3⟩ := s
  have h : m_s_PatText_l2 N p0 (n2 + 1) s2 s3 = some r := hm
  show WT _ _ [(1, .pointer (some ⟨b_1, 0, none⟩)), (3, .string s2), (4, .int .i64 s3)] (St w0 Φ [(b_1, .cells #[.string p0.Kind, pv0_0, .bool p0.Not] 98 (0, 0))] [])
  unfold m_s_PatText_l2 at h
  refine sq <| sr <| la rfl <| lf Fld_98_1 rfl rfl rfl <| lo T1_96 0 rfl <| lq (q_lenR Sl_96 rfl rfl ph0_0) rfl <| la rfl <| en ?_
  refine cdh rfl h (fun c2 h => ?_) (fun c2 h => ?_)
  ·refine WT.skip <| sq <| blk <| sq <| sr <| la rfl <| la rfl <| en ?_
   refine cut (σ := ByteArray) (fun s => [(1, .pointer (some ⟨b_1, 0, none⟩)), (3, .string s), (4, .int .i64 s3)]) (fun s => St w0 Φ [(b_1, .cells #[.string p0.Kind, pv0_0, .bool p0.Not] 98 (0, 0))] []) (fun s => m_s_PatText_j3 N p0 s3 (m_s_PatText_l2 N p0 n2) s = some r) (fun s hm => ?_) (fun K => ?_)
   ·clear h
    revert hm; revert s; intro s4 hm
    have h : m_s_PatText_j3 N p0 s3 (m_s_PatText_l2 N p0 n2) s4 = some r := hm
    show WT _ _ [(1, .pointer (some ⟨b_1, 0, none⟩)), (3, .string s4), (4, .int .i64 s3)] (St w0 Φ [(b_1, .cells #[.string p0.Kind, pv0_0, .bool p0.Not] 98 (0, 0))] [])
    unfold m_s_PatText_j3 at h
    refine rgn <| la rfl <| lf Fld_98_1 rfl rfl rfl <| lo T1_96 0 rfl <| la rfl ?_
    obtain ⟨x2, hx2, h⟩ := bs h
    obtain ⟨cs1, F1, -, g1, hb1, hs1, r1⟩ := ph0_0.el (idx_some hx2).2.2
    obtain ⟨rfl, -⟩ := r1
    refine lq (q_indexAddr Sl_96 rfl rfl ph0_0 hx2) rfl <| lg5 0 Tn_102 g1 rfl rfl ?_
    obtain ⟨x3, hx3, h⟩ := bs h
    refine lp (p_call Fun_82 rfl (fun w1 hw => m_s_l6ArgText_ok hw.fro N x2 hx3)) rfl ?_
    obtain ⟨z2, hz2, h⟩ := bs h
    refine lq (q_cat rfl rfl hz2) rfl <| la rfl <| en <| ib <| rgn <| la rfl <| la rfl <| la rfl <| en ?_
    exact lback (ih2 (z2, IntKind.i64.wrap (s3 + 1)) h) ⟨rfl, rfl, rfl, trivial⟩ (fun w1 hw => (hw.sel (js := []) rfl).selO (js := [0]) rfl)
   refine cdh rfl h (fun c3 h => ?_) (fun c3 h => ?_)
   ·refine rgn <| la rfl ?_
    obtain ⟨z3, hz3, h⟩ := bs h
    refine lq (q_cat rfl rfl hz3) rfl <| la rfl <| en ?_
    exact wto (K (z3) h) ⟨rfl, rfl, rfl, trivial⟩ (fun w1 hw => (hw.sel (js := []) rfl).selO (js := [0]) rfl)
   refine WT.skip ?_
   exact wto (K (s2) h) ⟨rfl, rfl, rfl, trivial⟩ (fun w1 hw => (hw.sel (js := []) rfl).selO (js := [0]) rfl)
  refine xt rfl <| sr <| la rfl ?_
  obtain ⟨z4, hz4, h⟩ := bs h
  refine lq (q_cat rfl rfl hz4) rfl <| la rfl <| en ?_
  refine WT.ret Tryz.func46 (resOk.one rfl) (fun w1 hw => ?_)
  subst hb0
  cases h
  exact post_of_St hw
 refine cdh rfl h (fun c4 h => ?_) (fun c4 h => ?_)
 ·refine rgn <| la rfl ?_
  obtain ⟨z5, hz5, h⟩ := bs h
  refine lq (q_cat rfl rfl hz5) rfl <| la rfl <| en ?_
  exact wto (K (z5) h) ⟨rfl, rfl, trivial⟩ (fun w1 hw => (hw.sel (js := []) rfl).selO (js := [0]) rfl)
 refine WT.skip ?_
 exact wto (K (z1) h) ⟨rfl, rfl, trivial⟩ (fun w1 hw => (hw.sel (js := []) rfl).selO (js := [0]) rfl)
theorem m_s_CondOk_ok {Φ : Hp} {w : World} (hΦ : In Φ w) (N : Nat) (p0 : TCond)   {r : Bool} (h : m_s_CondOk N p0 = some r) :
  Calls Tryz.prog 79 [.agg [.int .i64 p0.Op, .int .i64 p0.L.K, .string p0.L.S, .int .i64 p0.L.V.K, .int .i64 p0.L.V.N, .string p0.L.V.S, .int .i64 p0.R.K, .string p0.R.S, .int .i64 p0.R.V.K, .int .i64 p0.R.V.N, .string p0.R.V.S].toArray].toArray w (Post (.bool r) w) := by
 refine enter Tryz.func79 rfl Tryz.ntmps79 rfl (St.start0 hΦ) ?_
 unfold m_s_CondOk at h
 refine sr ?_
 refine ln (nb rfl) rfl (fun b_1 => ?_)
 refine la rfl <| en <| sr <| lf Fld_104_0 rfl rfl rfl <| lo T1_3 0 rfl ?_
 obtain ⟨x1, hx1, h⟩ := bs h
 refine lp (p_call Fun_40 rfl (fun w1 hw => m_s_l1In_ok hw.fro N p0.Op 1 3 hx1)) rfl <| la rfl ?_
 obtain ⟨b1, hb_1, h⟩ := bs h
 refine WL.cutN 4 [(10, .bool b1), (1, .pointer (some ⟨b_1, 0, none⟩)), (2, .bool false)] ?_ (fun K => ?_)
 rotate_left
 ·refine spl 6 rfl hb_1 (fun c1 hb_1 => ?_) (fun c1 hb_1 => ?_)
  ·refine ly rfl rfl <| lf Fld_104_1 rfl rfl rfl <| ly rfl rfl <| ld5 Tn_102 0 rfl <| ly rfl rfl ?_
   obtain ⟨x2, hx2, hb_1⟩ := bs hb_1
   refine lp (p_call Fun_107 rfl (fun w1 hw => m_s_ArgOk_ok hw.fro N p0.L hx2)) rfl <| la rfl ?_
   cases hb_1
   exact kk K ⟨rfl, rfl, rfl, trivial⟩
  ·refine la rfl <| la rfl <| la rfl <| la rfl ?_
   cases hb_1
   exact kk K ⟨rfl, rfl, rfl, trivial⟩
 refine la rfl ?_
 obtain ⟨b2, hb_2, h⟩ := bs h
 refine WL.cutN 4 [(15, .bool b2), (1, .pointer (some ⟨b_1, 0, none⟩)), (2, .bool false)] ?_ (fun K => ?_)
 rotate_left
 ·refine spl 11 rfl hb_2 (fun c2 hb_2 => ?_) (fun c2 hb_2 => ?_)
  ·refine ly rfl rfl <| lf Fld_104_2 rfl rfl rfl <| ly rfl rfl <| ld5 Tn_102 0 rfl <| ly rfl rfl ?_
   obtain ⟨x3, hx3, hb_2⟩ := bs hb_2
   refine lp (p_call Fun_107 rfl (fun w1 hw => m_s_ArgOk_ok hw.fro N p0.R hx3)) rfl <| la rfl ?_
   cases hb_2
   exact kk K ⟨rfl, rfl, rfl, trivial⟩
  ·refine la rfl <| la rfl <| la rfl <| la rfl ?_
   cases hb_2
   exact kk K ⟨rfl, rfl, rfl, trivial⟩
 refine la rfl ?_
 obtain ⟨b3, hb_3, h⟩ := bs h
 refine WL.cutN 5 [(21, .bool b3), (1, .pointer (some ⟨b_1, 0, none⟩)), (2, .bool false)] ?_ (fun K => ?_)
 rotate_left
 ·refine spl 16 rfl hb_3 (fun c3 hb_3 => ?_) (fun c3 hb_3 => ?_)
  ·refine ly rfl rfl <| lf Fld_104_1 rfl rfl rfl <| ly rfl rfl <| lf Fld_102_0 rfl rfl rfl <| ly rfl rfl <| lo T1_3 0 rfl <| ly rfl rfl <| la rfl <| la rfl ?_
   cases hb_3
   exact kk K ⟨rfl, rfl, rfl, trivial⟩
  ·refine la rfl <| la rfl <| la rfl <| la rfl <| la rfl ?_
   cases hb_3
   exact kk K ⟨rfl, rfl, rfl, trivial⟩
 refine la rfl ?_
 obtain ⟨b4, hb_4, h⟩ := bs h
 refine WL.cutN 5 [(27, .bool b4), (2, .bool false)] ?_ (fun K => ?_)
 rotate_left
 ·refine spl 22 rfl hb_4 (fun c4 hb_4 => ?_) (fun c4 hb_4 => ?_)
  ·refine ly rfl rfl <| lf Fld_104_2 rfl rfl rfl <| ly rfl rfl <| lf Fld_102_0 rfl rfl rfl <| ly rfl rfl <| lo T1_3 0 rfl <| ly rfl rfl <| la rfl <| la rfl ?_
   cases hb_4
   exact kk K ⟨rfl, rfl, trivial⟩
  ·refine la rfl <| la rfl <| la rfl <| la rfl <| la rfl ?_
   cases hb_4
   exact kk K ⟨rfl, rfl, trivial⟩
 refine la rfl <| en ?_
 refine WT.ret Tryz.func79 (resOk.one rfl) (fun w1 hw => ?_)
 cases h
 exact post_of_St hw
theorem m_s_CondText_ok {Φ : Hp} {w : World} (hΦ : In Φ w) (N : Nat) (p0 : TCond)   {r : ByteArray} (h : m_s_CondText N p0 = some r) :
  Calls Tryz.prog 47 [.agg [.int .i64 p0.Op, .int .i64 p0.L.K, .string p0.L.S, .int .i64 p0.L.V.K, .int .i64 p0.L.V.N, .string p0.L.V.S, .int .i64 p0.R.K, .string p0.R.S, .int .i64 p0.R.V.K, .int .i64 p0.R.V.N, .string p0.R.V.S].toArray].toArray w (Post (.string r) w) := by
 refine enter Tryz.func47 rfl Tryz.ntmps47 rfl (St.start0 hΦ) ?_
 unfold m_s_CondText at h
 refine sr ?_
 refine ln (nb rfl) rfl (fun b_1 => ?_)
 refine la rfl <| en <| sq <| sr <| ld11 Tn_104 0 rfl ?_
 obtain ⟨x1, hx1, h⟩ := bs h
 refine lp (p_call Fun_79 rfl (fun w1 hw => m_s_CondOk_ok hw.fro N p0 hx1)) rfl <| la rfl <| en ?_
 refine cdh rfl h (fun c1 h => ?_) (fun c1 h => ?_)
 ·refine sr <| la rfl <| en ?_
  refine WT.ret Tryz.func47 (resOk.one rfl) (fun w1 hw => ?_)
  cases h
  exact post_of_St hw
 refine WT.skip <| sr ?_
 have rc1 : RC RS 1 Φ ([[], [], []] : List (List Nat)) [.string (⟨#[61]⟩ : ByteArray), .string (⟨#[35]⟩ : ByteArray), .string (⟨#[60]⟩ : ByteArray)] ([(⟨#[61]⟩ : ByteArray), (⟨#[35]⟩ : ByteArray), (⟨#[60]⟩ : ByteArray)] : List ByteArray) := RC.cons (c := [.string (⟨#[61]⟩ : ByteArray)]) (cells := [.string (⟨#[35]⟩ : ByteArray), .string (⟨#[60]⟩ : ByteArray)]) ⟨rfl, rfl⟩ rfl (RC.cons (c := [.string (⟨#[35]⟩ : ByteArray)]) (cells := [.string (⟨#[60]⟩ : ByteArray)]) ⟨rfl, rfl⟩ rfl (RC.cons (c := [.string (⟨#[60]⟩ : ByteArray)]) (cells := []) ⟨rfl, rfl⟩ rfl (RC.nil _ _ _)))
 refine le' (e_lit (vs := [(0, .string (⟨#[61]⟩ : ByteArray)), (1, .string (⟨#[35]⟩ : ByteArray)), (2, .string (⟨#[60]⟩ : ByteArray))]) (C := #[.string (⟨#[61]⟩ : ByteArray), .string (⟨#[35]⟩ : ByteArray), .string (⟨#[60]⟩ : ByteArray)]) RS.lasts Sl_86 Zr_9 rfl rfl rfl rfl (fill_made MC_9_3 (fill_cons (C' := [.string (⟨#[61]⟩ : ByteArray), .string ⟨#[]⟩, .string ⟨#[]⟩]) rfl rfl rfl rfl rfl (fill_cons (C' := [.string (⟨#[61]⟩ : ByteArray), .string (⟨#[35]⟩ : ByteArray), .string ⟨#[]⟩]) rfl rfl rfl rfl rfl (fill_cons (C' := [.string (⟨#[61]⟩ : ByteArray), .string (⟨#[35]⟩ : ByteArray), .string (⟨#[60]⟩ : ByteArray)]) rfl rfl rfl rfl rfl (fill_nil))))) rfl rc1 rfl (by simpa using Kw.nil)) rfl (fun v1 Φ_1 D1 q1 => ?_)
 obtain ⟨fr1, h1⟩ := q1
 replace h1 : OSl RS 9 1 Φ_1 [] v1 ([(⟨#[61]⟩ : ByteArray), (⟨#[35]⟩ : ByteArray), (⟨#[60]⟩ : ByteArray)] : List ByteArray) := by simpa using h1
 refine la rfl <| en <| sq <| WT.draw mixed (by kernel_rfl) (fun _ h => h.drew) <| qq (q_fieldAddr Fld_104_1 rfl) rfl <| qq (q_loadN Tn_102 rfl (fun w1 hw => hw.rgO (i := 0) rfl 1 5 [.int .i64 p0.L.K, .string p0.L.S, .int .i64 p0.L.V.K, .int .i64 p0.L.V.N, .string p0.L.V.S] rfl) rfl) rfl ?_
 obtain ⟨x2, hx2, h⟩ := bs h
 refine qp (p_call Fun_82 rfl (fun w1 hw => m_s_l6ArgText_ok hw.fro N p0.L hx2)) rfl ?_
 obtain ⟨z1, hz1, h⟩ := bs h
 refine qq (q_cat rfl rfl hz1) rfl <| qq (q_move rfl) rfl <| qq (q_fieldAddr Fld_104_0 rfl) rfl <| qq (q_load1 T1_3 rfl (fun w1 hw => hw.rgO (i := 0) rfl 0 1 [.int .i64 p0.Op] rfl)) rfl <| qq (q_sub rfl rfl) rfl ?_
 obtain ⟨x3, hx3, h⟩ := bs h
 obtain ⟨cs1, F1, -, g1, hb1, hs1, r1⟩ := h1.elS (idx_some hx3).2.2
 obtain ⟨rfl, -⟩ := r1
 refine qq (q_indexAddr Sl_86 rfl rfl h1.rsl hx3) rfl <| qq (q_load1 T1_9 rfl (fun w1 hw => (g1.of_eq 0 1 rfl rfl : rg _ _ _ [.string x3]).rangeAt hw.fro)) rfl ?_
 obtain ⟨z2, hz2, h⟩ := bs h
 refine qq (q_cat rfl rfl hz2) rfl ?_
 obtain ⟨z3, hz3, h⟩ := bs h
 refine qq (q_cat rfl rfl hz3) rfl <| qq (q_fieldAddr Fld_104_2 rfl) rfl <| qq (q_loadN Tn_102 rfl (fun w1 hw => hw.rgO (i := 0) rfl 6 5 [.int .i64 p0.R.K, .string p0.R.S, .int .i64 p0.R.V.K, .int .i64 p0.R.V.N, .string p0.R.V.S] rfl) rfl) rfl ?_
 obtain ⟨x4, hx4, h⟩ := bs h
 refine qp (p_call Fun_82 rfl (fun w1 hw => m_s_l6ArgText_ok hw.fro N p0.R hx4)) rfl ?_
 obtain ⟨z4, hz4, h⟩ := bs h
 refine qq (q_cat rfl rfl hz4) rfl <| qq (q_assign rfl) rfl <| WQ.nil ?_
 refine WT.ret Tryz.func47 (resOk.one rfl) (fun w1 hw => ?_)
 cases h
 exact post_of_St hw
theorem m_s_l8Given_ok {Φ : Hp} {w : World} (hΦ : In Φ w) (N : Nat) (p0 : TArg)   {r : Bool} (h : m_s_l8Given N p0 = some r) :
  Calls Tryz.prog 136 [.agg [.int .i64 p0.K, .string p0.S, .int .i64 p0.V.K, .int .i64 p0.V.N, .string p0.V.S].toArray].toArray w (Post (.bool r) w) := by
 refine enter Tryz.func136 rfl Tryz.ntmps136 rfl (St.start0 hΦ) ?_
 unfold m_s_l8Given at h
 refine sr ?_
 refine ln (nb rfl) rfl (fun b_1 => ?_)
 refine la rfl <| en <| sr <| ld5 Tn_102 0 rfl ?_
 obtain ⟨x1, hx1, h⟩ := bs h
 refine lp (p_call Fun_107 rfl (fun w1 hw => m_s_ArgOk_ok hw.fro N p0 hx1)) rfl <| la rfl ?_
 obtain ⟨b1, hb_1, h⟩ := bs h
 refine WL.cutN 4 [(9, .bool b1), (2, .bool false)] ?_ (fun K => ?_)
 rotate_left
 ·refine spl 5 rfl hb_1 (fun c1 hb_1 => ?_) (fun c1 hb_1 => ?_)
  ·refine ly rfl rfl <| lf Fld_102_0 rfl rfl rfl <| ly rfl rfl <| lo T1_3 0 rfl <| ly rfl rfl <| la rfl <| la rfl ?_
   cases hb_1
   exact kk K ⟨rfl, rfl, trivial⟩
  ·refine la rfl <| la rfl <| la rfl <| la rfl ?_
   cases hb_1
   exact kk K ⟨rfl, rfl, trivial⟩
 refine la rfl <| en ?_
 refine WT.ret Tryz.func136 (resOk.one rfl) (fun w1 hw => ?_)
 cases h
 exact post_of_St hw
theorem m_s_ExprOk_ok {Φ : Hp} {w : World} (hΦ : In Φ w) (N : Nat) (p0 : TExpr)   {r : Bool} (h : m_s_ExprOk N p0 = some r) :
  Calls Tryz.prog 125 [.agg [.string p0.Op, .int .i64 p0.L.K, .string p0.L.S, .int .i64 p0.L.V.K, .int .i64 p0.L.V.N, .string p0.L.V.S, .int .i64 p0.R.K, .string p0.R.S, .int .i64 p0.R.V.K, .int .i64 p0.R.V.N, .string p0.R.V.S].toArray].toArray w (Post (.bool r) w) := by
 refine enter Tryz.func125 rfl Tryz.ntmps125 rfl (St.start0 hΦ) ?_
 generalize hb0 : (⟨w, [], Φ⟩ : Base) = w0
 unfold m_s_ExprOk at h
 refine sr ?_
 refine ln (nb rfl) rfl (fun b_1 => ?_)
 refine la rfl <| en <| sq <| sr <| lf Fld_129_0 rfl rfl rfl <| lo T1_9 0 rfl <| en <| blk <| sr <| la rfl <| la rfl <| en ?_
 refine cdh rfl h (fun c1 h => ?_) (fun c1 h => ?_)
 ·refine sr <| lf Fld_129_1 rfl rfl rfl <| ld5 Tn_102 0 rfl ?_
  obtain ⟨x1, hx1, h⟩ := bs h
  refine lp (p_call Fun_136 rfl (fun w1 hw => m_s_l8Given_ok hw.fro N p0.L hx1)) rfl <| la rfl ?_
  obtain ⟨b1, hb_1, h⟩ := bs h
  refine WL.cutN 5 [(15, .bool b1), (2, .bool false)] ?_ (fun K => ?_)
  rotate_left
  ·refine spl 10 rfl hb_1 (fun c2 hb_1 => ?_) (fun c2 hb_1 => ?_)
   ·refine ly rfl rfl <| lf Fld_129_2 rfl rfl rfl <| ly rfl rfl <| ld5 Tn_102 0 rfl <| ly rfl rfl <| lq (q_build (vs := []) (C := #[.int .i64 0, .string (⟨#[]⟩ : ByteArray), .int .i64 0, .int .i64 0, .string (⟨#[]⟩ : ByteArray)]) Pl_102 Zr_102 rfl (fill_nil)) rfl <| ly rfl rfl <| lq (q_eqA EqT_102 rfl rfl rfl (r := eqT_TArg p0.R (⟨0, (⟨#[]⟩ : ByteArray), (⟨0, 0, (⟨#[]⟩ : ByteArray)⟩ : TVal)⟩ : TArg)) rfl) rfl <| la rfl ?_
    cases hb_1
    exact kk K ⟨rfl, rfl, trivial⟩
   ·refine la rfl <| la rfl <| la rfl <| la rfl <| la rfl ?_
    cases hb_1
    exact kk K ⟨rfl, rfl, trivial⟩
  refine la rfl <| en ?_
  refine WT.ret Tryz.func125 (resOk.one rfl) (fun w1 hw => ?_)
  subst hb0
  cases h
  exact post_of_St hw
 refine sq <| sr <| la rfl <| la rfl <| en ?_
 refine cut (σ := Bool) (fun s => [(1, .pointer (some ⟨b_1, 0, none⟩)), (16, .bool s)]) (fun s => St w0 Φ [(b_1, .cells #[.string p0.Op, .int .i64 p0.L.K, .string p0.L.S, .int .i64 p0.L.V.K, .int .i64 p0.L.V.N, .string p0.L.V.S, .int .i64 p0.R.K, .string p0.R.S, .int .i64 p0.R.V.K, .int .i64 p0.R.V.N, .string p0.R.V.S] 129 (0, 0))] []) (fun s => m_s_ExprOk_j1 N p0 s = some r) (fun s hm => ?_) (fun K => ?_)
 ·clear h
  revert hm; revert s; intro s1 hm
  have h : m_s_ExprOk_j1 N p0 s1 = some r := hm
  show WT _ _ [(1, .pointer (some ⟨b_1, 0, none⟩)), (16, .bool s1)] (St w0 Φ [(b_1, .cells #[.string p0.Op, .int .i64 p0.L.K, .string p0.L.S, .int .i64 p0.L.V.K, .int .i64 p0.L.V.N, .string p0.L.V.S, .int .i64 p0.R.K, .string p0.R.S, .int .i64 p0.R.V.K, .int .i64 p0.R.V.N, .string p0.R.V.S] 129 (0, 0))] [])
  unfold m_s_ExprOk_j1 at h
  refine cdh rfl h (fun c3 h => ?_) (fun c3 h => ?_)
  ·refine sr <| lf Fld_129_1 rfl rfl rfl <| ld5 Tn_102 0 rfl ?_
   obtain ⟨x2, hx2, h⟩ := bs h
   refine lp (p_call Fun_136 rfl (fun w1 hw => m_s_l8Given_ok hw.fro N p0.L hx2)) rfl <| la rfl ?_
   obtain ⟨b2, hb_2, h⟩ := bs h
   refine WL.cutN 4 [(26, .bool b2)] ?_ (fun K => ?_)
   rotate_left
   ·refine spl 22 rfl hb_2 (fun c4 hb_2 => ?_) (fun c4 hb_2 => ?_)
    ·refine ly rfl rfl <| lf Fld_129_2 rfl rfl rfl <| ly rfl rfl <| ld5 Tn_102 0 rfl <| ly rfl rfl ?_
     obtain ⟨x3, hx3, hb_2⟩ := bs hb_2
     refine lp (p_call Fun_136 rfl (fun w1 hw => m_s_l8Given_ok hw.fro N p0.R hx3)) rfl <| la rfl ?_
     cases hb_2
     exact kk K ⟨rfl, trivial⟩
    ·refine la rfl <| la rfl <| la rfl <| la rfl ?_
     cases hb_2
     exact kk K ⟨rfl, trivial⟩
   refine la rfl <| en ?_
   refine WT.ret Tryz.func125 (resOk.one rfl) (fun w1 hw => ?_)
   subst hb0
   cases h
   exact post_of_St hw
  refine WT.skip <| ib <| sr <| la rfl <| en ?_
  refine WT.ret Tryz.func125 (resOk.one rfl) (fun w1 hw => ?_)
  subst hb0
  cases h
  exact post_of_St hw
 refine cdh rfl h (fun c5 h => ?_) (fun c5 h => ?_)
 ·refine WT.skip ?_
  exact wto (K (seq p0.Op (⟨#[43]⟩ : ByteArray)) h) ⟨rfl, rfl, trivial⟩ (fun w1 hw => (hw.sel (js := []) rfl).selO (js := [0]) rfl)
 refine rgn <| la rfl <| la rfl <| en ?_
 exact wto (K (seq p0.Op (⟨#[45]⟩ : ByteArray)) h) ⟨rfl, rfl, trivial⟩ (fun w1 hw => (hw.sel (js := []) rfl).selO (js := [0]) rfl)
theorem m_s_l8Args_ok {Φ : Hp} {w : World} (hΦ : In Φ w) (N : Nat) (p0 : (List TExpr)) {pv0 : Value} {pG0 : List Nat} (ph0 : RSl RTExpr 11 Φ pG0 pv0 p0) {r : Bool} (h : m_s_l8Args N p0 = some r) :
  Calls Tryz.prog 108 [pv0].toArray w (Post (.bool r) w) := by
 refine enter Tryz.func108 rfl Tryz.ntmps108 rfl (St.start0 hΦ) ?_
 generalize hb0 : (⟨w, [], Φ⟩ : Base) = w0
 unfold m_s_l8Args at h
 refine sr <| la rfl <| en <| sq <| sr <| la rfl <| en <| blk ?_
 refine loop_in (σ := Int) (fun s => [(0, pv0), (3, .int .i64 s)]) (fun s => St w0 Φ [] []) (fun m s => m_s_l8Args_l1 N p0 m s = some r) (0) N h ⟨rfl, rfl, trivial⟩ (fun w1 hw => (hw.sel (js := []) rfl).selO (js := []) rfl) (fun s hm => none_ne hm) (fun n1 ih1 s hm => ?_)
 revert hm; revert s; intro s1 hm
 have h : m_s_l8Args_l1 N p0 (n1 + 1) s1 = some r := hm
 show WT _ _ [(0, pv0), (3, .int .i64 s1)] (St w0 Φ [] [])
 unfold m_s_l8Args_l1 at h
 refine sq <| sr <| la rfl <| la rfl <| lq (q_lenR Sl_106 rfl rfl ph0) rfl <| la rfl <| en ?_
 refine cdh rfl h (fun c1 h => ?_) (fun c1 h => ?_)
 ·refine WT.skip <| sq <| blk <| sr <| la rfl <| la rfl ?_
  obtain ⟨x1, hx1, h⟩ := bs h
  obtain ⟨cs1, F1, -, g1, hb1, hs1, r1⟩ := ph0.el (idx_some hx1).2.2
  obtain ⟨rfl, -⟩ := r1
  refine lq (q_indexAddr Sl_106 rfl rfl ph0 hx1) rfl <| lg11 0 Tn_129 g1 rfl rfl ?_
  obtain ⟨x2, hx2, h⟩ := bs h
  refine lp (p_call Fun_125 rfl (fun w1 hw => m_s_ExprOk_ok hw.fro N x1 hx2)) rfl <| la rfl <| en ?_
  refine cdh rfl h (fun c2 h => ?_) (fun c2 h => ?_)
  ·refine sr <| la rfl <| en ?_
   refine WT.ret Tryz.func108 (resOk.one rfl) (fun w1 hw => ?_)
   subst hb0
   cases h
   exact post_of_St hw
  refine WT.skip <| ib <| rgn <| la rfl <| la rfl <| la rfl <| en ?_
  exact lback (ih1 (IntKind.i64.wrap (s1 + 1)) h) ⟨rfl, rfl, trivial⟩ (fun w1 hw => (hw.sel (js := []) rfl).selO (js := []) rfl)
 refine xt rfl <| sr <| la rfl <| lq (q_lenR Sl_106 rfl rfl ph0) rfl <| la rfl <| la rfl <| en ?_
 refine WT.ret Tryz.func108 (resOk.one rfl) (fun w1 hw => ?_)
 subst hb0
 cases h
 exact post_of_St hw
theorem m_s_ActOk_ok {Φ : Hp} {w : World} (hΦ : In Φ w) (N : Nat) (p0 : TAct) {pv0_0 : Value} {pG0_0 : List Nat} (ph0_0 : RSl RTExpr 11 Φ pG0_0 pv0_0 p0.Args) {r : Bool} (h : m_s_ActOk N p0 = some r) :
  Calls Tryz.prog 81 [.agg [.int .i64 p0.Kind, .string p0.Name, pv0_0, .int .i64 p0.N, .string p0.Undo].toArray].toArray w (Post (.bool r) w) := by
 refine enter Tryz.func81 rfl Tryz.ntmps81 rfl (St.start0 hΦ) ?_
 generalize hb0 : (⟨w, [], Φ⟩ : Base) = w0
 unfold m_s_ActOk at h
 refine sr ?_
 refine ln (nb rfl) rfl (fun b_1 => ?_)
 refine la rfl <| en <| sr <| lf Fld_108_1 rfl rfl rfl <| lo T1_9 0 rfl <| la rfl <| la rfl ?_
 obtain ⟨b1, hb_1, h⟩ := bs h
 refine WL.cutN 5 [(12, .bool b1), (1, .pointer (some ⟨b_1, 0, none⟩))] ?_ (fun K => ?_)
 rotate_left
 ·refine spl 7 rfl hb_1 (fun c1 hb_1 => ?_) (fun c1 hb_1 => ?_)
  ·refine ly rfl rfl <| lf Fld_108_2 rfl rfl rfl <| ly rfl rfl <| lo T1_106 0 rfl <| ly rfl rfl <| lq (q_lenR Sl_106 rfl rfl ph0_0) rfl <| ly rfl rfl <| la rfl <| la rfl ?_
   cases hb_1
   exact kk K ⟨rfl, rfl, trivial⟩
  ·refine la rfl <| la rfl <| la rfl <| la rfl <| la rfl ?_
   cases hb_1
   exact kk K ⟨rfl, rfl, trivial⟩
 refine la rfl ?_
 obtain ⟨b2, hb_2, h⟩ := bs h
 refine WL.cutN 4 [(17, .bool b2), (1, .pointer (some ⟨b_1, 0, none⟩))] ?_ (fun K => ?_)
 rotate_left
 ·refine spl 13 rfl hb_2 (fun c2 hb_2 => ?_) (fun c2 hb_2 => ?_)
  ·refine ly rfl rfl <| lf Fld_108_4 rfl rfl rfl <| ly rfl rfl <| lo T1_9 0 rfl <| ly rfl rfl <| la rfl <| la rfl ?_
   cases hb_2
   exact kk K ⟨rfl, rfl, trivial⟩
  ·refine la rfl <| la rfl <| la rfl <| la rfl ?_
   cases hb_2
   exact kk K ⟨rfl, rfl, trivial⟩
 refine la rfl <| en <| sq <| sr <| lf Fld_108_0 rfl rfl rfl <| lo T1_3 0 rfl <| en <| blk <| sr <| la rfl <| la rfl <| en ?_
 refine cdh rfl h (fun c3 h => ?_) (fun c3 h => ?_)
 ·refine sr <| lf Fld_108_1 rfl rfl rfl <| lo T1_9 0 rfl ?_
  obtain ⟨x1, hx1, h⟩ := bs h
  refine lp (p_call Fun_39 rfl (fun w1 hw => m_s_NameOk_ok hw.fro N p0.Name hx1)) rfl <| la rfl ?_
  obtain ⟨b3, hb_3, h⟩ := bs h
  refine WL.cutN 4 [(29, .bool b3), (1, .pointer (some ⟨b_1, 0, none⟩))] ?_ (fun K => ?_)
  rotate_left
  ·refine spl 25 rfl hb_3 (fun c4 hb_3 => ?_) (fun c4 hb_3 => ?_)
   ·refine ly rfl rfl <| lf Fld_108_2 rfl rfl rfl <| ly rfl rfl <| lo T1_106 0 rfl <| ly rfl rfl ?_
    obtain ⟨x2, hx2, hb_3⟩ := bs hb_3
    refine lp (p_call Fun_108 rfl (fun w1 hw => m_s_l8Args_ok hw.fro N p0.Args ph0_0 hx2)) rfl <| la rfl ?_
    cases hb_3
    exact kk K ⟨rfl, rfl, trivial⟩
   ·refine la rfl <| la rfl <| la rfl <| la rfl ?_
    cases hb_3
    exact kk K ⟨rfl, rfl, trivial⟩
  refine la rfl ?_
  obtain ⟨b4, hb_4, h⟩ := bs h
  refine WL.cutN 4 [(34, .bool b4), (1, .pointer (some ⟨b_1, 0, none⟩))] ?_ (fun K => ?_)
  rotate_left
  ·refine spl 30 rfl hb_4 (fun c5 hb_4 => ?_) (fun c5 hb_4 => ?_)
   ·refine ly rfl rfl <| lf Fld_108_3 rfl rfl rfl <| ly rfl rfl <| lo T1_3 0 rfl <| ly rfl rfl <| la rfl <| la rfl ?_
    cases hb_4
    exact kk K ⟨rfl, rfl, trivial⟩
   ·refine la rfl <| la rfl <| la rfl <| la rfl ?_
    cases hb_4
    exact kk K ⟨rfl, rfl, trivial⟩
  refine la rfl ?_
  obtain ⟨b5, hb_5, h⟩ := bs h
  refine WL.cutN 4 [(39, .bool b5)] ?_ (fun K => ?_)
  rotate_left
  ·refine spl 35 rfl hb_5 (fun c6 hb_5 => ?_) (fun c6 hb_5 => ?_)
   ·refine ly rfl rfl <| lf Fld_108_4 rfl rfl rfl <| ly rfl rfl <| lo T1_9 0 rfl <| ly rfl rfl <| la rfl <| la rfl ?_
    cases hb_5
    exact kk K ⟨rfl, trivial⟩
   ·refine la rfl <| la rfl <| la rfl <| la rfl ?_
    cases hb_5
    exact kk K ⟨rfl, trivial⟩
  refine la rfl <| en ?_
  refine WT.ret Tryz.func81 (resOk.one rfl) (fun w1 hw => ?_)
  subst hb0
  cases h
  exact post_of_St hw
 refine sr <| la rfl <| la rfl <| en ?_
 refine cdh rfl h (fun c7 h => ?_) (fun c7 h => ?_)
 ·refine sr <| lf Fld_108_1 rfl rfl rfl <| lo T1_9 0 rfl ?_
  obtain ⟨x3, hx3, h⟩ := bs h
  refine lp (p_call Fun_39 rfl (fun w1 hw => m_s_NameOk_ok hw.fro N p0.Name hx3)) rfl <| la rfl ?_
  obtain ⟨b6, hb_6, h⟩ := bs h
  refine WL.cutN 4 [(49, .bool b6), (1, .pointer (some ⟨b_1, 0, none⟩))] ?_ (fun K => ?_)
  rotate_left
  ·refine spl 45 rfl hb_6 (fun c8 hb_6 => ?_) (fun c8 hb_6 => ?_)
   ·refine ly rfl rfl <| lf Fld_108_2 rfl rfl rfl <| ly rfl rfl <| lo T1_106 0 rfl <| ly rfl rfl ?_
    obtain ⟨x4, hx4, hb_6⟩ := bs hb_6
    refine lp (p_call Fun_108 rfl (fun w1 hw => m_s_l8Args_ok hw.fro N p0.Args ph0_0 hx4)) rfl <| la rfl ?_
    cases hb_6
    exact kk K ⟨rfl, rfl, trivial⟩
   ·refine la rfl <| la rfl <| la rfl <| la rfl ?_
    cases hb_6
    exact kk K ⟨rfl, rfl, trivial⟩
  refine la rfl ?_
  obtain ⟨b7, hb_7, h⟩ := bs h
  refine WL.cutN 4 [(54, .bool b7), (1, .pointer (some ⟨b_1, 0, none⟩))] ?_ (fun K => ?_)
  rotate_left
  ·refine spl 50 rfl hb_7 (fun c9 hb_7 => ?_) (fun c9 hb_7 => ?_)
   ·refine ly rfl rfl <| lf Fld_108_3 rfl rfl rfl <| ly rfl rfl <| lo T1_3 0 rfl <| ly rfl rfl <| la rfl <| la rfl ?_
    cases hb_7
    exact kk K ⟨rfl, rfl, trivial⟩
   ·refine la rfl <| la rfl <| la rfl <| la rfl ?_
    cases hb_7
    exact kk K ⟨rfl, rfl, trivial⟩
  refine la rfl ?_
  obtain ⟨b8, hb_8, h⟩ := bs h
  refine WL.cutN 9 [(64, .bool b8)] ?_ (fun K => ?_)
  rotate_left
  ·refine spl 55 rfl hb_8 (fun c10 hb_8 => ?_) (fun c10 hb_8 => ?_)
   ·refine ly rfl rfl <| lf Fld_108_4 rfl rfl rfl <| ly rfl rfl <| lo T1_9 0 rfl <| ly rfl rfl <| la rfl <| ly rfl rfl <| la rfl ?_
    obtain ⟨b9, hb_9, hb_8⟩ := bs hb_8
    refine WL.cutN 4 [(63, .bool b9), (55, .bool true)] ?_ (fun K => ?_)
    rotate_left
    ·refine spl 59 rfl hb_9 (fun c11 hb_9 => ?_) (fun c11 hb_9 => ?_)
     ·refine la rfl <| la rfl <| la rfl <| ly rfl rfl <| la rfl ?_
      cases hb_9
      exact kk K ⟨rfl, rfl, trivial⟩
     ·refine ly rfl rfl <| lf Fld_108_4 rfl rfl rfl <| ly rfl rfl <| lo T1_9 0 rfl <| ly rfl rfl ?_
      obtain ⟨x5, hx5, hb_9⟩ := bs hb_9
      refine lp (p_call Fun_39 rfl (fun w1 hw => m_s_NameOk_ok hw.fro N p0.Undo hx5)) rfl <| ly rfl rfl <| la rfl ?_
      cases hb_9
      exact kk K ⟨rfl, rfl, trivial⟩
    refine la rfl ?_
    cases hb_8
    exact kk K ⟨rfl, trivial⟩
   ·refine la rfl <| la rfl <| la rfl <| la rfl <| WL.nox rfl rfl rfl rfl <| WL.nox rfl rfl rfl rfl <| WL.nox rfl rfl rfl rfl <| la rfl <| la rfl ?_
    cases hb_8
    exact kk K ⟨rfl, trivial⟩
  refine la rfl <| en ?_
  refine WT.ret Tryz.func81 (resOk.one rfl) (fun w1 hw => ?_)
  subst hb0
  cases h
  exact post_of_St hw
 refine sr <| la rfl <| la rfl <| en ?_
 refine cdh rfl h (fun c12 h => ?_) (fun c12 h => ?_)
 ·refine sr <| lf Fld_108_1 rfl rfl rfl <| lo T1_9 0 rfl ?_
  obtain ⟨x6, hx6, h⟩ := bs h
  refine lp (p_call Fun_39 rfl (fun w1 hw => m_s_NameOk_ok hw.fro N p0.Name hx6)) rfl <| la rfl ?_
  obtain ⟨b10, hb_10, h⟩ := bs h
  refine WL.cutN 4 [(74, .bool b10), (1, .pointer (some ⟨b_1, 0, none⟩))] ?_ (fun K => ?_)
  rotate_left
  ·refine spl 70 rfl hb_10 (fun c13 hb_10 => ?_) (fun c13 hb_10 => ?_)
   ·refine ly rfl rfl <| lf Fld_108_2 rfl rfl rfl <| ly rfl rfl <| lo T1_106 0 rfl <| ly rfl rfl ?_
    obtain ⟨x7, hx7, hb_10⟩ := bs hb_10
    refine lp (p_call Fun_108 rfl (fun w1 hw => m_s_l8Args_ok hw.fro N p0.Args ph0_0 hx7)) rfl <| la rfl ?_
    cases hb_10
    exact kk K ⟨rfl, rfl, trivial⟩
   ·refine la rfl <| la rfl <| la rfl <| la rfl ?_
    cases hb_10
    exact kk K ⟨rfl, rfl, trivial⟩
  refine la rfl ?_
  obtain ⟨b11, hb_11, h⟩ := bs h
  refine WL.cutN 4 [(79, .bool b11), (1, .pointer (some ⟨b_1, 0, none⟩))] ?_ (fun K => ?_)
  rotate_left
  ·refine spl 75 rfl hb_11 (fun c14 hb_11 => ?_) (fun c14 hb_11 => ?_)
   ·refine ly rfl rfl <| lf Fld_108_3 rfl rfl rfl <| ly rfl rfl <| lo T1_3 0 rfl <| ly rfl rfl ?_
    obtain ⟨x8, hx8, hb_11⟩ := bs hb_11
    refine lp (p_call Fun_40 rfl (fun w1 hw => m_s_l1In_ok hw.fro N p0.N 0 100000 hx8)) rfl <| la rfl ?_
    cases hb_11
    exact kk K ⟨rfl, rfl, trivial⟩
   ·refine la rfl <| la rfl <| la rfl <| la rfl ?_
    cases hb_11
    exact kk K ⟨rfl, rfl, trivial⟩
  refine la rfl ?_
  obtain ⟨b12, hb_12, h⟩ := bs h
  refine WL.cutN 4 [(84, .bool b12)] ?_ (fun K => ?_)
  rotate_left
  ·refine spl 80 rfl hb_12 (fun c15 hb_12 => ?_) (fun c15 hb_12 => ?_)
   ·refine ly rfl rfl <| lf Fld_108_4 rfl rfl rfl <| ly rfl rfl <| lo T1_9 0 rfl <| ly rfl rfl <| la rfl <| la rfl ?_
    cases hb_12
    exact kk K ⟨rfl, trivial⟩
   ·refine la rfl <| la rfl <| la rfl <| la rfl ?_
    cases hb_12
    exact kk K ⟨rfl, trivial⟩
  refine la rfl <| en ?_
  refine WT.ret Tryz.func81 (resOk.one rfl) (fun w1 hw => ?_)
  subst hb0
  cases h
  exact post_of_St hw
 refine sr <| la rfl <| la rfl <| en ?_
 refine cdh rfl h (fun c16 h => ?_) (fun c16 h => ?_)
 ·refine sr <| la rfl <| la rfl ?_
  obtain ⟨b13, hb_13, h⟩ := bs h
  refine WL.cutN 4 [(92, .bool b13)] ?_ (fun K => ?_)
  rotate_left
  ·refine spl 88 rfl hb_13 (fun c17 hb_13 => ?_) (fun c17 hb_13 => ?_)
   ·refine ly rfl rfl <| lf Fld_108_3 rfl rfl rfl <| ly rfl rfl <| lo T1_3 0 rfl <| ly rfl rfl ?_
    obtain ⟨x9, hx9, hb_13⟩ := bs hb_13
    refine lp (p_call Fun_40 rfl (fun w1 hw => m_s_l1In_ok hw.fro N p0.N 0 7 hx9)) rfl <| la rfl ?_
    cases hb_13
    exact kk K ⟨rfl, trivial⟩
   ·refine la rfl <| la rfl <| la rfl <| la rfl ?_
    cases hb_13
    exact kk K ⟨rfl, trivial⟩
  refine la rfl <| en ?_
  refine WT.ret Tryz.func81 (resOk.one rfl) (fun w1 hw => ?_)
  subst hb0
  cases h
  exact post_of_St hw
 refine sq <| sr <| la rfl <| la rfl <| en ?_
 refine cut (σ := Bool) (fun s => [(1, .pointer (some ⟨b_1, 0, none⟩)), (3, .bool b2), (93, .bool s)]) (fun s => St w0 Φ [(b_1, .cells #[.int .i64 p0.Kind, .string p0.Name, pv0_0, .int .i64 p0.N, .string p0.Undo] 108 (0, 0))] []) (fun s => m_s_ActOk_j1 N p0 b2 s = some r) (fun s hm => ?_) (fun K => ?_)
 ·clear h
  revert hm; revert s; intro s1 hm
  have h : m_s_ActOk_j1 N p0 b2 s1 = some r := hm
  show WT _ _ [(1, .pointer (some ⟨b_1, 0, none⟩)), (3, .bool b2), (93, .bool s1)] (St w0 Φ [(b_1, .cells #[.int .i64 p0.Kind, .string p0.Name, pv0_0, .int .i64 p0.N, .string p0.Undo] 108 (0, 0))] [])
  unfold m_s_ActOk_j1 at h
  refine cdh rfl h (fun c18 h => ?_) (fun c18 h => ?_)
  ·refine sr <| la rfl <| la rfl ?_
   obtain ⟨b14, hb_14, h⟩ := bs h
   refine WL.cutN 4 [(101, .bool b14)] ?_ (fun K => ?_)
   rotate_left
   ·refine spl 97 rfl hb_14 (fun c19 hb_14 => ?_) (fun c19 hb_14 => ?_)
    ·refine ly rfl rfl <| lf Fld_108_3 rfl rfl rfl <| ly rfl rfl <| lo T1_3 0 rfl <| ly rfl rfl <| la rfl <| la rfl ?_
     cases hb_14
     exact kk K ⟨rfl, trivial⟩
    ·refine la rfl <| la rfl <| la rfl <| la rfl ?_
     cases hb_14
     exact kk K ⟨rfl, trivial⟩
   refine la rfl <| en ?_
   refine WT.ret Tryz.func81 (resOk.one rfl) (fun w1 hw => ?_)
   subst hb0
   cases h
   exact post_of_St hw
  refine WT.skip <| ib <| sr <| la rfl <| en ?_
  refine WT.ret Tryz.func81 (resOk.one rfl) (fun w1 hw => ?_)
  subst hb0
  cases h
  exact post_of_St hw
 refine cdh rfl h (fun c20 h => ?_) (fun c20 h => ?_)
 ·refine WT.skip ?_
  exact wto (K (decide (p0.Kind = 5)) h) ⟨rfl, rfl, rfl, trivial⟩ (fun w1 hw => (hw.sel (js := []) rfl).selO (js := [0]) rfl)
 refine rgn <| la rfl <| la rfl <| en ?_
 exact wto (K (decide (p0.Kind = 6)) h) ⟨rfl, rfl, rfl, trivial⟩ (fun w1 hw => (hw.sel (js := []) rfl).selO (js := [0]) rfl)
theorem m_s_ExprText_ok {Φ : Hp} {w : World} (hΦ : In Φ w) (N : Nat) (p0 : TExpr)   {r : ByteArray} (h : m_s_ExprText N p0 = some r) :
  Calls Tryz.prog 110 [.agg [.string p0.Op, .int .i64 p0.L.K, .string p0.L.S, .int .i64 p0.L.V.K, .int .i64 p0.L.V.N, .string p0.L.V.S, .int .i64 p0.R.K, .string p0.R.S, .int .i64 p0.R.V.K, .int .i64 p0.R.V.N, .string p0.R.V.S].toArray].toArray w (Post (.string r) w) := by
 refine enter Tryz.func110 rfl Tryz.ntmps110 rfl (St.start0 hΦ) ?_
 unfold m_s_ExprText at h
 refine sr ?_
 refine ln (nb rfl) rfl (fun b_1 => ?_)
 refine la rfl <| en <| sq <| sr <| ld11 Tn_129 0 rfl ?_
 obtain ⟨x1, hx1, h⟩ := bs h
 refine lp (p_call Fun_125 rfl (fun w1 hw => m_s_ExprOk_ok hw.fro N p0 hx1)) rfl <| la rfl <| en ?_
 refine cdh rfl h (fun c1 h => ?_) (fun c1 h => ?_)
 ·refine sr <| la rfl <| en ?_
  refine WT.ret Tryz.func110 (resOk.one rfl) (fun w1 hw => ?_)
  cases h
  exact post_of_St hw
 refine WT.skip <| sq <| sr <| lf Fld_129_0 rfl rfl rfl <| lo T1_9 0 rfl <| la rfl <| en ?_
 refine cdh rfl h (fun c2 h => ?_) (fun c2 h => ?_)
 ·refine sr <| lf Fld_129_1 rfl rfl rfl <| ld5 Tn_102 0 rfl ?_
  obtain ⟨x2, hx2, h⟩ := bs h
  refine lp (p_call Fun_82 rfl (fun w1 hw => m_s_l6ArgText_ok hw.fro N p0.L hx2)) rfl <| la rfl <| en ?_
  refine WT.ret Tryz.func110 (resOk.one rfl) (fun w1 hw => ?_)
  cases h
  exact post_of_St hw
 refine WT.skip <| sq <| WT.draw mixed (by kernel_rfl) (fun _ h => h.drew) <| qq (q_fieldAddr Fld_129_1 rfl) rfl <| qq (q_loadN Tn_102 rfl (fun w1 hw => hw.rgO (i := 0) rfl 1 5 [.int .i64 p0.L.K, .string p0.L.S, .int .i64 p0.L.V.K, .int .i64 p0.L.V.N, .string p0.L.V.S] rfl) rfl) rfl ?_
 obtain ⟨x3, hx3, h⟩ := bs h
 refine qp (p_call Fun_82 rfl (fun w1 hw => m_s_l6ArgText_ok hw.fro N p0.L hx3)) rfl ?_
 obtain ⟨z1, hz1, h⟩ := bs h
 refine qq (q_cat rfl rfl hz1) rfl <| qq (q_fieldAddr Fld_129_0 rfl) rfl <| qq (q_load1 T1_9 rfl (fun w1 hw => hw.rgO (i := 0) rfl 0 1 [.string p0.Op] rfl)) rfl ?_
 obtain ⟨z2, hz2, h⟩ := bs h
 refine qq (q_cat rfl rfl hz2) rfl ?_
 obtain ⟨z3, hz3, h⟩ := bs h
 refine qq (q_cat rfl rfl hz3) rfl <| qq (q_fieldAddr Fld_129_2 rfl) rfl <| qq (q_loadN Tn_102 rfl (fun w1 hw => hw.rgO (i := 0) rfl 6 5 [.int .i64 p0.R.K, .string p0.R.S, .int .i64 p0.R.V.K, .int .i64 p0.R.V.N, .string p0.R.V.S] rfl) rfl) rfl ?_
 obtain ⟨x4, hx4, h⟩ := bs h
 refine qp (p_call Fun_82 rfl (fun w1 hw => m_s_l6ArgText_ok hw.fro N p0.R hx4)) rfl ?_
 obtain ⟨z4, hz4, h⟩ := bs h
 refine qq (q_cat rfl rfl hz4) rfl <| qq (q_assign rfl) rfl <| WQ.nil ?_
 refine WT.ret Tryz.func110 (resOk.one rfl) (fun w1 hw => ?_)
 cases h
 exact post_of_St hw
theorem m_s_l8ArgsText_ok {Φ : Hp} {w : World} (hΦ : In Φ w) (N : Nat) (p0 : TAct) {pv0_0 : Value} {pG0_0 : List Nat} (ph0_0 : RSl RTExpr 11 Φ pG0_0 pv0_0 p0.Args) {r : ByteArray} (h : m_s_l8ArgsText N p0 = some r) :
  Calls Tryz.prog 83 [.agg [.int .i64 p0.Kind, .string p0.Name, pv0_0, .int .i64 p0.N, .string p0.Undo].toArray].toArray w (Post (.string r) w) := by
 refine enter Tryz.func83 rfl Tryz.ntmps83 rfl (St.start0 hΦ) ?_
 generalize hb0 : (⟨w, [], Φ⟩ : Base) = w0
 unfold m_s_l8ArgsText at h
 refine sr ?_
 refine ln (nb rfl) rfl (fun b_1 => ?_)
 refine la rfl <| en <| sr <| lf Fld_108_1 rfl rfl rfl <| lo T1_9 0 rfl ?_
 obtain ⟨z1, hz1, h⟩ := bs h
 refine lq (q_cat rfl rfl hz1) rfl <| la rfl <| en <| sq <| sr <| la rfl <| en <| blk ?_
 refine loop_in (σ := ByteArray × Int) (fun s => [(1, .pointer (some ⟨b_1, 0, none⟩)), (3, .string s.1), (4, .int .i64 s.2)]) (fun s => St w0 Φ [(b_1, .cells #[.int .i64 p0.Kind, .string p0.Name, pv0_0, .int .i64 p0.N, .string p0.Undo] 108 (0, 0))] []) (fun m s => m_s_l8ArgsText_l1 N p0 m s.1 s.2 = some r) (z1, 0) N h ⟨rfl, rfl, rfl, trivial⟩ (fun w1 hw => (hw.sel (js := []) rfl).selO (js := [0]) rfl) (fun s hm => none_ne hm) (fun n1 ih1 s hm => ?_)
 obtain ⟨s1, s2⟩ := s
 have h : m_s_l8ArgsText_l1 N p0 (n1 + 1) s1 s2 = some r := hm
 show WT _ _ [(1, .pointer (some ⟨b_1, 0, none⟩)), (3, .string s1), (4, .int .i64 s2)] (St w0 Φ [(b_1, .cells #[.int .i64 p0.Kind, .string p0.Name, pv0_0, .int .i64 p0.N, .string p0.Undo] 108 (0, 0))] [])
 unfold m_s_l8ArgsText_l1 at h
 refine sq <| sr <| la rfl <| lf Fld_108_2 rfl rfl rfl <| lo T1_106 0 rfl <| lq (q_lenR Sl_106 rfl rfl ph0_0) rfl <| la rfl <| en ?_
 refine cdh rfl h (fun c1 h => ?_) (fun c1 h => ?_)
 ·refine WT.skip <| sq <| blk <| sq <| sr <| la rfl <| la rfl <| en ?_
  refine cut (σ := ByteArray) (fun s => [(1, .pointer (some ⟨b_1, 0, none⟩)), (3, .string s), (4, .int .i64 s2)]) (fun s => St w0 Φ [(b_1, .cells #[.int .i64 p0.Kind, .string p0.Name, pv0_0, .int .i64 p0.N, .string p0.Undo] 108 (0, 0))] []) (fun s => m_s_l8ArgsText_j2 N p0 s2 (m_s_l8ArgsText_l1 N p0 n1) s = some r) (fun s hm => ?_) (fun K => ?_)
  ·clear h
   revert hm; revert s; intro s3 hm
   have h : m_s_l8ArgsText_j2 N p0 s2 (m_s_l8ArgsText_l1 N p0 n1) s3 = some r := hm
   show WT _ _ [(1, .pointer (some ⟨b_1, 0, none⟩)), (3, .string s3), (4, .int .i64 s2)] (St w0 Φ [(b_1, .cells #[.int .i64 p0.Kind, .string p0.Name, pv0_0, .int .i64 p0.N, .string p0.Undo] 108 (0, 0))] [])
   unfold m_s_l8ArgsText_j2 at h
   refine rgn <| la rfl <| lf Fld_108_2 rfl rfl rfl <| lo T1_106 0 rfl <| la rfl ?_
   obtain ⟨x1, hx1, h⟩ := bs h
   obtain ⟨cs1, F1, -, g1, hb1, hs1, r1⟩ := ph0_0.el (idx_some hx1).2.2
   obtain ⟨rfl, -⟩ := r1
   refine lq (q_indexAddr Sl_106 rfl rfl ph0_0 hx1) rfl <| lg11 0 Tn_129 g1 rfl rfl ?_
   obtain ⟨x2, hx2, h⟩ := bs h
   refine lp (p_call Fun_110 rfl (fun w1 hw => m_s_ExprText_ok hw.fro N x1 hx2)) rfl ?_
   obtain ⟨z2, hz2, h⟩ := bs h
   refine lq (q_cat rfl rfl hz2) rfl <| la rfl <| en <| ib <| rgn <| la rfl <| la rfl <| la rfl <| en ?_
   exact lback (ih1 (z2, IntKind.i64.wrap (s2 + 1)) h) ⟨rfl, rfl, rfl, trivial⟩ (fun w1 hw => (hw.sel (js := []) rfl).selO (js := [0]) rfl)
  refine cdh rfl h (fun c2 h => ?_) (fun c2 h => ?_)
  ·refine rgn <| la rfl ?_
   obtain ⟨z3, hz3, h⟩ := bs h
   refine lq (q_cat rfl rfl hz3) rfl <| la rfl <| en ?_
   exact wto (K (z3) h) ⟨rfl, rfl, rfl, trivial⟩ (fun w1 hw => (hw.sel (js := []) rfl).selO (js := [0]) rfl)
  refine WT.skip ?_
  exact wto (K (s1) h) ⟨rfl, rfl, rfl, trivial⟩ (fun w1 hw => (hw.sel (js := []) rfl).selO (js := [0]) rfl)
 refine xt rfl <| sr <| la rfl ?_
 obtain ⟨z4, hz4, h⟩ := bs h
 refine lq (q_cat rfl rfl hz4) rfl <| la rfl <| en ?_
 refine WT.ret Tryz.func83 (resOk.one rfl) (fun w1 hw => ?_)
 subst hb0
 cases h
 exact post_of_St hw
theorem m_s_ActText_ok {Φ : Hp} {w : World} (hΦ : In Φ w) (N : Nat) (p0 : TAct) {pv0_0 : Value} {pG0_0 : List Nat} (ph0_0 : RSl RTExpr 11 Φ pG0_0 pv0_0 p0.Args) {r : ByteArray} (h : m_s_ActText N p0 = some r) :
  Calls Tryz.prog 48 [.agg [.int .i64 p0.Kind, .string p0.Name, pv0_0, .int .i64 p0.N, .string p0.Undo].toArray].toArray w (Post (.string r) w) := by
 refine enter Tryz.func48 rfl Tryz.ntmps48 rfl (St.start0 hΦ) ?_
 unfold m_s_ActText at h
 refine sr ?_
 refine ln (nb rfl) rfl (fun b_1 => ?_)
 refine la rfl <| en <| sq <| sr <| ld5 Tn_108 0 rfl ?_
 obtain ⟨x1, hx1, h⟩ := bs h
 refine lp (p_call Fun_81 rfl (fun w1 hw => m_s_ActOk_ok hw.fro N p0 ph0_0 hx1)) rfl <| la rfl <| en ?_
 refine cdh rfl h (fun c1 h => ?_) (fun c1 h => ?_)
 ·refine sr <| la rfl <| en ?_
  refine WT.ret Tryz.func48 (resOk.one rfl) (fun w1 hw => ?_)
  cases h
  exact post_of_St hw
 refine WT.skip <| sq <| sr <| lf Fld_108_0 rfl rfl rfl <| lo T1_3 0 rfl <| en <| blk <| sr <| la rfl <| la rfl <| en ?_
 refine cdh rfl h (fun c2 h => ?_) (fun c2 h => ?_)
 ·refine sr <| ld5 Tn_108 0 rfl ?_
  obtain ⟨x2, hx2, h⟩ := bs h
  refine lp (p_call Fun_83 rfl (fun w1 hw => m_s_l8ArgsText_ok hw.fro N p0 ph0_0 hx2)) rfl ?_
  obtain ⟨z1, hz1, h⟩ := bs h
  refine lq (q_cat rfl rfl hz1) rfl <| la rfl <| en ?_
  refine WT.ret Tryz.func48 (resOk.one rfl) (fun w1 hw => ?_)
  cases h
  exact post_of_St hw
 refine sr <| la rfl <| la rfl <| en ?_
 refine cdh rfl h (fun c3 h => ?_) (fun c3 h => ?_)
 ·refine sr <| lf Fld_108_3 rfl rfl rfl <| lo T1_3 0 rfl ?_
  obtain ⟨x3, hx3, h⟩ := bs h
  refine lp (p_call Fun_45 rfl (fun w1 hw => m_s_l2Num_ok N hw.fro p0.N hx3)) rfl ?_
  obtain ⟨z2, hz2, h⟩ := bs h
  refine lq (q_cat rfl rfl hz2) rfl <| la rfl <| en ?_
  refine WT.ret Tryz.func48 (resOk.one rfl) (fun w1 hw => ?_)
  cases h
  exact post_of_St hw
 refine sr <| la rfl <| la rfl <| en ?_
 refine cdh rfl h (fun c4 h => ?_) (fun c4 h => ?_)
 ·refine sq <| WT.draw mixed (by kernel_rfl) (fun _ h => h.drew) <| qq (q_fieldAddr Fld_108_3 rfl) rfl <| qq (q_load1 T1_3 rfl (fun w1 hw => hw.rgO (i := 0) rfl 3 1 [.int .i64 p0.N] rfl)) rfl ?_
  obtain ⟨x4, hx4, h⟩ := bs h
  refine qp (p_call Fun_45 rfl (fun w1 hw => m_s_l2Num_ok N hw.fro p0.N hx4)) rfl ?_
  obtain ⟨z3, hz3, h⟩ := bs h
  refine qq (q_cat rfl rfl hz3) rfl ?_
  obtain ⟨z4, hz4, h⟩ := bs h
  refine qq (q_cat rfl rfl hz4) rfl <| qq (q_loadN Tn_108 rfl (fun w1 hw => hw.rgO (i := 0) rfl 0 5 [.int .i64 p0.Kind, .string p0.Name, pv0_0, .int .i64 p0.N, .string p0.Undo] rfl) rfl) rfl ?_
  obtain ⟨x5, hx5, h⟩ := bs h
  refine qp (p_call Fun_83 rfl (fun w1 hw => m_s_l8ArgsText_ok hw.fro N p0 ph0_0 hx5)) rfl ?_
  obtain ⟨z5, hz5, h⟩ := bs h
  refine qq (q_cat rfl rfl hz5) rfl <| qq (q_assign rfl) rfl <| WQ.nil ?_
  refine WT.ret Tryz.func48 (resOk.one rfl) (fun w1 hw => ?_)
  cases h
  exact post_of_St hw
 refine sr <| la rfl <| la rfl <| en ?_
 refine cdh rfl h (fun c5 h => ?_) (fun c5 h => ?_)
 ·refine sr <| la rfl <| en ?_
  refine WT.ret Tryz.func48 (resOk.one rfl) (fun w1 hw => ?_)
  cases h
  exact post_of_St hw
 refine sr <| la rfl <| la rfl <| en ?_
 refine cdh rfl h (fun c6 h => ?_) (fun c6 h => ?_)
 ·refine sr <| la rfl <| en ?_
  refine WT.ret Tryz.func48 (resOk.one rfl) (fun w1 hw => ?_)
  cases h
  exact post_of_St hw
 refine WT.skip <| ib <| sq <| sr <| lf Fld_108_4 rfl rfl rfl <| lo T1_9 0 rfl <| la rfl <| en ?_
 refine cdh rfl h (fun c7 h => ?_) (fun c7 h => ?_)
 ·refine sr <| ld5 Tn_108 0 rfl ?_
  obtain ⟨x6, hx6, h⟩ := bs h
  refine lp (p_call Fun_83 rfl (fun w1 hw => m_s_l8ArgsText_ok hw.fro N p0 ph0_0 hx6)) rfl ?_
  obtain ⟨z6, hz6, h⟩ := bs h
  refine lq (q_cat rfl rfl hz6) rfl <| la rfl <| en ?_
  refine WT.ret Tryz.func48 (resOk.one rfl) (fun w1 hw => ?_)
  cases h
  exact post_of_St hw
 refine WT.skip <| sq <| WT.draw mixed (by kernel_rfl) (fun _ h => h.drew) <| qq (q_loadN Tn_108 rfl (fun w1 hw => hw.rgO (i := 0) rfl 0 5 [.int .i64 p0.Kind, .string p0.Name, pv0_0, .int .i64 p0.N, .string p0.Undo] rfl) rfl) rfl ?_
 obtain ⟨x7, hx7, h⟩ := bs h
 refine qp (p_call Fun_83 rfl (fun w1 hw => m_s_l8ArgsText_ok hw.fro N p0 ph0_0 hx7)) rfl ?_
 obtain ⟨z7, hz7, h⟩ := bs h
 refine qq (q_cat rfl rfl hz7) rfl ?_
 obtain ⟨z8, hz8, h⟩ := bs h
 refine qq (q_cat rfl rfl hz8) rfl <| qq (q_fieldAddr Fld_108_4 rfl) rfl <| qq (q_load1 T1_9 rfl (fun w1 hw => hw.rgO (i := 0) rfl 4 1 [.string p0.Undo] rfl)) rfl ?_
 obtain ⟨z9, hz9, h⟩ := bs h
 refine qq (q_cat rfl rfl hz9) rfl <| qq (q_assign rfl) rfl <| WQ.nil ?_
 refine WT.ret Tryz.func48 (resOk.one rfl) (fun w1 hw => ?_)
 cases h
 exact post_of_St hw
theorem m_s_l9Text_ok {Φ : Hp} {w : World} (hΦ : In Φ w) (N : Nat) (p0 : TRule) {pv0_0 pv0_1 pv0_2 : Value} {pG0_0 pG0_1 pG0_2 : List Nat} (ph0_0 : RSl RTPat 3 Φ pG0_0 pv0_0 p0.Pats) (ph0_1 : RSl RTCond 11 Φ pG0_1 pv0_1 p0.Conds) (ph0_2 : RSl RTAct 5 Φ pG0_2 pv0_2 p0.Acts) {r : ByteArray} (h : m_s_l9Text N p0 = some r) :
  Calls Tryz.prog 19 [.agg [.string p0.Name, .int .i64 p0.Sal, pv0_0, pv0_1, pv0_2].toArray].toArray w (Post (.string r) w) := by
 refine enter Tryz.func19 rfl Tryz.ntmps19 rfl (St.start0 hΦ) ?_
 generalize hb0 : (⟨w, [], Φ⟩ : Base) = w0
 unfold m_s_l9Text at h
 refine sr ?_
 refine ln (nb rfl) rfl (fun b_1 => ?_)
 refine la rfl <| en <| sq <| WT.draw mixed (by kernel_rfl) (fun _ h => h.drew) <| qq (q_fieldAddr Fld_33_0 rfl) rfl <| qq (q_load1 T1_9 rfl (fun w1 hw => hw.rgO (i := 0) rfl 0 1 [.string p0.Name] rfl)) rfl ?_
 obtain ⟨z1, hz1, h⟩ := bs h
 refine qq (q_cat rfl rfl hz1) rfl ?_
 obtain ⟨z2, hz2, h⟩ := bs h
 refine qq (q_cat rfl rfl hz2) rfl <| qq (q_fieldAddr Fld_33_1 rfl) rfl <| qq (q_load1 T1_3 rfl (fun w1 hw => hw.rgO (i := 0) rfl 1 1 [.int .i64 p0.Sal] rfl)) rfl ?_
 obtain ⟨x1, hx1, h⟩ := bs h
 refine qp (p_call Fun_45 rfl (fun w1 hw => m_s_l2Num_ok N hw.fro p0.Sal hx1)) rfl ?_
 obtain ⟨z3, hz3, h⟩ := bs h
 refine qq (q_cat rfl rfl hz3) rfl ?_
 obtain ⟨z4, hz4, h⟩ := bs h
 refine qq (q_cat rfl rfl hz4) rfl <| qq (q_assign rfl) rfl <| WQ.nil <| sq <| sr <| la rfl <| en <| blk ?_
 refine loop_in (σ := ByteArray × Int) (fun s => [(1, .pointer (some ⟨b_1, 0, none⟩)), (3, .string s.1), (4, .int .i64 s.2)]) (fun s => St w0 Φ [(b_1, .cells #[.string p0.Name, .int .i64 p0.Sal, pv0_0, pv0_1, pv0_2] 33 (0, 0))] []) (fun m s => m_s_l9Text_l1 N p0 m s.1 s.2 = some r) (z4, 0) N h ⟨rfl, rfl, rfl, trivial⟩ (fun w1 hw => (hw.sel (js := []) rfl).selO (js := [0]) rfl) (fun s hm => none_ne hm) (fun n1 ih1 s hm => ?_)
 obtain ⟨s1, s2⟩ := s
 have h : m_s_l9Text_l1 N p0 (n1 + 1) s1 s2 = some r := hm
 show WT _ _ [(1, .pointer (some ⟨b_1, 0, none⟩)), (3, .string s1), (4, .int .i64 s2)] (St w0 Φ [(b_1, .cells #[.string p0.Name, .int .i64 p0.Sal, pv0_0, pv0_1, pv0_2] 33 (0, 0))] [])
 unfold m_s_l9Text_l1 at h
 refine sq <| sr <| la rfl <| lf Fld_33_2 rfl rfl rfl <| lo T1_29 0 rfl <| lq (q_lenR Sl_29 rfl rfl ph0_0) rfl <| la rfl <| en ?_
 refine cdh rfl h (fun c1 h => ?_) (fun c1 h => ?_)
 ·refine WT.skip <| sq <| blk <| sq <| sr <| la rfl <| la rfl <| en ?_
  refine cut (σ := ByteArray) (fun s => [(1, .pointer (some ⟨b_1, 0, none⟩)), (3, .string s), (4, .int .i64 s2)]) (fun s => St w0 Φ [(b_1, .cells #[.string p0.Name, .int .i64 p0.Sal, pv0_0, pv0_1, pv0_2] 33 (0, 0))] []) (fun s => m_s_l9Text_j2 N p0 s2 (m_s_l9Text_l1 N p0 n1) s = some r) (fun s hm => ?_) (fun K => ?_)
  ·clear h
   revert hm; revert s; intro s3 hm
   have h : m_s_l9Text_j2 N p0 s2 (m_s_l9Text_l1 N p0 n1) s3 = some r := hm
   show WT _ _ [(1, .pointer (some ⟨b_1, 0, none⟩)), (3, .string s3), (4, .int .i64 s2)] (St w0 Φ [(b_1, .cells #[.string p0.Name, .int .i64 p0.Sal, pv0_0, pv0_1, pv0_2] 33 (0, 0))] [])
   unfold m_s_l9Text_j2 at h
   refine rgn <| la rfl <| lf Fld_33_2 rfl rfl rfl <| lo T1_29 0 rfl <| la rfl ?_
   obtain ⟨x2, hx2, h⟩ := bs h
   obtain ⟨cs1, F1, -, g1, hb1, hs1, r1⟩ := ph0_0.el (idx_some hx2).2.2
   obtain ⟨v1, G1, rfl, hq1, h1⟩ := r1
   obtain rfl := hq1.symm
   refine lq (q_indexAddr Sl_29 rfl rfl ph0_0 hx2) rfl <| lg3 0 Tn_98 g1 rfl rfl ?_
   obtain ⟨x3, hx3, h⟩ := bs h
   refine lp (p_call Fun_46 rfl (fun w1 hw => m_s_PatText_ok hw.fro N x2 h1 hx3)) rfl ?_
   obtain ⟨z5, hz5, h⟩ := bs h
   refine lq (q_cat rfl rfl hz5) rfl <| la rfl <| en <| ib <| rgn <| la rfl <| la rfl <| la rfl <| en ?_
   exact lback (ih1 (z5, IntKind.i64.wrap (s2 + 1)) h) ⟨rfl, rfl, rfl, trivial⟩ (fun w1 hw => (hw.sel (js := []) rfl).selO (js := [0]) rfl)
  refine cdh rfl h (fun c2 h => ?_) (fun c2 h => ?_)
  ·refine rgn <| la rfl ?_
   obtain ⟨z6, hz6, h⟩ := bs h
   refine lq (q_cat rfl rfl hz6) rfl <| la rfl <| en ?_
   exact wto (K (z6) h) ⟨rfl, rfl, rfl, trivial⟩ (fun w1 hw => (hw.sel (js := []) rfl).selO (js := [0]) rfl)
  refine WT.skip ?_
  exact wto (K (s1) h) ⟨rfl, rfl, rfl, trivial⟩ (fun w1 hw => (hw.sel (js := []) rfl).selO (js := [0]) rfl)
 refine xt rfl <| sq <| sr <| la rfl <| en <| blk ?_
 refine loop_in (σ := ByteArray × Int) (fun s => [(1, .pointer (some ⟨b_1, 0, none⟩)), (3, .string s.1), (5, .int .i64 s.2)]) (fun s => St w0 Φ [(b_1, .cells #[.string p0.Name, .int .i64 p0.Sal, pv0_0, pv0_1, pv0_2] 33 (0, 0))] []) (fun m s => m_s_l9Text_l3 N p0 m s.1 s.2 = some r) (s1, 0) N h ⟨rfl, rfl, rfl, trivial⟩ (fun w1 hw => (hw.sel (js := []) rfl).selO (js := [0]) rfl) (fun s hm => none_ne hm) (fun n3 ih3 s hm => ?_)
 obtain ⟨s4, s5⟩ := s
 have h : m_s_l9Text_l3 N p0 (n3 + 1) s4 s5 = some r := hm
 show WT _ _ [(1, .pointer (some ⟨b_1, 0, none⟩)), (3, .string s4), (5, .int .i64 s5)] (St w0 Φ [(b_1, .cells #[.string p0.Name, .int .i64 p0.Sal, pv0_0, pv0_1, pv0_2] 33 (0, 0))] [])
 unfold m_s_l9Text_l3 at h
 refine sq <| sr <| la rfl <| lf Fld_33_3 rfl rfl rfl <| lo T1_30 0 rfl <| lq (q_lenR Sl_30 rfl rfl ph0_1) rfl <| la rfl <| en ?_
 refine cdh rfl h (fun c3 h => ?_) (fun c3 h => ?_)
 ·refine WT.skip <| sq <| blk <| sq <| sr <| la rfl <| la rfl <| en ?_
  refine cut (σ := ByteArray) (fun s => [(1, .pointer (some ⟨b_1, 0, none⟩)), (3, .string s), (5, .int .i64 s5)]) (fun s => St w0 Φ [(b_1, .cells #[.string p0.Name, .int .i64 p0.Sal, pv0_0, pv0_1, pv0_2] 33 (0, 0))] []) (fun s => m_s_l9Text_j4 N p0 s5 (m_s_l9Text_l3 N p0 n3) s = some r) (fun s hm => ?_) (fun K => ?_)
  ·clear h
   revert hm; revert s; intro s6 hm
   have h : m_s_l9Text_j4 N p0 s5 (m_s_l9Text_l3 N p0 n3) s6 = some r := hm
   show WT _ _ [(1, .pointer (some ⟨b_1, 0, none⟩)), (3, .string s6), (5, .int .i64 s5)] (St w0 Φ [(b_1, .cells #[.string p0.Name, .int .i64 p0.Sal, pv0_0, pv0_1, pv0_2] 33 (0, 0))] [])
   unfold m_s_l9Text_j4 at h
   refine rgn <| la rfl <| lf Fld_33_3 rfl rfl rfl <| lo T1_30 0 rfl <| la rfl ?_
   obtain ⟨x4, hx4, h⟩ := bs h
   obtain ⟨cs2, F2, -, g2, hb2, hs2, r2⟩ := ph0_1.el (idx_some hx4).2.2
   obtain ⟨rfl, -⟩ := r2
   refine lq (q_indexAddr Sl_30 rfl rfl ph0_1 hx4) rfl <| lg11 0 Tn_104 g2 rfl rfl ?_
   obtain ⟨x5, hx5, h⟩ := bs h
   refine lp (p_call Fun_47 rfl (fun w1 hw => m_s_CondText_ok hw.fro N x4 hx5)) rfl ?_
   obtain ⟨z7, hz7, h⟩ := bs h
   refine lq (q_cat rfl rfl hz7) rfl <| la rfl <| en <| ib <| rgn <| la rfl <| la rfl <| la rfl <| en ?_
   exact lback (ih3 (z7, IntKind.i64.wrap (s5 + 1)) h) ⟨rfl, rfl, rfl, trivial⟩ (fun w1 hw => (hw.sel (js := []) rfl).selO (js := [0]) rfl)
  refine cdh rfl h (fun c4 h => ?_) (fun c4 h => ?_)
  ·refine rgn <| la rfl ?_
   obtain ⟨z8, hz8, h⟩ := bs h
   refine lq (q_cat rfl rfl hz8) rfl <| la rfl <| en ?_
   exact wto (K (z8) h) ⟨rfl, rfl, rfl, trivial⟩ (fun w1 hw => (hw.sel (js := []) rfl).selO (js := [0]) rfl)
  refine rgn <| la rfl ?_
  obtain ⟨z9, hz9, h⟩ := bs h
  refine lq (q_cat rfl rfl hz9) rfl <| la rfl <| en ?_
  exact wto (K (z9) h) ⟨rfl, rfl, rfl, trivial⟩ (fun w1 hw => (hw.sel (js := []) rfl).selO (js := [0]) rfl)
 refine xt rfl <| sr <| la rfl ?_
 obtain ⟨z10, hz10, h⟩ := bs h
 refine lq (q_cat rfl rfl hz10) rfl <| la rfl <| en <| sq <| sr <| la rfl <| en <| blk ?_
 refine loop_in (σ := ByteArray × Int) (fun s => [(1, .pointer (some ⟨b_1, 0, none⟩)), (3, .string s.1), (6, .int .i64 s.2)]) (fun s => St w0 Φ [(b_1, .cells #[.string p0.Name, .int .i64 p0.Sal, pv0_0, pv0_1, pv0_2] 33 (0, 0))] []) (fun m s => m_s_l9Text_l5 N p0 m s.1 s.2 = some r) (z10, 0) N h ⟨rfl, rfl, rfl, trivial⟩ (fun w1 hw => (hw.sel (js := []) rfl).selO (js := [0]) rfl) (fun s hm => none_ne hm) (fun n5 ih5 s hm => ?_)
 obtain ⟨s7, s8⟩ := s
 have h : m_s_l9Text_l5 N p0 (n5 + 1) s7 s8 = some r := hm
 show WT _ _ [(1, .pointer (some ⟨b_1, 0, none⟩)), (3, .string s7), (6, .int .i64 s8)] (St w0 Φ [(b_1, .cells #[.string p0.Name, .int .i64 p0.Sal, pv0_0, pv0_1, pv0_2] 33 (0, 0))] [])
 unfold m_s_l9Text_l5 at h
 refine sq <| sr <| la rfl <| lf Fld_33_4 rfl rfl rfl <| lo T1_31 0 rfl <| lq (q_lenR Sl_31 rfl rfl ph0_2) rfl <| la rfl <| en ?_
 refine cdh rfl h (fun c5 h => ?_) (fun c5 h => ?_)
 ·refine WT.skip <| sq <| blk <| sq <| sr <| la rfl <| la rfl <| en ?_
  refine cut (σ := ByteArray) (fun s => [(1, .pointer (some ⟨b_1, 0, none⟩)), (3, .string s), (6, .int .i64 s8)]) (fun s => St w0 Φ [(b_1, .cells #[.string p0.Name, .int .i64 p0.Sal, pv0_0, pv0_1, pv0_2] 33 (0, 0))] []) (fun s => m_s_l9Text_j6 N p0 s8 (m_s_l9Text_l5 N p0 n5) s = some r) (fun s hm => ?_) (fun K => ?_)
  ·clear h
   revert hm; revert s; intro s9 hm
   have h : m_s_l9Text_j6 N p0 s8 (m_s_l9Text_l5 N p0 n5) s9 = some r := hm
   show WT _ _ [(1, .pointer (some ⟨b_1, 0, none⟩)), (3, .string s9), (6, .int .i64 s8)] (St w0 Φ [(b_1, .cells #[.string p0.Name, .int .i64 p0.Sal, pv0_0, pv0_1, pv0_2] 33 (0, 0))] [])
   unfold m_s_l9Text_j6 at h
   refine rgn <| la rfl <| lf Fld_33_4 rfl rfl rfl <| lo T1_31 0 rfl <| la rfl ?_
   obtain ⟨x6, hx6, h⟩ := bs h
   obtain ⟨cs3, F3, -, g3, hb3, hs3, r3⟩ := ph0_2.el (idx_some hx6).2.2
   obtain ⟨v2, G2, rfl, hq2, h2⟩ := r3
   obtain rfl := hq2.symm
   refine lq (q_indexAddr Sl_31 rfl rfl ph0_2 hx6) rfl <| lg5 0 Tn_108 g3 rfl rfl ?_
   obtain ⟨x7, hx7, h⟩ := bs h
   refine lp (p_call Fun_48 rfl (fun w1 hw => m_s_ActText_ok hw.fro N x6 h2 hx7)) rfl ?_
   obtain ⟨z11, hz11, h⟩ := bs h
   refine lq (q_cat rfl rfl hz11) rfl <| la rfl <| en <| ib <| rgn <| la rfl <| la rfl <| la rfl <| en ?_
   exact lback (ih5 (z11, IntKind.i64.wrap (s8 + 1)) h) ⟨rfl, rfl, rfl, trivial⟩ (fun w1 hw => (hw.sel (js := []) rfl).selO (js := [0]) rfl)
  refine cdh rfl h (fun c6 h => ?_) (fun c6 h => ?_)
  ·refine rgn <| la rfl ?_
   obtain ⟨z12, hz12, h⟩ := bs h
   refine lq (q_cat rfl rfl hz12) rfl <| la rfl <| en ?_
   exact wto (K (z12) h) ⟨rfl, rfl, rfl, trivial⟩ (fun w1 hw => (hw.sel (js := []) rfl).selO (js := [0]) rfl)
  refine WT.skip ?_
  exact wto (K (s7) h) ⟨rfl, rfl, rfl, trivial⟩ (fun w1 hw => (hw.sel (js := []) rfl).selO (js := [0]) rfl)
 refine xt rfl <| sr <| la rfl ?_
 obtain ⟨z13, hz13, h⟩ := bs h
 refine lq (q_cat rfl rfl hz13) rfl <| la rfl <| en ?_
 refine WT.ret Tryz.func19 (resOk.one rfl) (fun w1 hw => ?_)
 subst hb0
 cases h
 exact post_of_St hw
theorem m_s_l6Has_ok {Φ : Hp} {w : World} (hΦ : In Φ w) (N : Nat) (p0 : (List ByteArray)) (p1 : ByteArray) {pv0 : Value} {pG0 : List Nat} (ph0 : RSl RS 1 Φ pG0 pv0 p0) {r : Bool} (h : m_s_l6Has N p0 p1 = some r) :
  Calls Tryz.prog 76 [pv0, .string p1].toArray w (Post (.bool r) w) := by
 refine enter Tryz.func76 rfl Tryz.ntmps76 rfl (St.start0 hΦ) ?_
 generalize hb0 : (⟨w, [], Φ⟩ : Base) = w0
 unfold m_s_l6Has at h
 refine sr <| la rfl <| en <| sq <| sr <| la rfl <| en <| blk ?_
 refine loop_in (σ := Int) (fun s => [(0, pv0), (1, .string p1), (5, .int .i64 s)]) (fun s => St w0 Φ [] []) (fun m s => m_s_l6Has_l1 N p0 p1 m s = some r) (0) N h ⟨rfl, rfl, rfl, trivial⟩ (fun w1 hw => (hw.sel (js := []) rfl).selO (js := []) rfl) (fun s hm => none_ne hm) (fun n1 ih1 s hm => ?_)
 revert hm; revert s; intro s1 hm
 have h : m_s_l6Has_l1 N p0 p1 (n1 + 1) s1 = some r := hm
 show WT _ _ [(0, pv0), (1, .string p1), (5, .int .i64 s1)] (St w0 Φ [] [])
 unfold m_s_l6Has_l1 at h
 refine sq <| sr <| la rfl <| la rfl <| lq (q_lenR Sl_86 rfl rfl ph0) rfl <| la rfl <| en ?_
 refine cdh rfl h (fun c1 h => ?_) (fun c1 h => ?_)
 ·refine WT.skip <| sq <| blk <| sr <| la rfl <| la rfl ?_
  obtain ⟨x1, hx1, h⟩ := bs h
  obtain ⟨cs1, F1, -, g1, hb1, hs1, r1⟩ := ph0.el (idx_some hx1).2.2
  obtain ⟨rfl, -⟩ := r1
  refine lq (q_indexAddr Sl_86 rfl rfl ph0 hx1) rfl <| lg 0 T1_9 g1 rfl rfl <| la rfl <| la rfl <| en ?_
  refine cdh rfl h (fun c2 h => ?_) (fun c2 h => ?_)
  ·refine sr <| la rfl <| en ?_
   refine WT.ret Tryz.func76 (resOk.one rfl) (fun w1 hw => ?_)
   subst hb0
   cases h
   exact post_of_St hw
  refine WT.skip <| ib <| rgn <| la rfl <| la rfl <| la rfl <| en ?_
  exact lback (ih1 (IntKind.i64.wrap (s1 + 1)) h) ⟨rfl, rfl, rfl, trivial⟩ (fun w1 hw => (hw.sel (js := []) rfl).selO (js := []) rfl)
 refine xt rfl <| sr <| la rfl <| en ?_
 refine WT.ret Tryz.func76 (resOk.one rfl) (fun w1 hw => ?_)
 subst hb0
 cases h
 exact post_of_St hw
theorem m_s_VarsOf_ok {Φ : Hp} {w : World} (hΦ : In Φ w) (N : Nat) (p0 : TPat) {pv0_0 : Value} {pG0_0 : List Nat} (ph0_0 : RSl RTArg 5 Φ pG0_0 pv0_0 p0.Args) {r : (List ByteArray)} (h : m_s_VarsOf N p0 = some r) :
  Calls Tryz.prog 75 [.agg [.string p0.Kind, pv0_0, .bool p0.Not].toArray].toArray w (PostG Φ w [] (fun Φ' Fs v => ∃ (sr_0_0 : Value), v = sr_0_0 ∧ Fs = [ob sr_0_0] ∧ OSl RS 9 1 Φ' [] sr_0_0 r)) := by
 refine enter Tryz.func75 rfl Tryz.ntmps75 rfl (St.start0 hΦ) ?_
 have pa0_0 := Old.mk hΦ ph0_0.kn (Dj.empty _)
 revert pa0_0
 generalize hb0 : (⟨w, [], Φ⟩ : Base) = w0
 intro pa0_0
 unfold m_s_VarsOf at h
 refine sr ?_
 refine ln (nb rfl) rfl (fun b_1 => ?_)
 refine la rfl <| en <| sr ?_
 refine le' (e_lit0 RS.lasts Sl_86 Zr_9 rfl rfl) rfl (fun v1 Φ_1 D1 q1 => ?_)
 obtain ⟨fr1, h1⟩ := q1
 replace ph0_0 := ph0_0.frame RTArg.lasts fr1 (Dj.empty _)
 refine la rfl <| en <| sq <| sr <| la rfl <| en <| blk ?_
 refine loop_in (σ := Hp × (List ByteArray) × Value × Int) (fun s => [(1, .pointer (some ⟨b_1, 0, none⟩)), (3, s.2.2.1), (4, .int .i64 s.2.2.2)]) (fun s => St w0 s.1 [(b_1, .cells #[.string p0.Kind, pv0_0, .bool p0.Not] 98 (0, 0))] [ob s.2.2.1]) (fun m s => m_s_VarsOf_l1 N p0 m s.2.1 s.2.2.2 = some r ∧ (OSl RS 9 1 s.1 [] s.2.2.1 s.2.1) ∧ (RSl RTArg 5 s.1 pG0_0 pv0_0 p0.Args)) (Φ_1, ([] : List ByteArray), v1, 0) N ⟨h, h1, ph0_0⟩ ⟨rfl, rfl, rfl, trivial⟩ (fun w1 hw => (hw.sel (js := [0]) rfl).selO (js := [0]) rfl) (fun s hm => none_ne hm.1) (fun n1 ih1 s hm => ?_)
 obtain ⟨Φ_2, s1, u1, s2⟩ := s
 obtain ⟨h, k1, ph0_0⟩ := hm
 dsimp only at h k1 ph0_0 ⊢
 unfold m_s_VarsOf_l1 at h
 refine sq <| sr <| la rfl <| lf Fld_98_1 rfl rfl rfl <| lo T1_96 0 rfl <| lq (q_lenR Sl_96 rfl rfl ph0_0) rfl <| la rfl <| en ?_
 refine cdh rfl h (fun c1 h => ?_) (fun c1 h => ?_)
 ·refine WT.skip <| sq <| blk <| sr <| lf Fld_98_1 rfl rfl rfl <| lo T1_96 0 rfl <| la rfl ?_
  obtain ⟨x1, hx1, h⟩ := bs h
  obtain ⟨cs1, F1, -, g1, hb1, hs1, r1⟩ := ph0_0.el (idx_some hx1).2.2
  obtain ⟨rfl, -⟩ := r1
  refine lq (q_indexAddr Sl_96 rfl rfl ph0_0 hx1) rfl <| lf Fld_102_0 rfl rfl rfl <| lg 0 T1_3 g1 rfl rfl <| la rfl <| la rfl ?_
  obtain ⟨b1, hb_1, h⟩ := bs h
  refine WL.cutN 10 [(30, .bool b1), (1, .pointer (some ⟨b_1, 0, none⟩)), (3, u1), (4, .int .i64 s2)] ?_ (fun K => ?_)
  rotate_left
  ·refine spl 20 rfl hb_1 (fun c2 hb_1 => ?_) (fun c2 hb_1 => ?_)
   ·refine ly rfl rfl <| la rfl <| ly rfl rfl <| lf Fld_98_1 rfl rfl rfl <| ly rfl rfl <| lo T1_96 0 rfl <| ly rfl rfl <| la rfl <| ly rfl rfl ?_
    obtain ⟨x2, hx2, hb_1⟩ := bs hb_1
    obtain ⟨cs2, F2, -, g2, hb2, hs2, r2⟩ := ph0_0.el (idx_some hx2).2.2
    obtain ⟨rfl, -⟩ := r2
    refine lq (q_indexAddr Sl_96 rfl rfl ph0_0 hx2) rfl <| ly rfl rfl <| lf Fld_102_1 rfl rfl rfl <| ly rfl rfl <| lg 1 T1_9 g2 rfl rfl <| ly rfl rfl ?_
    obtain ⟨x3, hx3, hb_1⟩ := bs hb_1
    refine lp (p_call Fun_76 rfl (fun w1 hw => m_s_l6Has_ok hw.fro N s1 x2.S k1.rsl hx3)) rfl <| ly rfl rfl <| la rfl <| la rfl ?_
    cases hb_1
    exact kk K ⟨rfl, rfl, rfl, rfl, trivial⟩
   ·refine la rfl <| la rfl <| la rfl <| la rfl <| la rfl <| la rfl <| la rfl <| la rfl <| la rfl <| la rfl ?_
    cases hb_1
    exact kk K ⟨rfl, rfl, rfl, rfl, trivial⟩
  refine en ?_
  refine cdh rfl h (fun c3 h => ?_) (fun c3 h => ?_)
  ·refine rgn <| la rfl <| lf Fld_98_1 rfl rfl rfl <| lo T1_96 0 rfl <| la rfl ?_
   obtain ⟨x4, hx4, h⟩ := bs h
   obtain ⟨cs3, F3, -, g3, hb3, hs3, r3⟩ := ph0_0.el (idx_some hx4).2.2
   obtain ⟨rfl, -⟩ := r3
   refine lq (q_indexAddr Sl_96 rfl rfl ph0_0 hx4) rfl <| lf Fld_102_1 rfl rfl rfl <| lg 1 T1_9 g3 rfl rfl ?_
   have rc2 : RC RS 1 Φ_2 ([[]] : List (List Nat)) [.string x4.S] ([x4.S] : List ByteArray) := RC.cons (c := [.string x4.S]) (cells := []) ⟨rfl, rfl⟩ rfl (RC.nil _ _ _)
   refine le' (e_lit (vs := [(0, .string x4.S)]) (C := #[.string x4.S]) RS.lasts Sl_86 Zr_9 rfl rfl rfl rfl (fill_made MC_9_1 (fill_cons (C' := [.string x4.S]) rfl rfl rfl rfl rfl (fill_nil))) rfl rc2 rfl (by simpa using Kw.nil)) rfl (fun v2 Φ_3 D2 q2 => ?_)
   obtain ⟨fr2, h2⟩ := q2
   replace h2 : OSl RS 9 1 Φ_3 [] v2 ([x4.S] : List ByteArray) := by simpa using h2
   replace ph0_0 := ph0_0.frame RTArg.lasts fr2 (Dj.empty _)
   replace k1 := k1.frame RS.lasts fr2 (Dj.empty _) (Dj.empty _)
   obtain ⟨x5, hx5, h⟩ := bs h
   refine le' (e_appF RS.lasts RS.one RS.flat Sl_86 Ei_9 rfl rfl rfl rfl rfl (js := [1]) (Rr := [ob v2]) rfl k1 h2.rsl hx5) rfl (fun v3 Φ_4 D3 q3 => ?_)
   obtain ⟨⟨ap1, fr3⟩, h3⟩ := q3
   replace ph0_0 := ph0_0.frame RTArg.lasts fr3 (ap1.o pa0_0)
   refine la rfl <| en <| ib <| rgn <| la rfl <| la rfl <| la rfl <| en ?_
   exact lback (ih1 (Φ_4, x5, v3, IntKind.i64.wrap (s2 + 1)) ⟨h, h3, ph0_0⟩) ⟨rfl, rfl, rfl, trivial⟩ (fun w1 hw => (hw.sel (js := [0]) rfl).selO (js := [0]) rfl)
  refine WT.skip <| ib <| rgn <| la rfl <| la rfl <| la rfl <| en ?_
  exact lback (ih1 (Φ_2, s1, u1, IntKind.i64.wrap (s2 + 1)) ⟨h, k1, ph0_0⟩) ⟨rfl, rfl, rfl, trivial⟩ (fun w1 hw => (hw.sel (js := [0]) rfl).selO (js := [0]) rfl)
 refine xt rfl <| sr <| la rfl <| la rfl <| en ?_
 refine WT.ret Tryz.func75 (resOk.one rfl) (fun w1 hw => ?_)
 subst hb0
 cases h
 refine postG_of_St (js := [0]) hw rfl ⟨u1, rfl, rfl, k1⟩
end Go.Proofs.YtlfpehhlkccdiaaGreatDoor
