/- Printed by a program of ours: each Go function computes its Lean function. -/
import Derived.Test.YtjangilipfjcmaaProg
import Derived.Test.YtjangilipfjcmaaWExactBindsForMod
namespace Go.Proofs.Ytjangilipfjcmaa
open Eng
open Go.RowKit (Below)
set_option linter.unusedVariables false
set_option linter.unusedSimpArgs false

set_option maxRecDepth 100000
set_option maxHeartbeats 1000000
theorem mixed : Try.prog.follows .mixedOrders = true := by kernel_rfl
theorem Fld_155_2 : Fld Try.prog 155 2 2 = true := by kernel_rfl
theorem T1_9 : T1 Try.prog 9 = true := by kernel_rfl
theorem Str_9 : Str Try.prog 9 = true := by kernel_rfl
theorem Fld_157_1 : Fld Try.prog 157 1 1 = true := by kernel_rfl
theorem Fld_157_2 : Fld Try.prog 157 2 2 = true := by kernel_rfl
theorem Tn_155 : Tn Try.prog 155 3 = true := by kernel_rfl
theorem Fun_169 : Fun Try.prog 169 = true := by kernel_rfl
theorem Sl_151 : Sl Try.prog 151 157 5 = true := by kernel_rfl
theorem Tn_157 : Tn Try.prog 157 5 = true := by kernel_rfl
theorem Fun_144 : Fun Try.prog 144 = true := by kernel_rfl
theorem Fld_153_0 : Fld Try.prog 153 0 0 = true := by kernel_rfl
theorem Fld_153_1 : Fld Try.prog 153 1 1 = true := by kernel_rfl
theorem T1_151 : T1 Try.prog 151 = true := by kernel_rfl
theorem Fun_143 : Fun Try.prog 143 = true := by kernel_rfl
theorem Sl_33 : Sl Try.prog 33 153 3 = true := by kernel_rfl
theorem Tn_153 : Tn Try.prog 153 3 = true := by kernel_rfl
theorem Fun_99 : Fun Try.prog 99 = true := by kernel_rfl
theorem Fld_159_1 : Fld Try.prog 159 1 1 = true := by kernel_rfl
theorem Fld_159_2 : Fld Try.prog 159 2 6 = true := by kernel_rfl
theorem Sl_34 : Sl Try.prog 34 159 11 = true := by kernel_rfl
theorem Tn_159 : Tn Try.prog 159 11 = true := by kernel_rfl
theorem Fun_100 : Fun Try.prog 100 = true := by kernel_rfl
theorem Fld_225_0 : Fld Try.prog 225 0 0 = true := by kernel_rfl
theorem Fld_225_1 : Fld Try.prog 225 1 1 = true := by kernel_rfl
theorem Fld_225_2 : Fld Try.prog 225 2 6 = true := by kernel_rfl
theorem Sl_161 : Sl Try.prog 161 225 11 = true := by kernel_rfl
theorem Tn_225 : Tn Try.prog 225 11 = true := by kernel_rfl
theorem Fun_170 : Fun Try.prog 170 = true := by kernel_rfl
theorem Fld_163_1 : Fld Try.prog 163 1 1 = true := by kernel_rfl
theorem Fld_163_2 : Fld Try.prog 163 2 2 = true := by kernel_rfl
theorem T1_161 : T1 Try.prog 161 = true := by kernel_rfl
theorem Fun_145 : Fun Try.prog 145 = true := by kernel_rfl
theorem Fld_163_4 : Fld Try.prog 163 4 4 = true := by kernel_rfl
theorem Sl_35 : Sl Try.prog 35 163 5 = true := by kernel_rfl
theorem Tn_163 : Tn Try.prog 163 5 = true := by kernel_rfl
theorem Fun_101 : Fun Try.prog 101 = true := by kernel_rfl
theorem Fld_37_0 : Fld Try.prog 37 0 0 = true := by kernel_rfl
theorem Fld_37_2 : Fld Try.prog 37 2 2 = true := by kernel_rfl
theorem T1_33 : T1 Try.prog 33 = true := by kernel_rfl
theorem Fun_48 : Fun Try.prog 48 = true := by kernel_rfl
theorem Fld_37_3 : Fld Try.prog 37 3 3 = true := by kernel_rfl
theorem T1_34 : T1 Try.prog 34 = true := by kernel_rfl
theorem Fun_49 : Fun Try.prog 49 = true := by kernel_rfl
theorem Fld_37_4 : Fld Try.prog 37 4 4 = true := by kernel_rfl
theorem T1_35 : T1 Try.prog 35 = true := by kernel_rfl
theorem Fun_50 : Fun Try.prog 50 = true := by kernel_rfl
theorem Sl_165 : Sl Try.prog 165 155 3 = true := by kernel_rfl
theorem Fld_167_0 : Fld Try.prog 167 0 0 = true := by kernel_rfl
theorem Fld_167_1 : Fld Try.prog 167 1 1 = true := by kernel_rfl
theorem T1_165 : T1 Try.prog 165 = true := by kernel_rfl
theorem Fun_171 : Fun Try.prog 171 = true := by kernel_rfl
theorem Fld_169_1 : Fld Try.prog 169 1 1 = true := by kernel_rfl
theorem Tn_167 : Tn Try.prog 167 2 = true := by kernel_rfl
theorem Fun_146 : Fun Try.prog 146 = true := by kernel_rfl
theorem Sl_38 : Sl Try.prog 38 169 3 = true := by kernel_rfl
theorem Tn_169 : Tn Try.prog 169 3 = true := by kernel_rfl
theorem Fun_102 : Fun Try.prog 102 = true := by kernel_rfl
theorem Fld_40_0 : Fld Try.prog 40 0 0 = true := by kernel_rfl
theorem T1_38 : T1 Try.prog 38 = true := by kernel_rfl
theorem Fun_51 : Fun Try.prog 51 = true := by kernel_rfl
theorem Zr_97 : (Try.prog.info? 97).map (·.zero) = some (some (.agg #[.string ⟨#[]⟩, .slice none 0 0])) := by kernel_rfl
theorem MC_109_0 : madeCells (Value.agg #[.int .i64 0, .int .i64 0, .string ⟨#[]⟩] : Value).cells (0 * 3) = #[] := by kernel_rfl
theorem Sl_95 : Sl Try.prog 95 109 3 = true := by kernel_rfl
theorem Zr_109 : (Try.prog.info? 109).map (·.zero) = some (some (.agg #[.int .i64 0, .int .i64 0, .string ⟨#[]⟩])) := by kernel_rfl
theorem Fld_97_1 : Fld Try.prog 97 1 1 = true := by kernel_rfl
theorem T1_95 : T1 Try.prog 95 = true := by kernel_rfl
theorem Ei_109 : (Try.prog.info? 109).map (fun i => (i.zero, i.size, i.bytes)) = some (some (.agg #[.int .i64 0, .int .i64 0, .string ⟨#[]⟩]), 3, 32) := by kernel_rfl
theorem Sz_95 : Sz Try.prog 95 1 = true := by kernel_rfl
theorem Tn_97 : Tn Try.prog 97 2 = true := by kernel_rfl
theorem Sz_97 : Sz Try.prog 97 2 = true := by kernel_rfl
theorem Fld_55_0 : Fld Try.prog 55 0 0 = true := by kernel_rfl
theorem T1_53 : T1 Try.prog 53 = true := by kernel_rfl
theorem Sl_53 : Sl Try.prog 53 171 3 = true := by kernel_rfl
theorem Fld_171_0 : Fld Try.prog 171 0 0 = true := by kernel_rfl
theorem T1_3 : T1 Try.prog 3 = true := by kernel_rfl
theorem Fld_171_1 : Fld Try.prog 171 1 1 = true := by kernel_rfl
theorem Fun_103 : Fun Try.prog 103 = true := by kernel_rfl
theorem Pl_97 : Pl Try.prog 97 #[(0, 1), (1, 1)] = true := by kernel_rfl
theorem Sl_44 : Sl Try.prog 44 111 4 = true := by kernel_rfl
theorem Fld_111_0 : Fld Try.prog 111 0 0 = true := by kernel_rfl
theorem Fld_111_1 : Fld Try.prog 111 1 1 = true := by kernel_rfl
theorem Tn_109 : Tn Try.prog 109 3 = true := by kernel_rfl
theorem Sz_109 : Sz Try.prog 109 3 = true := by kernel_rfl
theorem Pl_109 : Pl Try.prog 109 #[(0, 1), (1, 1), (2, 1)] = true := by kernel_rfl
theorem MC_111_0 : madeCells (Value.agg #[.string ⟨#[]⟩, .int .i64 0, .int .i64 0, .string ⟨#[]⟩] : Value).cells (0 * 4) = #[] := by kernel_rfl
theorem Zr_111 : (Try.prog.info? 111).map (·.zero) = some (some (.agg #[.string ⟨#[]⟩, .int .i64 0, .int .i64 0, .string ⟨#[]⟩])) := by kernel_rfl
theorem Ei_111 : (Try.prog.info? 111).map (fun i => (i.zero, i.size, i.bytes)) = some (some (.agg #[.string ⟨#[]⟩, .int .i64 0, .int .i64 0, .string ⟨#[]⟩]), 4, 48) := by kernel_rfl
theorem Fld_94_0 : Fld Try.prog 94 0 0 = true := by kernel_rfl
theorem Fld_97_0 : Fld Try.prog 97 0 0 = true := by kernel_rfl
theorem Fld_94_1 : Fld Try.prog 94 1 1 = true := by kernel_rfl
theorem T1_92 : T1 Try.prog 92 = true := by kernel_rfl
theorem Sl_92 : Sl Try.prog 92 140 5 = true := by kernel_rfl
theorem Tn_140 : Tn Try.prog 140 5 = true := by kernel_rfl
theorem Zr_140 : (Try.prog.info? 140).map (·.zero) = some (some (.agg #[.int .i64 0, .string ⟨#[]⟩, .int .i64 0, .int .i64 0, .string ⟨#[]⟩])) := by kernel_rfl
theorem Sz_140 : Sz Try.prog 140 5 = true := by kernel_rfl
theorem Fld_140_1 : Fld Try.prog 140 1 1 = true := by kernel_rfl
theorem Fun_104 : Fun Try.prog 104 = true := by kernel_rfl
theorem Fld_140_0 : Fld Try.prog 140 0 0 = true := by kernel_rfl
theorem Fld_140_2 : Fld Try.prog 140 2 2 = true := by kernel_rfl
theorem EqT_109 : EqT Try.prog 109 [.i .i64, .i .i64, .s] = true := by kernel_rfl
theorem Pl_111 : Pl Try.prog 111 #[(0, 1), (1, 3)] = true := by kernel_rfl
theorem MC_111_1 : madeCells (Value.agg #[.string ⟨#[]⟩, .int .i64 0, .int .i64 0, .string ⟨#[]⟩] : Value).cells (1 * 4) = #[.string ⟨#[]⟩, .int .i64 0, .int .i64 0, .string ⟨#[]⟩] := by kernel_rfl
theorem Fld_51_2 : Fld Try.prog 51 2 2 = true := by kernel_rfl
theorem T1_47 : T1 Try.prog 47 = true := by kernel_rfl
theorem Sl_47 : Sl Try.prog 47 94 3 = true := by kernel_rfl
theorem Fld_94_2 : Fld Try.prog 94 2 2 = true := by kernel_rfl
theorem T1_4 : T1 Try.prog 4 = true := by kernel_rfl
theorem Sl_41 : Sl Try.prog 41 3 1 = true := by kernel_rfl
theorem Tn_55 : Tn Try.prog 55 2 = true := by kernel_rfl
theorem Fun_52 : Fun Try.prog 52 = true := by kernel_rfl
theorem Tn_94 : Tn Try.prog 94 3 = true := by kernel_rfl
theorem Fun_53 : Fun Try.prog 53 = true := by kernel_rfl
theorem Fld_155_0 : Fld Try.prog 155 0 0 = true := by kernel_rfl
theorem Fld_109_0 : Fld Try.prog 109 0 0 = true := by kernel_rfl
theorem Sz_3 : Sz Try.prog 3 1 = true := by kernel_rfl
theorem Fld_155_1 : Fld Try.prog 155 1 1 = true := by kernel_rfl
theorem Fld_109_1 : Fld Try.prog 109 1 1 = true := by kernel_rfl
theorem Fld_109_2 : Fld Try.prog 109 2 2 = true := by kernel_rfl
theorem Sz_9 : Sz Try.prog 9 1 = true := by kernel_rfl
theorem Fld_157_0 : Fld Try.prog 157 0 0 = true := by kernel_rfl
theorem Fun_172 : Fun Try.prog 172 = true := by kernel_rfl
theorem By_140 : By Try.prog 140 56 = true := by kernel_rfl
theorem Fun_148 : Fun Try.prog 148 = true := by kernel_rfl
theorem Zr_94 : (Try.prog.info? 94).map (·.zero) = some (some (.agg #[.string ⟨#[]⟩, .slice none 0 0, .bool false])) := by kernel_rfl
theorem Fun_147 : Fun Try.prog 147 = true := by kernel_rfl
theorem Sz_92 : Sz Try.prog 92 1 = true := by kernel_rfl
theorem Fld_153_2 : Fld Try.prog 153 2 2 = true := by kernel_rfl
theorem Sz_4 : Sz Try.prog 4 1 = true := by kernel_rfl
theorem Sz_94 : Sz Try.prog 94 3 = true := by kernel_rfl
theorem By_94 : By Try.prog 94 48 = true := by kernel_rfl
theorem Fun_105 : Fun Try.prog 105 = true := by kernel_rfl
theorem Zr_142 : (Try.prog.info? 142).map (·.zero) = some (some (.agg #[.int .i64 0, .int .i64 0, .string ⟨#[]⟩, .int .i64 0, .int .i64 0, .string ⟨#[]⟩, .int .i64 0, .string ⟨#[]⟩, .int .i64 0, .int .i64 0, .string ⟨#[]⟩])) := by kernel_rfl
theorem Fld_159_0 : Fld Try.prog 159 0 0 = true := by kernel_rfl
theorem Fld_142_0 : Fld Try.prog 142 0 0 = true := by kernel_rfl
theorem Fld_142_1 : Fld Try.prog 142 1 1 = true := by kernel_rfl
theorem Fld_142_2 : Fld Try.prog 142 2 6 = true := by kernel_rfl
theorem Tn_142 : Tn Try.prog 142 11 = true := by kernel_rfl
theorem Sz_142 : Sz Try.prog 142 11 = true := by kernel_rfl
theorem Sl_48 : Sl Try.prog 48 142 11 = true := by kernel_rfl
theorem By_142 : By Try.prog 142 120 = true := by kernel_rfl
theorem Fun_106 : Fun Try.prog 106 = true := by kernel_rfl
theorem Zr_197 : (Try.prog.info? 197).map (·.zero) = some (some (.agg #[.string ⟨#[]⟩, .int .i64 0, .string ⟨#[]⟩, .int .i64 0, .int .i64 0, .string ⟨#[]⟩, .int .i64 0, .string ⟨#[]⟩, .int .i64 0, .int .i64 0, .string ⟨#[]⟩])) := by kernel_rfl
theorem Fld_197_0 : Fld Try.prog 197 0 0 = true := by kernel_rfl
theorem Fld_197_1 : Fld Try.prog 197 1 1 = true := by kernel_rfl
theorem Fld_197_2 : Fld Try.prog 197 2 6 = true := by kernel_rfl
theorem Tn_197 : Tn Try.prog 197 11 = true := by kernel_rfl
theorem Sz_197 : Sz Try.prog 197 11 = true := by kernel_rfl
theorem Sl_144 : Sl Try.prog 144 197 11 = true := by kernel_rfl
theorem By_197 : By Try.prog 197 128 = true := by kernel_rfl
theorem Fun_173 : Fun Try.prog 173 = true := by kernel_rfl
theorem Zr_146 : (Try.prog.info? 146).map (·.zero) = some (some (.agg #[.int .i64 0, .string ⟨#[]⟩, .slice none 0 0, .int .i64 0, .string ⟨#[]⟩])) := by kernel_rfl
theorem Fld_163_0 : Fld Try.prog 163 0 0 = true := by kernel_rfl
theorem Fld_146_0 : Fld Try.prog 146 0 0 = true := by kernel_rfl
theorem Fld_146_1 : Fld Try.prog 146 1 1 = true := by kernel_rfl
theorem Fun_149 : Fun Try.prog 149 = true := by kernel_rfl
theorem Fld_146_2 : Fld Try.prog 146 2 2 = true := by kernel_rfl
theorem Sz_144 : Sz Try.prog 144 1 = true := by kernel_rfl
theorem Fld_163_3 : Fld Try.prog 163 3 3 = true := by kernel_rfl
theorem Fld_146_3 : Fld Try.prog 146 3 3 = true := by kernel_rfl
theorem Fld_146_4 : Fld Try.prog 146 4 4 = true := by kernel_rfl
theorem Tn_146 : Tn Try.prog 146 5 = true := by kernel_rfl
theorem Sz_146 : Sz Try.prog 146 5 = true := by kernel_rfl
theorem Sl_49 : Sl Try.prog 49 146 5 = true := by kernel_rfl
theorem By_146 : By Try.prog 146 72 = true := by kernel_rfl
theorem Fun_107 : Fun Try.prog 107 = true := by kernel_rfl
theorem Zr_51 : (Try.prog.info? 51).map (·.zero) = some (some (.agg #[.string ⟨#[]⟩, .int .i64 0, .slice none 0 0, .slice none 0 0, .slice none 0 0])) := by kernel_rfl
theorem Fld_51_0 : Fld Try.prog 51 0 0 = true := by kernel_rfl
theorem Fld_37_1 : Fld Try.prog 37 1 1 = true := by kernel_rfl
theorem Fld_51_1 : Fld Try.prog 51 1 1 = true := by kernel_rfl
theorem Fun_54 : Fun Try.prog 54 = true := by kernel_rfl
theorem Sz_47 : Sz Try.prog 47 1 = true := by kernel_rfl
theorem Fun_55 : Fun Try.prog 55 = true := by kernel_rfl
theorem Fld_51_3 : Fld Try.prog 51 3 3 = true := by kernel_rfl
theorem Sz_48 : Sz Try.prog 48 1 = true := by kernel_rfl
theorem Fun_56 : Fun Try.prog 56 = true := by kernel_rfl
theorem Fld_51_4 : Fld Try.prog 51 4 4 = true := by kernel_rfl
theorem Sz_49 : Sz Try.prog 49 1 = true := by kernel_rfl
theorem Tn_51 : Tn Try.prog 51 5 = true := by kernel_rfl
theorem Sz_51 : Sz Try.prog 51 5 = true := by kernel_rfl
theorem By_109 : By Try.prog 109 32 = true := by kernel_rfl
theorem Fun_174 : Fun Try.prog 174 = true := by kernel_rfl
theorem Zr_171 : (Try.prog.info? 171).map (·.zero) = some (some (.agg #[.int .i64 0, .string ⟨#[]⟩, .slice none 0 0])) := by kernel_rfl
theorem Fld_169_0 : Fld Try.prog 169 0 0 = true := by kernel_rfl
theorem Fun_150 : Fun Try.prog 150 = true := by kernel_rfl
theorem Tn_171 : Tn Try.prog 171 3 = true := by kernel_rfl
theorem Sz_171 : Sz Try.prog 171 3 = true := by kernel_rfl
theorem By_171 : By Try.prog 171 48 = true := by kernel_rfl
theorem Fun_108 : Fun Try.prog 108 = true := by kernel_rfl
theorem Zr_55 : (Try.prog.info? 55).map (·.zero) = some (some (.agg #[.slice none 0 0, .int .i64 0])) := by kernel_rfl
theorem Fun_57 : Fun Try.prog 57 = true := by kernel_rfl
theorem Sz_53 : Sz Try.prog 53 1 = true := by kernel_rfl
theorem Fld_40_1 : Fld Try.prog 40 1 1 = true := by kernel_rfl
theorem Fld_55_1 : Fld Try.prog 55 1 1 = true := by kernel_rfl
theorem Sz_55 : Sz Try.prog 55 2 = true := by kernel_rfl
theorem Zr_3 : (Try.prog.info? 3).map (·.zero) = some (some (.int .i64 0)) := by kernel_rfl
theorem By_3 : By Try.prog 3 8 = true := by kernel_rfl
theorem Bo_4 : Bo Try.prog 4 = true := by kernel_rfl
theorem MC_94_1 : madeCells (Value.agg #[.string ⟨#[]⟩, .slice none 0 0, .bool false] : Value).cells (1 * 3) = #[.string ⟨#[]⟩, .slice none 0 0, .bool false] := by kernel_rfl
theorem Ei_94 : (Try.prog.info? 94).map (fun i => (i.zero, i.size, i.bytes)) = some (some (.agg #[.string ⟨#[]⟩, .slice none 0 0, .bool false]), 3, 48) := by kernel_rfl
theorem Fun_175 : Fun Try.prog 175 = true := by kernel_rfl
theorem Fun_151 : Fun Try.prog 151 = true := by kernel_rfl
theorem Tn_111 : Tn Try.prog 111 4 = true := by kernel_rfl
theorem Sz_111 : Sz Try.prog 111 4 = true := by kernel_rfl
theorem Fun_129 : Fun Try.prog 129 = true := by kernel_rfl
theorem Fun_152 : Fun Try.prog 152 = true := by kernel_rfl
theorem Fun_109 : Fun Try.prog 109 = true := by kernel_rfl
theorem Fun_110 : Fun Try.prog 110 = true := by kernel_rfl
theorem Fun_58 : Fun Try.prog 58 = true := by kernel_rfl
theorem Fun_59 : Fun Try.prog 59 = true := by kernel_rfl
theorem Fun_111 : Fun Try.prog 111 = true := by kernel_rfl
theorem Fun_60 : Fun Try.prog 60 = true := by kernel_rfl
theorem Fun_154 : Fun Try.prog 154 = true := by kernel_rfl
theorem Fun_153 : Fun Try.prog 153 = true := by kernel_rfl
theorem Fun_112 : Fun Try.prog 112 = true := by kernel_rfl
theorem Fun_113 : Fun Try.prog 113 = true := by kernel_rfl
theorem Fun_176 : Fun Try.prog 176 = true := by kernel_rfl
theorem T1_144 : T1 Try.prog 144 = true := by kernel_rfl
theorem Fun_155 : Fun Try.prog 155 = true := by kernel_rfl
theorem Fun_114 : Fun Try.prog 114 = true := by kernel_rfl
theorem Fun_61 : Fun Try.prog 61 = true := by kernel_rfl
theorem T1_48 : T1 Try.prog 48 = true := by kernel_rfl
theorem Fun_62 : Fun Try.prog 62 = true := by kernel_rfl
theorem T1_49 : T1 Try.prog 49 = true := by kernel_rfl
theorem Fun_63 : Fun Try.prog 63 = true := by kernel_rfl
theorem Fun_177 : Fun Try.prog 177 = true := by kernel_rfl
theorem Fun_156 : Fun Try.prog 156 = true := by kernel_rfl
theorem Fun_115 : Fun Try.prog 115 = true := by kernel_rfl
theorem Fun_64 : Fun Try.prog 64 = true := by kernel_rfl
theorem Ik_3 : Ik Try.prog 3 .i64 = true := by kernel_rfl
theorem Ik_5 : Ik Try.prog 5 .u8 = true := by kernel_rfl
theorem MC_5_1 : madeCells (Value.int .u8 0 : Value).cells (1 * 1) = #[.int .u8 0] := by kernel_rfl
theorem Sl_187 : Sl Try.prog 187 5 1 = true := by kernel_rfl
theorem Zr_5 : (Try.prog.info? 5).map (·.zero) = some (some (.int .u8 0)) := by kernel_rfl
theorem Fun_69 : Fun Try.prog 69 = true := by kernel_rfl
theorem Fun_116 : Fun Try.prog 116 = true := by kernel_rfl
theorem Fun_117 : Fun Try.prog 117 = true := by kernel_rfl
theorem Fun_65 : Fun Try.prog 65 = true := by kernel_rfl
theorem Fun_66 : Fun Try.prog 66 = true := by kernel_rfl
theorem Fun_67 : Fun Try.prog 67 = true := by kernel_rfl
theorem Fun_118 : Fun Try.prog 118 = true := by kernel_rfl
theorem Fun_68 : Fun Try.prog 68 = true := by kernel_rfl
theorem Tn_37 : Tn Try.prog 37 5 = true := by kernel_rfl
theorem Fun_11 : Fun Try.prog 11 = true := by kernel_rfl
theorem Tn_40 : Tn Try.prog 40 2 = true := by kernel_rfl
theorem Fun_12 : Fun Try.prog 12 = true := by kernel_rfl
theorem Fun_14 : Fun Try.prog 14 = true := by kernel_rfl
theorem Fun_15 : Fun Try.prog 15 = true := by kernel_rfl
theorem Fun_16 : Fun Try.prog 16 = true := by kernel_rfl
theorem Fun_13 : Fun Try.prog 13 = true := by kernel_rfl
theorem Fun_17 : Fun Try.prog 17 = true := by kernel_rfl
theorem Fun_18 : Fun Try.prog 18 = true := by kernel_rfl
theorem Fun_19 : Fun Try.prog 19 = true := by kernel_rfl
theorem Fun_20 : Fun Try.prog 20 = true := by kernel_rfl
theorem Fun_21 : Fun Try.prog 21 = true := by kernel_rfl
theorem Fun_22 : Fun Try.prog 22 = true := by kernel_rfl
theorem Fun_23 : Fun Try.prog 23 = true := by kernel_rfl
theorem Fun_24 : Fun Try.prog 24 = true := by kernel_rfl
theorem Fun_25 : Fun Try.prog 25 = true := by kernel_rfl
theorem Fun_26 : Fun Try.prog 26 = true := by kernel_rfl
theorem m_l_szVal_ok {Φ : Hp} {w : World} (hΦ : In Φ w) (N : Nat) (p0 : TVal) (p1 : Int)   {r : Int} (h : m_l_szVal N p0 p1 = some r) :
    Calls Try.prog 169 [.agg [.int .i64 p0.K, .int .i64 p0.N, .string p0.S].toArray, .int .i64 p1].toArray w (Post (.int .i64 r) w) := by
  refine enter Try.func169 rfl Try.ntmps169 rfl (St.start0 hΦ) ?_
  unfold m_l_szVal at h
  refine WT.seq ?_
  refine WT.region ?_
  refine ln (n_box (C := #[.int .i64 p0.K, .int .i64 p0.N, .string p0.S]) rfl rfl) rfl (fun b_1 => ?_)
  refine lq (q_assign rfl) rfl ?_
  refine WL.nil ?_
  refine WT.seq ?_
  refine WT.region ?_
  refine lq (q_move rfl) rfl ?_
  refine lq (q_fieldAddr Fld_155_2 rfl) rfl ?_
  refine lq (q_load1 T1_9 rfl (fun w1 hw => hw.rgO (i := 0) rfl 2 1 [.string p0.S] rfl)) rfl ?_
  refine lq (q_lenS Str_9 rfl rfl) rfl ?_
  refine lq (q_sub rfl rfl) rfl ?_
  refine lq (q_assign rfl) rfl ?_
  refine WL.nil ?_
  refine WT.seq ?_
  refine WT.seq ?_
  refine WT.region ?_
  refine lq (q_move rfl) rfl ?_
  refine lq (q_lss rfl rfl) rfl ?_
  refine WL.nil ?_
  refine WT.cond rfl (fun c1 => ?_) (fun c1 => ?_)
  · replace h := ite_t h c1
    refine WT.seq ?_
    refine WT.region ?_
    refine lq (q_assign rfl) rfl ?_
    refine WL.nil ?_
    refine WT.ret Try.func169 (resOk.one rfl) (fun w1 hw => ?_)
    cases h
    exact post_of_St hw
  replace h := ite_f h c1
  refine WT.skip ?_
  refine WT.seq ?_
  refine WT.region ?_
  refine lq (q_move rfl) rfl ?_
  refine lq (q_assign rfl) rfl ?_
  refine WL.nil ?_
  refine WT.ret Try.func169 (resOk.one rfl) (fun w1 hw => ?_)
  cases h
  exact post_of_St hw
theorem m_l_szArg_ok {Φ : Hp} {w : World} (hΦ : In Φ w) (N : Nat) (p0 : TArg) (p1 : Int)   {r : Int} (h : m_l_szArg N p0 p1 = some r) :
    Calls Try.prog 144 [.agg [.int .i64 p0.K, .string p0.S, .int .i64 p0.V.K, .int .i64 p0.V.N, .string p0.V.S].toArray, .int .i64 p1].toArray w (Post (.int .i64 r) w) := by
  refine enter Try.func144 rfl Try.ntmps144 rfl (St.start0 hΦ) ?_
  unfold m_l_szArg at h
  refine WT.seq ?_
  refine WT.region ?_
  refine ln (n_box (C := #[.int .i64 p0.K, .string p0.S, .int .i64 p0.V.K, .int .i64 p0.V.N, .string p0.V.S]) rfl rfl) rfl (fun b_1 => ?_)
  refine lq (q_assign rfl) rfl ?_
  refine WL.nil ?_
  refine WT.seq ?_
  refine WT.region ?_
  refine lq (q_move rfl) rfl ?_
  refine lq (q_fieldAddr Fld_157_1 rfl) rfl ?_
  refine lq (q_load1 T1_9 rfl (fun w1 hw => hw.rgO (i := 0) rfl 1 1 [.string p0.S] rfl)) rfl ?_
  refine lq (q_lenS Str_9 rfl rfl) rfl ?_
  refine lq (q_sub rfl rfl) rfl ?_
  refine lq (q_assign rfl) rfl ?_
  refine WL.nil ?_
  refine WT.seq ?_
  refine WT.seq ?_
  refine WT.region ?_
  refine lq (q_move rfl) rfl ?_
  refine lq (q_lss rfl rfl) rfl ?_
  refine WL.nil ?_
  refine WT.cond rfl (fun c1 => ?_) (fun c1 => ?_)
  · replace h := ite_t h c1
    refine WT.seq ?_
    refine WT.region ?_
    refine lq (q_assign rfl) rfl ?_
    refine WL.nil ?_
    refine WT.ret Try.func144 (resOk.one rfl) (fun w1 hw => ?_)
    cases h
    exact post_of_St hw
  replace h := ite_f h c1
  refine WT.skip ?_
  refine WT.seq ?_
  refine WT.region ?_
  refine lq (q_fieldAddr Fld_157_2 rfl) rfl ?_
  refine lq (q_loadN Tn_155 rfl (fun w1 hw => hw.rgO (i := 0) rfl 2 3 [.int .i64 p0.V.K, .int .i64 p0.V.N, .string p0.V.S] rfl) rfl) rfl ?_
  refine lq (q_move rfl) rfl ?_
  obtain ⟨x1, hx1, h⟩ := bind_some h
  refine lp (p_call Fun_169 rfl (fun w1 hw => m_l_szVal_ok hw.fro N p0.V (IntKind.i64.wrap (p1 - (p0.S.size : Int))) hx1)) rfl ?_
  refine lq (q_assign rfl) rfl ?_
  refine WL.nil ?_
  refine WT.seq ?_
  refine WT.seq ?_
  refine WT.region ?_
  refine lq (q_move rfl) rfl ?_
  refine lq (q_lss rfl rfl) rfl ?_
  refine WL.nil ?_
  refine WT.cond rfl (fun c2 => ?_) (fun c2 => ?_)
  · replace h := ite_t h c2
    refine WT.seq ?_
    refine WT.region ?_
    refine lq (q_assign rfl) rfl ?_
    refine WL.nil ?_
    refine WT.ret Try.func144 (resOk.one rfl) (fun w1 hw => ?_)
    cases h
    exact post_of_St hw
  replace h := ite_f h c2
  refine WT.skip ?_
  refine WT.seq ?_
  refine WT.region ?_
  refine lq (q_move rfl) rfl ?_
  refine lq (q_assign rfl) rfl ?_
  refine WL.nil ?_
  refine WT.ret Try.func144 (resOk.one rfl) (fun w1 hw => ?_)
  cases h
  exact post_of_St hw
theorem m_l_szArgS_ok {Φ : Hp} {w : World} (hΦ : In Φ w) (N : Nat) (p0 : (List TArg)) (p1 : Int) {pv0 : Value} {pG0 : List Nat} (ph0 : RSl RTArg 5 Φ pG0 pv0 p0) {r : Int} (h : m_l_szArgS N p0 p1 = some r) :
    Calls Try.prog 143 [pv0, .int .i64 p1].toArray w (Post (.int .i64 r) w) := by
  refine enter Try.func143 rfl Try.ntmps143 rfl (St.start0 hΦ) ?_
  generalize hb0 : (⟨w, [], Φ⟩ : Base) = w0
  unfold m_l_szArgS at h
  refine WT.seq ?_
  refine WT.region ?_
  refine lq (q_assign rfl) rfl ?_
  refine WL.nil ?_
  refine WT.seq ?_
  refine WT.region ?_
  refine lq (q_move rfl) rfl ?_
  refine lq (q_move rfl) rfl ?_
  refine lq (q_lenR Sl_151 rfl rfl ph0) rfl ?_
  refine lq (q_sub rfl rfl) rfl ?_
  refine lq (q_assign rfl) rfl ?_
  refine WL.nil ?_
  refine WT.seq ?_
  refine WT.seq ?_
  refine WT.region ?_
  refine lq (q_move rfl) rfl ?_
  refine lq (q_lss rfl rfl) rfl ?_
  refine WL.nil ?_
  refine WT.cond rfl (fun c1 => ?_) (fun c1 => ?_)
  · replace h := ite_t h c1
    refine WT.seq ?_
    refine WT.region ?_
    refine lq (q_assign rfl) rfl ?_
    refine WL.nil ?_
    refine WT.ret Try.func143 (resOk.one rfl) (fun w1 hw => ?_)
    subst hb0
    cases h
    exact post_of_St hw
  replace h := ite_f h c1
  refine WT.skip ?_
  refine WT.seq ?_
  refine WT.seq ?_
  refine WT.region ?_
  refine lq (q_assign rfl) rfl ?_
  refine WL.nil ?_
  refine WT.block ?_
  refine WT.loop ?_
  refine WT.mono (l' := [(0, pv0), (1, .int .i64 (IntKind.i64.wrap (p1 - (p0.length : Int)))), (5, .int .i64 0)]) (S' := St w0 Φ [] []) ⟨rfl, rfl, rfl, trivial⟩ (fun w1 hw => (hw.sel (js := []) rfl).selO (js := []) rfl) ?_
  refine loop_ind (σ := Int × Int) (fun s => [(0, pv0), (1, .int .i64 s.1), (5, .int .i64 s.2)]) (fun s => St w0 Φ [] []) (fun m s => m_l_szArgS_l1 N p0 m s.1 s.2 = some r) (fun s hm => none_ne (show (none : Option (Int)) = some r from hm)) (fun n1 ih1 s hm => ?_) N (IntKind.i64.wrap (p1 - (p0.length : Int)), 0) h
  obtain ⟨s1, s2⟩ := s
  have h : m_l_szArgS_l1 N p0 (n1 + 1) s1 s2 = some r := hm
  show WT _ _ [(0, pv0), (1, .int .i64 s1), (5, .int .i64 s2)] (St w0 Φ [] [])
  unfold m_l_szArgS_l1 at h
  refine WT.seq ?_
  refine WT.seq ?_
  refine WT.region ?_
  refine lq (q_move rfl) rfl ?_
  refine lq (q_move rfl) rfl ?_
  refine lq (q_lenR Sl_151 rfl rfl ph0) rfl ?_
  refine lq (q_lss rfl rfl) rfl ?_
  refine WL.nil ?_
  refine WT.cond rfl (fun c2 => ?_) (fun c2 => ?_)
  · replace h := ite_t h c2
    refine WT.skip ?_
    refine WT.seq ?_
    refine WT.block ?_
    refine WT.seq ?_
    refine WT.region ?_
    refine lq (q_move rfl) rfl ?_
    refine lq (q_move rfl) rfl ?_
    obtain ⟨x1, hx1, h⟩ := bind_some h
    obtain ⟨cs1, F1, -, g1, hb1, hs1, r1⟩ := ph0.el (idx_some hx1).2.2
    obtain ⟨rfl, -⟩ := r1
    refine lq (q_indexAddr Sl_151 rfl rfl ph0 hx1) rfl ?_
    refine lq (q_loadN Tn_157 rfl (fun w1 hw => (g1.of_eq 0 5 rfl rfl : rg _ _ _ [.int .i64 x1.K, .string x1.S, .int .i64 x1.V.K, .int .i64 x1.V.N, .string x1.V.S]).rangeAt hw.fro) rfl) rfl ?_
    refine lq (q_move rfl) rfl ?_
    obtain ⟨x2, hx2, h⟩ := bind_some h
    refine lp (p_call Fun_144 rfl (fun w1 hw => m_l_szArg_ok hw.fro N x1 s1 hx2)) rfl ?_
    refine lq (q_assign rfl) rfl ?_
    refine WL.nil ?_
    refine WT.seq ?_
    refine WT.region ?_
    refine lq (q_move rfl) rfl ?_
    refine lq (q_lss rfl rfl) rfl ?_
    refine WL.nil ?_
    refine WT.cond rfl (fun c3 => ?_) (fun c3 => ?_)
    · replace h := ite_t h c3
      refine WT.seq ?_
      refine WT.region ?_
      refine lq (q_assign rfl) rfl ?_
      refine WL.nil ?_
      refine WT.ret Try.func143 (resOk.one rfl) (fun w1 hw => ?_)
      subst hb0
      cases h
      exact post_of_St hw
    replace h := ite_f h c3
    refine WT.skip ?_
    refine WT.inBlock ?_
    refine WT.region ?_
    refine lq (q_move rfl) rfl ?_
    refine lq (q_add rfl rfl) rfl ?_
    refine lq (q_assign rfl) rfl ?_
    refine WL.nil ?_
    refine WT.inLoop (WT.mono (l' := [(0, pv0), (1, .int .i64 x2), (5, .int .i64 (IntKind.i64.wrap (s2 + 1)))]) (S' := St w0 Φ [] []) ⟨rfl, rfl, rfl, trivial⟩ (fun w1 hw => (hw.sel (js := []) rfl).selO (js := []) rfl) ?_)
    exact ih1 (x2, IntKind.i64.wrap (s2 + 1)) h
  replace h := ite_f h c2
  refine WT.exit rfl ?_
  refine WT.seq ?_
  refine WT.region ?_
  refine lq (q_move rfl) rfl ?_
  refine lq (q_assign rfl) rfl ?_
  refine WL.nil ?_
  refine WT.ret Try.func143 (resOk.one rfl) (fun w1 hw => ?_)
  subst hb0
  cases h
  exact post_of_St hw
theorem m_l_szPat_ok {Φ : Hp} {w : World} (hΦ : In Φ w) (N : Nat) (p0 : TPat) (p1 : Int) {pv0_0 : Value} {pG0_0 : List Nat} (ph0_0 : RSl RTArg 5 Φ pG0_0 pv0_0 p0.Args) {r : Int} (h : m_l_szPat N p0 p1 = some r) :
    Calls Try.prog 99 [.agg [.string p0.Kind, pv0_0, .bool p0.Not].toArray, .int .i64 p1].toArray w (Post (.int .i64 r) w) := by
  refine enter Try.func99 rfl Try.ntmps99 rfl (St.start0 hΦ) ?_
  unfold m_l_szPat at h
  refine WT.seq ?_
  refine WT.region ?_
  refine ln (n_box (C := #[.string p0.Kind, pv0_0, .bool p0.Not]) rfl rfl) rfl (fun b_1 => ?_)
  refine lq (q_assign rfl) rfl ?_
  refine WL.nil ?_
  refine WT.seq ?_
  refine WT.region ?_
  refine lq (q_move rfl) rfl ?_
  refine lq (q_fieldAddr Fld_153_0 rfl) rfl ?_
  refine lq (q_load1 T1_9 rfl (fun w1 hw => hw.rgO (i := 0) rfl 0 1 [.string p0.Kind] rfl)) rfl ?_
  refine lq (q_lenS Str_9 rfl rfl) rfl ?_
  refine lq (q_sub rfl rfl) rfl ?_
  refine lq (q_assign rfl) rfl ?_
  refine WL.nil ?_
  refine WT.seq ?_
  refine WT.seq ?_
  refine WT.region ?_
  refine lq (q_move rfl) rfl ?_
  refine lq (q_lss rfl rfl) rfl ?_
  refine WL.nil ?_
  refine WT.cond rfl (fun c1 => ?_) (fun c1 => ?_)
  · replace h := ite_t h c1
    refine WT.seq ?_
    refine WT.region ?_
    refine lq (q_assign rfl) rfl ?_
    refine WL.nil ?_
    refine WT.ret Try.func99 (resOk.one rfl) (fun w1 hw => ?_)
    cases h
    exact post_of_St hw
  replace h := ite_f h c1
  refine WT.skip ?_
  refine WT.seq ?_
  refine WT.region ?_
  refine lq (q_fieldAddr Fld_153_1 rfl) rfl ?_
  refine lq (q_load1 T1_151 rfl (fun w1 hw => hw.rgO (i := 0) rfl 1 1 [pv0_0] rfl)) rfl ?_
  refine lq (q_move rfl) rfl ?_
  obtain ⟨x1, hx1, h⟩ := bind_some h
  refine lp (p_call Fun_143 rfl (fun w1 hw => m_l_szArgS_ok hw.fro N p0.Args (IntKind.i64.wrap (p1 - (p0.Kind.size : Int))) ph0_0 hx1)) rfl ?_
  refine lq (q_assign rfl) rfl ?_
  refine WL.nil ?_
  refine WT.seq ?_
  refine WT.seq ?_
  refine WT.region ?_
  refine lq (q_move rfl) rfl ?_
  refine lq (q_lss rfl rfl) rfl ?_
  refine WL.nil ?_
  refine WT.cond rfl (fun c2 => ?_) (fun c2 => ?_)
  · replace h := ite_t h c2
    refine WT.seq ?_
    refine WT.region ?_
    refine lq (q_assign rfl) rfl ?_
    refine WL.nil ?_
    refine WT.ret Try.func99 (resOk.one rfl) (fun w1 hw => ?_)
    cases h
    exact post_of_St hw
  replace h := ite_f h c2
  refine WT.skip ?_
  refine WT.seq ?_
  refine WT.region ?_
  refine lq (q_move rfl) rfl ?_
  refine lq (q_assign rfl) rfl ?_
  refine WL.nil ?_
  refine WT.ret Try.func99 (resOk.one rfl) (fun w1 hw => ?_)
  cases h
  exact post_of_St hw
theorem m_l_szPatS_ok {Φ : Hp} {w : World} (hΦ : In Φ w) (N : Nat) (p0 : (List TPat)) (p1 : Int) {pv0 : Value} {pG0 : List Nat} (ph0 : RSl RTPat 3 Φ pG0 pv0 p0) {r : Int} (h : m_l_szPatS N p0 p1 = some r) :
    Calls Try.prog 48 [pv0, .int .i64 p1].toArray w (Post (.int .i64 r) w) := by
  refine enter Try.func48 rfl Try.ntmps48 rfl (St.start0 hΦ) ?_
  generalize hb0 : (⟨w, [], Φ⟩ : Base) = w0
  unfold m_l_szPatS at h
  refine WT.seq ?_
  refine WT.region ?_
  refine lq (q_assign rfl) rfl ?_
  refine WL.nil ?_
  refine WT.seq ?_
  refine WT.region ?_
  refine lq (q_move rfl) rfl ?_
  refine lq (q_move rfl) rfl ?_
  refine lq (q_lenR Sl_33 rfl rfl ph0) rfl ?_
  refine lq (q_sub rfl rfl) rfl ?_
  refine lq (q_assign rfl) rfl ?_
  refine WL.nil ?_
  refine WT.seq ?_
  refine WT.seq ?_
  refine WT.region ?_
  refine lq (q_move rfl) rfl ?_
  refine lq (q_lss rfl rfl) rfl ?_
  refine WL.nil ?_
  refine WT.cond rfl (fun c1 => ?_) (fun c1 => ?_)
  · replace h := ite_t h c1
    refine WT.seq ?_
    refine WT.region ?_
    refine lq (q_assign rfl) rfl ?_
    refine WL.nil ?_
    refine WT.ret Try.func48 (resOk.one rfl) (fun w1 hw => ?_)
    subst hb0
    cases h
    exact post_of_St hw
  replace h := ite_f h c1
  refine WT.skip ?_
  refine WT.seq ?_
  refine WT.seq ?_
  refine WT.region ?_
  refine lq (q_assign rfl) rfl ?_
  refine WL.nil ?_
  refine WT.block ?_
  refine WT.loop ?_
  refine WT.mono (l' := [(0, pv0), (1, .int .i64 (IntKind.i64.wrap (p1 - (p0.length : Int)))), (5, .int .i64 0)]) (S' := St w0 Φ [] []) ⟨rfl, rfl, rfl, trivial⟩ (fun w1 hw => (hw.sel (js := []) rfl).selO (js := []) rfl) ?_
  refine loop_ind (σ := Int × Int) (fun s => [(0, pv0), (1, .int .i64 s.1), (5, .int .i64 s.2)]) (fun s => St w0 Φ [] []) (fun m s => m_l_szPatS_l1 N p0 m s.1 s.2 = some r) (fun s hm => none_ne (show (none : Option (Int)) = some r from hm)) (fun n1 ih1 s hm => ?_) N (IntKind.i64.wrap (p1 - (p0.length : Int)), 0) h
  obtain ⟨s1, s2⟩ := s
  have h : m_l_szPatS_l1 N p0 (n1 + 1) s1 s2 = some r := hm
  show WT _ _ [(0, pv0), (1, .int .i64 s1), (5, .int .i64 s2)] (St w0 Φ [] [])
  unfold m_l_szPatS_l1 at h
  refine WT.seq ?_
  refine WT.seq ?_
  refine WT.region ?_
  refine lq (q_move rfl) rfl ?_
  refine lq (q_move rfl) rfl ?_
  refine lq (q_lenR Sl_33 rfl rfl ph0) rfl ?_
  refine lq (q_lss rfl rfl) rfl ?_
  refine WL.nil ?_
  refine WT.cond rfl (fun c2 => ?_) (fun c2 => ?_)
  · replace h := ite_t h c2
    refine WT.skip ?_
    refine WT.seq ?_
    refine WT.block ?_
    refine WT.seq ?_
    refine WT.region ?_
    refine lq (q_move rfl) rfl ?_
    refine lq (q_move rfl) rfl ?_
    obtain ⟨x1, hx1, h⟩ := bind_some h
    obtain ⟨cs1, F1, -, g1, hb1, hs1, r1⟩ := ph0.el (idx_some hx1).2.2
    obtain ⟨v1, G1, rfl, hq1, h1⟩ := r1
    obtain rfl := hq1.symm
    refine lq (q_indexAddr Sl_33 rfl rfl ph0 hx1) rfl ?_
    refine lq (q_loadN Tn_153 rfl (fun w1 hw => (g1.of_eq 0 3 rfl rfl : rg _ _ _ [.string x1.Kind, v1, .bool x1.Not]).rangeAt hw.fro) rfl) rfl ?_
    refine lq (q_move rfl) rfl ?_
    obtain ⟨x2, hx2, h⟩ := bind_some h
    refine lp (p_call Fun_99 rfl (fun w1 hw => m_l_szPat_ok hw.fro N x1 s1 h1 hx2)) rfl ?_
    refine lq (q_assign rfl) rfl ?_
    refine WL.nil ?_
    refine WT.seq ?_
    refine WT.region ?_
    refine lq (q_move rfl) rfl ?_
    refine lq (q_lss rfl rfl) rfl ?_
    refine WL.nil ?_
    refine WT.cond rfl (fun c3 => ?_) (fun c3 => ?_)
    · replace h := ite_t h c3
      refine WT.seq ?_
      refine WT.region ?_
      refine lq (q_assign rfl) rfl ?_
      refine WL.nil ?_
      refine WT.ret Try.func48 (resOk.one rfl) (fun w1 hw => ?_)
      subst hb0
      cases h
      exact post_of_St hw
    replace h := ite_f h c3
    refine WT.skip ?_
    refine WT.inBlock ?_
    refine WT.region ?_
    refine lq (q_move rfl) rfl ?_
    refine lq (q_add rfl rfl) rfl ?_
    refine lq (q_assign rfl) rfl ?_
    refine WL.nil ?_
    refine WT.inLoop (WT.mono (l' := [(0, pv0), (1, .int .i64 x2), (5, .int .i64 (IntKind.i64.wrap (s2 + 1)))]) (S' := St w0 Φ [] []) ⟨rfl, rfl, rfl, trivial⟩ (fun w1 hw => (hw.sel (js := []) rfl).selO (js := []) rfl) ?_)
    exact ih1 (x2, IntKind.i64.wrap (s2 + 1)) h
  replace h := ite_f h c2
  refine WT.exit rfl ?_
  refine WT.seq ?_
  refine WT.region ?_
  refine lq (q_move rfl) rfl ?_
  refine lq (q_assign rfl) rfl ?_
  refine WL.nil ?_
  refine WT.ret Try.func48 (resOk.one rfl) (fun w1 hw => ?_)
  subst hb0
  cases h
  exact post_of_St hw
theorem m_l_szCond_ok {Φ : Hp} {w : World} (hΦ : In Φ w) (N : Nat) (p0 : TCond) (p1 : Int)   {r : Int} (h : m_l_szCond N p0 p1 = some r) :
    Calls Try.prog 100 [.agg [.int .i64 p0.Op, .int .i64 p0.L.K, .string p0.L.S, .int .i64 p0.L.V.K, .int .i64 p0.L.V.N, .string p0.L.V.S, .int .i64 p0.R.K, .string p0.R.S, .int .i64 p0.R.V.K, .int .i64 p0.R.V.N, .string p0.R.V.S].toArray, .int .i64 p1].toArray w (Post (.int .i64 r) w) := by
  refine enter Try.func100 rfl Try.ntmps100 rfl (St.start0 hΦ) ?_
  unfold m_l_szCond at h
  refine WT.seq ?_
  refine WT.region ?_
  refine ln (n_box (C := #[.int .i64 p0.Op, .int .i64 p0.L.K, .string p0.L.S, .int .i64 p0.L.V.K, .int .i64 p0.L.V.N, .string p0.L.V.S, .int .i64 p0.R.K, .string p0.R.S, .int .i64 p0.R.V.K, .int .i64 p0.R.V.N, .string p0.R.V.S]) rfl rfl) rfl (fun b_1 => ?_)
  refine lq (q_assign rfl) rfl ?_
  refine WL.nil ?_
  refine WT.seq ?_
  refine WT.region ?_
  refine lq (q_fieldAddr Fld_159_1 rfl) rfl ?_
  refine lq (q_loadN Tn_157 rfl (fun w1 hw => hw.rgO (i := 0) rfl 1 5 [.int .i64 p0.L.K, .string p0.L.S, .int .i64 p0.L.V.K, .int .i64 p0.L.V.N, .string p0.L.V.S] rfl) rfl) rfl ?_
  refine lq (q_move rfl) rfl ?_
  obtain ⟨x1, hx1, h⟩ := bind_some h
  refine lp (p_call Fun_144 rfl (fun w1 hw => m_l_szArg_ok hw.fro N p0.L p1 hx1)) rfl ?_
  refine lq (q_assign rfl) rfl ?_
  refine WL.nil ?_
  refine WT.seq ?_
  refine WT.seq ?_
  refine WT.region ?_
  refine lq (q_move rfl) rfl ?_
  refine lq (q_lss rfl rfl) rfl ?_
  refine WL.nil ?_
  refine WT.cond rfl (fun c1 => ?_) (fun c1 => ?_)
  · replace h := ite_t h c1
    refine WT.seq ?_
    refine WT.region ?_
    refine lq (q_assign rfl) rfl ?_
    refine WL.nil ?_
    refine WT.ret Try.func100 (resOk.one rfl) (fun w1 hw => ?_)
    cases h
    exact post_of_St hw
  replace h := ite_f h c1
  refine WT.skip ?_
  refine WT.seq ?_
  refine WT.region ?_
  refine lq (q_fieldAddr Fld_159_2 rfl) rfl ?_
  refine lq (q_loadN Tn_157 rfl (fun w1 hw => hw.rgO (i := 0) rfl 6 5 [.int .i64 p0.R.K, .string p0.R.S, .int .i64 p0.R.V.K, .int .i64 p0.R.V.N, .string p0.R.V.S] rfl) rfl) rfl ?_
  refine lq (q_move rfl) rfl ?_
  obtain ⟨x2, hx2, h⟩ := bind_some h
  refine lp (p_call Fun_144 rfl (fun w1 hw => m_l_szArg_ok hw.fro N p0.R x1 hx2)) rfl ?_
  refine lq (q_assign rfl) rfl ?_
  refine WL.nil ?_
  refine WT.seq ?_
  refine WT.seq ?_
  refine WT.region ?_
  refine lq (q_move rfl) rfl ?_
  refine lq (q_lss rfl rfl) rfl ?_
  refine WL.nil ?_
  refine WT.cond rfl (fun c2 => ?_) (fun c2 => ?_)
  · replace h := ite_t h c2
    refine WT.seq ?_
    refine WT.region ?_
    refine lq (q_assign rfl) rfl ?_
    refine WL.nil ?_
    refine WT.ret Try.func100 (resOk.one rfl) (fun w1 hw => ?_)
    cases h
    exact post_of_St hw
  replace h := ite_f h c2
  refine WT.skip ?_
  refine WT.seq ?_
  refine WT.region ?_
  refine lq (q_move rfl) rfl ?_
  refine lq (q_assign rfl) rfl ?_
  refine WL.nil ?_
  refine WT.ret Try.func100 (resOk.one rfl) (fun w1 hw => ?_)
  cases h
  exact post_of_St hw
theorem m_l_szCondS_ok {Φ : Hp} {w : World} (hΦ : In Φ w) (N : Nat) (p0 : (List TCond)) (p1 : Int) {pv0 : Value} {pG0 : List Nat} (ph0 : RSl RTCond 11 Φ pG0 pv0 p0) {r : Int} (h : m_l_szCondS N p0 p1 = some r) :
    Calls Try.prog 49 [pv0, .int .i64 p1].toArray w (Post (.int .i64 r) w) := by
  refine enter Try.func49 rfl Try.ntmps49 rfl (St.start0 hΦ) ?_
  generalize hb0 : (⟨w, [], Φ⟩ : Base) = w0
  unfold m_l_szCondS at h
  refine WT.seq ?_
  refine WT.region ?_
  refine lq (q_assign rfl) rfl ?_
  refine WL.nil ?_
  refine WT.seq ?_
  refine WT.region ?_
  refine lq (q_move rfl) rfl ?_
  refine lq (q_move rfl) rfl ?_
  refine lq (q_lenR Sl_34 rfl rfl ph0) rfl ?_
  refine lq (q_sub rfl rfl) rfl ?_
  refine lq (q_assign rfl) rfl ?_
  refine WL.nil ?_
  refine WT.seq ?_
  refine WT.seq ?_
  refine WT.region ?_
  refine lq (q_move rfl) rfl ?_
  refine lq (q_lss rfl rfl) rfl ?_
  refine WL.nil ?_
  refine WT.cond rfl (fun c1 => ?_) (fun c1 => ?_)
  · replace h := ite_t h c1
    refine WT.seq ?_
    refine WT.region ?_
    refine lq (q_assign rfl) rfl ?_
    refine WL.nil ?_
    refine WT.ret Try.func49 (resOk.one rfl) (fun w1 hw => ?_)
    subst hb0
    cases h
    exact post_of_St hw
  replace h := ite_f h c1
  refine WT.skip ?_
  refine WT.seq ?_
  refine WT.seq ?_
  refine WT.region ?_
  refine lq (q_assign rfl) rfl ?_
  refine WL.nil ?_
  refine WT.block ?_
  refine WT.loop ?_
  refine WT.mono (l' := [(0, pv0), (1, .int .i64 (IntKind.i64.wrap (p1 - (p0.length : Int)))), (5, .int .i64 0)]) (S' := St w0 Φ [] []) ⟨rfl, rfl, rfl, trivial⟩ (fun w1 hw => (hw.sel (js := []) rfl).selO (js := []) rfl) ?_
  refine loop_ind (σ := Int × Int) (fun s => [(0, pv0), (1, .int .i64 s.1), (5, .int .i64 s.2)]) (fun s => St w0 Φ [] []) (fun m s => m_l_szCondS_l1 N p0 m s.1 s.2 = some r) (fun s hm => none_ne (show (none : Option (Int)) = some r from hm)) (fun n1 ih1 s hm => ?_) N (IntKind.i64.wrap (p1 - (p0.length : Int)), 0) h
  obtain ⟨s1, s2⟩ := s
  have h : m_l_szCondS_l1 N p0 (n1 + 1) s1 s2 = some r := hm
  show WT _ _ [(0, pv0), (1, .int .i64 s1), (5, .int .i64 s2)] (St w0 Φ [] [])
  unfold m_l_szCondS_l1 at h
  refine WT.seq ?_
  refine WT.seq ?_
  refine WT.region ?_
  refine lq (q_move rfl) rfl ?_
  refine lq (q_move rfl) rfl ?_
  refine lq (q_lenR Sl_34 rfl rfl ph0) rfl ?_
  refine lq (q_lss rfl rfl) rfl ?_
  refine WL.nil ?_
  refine WT.cond rfl (fun c2 => ?_) (fun c2 => ?_)
  · replace h := ite_t h c2
    refine WT.skip ?_
    refine WT.seq ?_
    refine WT.block ?_
    refine WT.seq ?_
    refine WT.region ?_
    refine lq (q_move rfl) rfl ?_
    refine lq (q_move rfl) rfl ?_
    obtain ⟨x1, hx1, h⟩ := bind_some h
    obtain ⟨cs1, F1, -, g1, hb1, hs1, r1⟩ := ph0.el (idx_some hx1).2.2
    obtain ⟨rfl, -⟩ := r1
    refine lq (q_indexAddr Sl_34 rfl rfl ph0 hx1) rfl ?_
    refine lq (q_loadN Tn_159 rfl (fun w1 hw => (g1.of_eq 0 11 rfl rfl : rg _ _ _ [.int .i64 x1.Op, .int .i64 x1.L.K, .string x1.L.S, .int .i64 x1.L.V.K, .int .i64 x1.L.V.N, .string x1.L.V.S, .int .i64 x1.R.K, .string x1.R.S, .int .i64 x1.R.V.K, .int .i64 x1.R.V.N, .string x1.R.V.S]).rangeAt hw.fro) rfl) rfl ?_
    refine lq (q_move rfl) rfl ?_
    obtain ⟨x2, hx2, h⟩ := bind_some h
    refine lp (p_call Fun_100 rfl (fun w1 hw => m_l_szCond_ok hw.fro N x1 s1 hx2)) rfl ?_
    refine lq (q_assign rfl) rfl ?_
    refine WL.nil ?_
    refine WT.seq ?_
    refine WT.region ?_
    refine lq (q_move rfl) rfl ?_
    refine lq (q_lss rfl rfl) rfl ?_
    refine WL.nil ?_
    refine WT.cond rfl (fun c3 => ?_) (fun c3 => ?_)
    · replace h := ite_t h c3
      refine WT.seq ?_
      refine WT.region ?_
      refine lq (q_assign rfl) rfl ?_
      refine WL.nil ?_
      refine WT.ret Try.func49 (resOk.one rfl) (fun w1 hw => ?_)
      subst hb0
      cases h
      exact post_of_St hw
    replace h := ite_f h c3
    refine WT.skip ?_
    refine WT.inBlock ?_
    refine WT.region ?_
    refine lq (q_move rfl) rfl ?_
    refine lq (q_add rfl rfl) rfl ?_
    refine lq (q_assign rfl) rfl ?_
    refine WL.nil ?_
    refine WT.inLoop (WT.mono (l' := [(0, pv0), (1, .int .i64 x2), (5, .int .i64 (IntKind.i64.wrap (s2 + 1)))]) (S' := St w0 Φ [] []) ⟨rfl, rfl, rfl, trivial⟩ (fun w1 hw => (hw.sel (js := []) rfl).selO (js := []) rfl) ?_)
    exact ih1 (x2, IntKind.i64.wrap (s2 + 1)) h
  replace h := ite_f h c2
  refine WT.exit rfl ?_
  refine WT.seq ?_
  refine WT.region ?_
  refine lq (q_move rfl) rfl ?_
  refine lq (q_assign rfl) rfl ?_
  refine WL.nil ?_
  refine WT.ret Try.func49 (resOk.one rfl) (fun w1 hw => ?_)
  subst hb0
  cases h
  exact post_of_St hw
theorem m_l_szExpr_ok {Φ : Hp} {w : World} (hΦ : In Φ w) (N : Nat) (p0 : TExpr) (p1 : Int)   {r : Int} (h : m_l_szExpr N p0 p1 = some r) :
    Calls Try.prog 170 [.agg [.string p0.Op, .int .i64 p0.L.K, .string p0.L.S, .int .i64 p0.L.V.K, .int .i64 p0.L.V.N, .string p0.L.V.S, .int .i64 p0.R.K, .string p0.R.S, .int .i64 p0.R.V.K, .int .i64 p0.R.V.N, .string p0.R.V.S].toArray, .int .i64 p1].toArray w (Post (.int .i64 r) w) := by
  refine enter Try.func170 rfl Try.ntmps170 rfl (St.start0 hΦ) ?_
  unfold m_l_szExpr at h
  refine WT.seq ?_
  refine WT.region ?_
  refine ln (n_box (C := #[.string p0.Op, .int .i64 p0.L.K, .string p0.L.S, .int .i64 p0.L.V.K, .int .i64 p0.L.V.N, .string p0.L.V.S, .int .i64 p0.R.K, .string p0.R.S, .int .i64 p0.R.V.K, .int .i64 p0.R.V.N, .string p0.R.V.S]) rfl rfl) rfl (fun b_1 => ?_)
  refine lq (q_assign rfl) rfl ?_
  refine WL.nil ?_
  refine WT.seq ?_
  refine WT.region ?_
  refine lq (q_move rfl) rfl ?_
  refine lq (q_fieldAddr Fld_225_0 rfl) rfl ?_
  refine lq (q_load1 T1_9 rfl (fun w1 hw => hw.rgO (i := 0) rfl 0 1 [.string p0.Op] rfl)) rfl ?_
  refine lq (q_lenS Str_9 rfl rfl) rfl ?_
  refine lq (q_sub rfl rfl) rfl ?_
  refine lq (q_assign rfl) rfl ?_
  refine WL.nil ?_
  refine WT.seq ?_
  refine WT.seq ?_
  refine WT.region ?_
  refine lq (q_move rfl) rfl ?_
  refine lq (q_lss rfl rfl) rfl ?_
  refine WL.nil ?_
  refine WT.cond rfl (fun c1 => ?_) (fun c1 => ?_)
  · replace h := ite_t h c1
    refine WT.seq ?_
    refine WT.region ?_
    refine lq (q_assign rfl) rfl ?_
    refine WL.nil ?_
    refine WT.ret Try.func170 (resOk.one rfl) (fun w1 hw => ?_)
    cases h
    exact post_of_St hw
  replace h := ite_f h c1
  refine WT.skip ?_
  refine WT.seq ?_
  refine WT.region ?_
  refine lq (q_fieldAddr Fld_225_1 rfl) rfl ?_
  refine lq (q_loadN Tn_157 rfl (fun w1 hw => hw.rgO (i := 0) rfl 1 5 [.int .i64 p0.L.K, .string p0.L.S, .int .i64 p0.L.V.K, .int .i64 p0.L.V.N, .string p0.L.V.S] rfl) rfl) rfl ?_
  refine lq (q_move rfl) rfl ?_
  obtain ⟨x1, hx1, h⟩ := bind_some h
  refine lp (p_call Fun_144 rfl (fun w1 hw => m_l_szArg_ok hw.fro N p0.L (IntKind.i64.wrap (p1 - (p0.Op.size : Int))) hx1)) rfl ?_
  refine lq (q_assign rfl) rfl ?_
  refine WL.nil ?_
  refine WT.seq ?_
  refine WT.seq ?_
  refine WT.region ?_
  refine lq (q_move rfl) rfl ?_
  refine lq (q_lss rfl rfl) rfl ?_
  refine WL.nil ?_
  refine WT.cond rfl (fun c2 => ?_) (fun c2 => ?_)
  · replace h := ite_t h c2
    refine WT.seq ?_
    refine WT.region ?_
    refine lq (q_assign rfl) rfl ?_
    refine WL.nil ?_
    refine WT.ret Try.func170 (resOk.one rfl) (fun w1 hw => ?_)
    cases h
    exact post_of_St hw
  replace h := ite_f h c2
  refine WT.skip ?_
  refine WT.seq ?_
  refine WT.region ?_
  refine lq (q_fieldAddr Fld_225_2 rfl) rfl ?_
  refine lq (q_loadN Tn_157 rfl (fun w1 hw => hw.rgO (i := 0) rfl 6 5 [.int .i64 p0.R.K, .string p0.R.S, .int .i64 p0.R.V.K, .int .i64 p0.R.V.N, .string p0.R.V.S] rfl) rfl) rfl ?_
  refine lq (q_move rfl) rfl ?_
  obtain ⟨x2, hx2, h⟩ := bind_some h
  refine lp (p_call Fun_144 rfl (fun w1 hw => m_l_szArg_ok hw.fro N p0.R x1 hx2)) rfl ?_
  refine lq (q_assign rfl) rfl ?_
  refine WL.nil ?_
  refine WT.seq ?_
  refine WT.seq ?_
  refine WT.region ?_
  refine lq (q_move rfl) rfl ?_
  refine lq (q_lss rfl rfl) rfl ?_
  refine WL.nil ?_
  refine WT.cond rfl (fun c3 => ?_) (fun c3 => ?_)
  · replace h := ite_t h c3
    refine WT.seq ?_
    refine WT.region ?_
    refine lq (q_assign rfl) rfl ?_
    refine WL.nil ?_
    refine WT.ret Try.func170 (resOk.one rfl) (fun w1 hw => ?_)
    cases h
    exact post_of_St hw
  replace h := ite_f h c3
  refine WT.skip ?_
  refine WT.seq ?_
  refine WT.region ?_
  refine lq (q_move rfl) rfl ?_
  refine lq (q_assign rfl) rfl ?_
  refine WL.nil ?_
  refine WT.ret Try.func170 (resOk.one rfl) (fun w1 hw => ?_)
  cases h
  exact post_of_St hw
theorem m_l_szExprS_ok {Φ : Hp} {w : World} (hΦ : In Φ w) (N : Nat) (p0 : (List TExpr)) (p1 : Int) {pv0 : Value} {pG0 : List Nat} (ph0 : RSl RTExpr 11 Φ pG0 pv0 p0) {r : Int} (h : m_l_szExprS N p0 p1 = some r) :
    Calls Try.prog 145 [pv0, .int .i64 p1].toArray w (Post (.int .i64 r) w) := by
  refine enter Try.func145 rfl Try.ntmps145 rfl (St.start0 hΦ) ?_
  generalize hb0 : (⟨w, [], Φ⟩ : Base) = w0
  unfold m_l_szExprS at h
  refine WT.seq ?_
  refine WT.region ?_
  refine lq (q_assign rfl) rfl ?_
  refine WL.nil ?_
  refine WT.seq ?_
  refine WT.region ?_
  refine lq (q_move rfl) rfl ?_
  refine lq (q_move rfl) rfl ?_
  refine lq (q_lenR Sl_161 rfl rfl ph0) rfl ?_
  refine lq (q_sub rfl rfl) rfl ?_
  refine lq (q_assign rfl) rfl ?_
  refine WL.nil ?_
  refine WT.seq ?_
  refine WT.seq ?_
  refine WT.region ?_
  refine lq (q_move rfl) rfl ?_
  refine lq (q_lss rfl rfl) rfl ?_
  refine WL.nil ?_
  refine WT.cond rfl (fun c1 => ?_) (fun c1 => ?_)
  · replace h := ite_t h c1
    refine WT.seq ?_
    refine WT.region ?_
    refine lq (q_assign rfl) rfl ?_
    refine WL.nil ?_
    refine WT.ret Try.func145 (resOk.one rfl) (fun w1 hw => ?_)
    subst hb0
    cases h
    exact post_of_St hw
  replace h := ite_f h c1
  refine WT.skip ?_
  refine WT.seq ?_
  refine WT.seq ?_
  refine WT.region ?_
  refine lq (q_assign rfl) rfl ?_
  refine WL.nil ?_
  refine WT.block ?_
  refine WT.loop ?_
  refine WT.mono (l' := [(0, pv0), (1, .int .i64 (IntKind.i64.wrap (p1 - (p0.length : Int)))), (5, .int .i64 0)]) (S' := St w0 Φ [] []) ⟨rfl, rfl, rfl, trivial⟩ (fun w1 hw => (hw.sel (js := []) rfl).selO (js := []) rfl) ?_
  refine loop_ind (σ := Int × Int) (fun s => [(0, pv0), (1, .int .i64 s.1), (5, .int .i64 s.2)]) (fun s => St w0 Φ [] []) (fun m s => m_l_szExprS_l1 N p0 m s.1 s.2 = some r) (fun s hm => none_ne (show (none : Option (Int)) = some r from hm)) (fun n1 ih1 s hm => ?_) N (IntKind.i64.wrap (p1 - (p0.length : Int)), 0) h
  obtain ⟨s1, s2⟩ := s
  have h : m_l_szExprS_l1 N p0 (n1 + 1) s1 s2 = some r := hm
  show WT _ _ [(0, pv0), (1, .int .i64 s1), (5, .int .i64 s2)] (St w0 Φ [] [])
  unfold m_l_szExprS_l1 at h
  refine WT.seq ?_
  refine WT.seq ?_
  refine WT.region ?_
  refine lq (q_move rfl) rfl ?_
  refine lq (q_move rfl) rfl ?_
  refine lq (q_lenR Sl_161 rfl rfl ph0) rfl ?_
  refine lq (q_lss rfl rfl) rfl ?_
  refine WL.nil ?_
  refine WT.cond rfl (fun c2 => ?_) (fun c2 => ?_)
  · replace h := ite_t h c2
    refine WT.skip ?_
    refine WT.seq ?_
    refine WT.block ?_
    refine WT.seq ?_
    refine WT.region ?_
    refine lq (q_move rfl) rfl ?_
    refine lq (q_move rfl) rfl ?_
    obtain ⟨x1, hx1, h⟩ := bind_some h
    obtain ⟨cs1, F1, -, g1, hb1, hs1, r1⟩ := ph0.el (idx_some hx1).2.2
    obtain ⟨rfl, -⟩ := r1
    refine lq (q_indexAddr Sl_161 rfl rfl ph0 hx1) rfl ?_
    refine lq (q_loadN Tn_225 rfl (fun w1 hw => (g1.of_eq 0 11 rfl rfl : rg _ _ _ [.string x1.Op, .int .i64 x1.L.K, .string x1.L.S, .int .i64 x1.L.V.K, .int .i64 x1.L.V.N, .string x1.L.V.S, .int .i64 x1.R.K, .string x1.R.S, .int .i64 x1.R.V.K, .int .i64 x1.R.V.N, .string x1.R.V.S]).rangeAt hw.fro) rfl) rfl ?_
    refine lq (q_move rfl) rfl ?_
    obtain ⟨x2, hx2, h⟩ := bind_some h
    refine lp (p_call Fun_170 rfl (fun w1 hw => m_l_szExpr_ok hw.fro N x1 s1 hx2)) rfl ?_
    refine lq (q_assign rfl) rfl ?_
    refine WL.nil ?_
    refine WT.seq ?_
    refine WT.region ?_
    refine lq (q_move rfl) rfl ?_
    refine lq (q_lss rfl rfl) rfl ?_
    refine WL.nil ?_
    refine WT.cond rfl (fun c3 => ?_) (fun c3 => ?_)
    · replace h := ite_t h c3
      refine WT.seq ?_
      refine WT.region ?_
      refine lq (q_assign rfl) rfl ?_
      refine WL.nil ?_
      refine WT.ret Try.func145 (resOk.one rfl) (fun w1 hw => ?_)
      subst hb0
      cases h
      exact post_of_St hw
    replace h := ite_f h c3
    refine WT.skip ?_
    refine WT.inBlock ?_
    refine WT.region ?_
    refine lq (q_move rfl) rfl ?_
    refine lq (q_add rfl rfl) rfl ?_
    refine lq (q_assign rfl) rfl ?_
    refine WL.nil ?_
    refine WT.inLoop (WT.mono (l' := [(0, pv0), (1, .int .i64 x2), (5, .int .i64 (IntKind.i64.wrap (s2 + 1)))]) (S' := St w0 Φ [] []) ⟨rfl, rfl, rfl, trivial⟩ (fun w1 hw => (hw.sel (js := []) rfl).selO (js := []) rfl) ?_)
    exact ih1 (x2, IntKind.i64.wrap (s2 + 1)) h
  replace h := ite_f h c2
  refine WT.exit rfl ?_
  refine WT.seq ?_
  refine WT.region ?_
  refine lq (q_move rfl) rfl ?_
  refine lq (q_assign rfl) rfl ?_
  refine WL.nil ?_
  refine WT.ret Try.func145 (resOk.one rfl) (fun w1 hw => ?_)
  subst hb0
  cases h
  exact post_of_St hw
theorem m_l_szAct_ok {Φ : Hp} {w : World} (hΦ : In Φ w) (N : Nat) (p0 : TAct) (p1 : Int) {pv0_0 : Value} {pG0_0 : List Nat} (ph0_0 : RSl RTExpr 11 Φ pG0_0 pv0_0 p0.Args) {r : Int} (h : m_l_szAct N p0 p1 = some r) :
    Calls Try.prog 101 [.agg [.int .i64 p0.Kind, .string p0.Name, pv0_0, .int .i64 p0.N, .string p0.Undo].toArray, .int .i64 p1].toArray w (Post (.int .i64 r) w) := by
  refine enter Try.func101 rfl Try.ntmps101 rfl (St.start0 hΦ) ?_
  unfold m_l_szAct at h
  refine WT.seq ?_
  refine WT.region ?_
  refine ln (n_box (C := #[.int .i64 p0.Kind, .string p0.Name, pv0_0, .int .i64 p0.N, .string p0.Undo]) rfl rfl) rfl (fun b_1 => ?_)
  refine lq (q_assign rfl) rfl ?_
  refine WL.nil ?_
  refine WT.seq ?_
  refine WT.region ?_
  refine lq (q_move rfl) rfl ?_
  refine lq (q_fieldAddr Fld_163_1 rfl) rfl ?_
  refine lq (q_load1 T1_9 rfl (fun w1 hw => hw.rgO (i := 0) rfl 1 1 [.string p0.Name] rfl)) rfl ?_
  refine lq (q_lenS Str_9 rfl rfl) rfl ?_
  refine lq (q_sub rfl rfl) rfl ?_
  refine lq (q_assign rfl) rfl ?_
  refine WL.nil ?_
  refine WT.seq ?_
  refine WT.seq ?_
  refine WT.region ?_
  refine lq (q_move rfl) rfl ?_
  refine lq (q_lss rfl rfl) rfl ?_
  refine WL.nil ?_
  refine WT.cond rfl (fun c1 => ?_) (fun c1 => ?_)
  · replace h := ite_t h c1
    refine WT.seq ?_
    refine WT.region ?_
    refine lq (q_assign rfl) rfl ?_
    refine WL.nil ?_
    refine WT.ret Try.func101 (resOk.one rfl) (fun w1 hw => ?_)
    cases h
    exact post_of_St hw
  replace h := ite_f h c1
  refine WT.skip ?_
  refine WT.seq ?_
  refine WT.region ?_
  refine lq (q_fieldAddr Fld_163_2 rfl) rfl ?_
  refine lq (q_load1 T1_161 rfl (fun w1 hw => hw.rgO (i := 0) rfl 2 1 [pv0_0] rfl)) rfl ?_
  refine lq (q_move rfl) rfl ?_
  obtain ⟨x1, hx1, h⟩ := bind_some h
  refine lp (p_call Fun_145 rfl (fun w1 hw => m_l_szExprS_ok hw.fro N p0.Args (IntKind.i64.wrap (p1 - (p0.Name.size : Int))) ph0_0 hx1)) rfl ?_
  refine lq (q_assign rfl) rfl ?_
  refine WL.nil ?_
  refine WT.seq ?_
  refine WT.seq ?_
  refine WT.region ?_
  refine lq (q_move rfl) rfl ?_
  refine lq (q_lss rfl rfl) rfl ?_
  refine WL.nil ?_
  refine WT.cond rfl (fun c2 => ?_) (fun c2 => ?_)
  · replace h := ite_t h c2
    refine WT.seq ?_
    refine WT.region ?_
    refine lq (q_assign rfl) rfl ?_
    refine WL.nil ?_
    refine WT.ret Try.func101 (resOk.one rfl) (fun w1 hw => ?_)
    cases h
    exact post_of_St hw
  replace h := ite_f h c2
  refine WT.skip ?_
  refine WT.seq ?_
  refine WT.region ?_
  refine lq (q_move rfl) rfl ?_
  refine lq (q_fieldAddr Fld_163_4 rfl) rfl ?_
  refine lq (q_load1 T1_9 rfl (fun w1 hw => hw.rgO (i := 0) rfl 4 1 [.string p0.Undo] rfl)) rfl ?_
  refine lq (q_lenS Str_9 rfl rfl) rfl ?_
  refine lq (q_sub rfl rfl) rfl ?_
  refine lq (q_assign rfl) rfl ?_
  refine WL.nil ?_
  refine WT.seq ?_
  refine WT.seq ?_
  refine WT.region ?_
  refine lq (q_move rfl) rfl ?_
  refine lq (q_lss rfl rfl) rfl ?_
  refine WL.nil ?_
  refine WT.cond rfl (fun c3 => ?_) (fun c3 => ?_)
  · replace h := ite_t h c3
    refine WT.seq ?_
    refine WT.region ?_
    refine lq (q_assign rfl) rfl ?_
    refine WL.nil ?_
    refine WT.ret Try.func101 (resOk.one rfl) (fun w1 hw => ?_)
    cases h
    exact post_of_St hw
  replace h := ite_f h c3
  refine WT.skip ?_
  refine WT.seq ?_
  refine WT.region ?_
  refine lq (q_move rfl) rfl ?_
  refine lq (q_assign rfl) rfl ?_
  refine WL.nil ?_
  refine WT.ret Try.func101 (resOk.one rfl) (fun w1 hw => ?_)
  cases h
  exact post_of_St hw
theorem m_l_szActS_ok {Φ : Hp} {w : World} (hΦ : In Φ w) (N : Nat) (p0 : (List TAct)) (p1 : Int) {pv0 : Value} {pG0 : List Nat} (ph0 : RSl RTAct 5 Φ pG0 pv0 p0) {r : Int} (h : m_l_szActS N p0 p1 = some r) :
    Calls Try.prog 50 [pv0, .int .i64 p1].toArray w (Post (.int .i64 r) w) := by
  refine enter Try.func50 rfl Try.ntmps50 rfl (St.start0 hΦ) ?_
  generalize hb0 : (⟨w, [], Φ⟩ : Base) = w0
  unfold m_l_szActS at h
  refine WT.seq ?_
  refine WT.region ?_
  refine lq (q_assign rfl) rfl ?_
  refine WL.nil ?_
  refine WT.seq ?_
  refine WT.region ?_
  refine lq (q_move rfl) rfl ?_
  refine lq (q_move rfl) rfl ?_
  refine lq (q_lenR Sl_35 rfl rfl ph0) rfl ?_
  refine lq (q_sub rfl rfl) rfl ?_
  refine lq (q_assign rfl) rfl ?_
  refine WL.nil ?_
  refine WT.seq ?_
  refine WT.seq ?_
  refine WT.region ?_
  refine lq (q_move rfl) rfl ?_
  refine lq (q_lss rfl rfl) rfl ?_
  refine WL.nil ?_
  refine WT.cond rfl (fun c1 => ?_) (fun c1 => ?_)
  · replace h := ite_t h c1
    refine WT.seq ?_
    refine WT.region ?_
    refine lq (q_assign rfl) rfl ?_
    refine WL.nil ?_
    refine WT.ret Try.func50 (resOk.one rfl) (fun w1 hw => ?_)
    subst hb0
    cases h
    exact post_of_St hw
  replace h := ite_f h c1
  refine WT.skip ?_
  refine WT.seq ?_
  refine WT.seq ?_
  refine WT.region ?_
  refine lq (q_assign rfl) rfl ?_
  refine WL.nil ?_
  refine WT.block ?_
  refine WT.loop ?_
  refine WT.mono (l' := [(0, pv0), (1, .int .i64 (IntKind.i64.wrap (p1 - (p0.length : Int)))), (5, .int .i64 0)]) (S' := St w0 Φ [] []) ⟨rfl, rfl, rfl, trivial⟩ (fun w1 hw => (hw.sel (js := []) rfl).selO (js := []) rfl) ?_
  refine loop_ind (σ := Int × Int) (fun s => [(0, pv0), (1, .int .i64 s.1), (5, .int .i64 s.2)]) (fun s => St w0 Φ [] []) (fun m s => m_l_szActS_l1 N p0 m s.1 s.2 = some r) (fun s hm => none_ne (show (none : Option (Int)) = some r from hm)) (fun n1 ih1 s hm => ?_) N (IntKind.i64.wrap (p1 - (p0.length : Int)), 0) h
  obtain ⟨s1, s2⟩ := s
  have h : m_l_szActS_l1 N p0 (n1 + 1) s1 s2 = some r := hm
  show WT _ _ [(0, pv0), (1, .int .i64 s1), (5, .int .i64 s2)] (St w0 Φ [] [])
  unfold m_l_szActS_l1 at h
  refine WT.seq ?_
  refine WT.seq ?_
  refine WT.region ?_
  refine lq (q_move rfl) rfl ?_
  refine lq (q_move rfl) rfl ?_
  refine lq (q_lenR Sl_35 rfl rfl ph0) rfl ?_
  refine lq (q_lss rfl rfl) rfl ?_
  refine WL.nil ?_
  refine WT.cond rfl (fun c2 => ?_) (fun c2 => ?_)
  · replace h := ite_t h c2
    refine WT.skip ?_
    refine WT.seq ?_
    refine WT.block ?_
    refine WT.seq ?_
    refine WT.region ?_
    refine lq (q_move rfl) rfl ?_
    refine lq (q_move rfl) rfl ?_
    obtain ⟨x1, hx1, h⟩ := bind_some h
    obtain ⟨cs1, F1, -, g1, hb1, hs1, r1⟩ := ph0.el (idx_some hx1).2.2
    obtain ⟨v1, G1, rfl, hq1, h1⟩ := r1
    obtain rfl := hq1.symm
    refine lq (q_indexAddr Sl_35 rfl rfl ph0 hx1) rfl ?_
    refine lq (q_loadN Tn_163 rfl (fun w1 hw => (g1.of_eq 0 5 rfl rfl : rg _ _ _ [.int .i64 x1.Kind, .string x1.Name, v1, .int .i64 x1.N, .string x1.Undo]).rangeAt hw.fro) rfl) rfl ?_
    refine lq (q_move rfl) rfl ?_
    obtain ⟨x2, hx2, h⟩ := bind_some h
    refine lp (p_call Fun_101 rfl (fun w1 hw => m_l_szAct_ok hw.fro N x1 s1 h1 hx2)) rfl ?_
    refine lq (q_assign rfl) rfl ?_
    refine WL.nil ?_
    refine WT.seq ?_
    refine WT.region ?_
    refine lq (q_move rfl) rfl ?_
    refine lq (q_lss rfl rfl) rfl ?_
    refine WL.nil ?_
    refine WT.cond rfl (fun c3 => ?_) (fun c3 => ?_)
    · replace h := ite_t h c3
      refine WT.seq ?_
      refine WT.region ?_
      refine lq (q_assign rfl) rfl ?_
      refine WL.nil ?_
      refine WT.ret Try.func50 (resOk.one rfl) (fun w1 hw => ?_)
      subst hb0
      cases h
      exact post_of_St hw
    replace h := ite_f h c3
    refine WT.skip ?_
    refine WT.inBlock ?_
    refine WT.region ?_
    refine lq (q_move rfl) rfl ?_
    refine lq (q_add rfl rfl) rfl ?_
    refine lq (q_assign rfl) rfl ?_
    refine WL.nil ?_
    refine WT.inLoop (WT.mono (l' := [(0, pv0), (1, .int .i64 x2), (5, .int .i64 (IntKind.i64.wrap (s2 + 1)))]) (S' := St w0 Φ [] []) ⟨rfl, rfl, rfl, trivial⟩ (fun w1 hw => (hw.sel (js := []) rfl).selO (js := []) rfl) ?_)
    exact ih1 (x2, IntKind.i64.wrap (s2 + 1)) h
  replace h := ite_f h c2
  refine WT.exit rfl ?_
  refine WT.seq ?_
  refine WT.region ?_
  refine lq (q_move rfl) rfl ?_
  refine lq (q_assign rfl) rfl ?_
  refine WL.nil ?_
  refine WT.ret Try.func50 (resOk.one rfl) (fun w1 hw => ?_)
  subst hb0
  cases h
  exact post_of_St hw
theorem m_l_szRule_ok {Φ : Hp} {w : World} (hΦ : In Φ w) (N : Nat) (p0 : TRule) (p1 : Int) {pv0_0 : Value} {pG0_0 : List Nat} {pv0_1 : Value} {pG0_1 : List Nat} {pv0_2 : Value} {pG0_2 : List Nat} (ph0_0 : RSl RTPat 3 Φ pG0_0 pv0_0 p0.Pats) (ph0_1 : RSl RTCond 11 Φ pG0_1 pv0_1 p0.Conds) (ph0_2 : RSl RTAct 5 Φ pG0_2 pv0_2 p0.Acts) {r : Int} (h : m_l_szRule N p0 p1 = some r) :
    Calls Try.prog 11 [.agg [.string p0.Name, .int .i64 p0.Sal, pv0_0, pv0_1, pv0_2].toArray, .int .i64 p1].toArray w (Post (.int .i64 r) w) := by
  refine enter Try.func11 rfl Try.ntmps11 rfl (St.start0 hΦ) ?_
  unfold m_l_szRule at h
  refine WT.seq ?_
  refine WT.region ?_
  refine ln (n_box (C := #[.string p0.Name, .int .i64 p0.Sal, pv0_0, pv0_1, pv0_2]) rfl rfl) rfl (fun b_1 => ?_)
  refine lq (q_assign rfl) rfl ?_
  refine WL.nil ?_
  refine WT.seq ?_
  refine WT.region ?_
  refine lq (q_move rfl) rfl ?_
  refine lq (q_fieldAddr Fld_37_0 rfl) rfl ?_
  refine lq (q_load1 T1_9 rfl (fun w1 hw => hw.rgO (i := 0) rfl 0 1 [.string p0.Name] rfl)) rfl ?_
  refine lq (q_lenS Str_9 rfl rfl) rfl ?_
  refine lq (q_sub rfl rfl) rfl ?_
  refine lq (q_assign rfl) rfl ?_
  refine WL.nil ?_
  refine WT.seq ?_
  refine WT.seq ?_
  refine WT.region ?_
  refine lq (q_move rfl) rfl ?_
  refine lq (q_lss rfl rfl) rfl ?_
  refine WL.nil ?_
  refine WT.cond rfl (fun c1 => ?_) (fun c1 => ?_)
  · replace h := ite_t h c1
    refine WT.seq ?_
    refine WT.region ?_
    refine lq (q_assign rfl) rfl ?_
    refine WL.nil ?_
    refine WT.ret Try.func11 (resOk.one rfl) (fun w1 hw => ?_)
    cases h
    exact post_of_St hw
  replace h := ite_f h c1
  refine WT.skip ?_
  refine WT.seq ?_
  refine WT.region ?_
  refine lq (q_fieldAddr Fld_37_2 rfl) rfl ?_
  refine lq (q_load1 T1_33 rfl (fun w1 hw => hw.rgO (i := 0) rfl 2 1 [pv0_0] rfl)) rfl ?_
  refine lq (q_move rfl) rfl ?_
  obtain ⟨x1, hx1, h⟩ := bind_some h
  refine lp (p_call Fun_48 rfl (fun w1 hw => m_l_szPatS_ok hw.fro N p0.Pats (IntKind.i64.wrap (p1 - (p0.Name.size : Int))) ph0_0 hx1)) rfl ?_
  refine lq (q_assign rfl) rfl ?_
  refine WL.nil ?_
  refine WT.seq ?_
  refine WT.seq ?_
  refine WT.region ?_
  refine lq (q_move rfl) rfl ?_
  refine lq (q_lss rfl rfl) rfl ?_
  refine WL.nil ?_
  refine WT.cond rfl (fun c2 => ?_) (fun c2 => ?_)
  · replace h := ite_t h c2
    refine WT.seq ?_
    refine WT.region ?_
    refine lq (q_assign rfl) rfl ?_
    refine WL.nil ?_
    refine WT.ret Try.func11 (resOk.one rfl) (fun w1 hw => ?_)
    cases h
    exact post_of_St hw
  replace h := ite_f h c2
  refine WT.skip ?_
  refine WT.seq ?_
  refine WT.region ?_
  refine lq (q_fieldAddr Fld_37_3 rfl) rfl ?_
  refine lq (q_load1 T1_34 rfl (fun w1 hw => hw.rgO (i := 0) rfl 3 1 [pv0_1] rfl)) rfl ?_
  refine lq (q_move rfl) rfl ?_
  obtain ⟨x2, hx2, h⟩ := bind_some h
  refine lp (p_call Fun_49 rfl (fun w1 hw => m_l_szCondS_ok hw.fro N p0.Conds x1 ph0_1 hx2)) rfl ?_
  refine lq (q_assign rfl) rfl ?_
  refine WL.nil ?_
  refine WT.seq ?_
  refine WT.seq ?_
  refine WT.region ?_
  refine lq (q_move rfl) rfl ?_
  refine lq (q_lss rfl rfl) rfl ?_
  refine WL.nil ?_
  refine WT.cond rfl (fun c3 => ?_) (fun c3 => ?_)
  · replace h := ite_t h c3
    refine WT.seq ?_
    refine WT.region ?_
    refine lq (q_assign rfl) rfl ?_
    refine WL.nil ?_
    refine WT.ret Try.func11 (resOk.one rfl) (fun w1 hw => ?_)
    cases h
    exact post_of_St hw
  replace h := ite_f h c3
  refine WT.skip ?_
  refine WT.seq ?_
  refine WT.region ?_
  refine lq (q_fieldAddr Fld_37_4 rfl) rfl ?_
  refine lq (q_load1 T1_35 rfl (fun w1 hw => hw.rgO (i := 0) rfl 4 1 [pv0_2] rfl)) rfl ?_
  refine lq (q_move rfl) rfl ?_
  obtain ⟨x3, hx3, h⟩ := bind_some h
  refine lp (p_call Fun_50 rfl (fun w1 hw => m_l_szActS_ok hw.fro N p0.Acts x2 ph0_2 hx3)) rfl ?_
  refine lq (q_assign rfl) rfl ?_
  refine WL.nil ?_
  refine WT.seq ?_
  refine WT.seq ?_
  refine WT.region ?_
  refine lq (q_move rfl) rfl ?_
  refine lq (q_lss rfl rfl) rfl ?_
  refine WL.nil ?_
  refine WT.cond rfl (fun c4 => ?_) (fun c4 => ?_)
  · replace h := ite_t h c4
    refine WT.seq ?_
    refine WT.region ?_
    refine lq (q_assign rfl) rfl ?_
    refine WL.nil ?_
    refine WT.ret Try.func11 (resOk.one rfl) (fun w1 hw => ?_)
    cases h
    exact post_of_St hw
  replace h := ite_f h c4
  refine WT.skip ?_
  refine WT.seq ?_
  refine WT.region ?_
  refine lq (q_move rfl) rfl ?_
  refine lq (q_assign rfl) rfl ?_
  refine WL.nil ?_
  refine WT.ret Try.func11 (resOk.one rfl) (fun w1 hw => ?_)
  cases h
  exact post_of_St hw
theorem m_l_szValS_ok {Φ : Hp} {w : World} (hΦ : In Φ w) (N : Nat) (p0 : (List TVal)) (p1 : Int) {pv0 : Value} {pG0 : List Nat} (ph0 : RSl RTVal 3 Φ pG0 pv0 p0) {r : Int} (h : m_l_szValS N p0 p1 = some r) :
    Calls Try.prog 171 [pv0, .int .i64 p1].toArray w (Post (.int .i64 r) w) := by
  refine enter Try.func171 rfl Try.ntmps171 rfl (St.start0 hΦ) ?_
  generalize hb0 : (⟨w, [], Φ⟩ : Base) = w0
  unfold m_l_szValS at h
  refine WT.seq ?_
  refine WT.region ?_
  refine lq (q_assign rfl) rfl ?_
  refine WL.nil ?_
  refine WT.seq ?_
  refine WT.region ?_
  refine lq (q_move rfl) rfl ?_
  refine lq (q_move rfl) rfl ?_
  refine lq (q_lenR Sl_165 rfl rfl ph0) rfl ?_
  refine lq (q_sub rfl rfl) rfl ?_
  refine lq (q_assign rfl) rfl ?_
  refine WL.nil ?_
  refine WT.seq ?_
  refine WT.seq ?_
  refine WT.region ?_
  refine lq (q_move rfl) rfl ?_
  refine lq (q_lss rfl rfl) rfl ?_
  refine WL.nil ?_
  refine WT.cond rfl (fun c1 => ?_) (fun c1 => ?_)
  · replace h := ite_t h c1
    refine WT.seq ?_
    refine WT.region ?_
    refine lq (q_assign rfl) rfl ?_
    refine WL.nil ?_
    refine WT.ret Try.func171 (resOk.one rfl) (fun w1 hw => ?_)
    subst hb0
    cases h
    exact post_of_St hw
  replace h := ite_f h c1
  refine WT.skip ?_
  refine WT.seq ?_
  refine WT.seq ?_
  refine WT.region ?_
  refine lq (q_assign rfl) rfl ?_
  refine WL.nil ?_
  refine WT.block ?_
  refine WT.loop ?_
  refine WT.mono (l' := [(0, pv0), (1, .int .i64 (IntKind.i64.wrap (p1 - (p0.length : Int)))), (5, .int .i64 0)]) (S' := St w0 Φ [] []) ⟨rfl, rfl, rfl, trivial⟩ (fun w1 hw => (hw.sel (js := []) rfl).selO (js := []) rfl) ?_
  refine loop_ind (σ := Int × Int) (fun s => [(0, pv0), (1, .int .i64 s.1), (5, .int .i64 s.2)]) (fun s => St w0 Φ [] []) (fun m s => m_l_szValS_l1 N p0 m s.1 s.2 = some r) (fun s hm => none_ne (show (none : Option (Int)) = some r from hm)) (fun n1 ih1 s hm => ?_) N (IntKind.i64.wrap (p1 - (p0.length : Int)), 0) h
  obtain ⟨s1, s2⟩ := s
  have h : m_l_szValS_l1 N p0 (n1 + 1) s1 s2 = some r := hm
  show WT _ _ [(0, pv0), (1, .int .i64 s1), (5, .int .i64 s2)] (St w0 Φ [] [])
  unfold m_l_szValS_l1 at h
  refine WT.seq ?_
  refine WT.seq ?_
  refine WT.region ?_
  refine lq (q_move rfl) rfl ?_
  refine lq (q_move rfl) rfl ?_
  refine lq (q_lenR Sl_165 rfl rfl ph0) rfl ?_
  refine lq (q_lss rfl rfl) rfl ?_
  refine WL.nil ?_
  refine WT.cond rfl (fun c2 => ?_) (fun c2 => ?_)
  · replace h := ite_t h c2
    refine WT.skip ?_
    refine WT.seq ?_
    refine WT.block ?_
    refine WT.seq ?_
    refine WT.region ?_
    refine lq (q_move rfl) rfl ?_
    refine lq (q_move rfl) rfl ?_
    obtain ⟨x1, hx1, h⟩ := bind_some h
    obtain ⟨cs1, F1, -, g1, hb1, hs1, r1⟩ := ph0.el (idx_some hx1).2.2
    obtain ⟨rfl, -⟩ := r1
    refine lq (q_indexAddr Sl_165 rfl rfl ph0 hx1) rfl ?_
    refine lq (q_loadN Tn_155 rfl (fun w1 hw => (g1.of_eq 0 3 rfl rfl : rg _ _ _ [.int .i64 x1.K, .int .i64 x1.N, .string x1.S]).rangeAt hw.fro) rfl) rfl ?_
    refine lq (q_move rfl) rfl ?_
    obtain ⟨x2, hx2, h⟩ := bind_some h
    refine lp (p_call Fun_169 rfl (fun w1 hw => m_l_szVal_ok hw.fro N x1 s1 hx2)) rfl ?_
    refine lq (q_assign rfl) rfl ?_
    refine WL.nil ?_
    refine WT.seq ?_
    refine WT.region ?_
    refine lq (q_move rfl) rfl ?_
    refine lq (q_lss rfl rfl) rfl ?_
    refine WL.nil ?_
    refine WT.cond rfl (fun c3 => ?_) (fun c3 => ?_)
    · replace h := ite_t h c3
      refine WT.seq ?_
      refine WT.region ?_
      refine lq (q_assign rfl) rfl ?_
      refine WL.nil ?_
      refine WT.ret Try.func171 (resOk.one rfl) (fun w1 hw => ?_)
      subst hb0
      cases h
      exact post_of_St hw
    replace h := ite_f h c3
    refine WT.skip ?_
    refine WT.inBlock ?_
    refine WT.region ?_
    refine lq (q_move rfl) rfl ?_
    refine lq (q_add rfl rfl) rfl ?_
    refine lq (q_assign rfl) rfl ?_
    refine WL.nil ?_
    refine WT.inLoop (WT.mono (l' := [(0, pv0), (1, .int .i64 x2), (5, .int .i64 (IntKind.i64.wrap (s2 + 1)))]) (S' := St w0 Φ [] []) ⟨rfl, rfl, rfl, trivial⟩ (fun w1 hw => (hw.sel (js := []) rfl).selO (js := []) rfl) ?_)
    exact ih1 (x2, IntKind.i64.wrap (s2 + 1)) h
  replace h := ite_f h c2
  refine WT.exit rfl ?_
  refine WT.seq ?_
  refine WT.region ?_
  refine lq (q_move rfl) rfl ?_
  refine lq (q_assign rfl) rfl ?_
  refine WL.nil ?_
  refine WT.ret Try.func171 (resOk.one rfl) (fun w1 hw => ?_)
  subst hb0
  cases h
  exact post_of_St hw
theorem m_l_szFact_ok {Φ : Hp} {w : World} (hΦ : In Φ w) (N : Nat) (p0 : TFact) (p1 : Int) {pv0_0 : Value} {pG0_0 : List Nat} (ph0_0 : RSl RTVal 3 Φ pG0_0 pv0_0 p0.Fields) {r : Int} (h : m_l_szFact N p0 p1 = some r) :
    Calls Try.prog 146 [.agg [.string p0.Kind, pv0_0].toArray, .int .i64 p1].toArray w (Post (.int .i64 r) w) := by
  refine enter Try.func146 rfl Try.ntmps146 rfl (St.start0 hΦ) ?_
  unfold m_l_szFact at h
  refine WT.seq ?_
  refine WT.region ?_
  refine ln (n_box (C := #[.string p0.Kind, pv0_0]) rfl rfl) rfl (fun b_1 => ?_)
  refine lq (q_assign rfl) rfl ?_
  refine WL.nil ?_
  refine WT.seq ?_
  refine WT.region ?_
  refine lq (q_move rfl) rfl ?_
  refine lq (q_fieldAddr Fld_167_0 rfl) rfl ?_
  refine lq (q_load1 T1_9 rfl (fun w1 hw => hw.rgO (i := 0) rfl 0 1 [.string p0.Kind] rfl)) rfl ?_
  refine lq (q_lenS Str_9 rfl rfl) rfl ?_
  refine lq (q_sub rfl rfl) rfl ?_
  refine lq (q_assign rfl) rfl ?_
  refine WL.nil ?_
  refine WT.seq ?_
  refine WT.seq ?_
  refine WT.region ?_
  refine lq (q_move rfl) rfl ?_
  refine lq (q_lss rfl rfl) rfl ?_
  refine WL.nil ?_
  refine WT.cond rfl (fun c1 => ?_) (fun c1 => ?_)
  · replace h := ite_t h c1
    refine WT.seq ?_
    refine WT.region ?_
    refine lq (q_assign rfl) rfl ?_
    refine WL.nil ?_
    refine WT.ret Try.func146 (resOk.one rfl) (fun w1 hw => ?_)
    cases h
    exact post_of_St hw
  replace h := ite_f h c1
  refine WT.skip ?_
  refine WT.seq ?_
  refine WT.region ?_
  refine lq (q_fieldAddr Fld_167_1 rfl) rfl ?_
  refine lq (q_load1 T1_165 rfl (fun w1 hw => hw.rgO (i := 0) rfl 1 1 [pv0_0] rfl)) rfl ?_
  refine lq (q_move rfl) rfl ?_
  obtain ⟨x1, hx1, h⟩ := bind_some h
  refine lp (p_call Fun_171 rfl (fun w1 hw => m_l_szValS_ok hw.fro N p0.Fields (IntKind.i64.wrap (p1 - (p0.Kind.size : Int))) ph0_0 hx1)) rfl ?_
  refine lq (q_assign rfl) rfl ?_
  refine WL.nil ?_
  refine WT.seq ?_
  refine WT.seq ?_
  refine WT.region ?_
  refine lq (q_move rfl) rfl ?_
  refine lq (q_lss rfl rfl) rfl ?_
  refine WL.nil ?_
  refine WT.cond rfl (fun c2 => ?_) (fun c2 => ?_)
  · replace h := ite_t h c2
    refine WT.seq ?_
    refine WT.region ?_
    refine lq (q_assign rfl) rfl ?_
    refine WL.nil ?_
    refine WT.ret Try.func146 (resOk.one rfl) (fun w1 hw => ?_)
    cases h
    exact post_of_St hw
  replace h := ite_f h c2
  refine WT.skip ?_
  refine WT.seq ?_
  refine WT.region ?_
  refine lq (q_move rfl) rfl ?_
  refine lq (q_assign rfl) rfl ?_
  refine WL.nil ?_
  refine WT.ret Try.func146 (resOk.one rfl) (fun w1 hw => ?_)
  cases h
  exact post_of_St hw
theorem m_l_szItem_ok {Φ : Hp} {w : World} (hΦ : In Φ w) (N : Nat) (p0 : TItem) (p1 : Int) {pv0_0 : Value} {pG0_0 : List Nat} (ph0_0 : RSl RTVal 3 Φ pG0_0 pv0_0 p0.F.Fields) {r : Int} (h : m_l_szItem N p0 p1 = some r) :
    Calls Try.prog 102 [.agg [.int .i64 p0.Id, .string p0.F.Kind, pv0_0].toArray, .int .i64 p1].toArray w (Post (.int .i64 r) w) := by
  refine enter Try.func102 rfl Try.ntmps102 rfl (St.start0 hΦ) ?_
  unfold m_l_szItem at h
  refine WT.seq ?_
  refine WT.region ?_
  refine ln (n_box (C := #[.int .i64 p0.Id, .string p0.F.Kind, pv0_0]) rfl rfl) rfl (fun b_1 => ?_)
  refine lq (q_assign rfl) rfl ?_
  refine WL.nil ?_
  refine WT.seq ?_
  refine WT.region ?_
  refine lq (q_fieldAddr Fld_169_1 rfl) rfl ?_
  refine lq (q_loadN Tn_167 rfl (fun w1 hw => hw.rgO (i := 0) rfl 1 2 [.string p0.F.Kind, pv0_0] rfl) rfl) rfl ?_
  refine lq (q_move rfl) rfl ?_
  obtain ⟨x1, hx1, h⟩ := bind_some h
  refine lp (p_call Fun_146 rfl (fun w1 hw => m_l_szFact_ok hw.fro N p0.F p1 ph0_0 hx1)) rfl ?_
  refine lq (q_assign rfl) rfl ?_
  refine WL.nil ?_
  refine WT.seq ?_
  refine WT.seq ?_
  refine WT.region ?_
  refine lq (q_move rfl) rfl ?_
  refine lq (q_lss rfl rfl) rfl ?_
  refine WL.nil ?_
  refine WT.cond rfl (fun c1 => ?_) (fun c1 => ?_)
  · replace h := ite_t h c1
    refine WT.seq ?_
    refine WT.region ?_
    refine lq (q_assign rfl) rfl ?_
    refine WL.nil ?_
    refine WT.ret Try.func102 (resOk.one rfl) (fun w1 hw => ?_)
    cases h
    exact post_of_St hw
  replace h := ite_f h c1
  refine WT.skip ?_
  refine WT.seq ?_
  refine WT.region ?_
  refine lq (q_move rfl) rfl ?_
  refine lq (q_assign rfl) rfl ?_
  refine WL.nil ?_
  refine WT.ret Try.func102 (resOk.one rfl) (fun w1 hw => ?_)
  cases h
  exact post_of_St hw
theorem m_l_szItemS_ok {Φ : Hp} {w : World} (hΦ : In Φ w) (N : Nat) (p0 : (List TItem)) (p1 : Int) {pv0 : Value} {pG0 : List Nat} (ph0 : RSl RTItem 3 Φ pG0 pv0 p0) {r : Int} (h : m_l_szItemS N p0 p1 = some r) :
    Calls Try.prog 51 [pv0, .int .i64 p1].toArray w (Post (.int .i64 r) w) := by
  refine enter Try.func51 rfl Try.ntmps51 rfl (St.start0 hΦ) ?_
  generalize hb0 : (⟨w, [], Φ⟩ : Base) = w0
  unfold m_l_szItemS at h
  refine WT.seq ?_
  refine WT.region ?_
  refine lq (q_assign rfl) rfl ?_
  refine WL.nil ?_
  refine WT.seq ?_
  refine WT.region ?_
  refine lq (q_move rfl) rfl ?_
  refine lq (q_move rfl) rfl ?_
  refine lq (q_lenR Sl_38 rfl rfl ph0) rfl ?_
  refine lq (q_sub rfl rfl) rfl ?_
  refine lq (q_assign rfl) rfl ?_
  refine WL.nil ?_
  refine WT.seq ?_
  refine WT.seq ?_
  refine WT.region ?_
  refine lq (q_move rfl) rfl ?_
  refine lq (q_lss rfl rfl) rfl ?_
  refine WL.nil ?_
  refine WT.cond rfl (fun c1 => ?_) (fun c1 => ?_)
  · replace h := ite_t h c1
    refine WT.seq ?_
    refine WT.region ?_
    refine lq (q_assign rfl) rfl ?_
    refine WL.nil ?_
    refine WT.ret Try.func51 (resOk.one rfl) (fun w1 hw => ?_)
    subst hb0
    cases h
    exact post_of_St hw
  replace h := ite_f h c1
  refine WT.skip ?_
  refine WT.seq ?_
  refine WT.seq ?_
  refine WT.region ?_
  refine lq (q_assign rfl) rfl ?_
  refine WL.nil ?_
  refine WT.block ?_
  refine WT.loop ?_
  refine WT.mono (l' := [(0, pv0), (1, .int .i64 (IntKind.i64.wrap (p1 - (p0.length : Int)))), (5, .int .i64 0)]) (S' := St w0 Φ [] []) ⟨rfl, rfl, rfl, trivial⟩ (fun w1 hw => (hw.sel (js := []) rfl).selO (js := []) rfl) ?_
  refine loop_ind (σ := Int × Int) (fun s => [(0, pv0), (1, .int .i64 s.1), (5, .int .i64 s.2)]) (fun s => St w0 Φ [] []) (fun m s => m_l_szItemS_l1 N p0 m s.1 s.2 = some r) (fun s hm => none_ne (show (none : Option (Int)) = some r from hm)) (fun n1 ih1 s hm => ?_) N (IntKind.i64.wrap (p1 - (p0.length : Int)), 0) h
  obtain ⟨s1, s2⟩ := s
  have h : m_l_szItemS_l1 N p0 (n1 + 1) s1 s2 = some r := hm
  show WT _ _ [(0, pv0), (1, .int .i64 s1), (5, .int .i64 s2)] (St w0 Φ [] [])
  unfold m_l_szItemS_l1 at h
  refine WT.seq ?_
  refine WT.seq ?_
  refine WT.region ?_
  refine lq (q_move rfl) rfl ?_
  refine lq (q_move rfl) rfl ?_
  refine lq (q_lenR Sl_38 rfl rfl ph0) rfl ?_
  refine lq (q_lss rfl rfl) rfl ?_
  refine WL.nil ?_
  refine WT.cond rfl (fun c2 => ?_) (fun c2 => ?_)
  · replace h := ite_t h c2
    refine WT.skip ?_
    refine WT.seq ?_
    refine WT.block ?_
    refine WT.seq ?_
    refine WT.region ?_
    refine lq (q_move rfl) rfl ?_
    refine lq (q_move rfl) rfl ?_
    obtain ⟨x1, hx1, h⟩ := bind_some h
    obtain ⟨cs1, F1, -, g1, hb1, hs1, r1⟩ := ph0.el (idx_some hx1).2.2
    obtain ⟨v1, G1, rfl, hq1, h1⟩ := r1
    obtain rfl := hq1.symm
    refine lq (q_indexAddr Sl_38 rfl rfl ph0 hx1) rfl ?_
    refine lq (q_loadN Tn_169 rfl (fun w1 hw => (g1.of_eq 0 3 rfl rfl : rg _ _ _ [.int .i64 x1.Id, .string x1.F.Kind, v1]).rangeAt hw.fro) rfl) rfl ?_
    refine lq (q_move rfl) rfl ?_
    obtain ⟨x2, hx2, h⟩ := bind_some h
    refine lp (p_call Fun_102 rfl (fun w1 hw => m_l_szItem_ok hw.fro N x1 s1 h1 hx2)) rfl ?_
    refine lq (q_assign rfl) rfl ?_
    refine WL.nil ?_
    refine WT.seq ?_
    refine WT.region ?_
    refine lq (q_move rfl) rfl ?_
    refine lq (q_lss rfl rfl) rfl ?_
    refine WL.nil ?_
    refine WT.cond rfl (fun c3 => ?_) (fun c3 => ?_)
    · replace h := ite_t h c3
      refine WT.seq ?_
      refine WT.region ?_
      refine lq (q_assign rfl) rfl ?_
      refine WL.nil ?_
      refine WT.ret Try.func51 (resOk.one rfl) (fun w1 hw => ?_)
      subst hb0
      cases h
      exact post_of_St hw
    replace h := ite_f h c3
    refine WT.skip ?_
    refine WT.inBlock ?_
    refine WT.region ?_
    refine lq (q_move rfl) rfl ?_
    refine lq (q_add rfl rfl) rfl ?_
    refine lq (q_assign rfl) rfl ?_
    refine WL.nil ?_
    refine WT.inLoop (WT.mono (l' := [(0, pv0), (1, .int .i64 x2), (5, .int .i64 (IntKind.i64.wrap (s2 + 1)))]) (S' := St w0 Φ [] []) ⟨rfl, rfl, rfl, trivial⟩ (fun w1 hw => (hw.sel (js := []) rfl).selO (js := []) rfl) ?_)
    exact ih1 (x2, IntKind.i64.wrap (s2 + 1)) h
  replace h := ite_f h c2
  refine WT.exit rfl ?_
  refine WT.seq ?_
  refine WT.region ?_
  refine lq (q_move rfl) rfl ?_
  refine lq (q_assign rfl) rfl ?_
  refine WL.nil ?_
  refine WT.ret Try.func51 (resOk.one rfl) (fun w1 hw => ?_)
  subst hb0
  cases h
  exact post_of_St hw
theorem m_l_szStore_ok {Φ : Hp} {w : World} (hΦ : In Φ w) (N : Nat) (p0 : TStore) (p1 : Int) {pv0_0 : Value} {pG0_0 : List Nat} (ph0_0 : RSl RTItem 3 Φ pG0_0 pv0_0 p0.Items) {r : Int} (h : m_l_szStore N p0 p1 = some r) :
    Calls Try.prog 12 [.agg [pv0_0, .int .i64 p0.Next].toArray, .int .i64 p1].toArray w (Post (.int .i64 r) w) := by
  refine enter Try.func12 rfl Try.ntmps12 rfl (St.start0 hΦ) ?_
  unfold m_l_szStore at h
  refine WT.seq ?_
  refine WT.region ?_
  refine ln (n_box (C := #[pv0_0, .int .i64 p0.Next]) rfl rfl) rfl (fun b_1 => ?_)
  refine lq (q_assign rfl) rfl ?_
  refine WL.nil ?_
  refine WT.seq ?_
  refine WT.region ?_
  refine lq (q_fieldAddr Fld_40_0 rfl) rfl ?_
  refine lq (q_load1 T1_38 rfl (fun w1 hw => hw.rgO (i := 0) rfl 0 1 [pv0_0] rfl)) rfl ?_
  refine lq (q_move rfl) rfl ?_
  obtain ⟨x1, hx1, h⟩ := bind_some h
  refine lp (p_call Fun_51 rfl (fun w1 hw => m_l_szItemS_ok hw.fro N p0.Items p1 ph0_0 hx1)) rfl ?_
  refine lq (q_assign rfl) rfl ?_
  refine WL.nil ?_
  refine WT.seq ?_
  refine WT.seq ?_
  refine WT.region ?_
  refine lq (q_move rfl) rfl ?_
  refine lq (q_lss rfl rfl) rfl ?_
  refine WL.nil ?_
  refine WT.cond rfl (fun c1 => ?_) (fun c1 => ?_)
  · replace h := ite_t h c1
    refine WT.seq ?_
    refine WT.region ?_
    refine lq (q_assign rfl) rfl ?_
    refine WL.nil ?_
    refine WT.ret Try.func12 (resOk.one rfl) (fun w1 hw => ?_)
    cases h
    exact post_of_St hw
  replace h := ite_f h c1
  refine WT.skip ?_
  refine WT.seq ?_
  refine WT.region ?_
  refine lq (q_move rfl) rfl ?_
  refine lq (q_assign rfl) rfl ?_
  refine WL.nil ?_
  refine WT.ret Try.func12 (resOk.one rfl) (fun w1 hw => ?_)
  cases h
  exact post_of_St hw
theorem m_s_l3Copy_ok {Φ : Hp} {w : World} (hΦ : In Φ w) (N : Nat) (p0 : TFact) {pv0_0 : Value} {pG0_0 : List Nat} (ph0_0 : RSl RTVal 3 Φ pG0_0 pv0_0 p0.Fields) {r : TFact} (h : m_s_l3Copy N p0 = some r) :
    Calls Try.prog 103 [.agg [.string p0.Kind, pv0_0].toArray].toArray w (PostG Φ w [] (fun Φ' Fs v => ∃ (sr_0_0 : Value), v = .agg [.string r.Kind, sr_0_0].toArray ∧ Fs = [ob sr_0_0] ∧ OSl RTVal 109 3 Φ' [] sr_0_0 r.Fields)) := by
  refine enter Try.func103 rfl Try.ntmps103 rfl (St.start0 hΦ) ?_
  have pa0_0 : Old ⟨w, [], Φ⟩ pG0_0 := Old.mk hΦ ph0_0.kn (Dj.empty _)
  unfold m_s_l3Copy at h
  refine WT.seq ?_
  refine WT.region ?_
  refine ln (n_box (C := #[.string p0.Kind, pv0_0]) rfl rfl) rfl (fun b_1 => ?_)
  refine ln (n_alloc (C := #[.string (⟨#[]⟩ : ByteArray), .slice none 0 0]) Zr_97 rfl) rfl (fun b_2 => ?_)
  refine WL.nil ?_
  refine WT.seq ?_
  refine WT.region ?_
  have rc1 : RC RTVal 3 Φ ([] : List (List Nat)) [] ([] : List TVal) := RC.nil _ _ _
  refine le' (e_lit (vs := []) (C := #[]) RTVal.lasts Sl_95 Zr_109 rfl rfl rfl rfl (fill_made MC_109_0 (fill_nil)) rfl rc1 rfl (by simpa using Kw.nil)) rfl (fun v1 Φ_1 D1 q1 => ?_)
  obtain ⟨fr1, h1⟩ := q1
  replace h1 : OSl RTVal 109 3 Φ_1 [] v1 ([] : List TVal) := by simpa using h1
  replace ph0_0 := ph0_0.frame RTVal.lasts fr1 (Dj.empty _)
  refine lq (q_fieldAddr Fld_97_1 rfl) rfl ?_
  refine lq (q_load1 T1_95 rfl (fun w1 hw => hw.rgO (i := 1) rfl 1 1 [pv0_0] rfl)) rfl ?_
  obtain ⟨x1, hx1, h⟩ := bind_some h
  refine le' (e_appF RTVal.lasts RTVal.one RTVal.flat Sl_95 Ei_109 rfl rfl rfl rfl rfl (js := [0]) (Rr := []) rfl h1 ph0_0 hx1) rfl (fun v2 Φ_2 D2 q2 => ?_)
  obtain ⟨⟨ap1, fr2⟩, h2⟩ := q2
  replace ph0_0 := ph0_0.frame RTVal.lasts fr2 (ap1.o pa0_0)
  refine lq (q_fieldAddr Fld_97_1 rfl) rfl ?_
  refine ls (s_store (i := 1) (vs := [v2]) (C' := [.string p0.Kind, v2]) (O' := [(b_2, .cells #[.string (⟨#[]⟩ : ByteArray), .slice none 0 0] 97 (0, 0)), (b_1, .cells #[.string p0.Kind, v2] 97 (0, 0))]) Sz_95 rfl rfl rfl (one_cells h2.one) rfl rfl ⟨h2.one, trivial⟩ rfl rfl) rfl ?_
  refine WL.nil ?_
  refine WT.seq ?_
  refine WT.region ?_
  refine lq (q_loadN Tn_97 rfl (fun w1 hw => hw.rgO (i := 1) rfl 0 2 [.string p0.Kind, v2] rfl) rfl) rfl ?_
  refine ls (s_store (i := 0) (vs := [.string p0.Kind, v2]) (C' := [.string p0.Kind, v2]) (O' := [(b_2, .cells #[.string p0.Kind, v2] 97 (0, 0)), (b_1, .cells #[.string p0.Kind, v2] 97 (0, 0))]) Sz_97 rfl rfl rfl rfl rfl rfl ⟨rfl, h2.one, trivial⟩ rfl rfl) rfl ?_
  refine WL.nil ?_
  refine WT.ret Try.func103 (resOk.one (rv_cell Tn_97 rfl (fun w1 hw => hw.rgO (i := 0) rfl 0 2 [.string p0.Kind, v2] rfl) rfl)) (fun w1 hw => ?_)
  cases h
  refine postG_of_St (js := [0]) hw rfl ⟨v2, rfl, rfl, h2⟩
theorem m_s_FactOf_ok {Φ : Hp} {w : World} (hΦ : In Φ w) (N : Nat) (p0 : TStore) (p1 : Int) {pv0_0 : Value} {pG0_0 : List Nat} (ph0_0 : RSl RTItem 3 Φ pG0_0 pv0_0 p0.Items) {r : TFact × Bool} (h : m_s_FactOf N p0 p1 = some r) :
    Calls Try.prog 52 [.agg [pv0_0, .int .i64 p0.Next].toArray, .int .i64 p1].toArray w (PostG Φ w [] (fun Φ' Fs v => ∃ (sr_0_0 : Value), v = .tuple #[.agg [.string r.1.Kind, sr_0_0].toArray, .bool r.2] ∧ Fs = [ob sr_0_0] ∧ OSl RTVal 109 3 Φ' [] sr_0_0 r.1.Fields)) := by
  refine enter Try.func52 rfl Try.ntmps52 rfl (St.start0 hΦ) ?_
  generalize hb0 : (⟨w, [], Φ⟩ : Base) = w0
  unfold m_s_FactOf at h
  refine WT.seq ?_
  refine WT.region ?_
  refine ln (n_box (C := #[pv0_0, .int .i64 p0.Next]) rfl rfl) rfl (fun b_1 => ?_)
  refine ln (n_alloc (C := #[.string (⟨#[]⟩ : ByteArray), .slice none 0 0]) Zr_97 rfl) rfl (fun b_2 => ?_)
  refine lq (q_assign rfl) rfl ?_
  refine WL.nil ?_
  refine WT.seq ?_
  refine WT.seq ?_
  refine WT.region ?_
  refine lq (q_assign rfl) rfl ?_
  refine WL.nil ?_
  refine WT.block ?_
  refine WT.loop ?_
  refine WT.mono (l' := [(1, .int .i64 p1), (2, .pointer (some ⟨b_1, 0, none⟩)), (4, .pointer (some ⟨b_2, 0, none⟩)), (6, .int .i64 0)]) (S' := St w0 Φ [(b_2, .cells #[.string (⟨#[]⟩ : ByteArray), .slice none 0 0] 97 (0, 0)), (b_1, .cells #[pv0_0, .int .i64 p0.Next] 55 (0, 0))] []) ⟨rfl, rfl, rfl, rfl, trivial⟩ (fun w1 hw => (hw.sel (js := []) rfl).selO (js := [0, 0]) rfl) ?_
  refine loop_ind (σ := Int) (fun s => [(1, .int .i64 p1), (2, .pointer (some ⟨b_1, 0, none⟩)), (4, .pointer (some ⟨b_2, 0, none⟩)), (6, .int .i64 s)]) (fun s => St w0 Φ [(b_2, .cells #[.string (⟨#[]⟩ : ByteArray), .slice none 0 0] 97 (0, 0)), (b_1, .cells #[pv0_0, .int .i64 p0.Next] 55 (0, 0))] []) (fun m s => m_s_FactOf_l1 N p0 p1 m s = some r) (fun s hm => none_ne (show (none : Option (TFact × Bool)) = some r from hm)) (fun n1 ih1 s hm => ?_) N (0) h
  revert hm; revert s; intro s1 hm
  have h : m_s_FactOf_l1 N p0 p1 (n1 + 1) s1 = some r := hm
  show WT _ _ [(1, .int .i64 p1), (2, .pointer (some ⟨b_1, 0, none⟩)), (4, .pointer (some ⟨b_2, 0, none⟩)), (6, .int .i64 s1)] (St w0 Φ [(b_2, .cells #[.string (⟨#[]⟩ : ByteArray), .slice none 0 0] 97 (0, 0)), (b_1, .cells #[pv0_0, .int .i64 p0.Next] 55 (0, 0))] [])
  unfold m_s_FactOf_l1 at h
  refine WT.seq ?_
  refine WT.seq ?_
  refine WT.region ?_
  refine lq (q_move rfl) rfl ?_
  refine lq (q_fieldAddr Fld_55_0 rfl) rfl ?_
  refine lq (q_load1 T1_53 rfl (fun w1 hw => hw.rgO (i := 1) rfl 0 1 [pv0_0] rfl)) rfl ?_
  refine lq (q_lenR Sl_53 rfl rfl ph0_0) rfl ?_
  refine lq (q_lss rfl rfl) rfl ?_
  refine WL.nil ?_
  refine WT.cond rfl (fun c1 => ?_) (fun c1 => ?_)
  · replace h := ite_t h c1
    refine WT.skip ?_
    refine WT.seq ?_
    refine WT.block ?_
    refine WT.seq ?_
    refine WT.region ?_
    refine lq (q_fieldAddr Fld_55_0 rfl) rfl ?_
    refine lq (q_load1 T1_53 rfl (fun w1 hw => hw.rgO (i := 1) rfl 0 1 [pv0_0] rfl)) rfl ?_
    refine lq (q_move rfl) rfl ?_
    obtain ⟨x1, hx1, h⟩ := bind_some h
    obtain ⟨cs1, F1, -, g1, hb1, hs1, r1⟩ := ph0_0.el (idx_some hx1).2.2
    obtain ⟨v1, G1, rfl, hq1, h1⟩ := r1
    obtain rfl := hq1.symm
    refine lq (q_indexAddr Sl_53 rfl rfl ph0_0 hx1) rfl ?_
    refine lq (q_fieldAddr Fld_171_0 rfl) rfl ?_
    refine lq (q_load1 T1_3 rfl (fun w1 hw => (g1.of_eq 0 1 rfl rfl : rg _ _ _ [.int .i64 x1.Id]).rangeAt hw.fro)) rfl ?_
    refine lq (q_move rfl) rfl ?_
    refine lq (q_eql rfl rfl) rfl ?_
    refine WL.nil ?_
    refine WT.cond rfl (fun c2 => ?_) (fun c2 => ?_)
    · replace h := ite_t h c2
      refine WT.seq ?_
      refine WT.region ?_
      refine lq (q_fieldAddr Fld_55_0 rfl) rfl ?_
      refine lq (q_load1 T1_53 rfl (fun w1 hw => hw.rgO (i := 1) rfl 0 1 [pv0_0] rfl)) rfl ?_
      refine lq (q_move rfl) rfl ?_
      obtain ⟨x2, hx2, h⟩ := bind_some h
      obtain ⟨cs2, F2, -, g2, hb2, hs2, r2⟩ := ph0_0.el (idx_some hx2).2.2
      obtain ⟨v2, G2, rfl, hq2, h2⟩ := r2
      obtain rfl := hq2.symm
      refine lq (q_indexAddr Sl_53 rfl rfl ph0_0 hx2) rfl ?_
      refine lq (q_fieldAddr Fld_171_1 rfl) rfl ?_
      refine lq (q_loadN Tn_97 rfl (fun w1 hw => (g2.of_eq 1 2 rfl rfl : rg _ _ _ [.string x2.F.Kind, v2]).rangeAt hw.fro) rfl) rfl ?_
      obtain ⟨x3, hx3, h⟩ := bind_some h
      refine lc (k_call (js := []) (R := []) Fun_103 rfl rfl (fun w1 hw ap hl => m_s_l3Copy_ok hw.fro N x2.F h2  hx3)) rfl (fun v3 Φ_1 F3 q1 => ?_)
      obtain ⟨ap1, fr1, v4, rfl, rfl, h3⟩ := q1
      refine ls (s_store (i := 0) (vs := [.string x3.Kind, v4]) (C' := [.string x3.Kind, v4]) (O' := [(b_2, .cells #[.string x3.Kind, v4] 97 (0, 0)), (b_1, .cells #[pv0_0, .int .i64 p0.Next] 55 (0, 0))]) Sz_97 rfl rfl rfl rfl rfl rfl ⟨rfl, h3.one, trivial⟩ rfl rfl) rfl ?_
      refine lq (q_assign rfl) rfl ?_
      refine WL.nil ?_
      refine WT.ret Try.func52 (resOk.two (rv_cell Tn_97 rfl (fun w1 hw => hw.rgO (i := 0) rfl 0 2 [.string x3.Kind, v4] rfl) rfl) rfl) (fun w1 hw => ?_)
      subst hb0
      cases h
      refine postG_of_St (js := [0]) hw rfl ⟨v4, rfl, rfl, h3⟩
    replace h := ite_f h c2
    refine WT.skip ?_
    refine WT.inBlock ?_
    refine WT.region ?_
    refine lq (q_move rfl) rfl ?_
    refine lq (q_add rfl rfl) rfl ?_
    refine lq (q_assign rfl) rfl ?_
    refine WL.nil ?_
    refine WT.inLoop (WT.mono (l' := [(1, .int .i64 p1), (2, .pointer (some ⟨b_1, 0, none⟩)), (4, .pointer (some ⟨b_2, 0, none⟩)), (6, .int .i64 (IntKind.i64.wrap (s1 + 1)))]) (S' := St w0 Φ [(b_2, .cells #[.string (⟨#[]⟩ : ByteArray), .slice none 0 0] 97 (0, 0)), (b_1, .cells #[pv0_0, .int .i64 p0.Next] 55 (0, 0))] []) ⟨rfl, rfl, rfl, rfl, trivial⟩ (fun w1 hw => (hw.sel (js := []) rfl).selO (js := [0, 0]) rfl) ?_)
    exact ih1 (IntKind.i64.wrap (s1 + 1)) h
  replace h := ite_f h c1
  refine WT.exit rfl ?_
  refine WT.seq ?_
  refine WT.region ?_
  refine lq (q_build (vs := []) (C := #[.string (⟨#[]⟩ : ByteArray), .slice none 0 0]) Pl_97 Zr_97 rfl (fill_nil)) rfl ?_
  refine ls (s_store (i := 0) (vs := [.string (⟨#[]⟩ : ByteArray), .slice none 0 0]) (C' := [.string (⟨#[]⟩ : ByteArray), .slice none 0 0]) (O' := [(b_2, .cells #[.string (⟨#[]⟩ : ByteArray), .slice none 0 0] 97 (0, 0)), (b_1, .cells #[pv0_0, .int .i64 p0.Next] 55 (0, 0))]) Sz_97 rfl rfl rfl rfl rfl rfl ⟨rfl, rfl, trivial⟩ rfl rfl) rfl ?_
  refine lq (q_assign rfl) rfl ?_
  refine WL.nil ?_
  refine WT.ret Try.func52 (resOk.two (rv_cell Tn_97 rfl (fun w1 hw => hw.rgO (i := 0) rfl 0 2 [.string (⟨#[]⟩ : ByteArray), .slice none 0 0] rfl) rfl) rfl) (fun w1 hw => ?_)
  subst hb0
  cases h
  replace hw := hw.addNil
  refine postG_of_St (js := [0]) hw rfl ⟨.slice none 0 0, rfl, rfl, OSl.nil _ _ _ _⟩
theorem m_s_BindOf_ok {Φ : Hp} {w : World} (hΦ : In Φ w) (N : Nat) (p0 : (List TBind)) (p1 : ByteArray) {pv0 : Value} {pG0 : List Nat} (ph0 : RSl RTBind 4 Φ pG0 pv0 p0) {r : TVal × Bool} (h : m_s_BindOf N p0 p1 = some r) :
    Calls Try.prog 104 [pv0, .string p1].toArray w (Post (.tuple #[.agg [.int .i64 r.1.K, .int .i64 r.1.N, .string r.1.S].toArray, .bool r.2]) w) := by
  refine enter Try.func104 rfl Try.ntmps104 rfl (St.start0 hΦ) ?_
  generalize hb0 : (⟨w, [], Φ⟩ : Base) = w0
  unfold m_s_BindOf at h
  refine WT.seq ?_
  refine WT.region ?_
  refine ln (n_alloc (C := #[.int .i64 0, .int .i64 0, .string (⟨#[]⟩ : ByteArray)]) Zr_109 rfl) rfl (fun b_1 => ?_)
  refine lq (q_assign rfl) rfl ?_
  refine WL.nil ?_
  refine WT.seq ?_
  refine WT.seq ?_
  refine WT.region ?_
  refine lq (q_assign rfl) rfl ?_
  refine WL.nil ?_
  refine WT.block ?_
  refine WT.loop ?_
  refine WT.mono (l' := [(0, pv0), (1, .string p1), (4, .pointer (some ⟨b_1, 0, none⟩)), (6, .int .i64 0)]) (S' := St w0 Φ [(b_1, .cells #[.int .i64 0, .int .i64 0, .string (⟨#[]⟩ : ByteArray)] 109 (0, 0))] []) ⟨rfl, rfl, rfl, rfl, trivial⟩ (fun w1 hw => (hw.sel (js := []) rfl).selO (js := [0]) rfl) ?_
  refine loop_ind (σ := Int) (fun s => [(0, pv0), (1, .string p1), (4, .pointer (some ⟨b_1, 0, none⟩)), (6, .int .i64 s)]) (fun s => St w0 Φ [(b_1, .cells #[.int .i64 0, .int .i64 0, .string (⟨#[]⟩ : ByteArray)] 109 (0, 0))] []) (fun m s => m_s_BindOf_l1 N p0 p1 m s = some r) (fun s hm => none_ne (show (none : Option (TVal × Bool)) = some r from hm)) (fun n1 ih1 s hm => ?_) N (0) h
  revert hm; revert s; intro s1 hm
  have h : m_s_BindOf_l1 N p0 p1 (n1 + 1) s1 = some r := hm
  show WT _ _ [(0, pv0), (1, .string p1), (4, .pointer (some ⟨b_1, 0, none⟩)), (6, .int .i64 s1)] (St w0 Φ [(b_1, .cells #[.int .i64 0, .int .i64 0, .string (⟨#[]⟩ : ByteArray)] 109 (0, 0))] [])
  unfold m_s_BindOf_l1 at h
  refine WT.seq ?_
  refine WT.seq ?_
  refine WT.region ?_
  refine lq (q_move rfl) rfl ?_
  refine lq (q_move rfl) rfl ?_
  refine lq (q_lenR Sl_44 rfl rfl ph0) rfl ?_
  refine lq (q_lss rfl rfl) rfl ?_
  refine WL.nil ?_
  refine WT.cond rfl (fun c1 => ?_) (fun c1 => ?_)
  · replace h := ite_t h c1
    refine WT.skip ?_
    refine WT.seq ?_
    refine WT.block ?_
    refine WT.seq ?_
    refine WT.region ?_
    refine lq (q_move rfl) rfl ?_
    refine lq (q_move rfl) rfl ?_
    obtain ⟨x1, hx1, h⟩ := bind_some h
    obtain ⟨cs1, F1, -, g1, hb1, hs1, r1⟩ := ph0.el (idx_some hx1).2.2
    obtain ⟨rfl, -⟩ := r1
    refine lq (q_indexAddr Sl_44 rfl rfl ph0 hx1) rfl ?_
    refine lq (q_fieldAddr Fld_111_0 rfl) rfl ?_
    refine lq (q_load1 T1_9 rfl (fun w1 hw => (g1.of_eq 0 1 rfl rfl : rg _ _ _ [.string x1.Name]).rangeAt hw.fro)) rfl ?_
    refine lq (q_move rfl) rfl ?_
    refine lq (q_seq rfl rfl) rfl ?_
    refine WL.nil ?_
    refine WT.cond rfl (fun c2 => ?_) (fun c2 => ?_)
    · replace h := ite_t h c2
      refine WT.seq ?_
      refine WT.region ?_
      refine lq (q_move rfl) rfl ?_
      refine lq (q_move rfl) rfl ?_
      obtain ⟨x2, hx2, h⟩ := bind_some h
      obtain ⟨cs2, F2, -, g2, hb2, hs2, r2⟩ := ph0.el (idx_some hx2).2.2
      obtain ⟨rfl, -⟩ := r2
      refine lq (q_indexAddr Sl_44 rfl rfl ph0 hx2) rfl ?_
      refine lq (q_fieldAddr Fld_111_1 rfl) rfl ?_
      refine lq (q_loadN Tn_109 rfl (fun w1 hw => (g2.of_eq 1 3 rfl rfl : rg _ _ _ [.int .i64 x2.V.K, .int .i64 x2.V.N, .string x2.V.S]).rangeAt hw.fro) rfl) rfl ?_
      refine ls (s_store (i := 0) (vs := [.int .i64 x2.V.K, .int .i64 x2.V.N, .string x2.V.S]) (C' := [.int .i64 x2.V.K, .int .i64 x2.V.N, .string x2.V.S]) (O' := [(b_1, .cells #[.int .i64 x2.V.K, .int .i64 x2.V.N, .string x2.V.S] 109 (0, 0))]) Sz_109 rfl rfl rfl rfl rfl rfl ⟨rfl, rfl, rfl, trivial⟩ rfl rfl) rfl ?_
      refine lq (q_assign rfl) rfl ?_
      refine WL.nil ?_
      refine WT.ret Try.func104 (resOk.two (rv_cell Tn_109 rfl (fun w1 hw => hw.rgO (i := 0) rfl 0 3 [.int .i64 x2.V.K, .int .i64 x2.V.N, .string x2.V.S] rfl) rfl) rfl) (fun w1 hw => ?_)
      subst hb0
      cases h
      exact post_of_St hw
    replace h := ite_f h c2
    refine WT.skip ?_
    refine WT.inBlock ?_
    refine WT.region ?_
    refine lq (q_move rfl) rfl ?_
    refine lq (q_add rfl rfl) rfl ?_
    refine lq (q_assign rfl) rfl ?_
    refine WL.nil ?_
    refine WT.inLoop (WT.mono (l' := [(0, pv0), (1, .string p1), (4, .pointer (some ⟨b_1, 0, none⟩)), (6, .int .i64 (IntKind.i64.wrap (s1 + 1)))]) (S' := St w0 Φ [(b_1, .cells #[.int .i64 0, .int .i64 0, .string (⟨#[]⟩ : ByteArray)] 109 (0, 0))] []) ⟨rfl, rfl, rfl, rfl, trivial⟩ (fun w1 hw => (hw.sel (js := []) rfl).selO (js := [0]) rfl) ?_)
    exact ih1 (IntKind.i64.wrap (s1 + 1)) h
  replace h := ite_f h c1
  refine WT.exit rfl ?_
  refine WT.seq ?_
  refine WT.region ?_
  refine lq (q_build (vs := []) (C := #[.int .i64 0, .int .i64 0, .string (⟨#[]⟩ : ByteArray)]) Pl_109 Zr_109 rfl (fill_nil)) rfl ?_
  refine ls (s_store (i := 0) (vs := [.int .i64 0, .int .i64 0, .string (⟨#[]⟩ : ByteArray)]) (C' := [.int .i64 0, .int .i64 0, .string (⟨#[]⟩ : ByteArray)]) (O' := [(b_1, .cells #[.int .i64 0, .int .i64 0, .string (⟨#[]⟩ : ByteArray)] 109 (0, 0))]) Sz_109 rfl rfl rfl rfl rfl rfl ⟨rfl, rfl, rfl, trivial⟩ rfl rfl) rfl ?_
  refine lq (q_assign rfl) rfl ?_
  refine WL.nil ?_
  refine WT.ret Try.func104 (resOk.two (rv_cell Tn_109 rfl (fun w1 hw => hw.rgO (i := 0) rfl 0 3 [.int .i64 0, .int .i64 0, .string (⟨#[]⟩ : ByteArray)] rfl) rfl) rfl) (fun w1 hw => ?_)
  subst hb0
  cases h
  exact post_of_St hw
theorem m_s_MatchPat_ok {Φ : Hp} {w : World} (hΦ : In Φ w) (N : Nat) (p0 : TPat) (p1 : TFact) (p2 : (List TBind)) {pv0_0 : Value} {pG0_0 : List Nat} {pv1_0 : Value} {pG1_0 : List Nat} {pv2 : Value} {pG2 : List Nat} (ph0_0 : RSl RTArg 5 Φ pG0_0 pv0_0 p0.Args) (ph1_0 : RSl RTVal 3 Φ pG1_0 pv1_0 p1.Fields) (ph2 : RSl RTBind 4 Φ pG2 pv2 p2) {r : (List TBind) × Bool} (h : m_s_MatchPat N p0 p1 p2 = some r) :
    Calls Try.prog 53 [.agg [.string p0.Kind, pv0_0, .bool p0.Not].toArray, .agg [.string p1.Kind, pv1_0].toArray, pv2].toArray w (PostG Φ w [] (fun Φ' Fs v => ∃ (sr_0_0 : Value), v = .tuple #[sr_0_0, .bool r.2] ∧ Fs = [ob sr_0_0] ∧ OSl RTBind 111 4 Φ' [] sr_0_0 r.1)) := by
  refine enter Try.func53 rfl Try.ntmps53 rfl (St.start0 hΦ) ?_
  have pa0_0 : Old ⟨w, [], Φ⟩ pG0_0 := Old.mk hΦ ph0_0.kn (Dj.empty _)
  have pa1_0 : Old ⟨w, [], Φ⟩ pG1_0 := Old.mk hΦ ph1_0.kn (Dj.empty _)
  have pa2 : Old ⟨w, [], Φ⟩ pG2 := Old.mk hΦ ph2.kn (Dj.empty _)
  revert pa0_0 pa1_0 pa2
  generalize hb0 : (⟨w, [], Φ⟩ : Base) = w0
  intro pa0_0 pa1_0 pa2
  unfold m_s_MatchPat at h
  refine WT.seq ?_
  refine WT.region ?_
  refine ln (n_box (C := #[.string p0.Kind, pv0_0, .bool p0.Not]) rfl rfl) rfl (fun b_1 => ?_)
  refine ln (n_box (C := #[.string p1.Kind, pv1_0]) rfl rfl) rfl (fun b_2 => ?_)
  refine lq (q_assign rfl) rfl ?_
  refine lq (q_assign rfl) rfl ?_
  refine WL.nil ?_
  refine WT.seq ?_
  refine WT.region ?_
  have rc1 : RC RTBind 4 Φ ([] : List (List Nat)) [] ([] : List TBind) := RC.nil _ _ _
  refine le' (e_lit (vs := []) (C := #[]) RTBind.lasts Sl_44 Zr_111 rfl rfl rfl rfl (fill_made MC_111_0 (fill_nil)) rfl rc1 rfl (by simpa using Kw.nil)) rfl (fun v1 Φ_1 D1 q1 => ?_)
  obtain ⟨fr1, h1⟩ := q1
  replace h1 : OSl RTBind 111 4 Φ_1 [] v1 ([] : List TBind) := by simpa using h1
  replace ph2 := ph2.frame RTBind.lasts fr1 (Dj.empty _)
  replace ph0_0 := ph0_0.frame RTArg.lasts fr1 (Dj.empty _)
  replace ph1_0 := ph1_0.frame RTVal.lasts fr1 (Dj.empty _)
  refine lq (q_move rfl) rfl ?_
  obtain ⟨x1, hx1, h⟩ := bind_some h
  refine le' (e_appF RTBind.lasts RTBind.one RTBind.flat Sl_44 Ei_111 rfl rfl rfl rfl rfl (js := [0]) (Rr := []) rfl h1 ph2 hx1) rfl (fun v2 Φ_2 D2 q2 => ?_)
  obtain ⟨⟨ap1, fr2⟩, h2⟩ := q2
  replace ph2 := ph2.frame RTBind.lasts fr2 (ap1.o pa2)
  replace ph0_0 := ph0_0.frame RTArg.lasts fr2 (ap1.o pa0_0)
  replace ph1_0 := ph1_0.frame RTVal.lasts fr2 (ap1.o pa1_0)
  refine lq (q_assign rfl) rfl ?_
  refine WL.nil ?_
  refine WT.seq ?_
  refine WT.seq ?_
  refine WT.region ?_
  refine lq (q_fieldAddr Fld_94_0 rfl) rfl ?_
  refine lq (q_load1 T1_9 rfl (fun w1 hw => hw.rgO (i := 1) rfl 0 1 [.string p0.Kind] rfl)) rfl ?_
  refine lq (q_fieldAddr Fld_97_0 rfl) rfl ?_
  refine lq (q_load1 T1_9 rfl (fun w1 hw => hw.rgO (i := 0) rfl 0 1 [.string p1.Kind] rfl)) rfl ?_
  refine lq (q_sne rfl rfl) rfl ?_
  refine lq (q_move rfl) rfl ?_
  obtain ⟨b1, hb_1, h⟩ := bind_some h
  refine WL.cutN 8 [(29, .bool b1), (2, pv2), (3, .pointer (some ⟨b_1, 0, none⟩)), (4, .pointer (some ⟨b_2, 0, none⟩)), (8, v2)] ?_ (fun K => ?_)
  rotate_left
  · refine WL.split (d := 21) rfl (fun c1 => ?_) (fun c1 => ?_)
    · replace hb_1 := ite_t hb_1 c1
      refine WL.no rfl rfl rfl rfl ?_
      refine WL.no rfl rfl rfl rfl ?_
      refine WL.no rfl rfl rfl rfl ?_
      refine WL.no rfl rfl rfl rfl ?_
      refine WL.no rfl rfl rfl rfl ?_
      refine WL.no rfl rfl rfl rfl ?_
      refine WL.no rfl rfl rfl rfl ?_
      refine WL.q (q_pick1 rfl rfl) rfl rfl rfl ?_
      cases hb_1
      exact WL.keep (by exact ⟨rfl, rfl, rfl, rfl, rfl, trivial⟩) K
    · replace hb_1 := ite_f hb_1 c1
      refine WL.yes rfl rfl ?_
      refine lq (q_fieldAddr Fld_94_1 rfl) rfl ?_
      refine WL.yes rfl rfl ?_
      refine lq (q_load1 T1_92 rfl (fun w1 hw => hw.rgO (i := 1) rfl 1 1 [pv0_0] rfl)) rfl ?_
      refine WL.yes rfl rfl ?_
      refine lq (q_lenR Sl_92 rfl rfl ph0_0) rfl ?_
      refine WL.yes rfl rfl ?_
      refine lq (q_fieldAddr Fld_97_1 rfl) rfl ?_
      refine WL.yes rfl rfl ?_
      refine lq (q_load1 T1_95 rfl (fun w1 hw => hw.rgO (i := 0) rfl 1 1 [pv1_0] rfl)) rfl ?_
      refine WL.yes rfl rfl ?_
      refine lq (q_lenR Sl_95 rfl rfl ph1_0) rfl ?_
      refine WL.yes rfl rfl ?_
      refine lq (q_neq rfl rfl) rfl ?_
      refine WL.q (q_pick0 rfl rfl) rfl rfl rfl ?_
      cases hb_1
      exact WL.keep (by exact ⟨rfl, rfl, rfl, rfl, rfl, trivial⟩) K
  refine WL.nil ?_
  refine WT.cond rfl (fun c2 => ?_) (fun c2 => ?_)
  · replace h := ite_t h c2
    refine WT.seq ?_
    refine WT.region ?_
    refine lq (q_move rfl) rfl ?_
    refine lq (q_assign rfl) rfl ?_
    refine lq (q_assign rfl) rfl ?_
    refine WL.nil ?_
    refine WT.ret Try.func53 (resOk.two rfl rfl) (fun w1 hw => ?_)
    subst hb0
    cases h
    refine postG_of_St (js := [0]) hw rfl ⟨v2, rfl, rfl, h2⟩
  replace h := ite_f h c2
  refine WT.skip ?_
  refine WT.seq ?_
  refine WT.seq ?_
  refine WT.region ?_
  refine lq (q_assign rfl) rfl ?_
  refine WL.nil ?_
  refine WT.block ?_
  refine WT.loop ?_
  refine WT.mono (l' := [(2, pv2), (3, .pointer (some ⟨b_1, 0, none⟩)), (4, .pointer (some ⟨b_2, 0, none⟩)), (8, v2), (9, .int .i64 0)]) (S' := St w0 Φ_2 [(b_2, .cells #[.string p1.Kind, pv1_0] 97 (0, 0)), (b_1, .cells #[.string p0.Kind, pv0_0, .bool p0.Not] 94 (0, 0))] [ob v2]) ⟨rfl, rfl, rfl, rfl, rfl, trivial⟩ (fun w1 hw => (hw.sel (js := [0]) rfl).selO (js := [0, 0]) rfl) ?_
  refine loop_ind (σ := Hp × (List TBind) × Value × Int) (fun s => [(2, pv2), (3, .pointer (some ⟨b_1, 0, none⟩)), (4, .pointer (some ⟨b_2, 0, none⟩)), (8, s.2.2.1), (9, .int .i64 s.2.2.2)]) (fun s => St w0 s.1 [(b_2, .cells #[.string p1.Kind, pv1_0] 97 (0, 0)), (b_1, .cells #[.string p0.Kind, pv0_0, .bool p0.Not] 94 (0, 0))] [ob s.2.2.1]) (fun m s => m_s_MatchPat_l1 N p0 p1 p2 m s.2.1 s.2.2.2 = some r ∧ (OSl RTBind 111 4 s.1 [] s.2.2.1 s.2.1) ∧ (RSl RTBind 4 s.1 pG2 pv2 p2) ∧ (RSl RTArg 5 s.1 pG0_0 pv0_0 p0.Args) ∧ (RSl RTVal 3 s.1 pG1_0 pv1_0 p1.Fields)) (fun s hm => none_ne (show (none : Option ((List TBind) × Bool)) = some r from hm.1)) (fun n1 ih1 s hm => ?_) N (Φ_2, x1, v2, 0) ⟨h, h2, ph2, ph0_0, ph1_0⟩
  obtain ⟨Φ_3, s1, u1, s2⟩ := s
  obtain ⟨h, k1, ph2, ph0_0, ph1_0⟩ := hm
  replace h : m_s_MatchPat_l1 N p0 p1 p2 (n1 + 1) s1 s2 = some r := h
  replace k1 : OSl RTBind 111 4 Φ_3 [] u1 s1 := k1
  replace ph2 : RSl RTBind 4 Φ_3 pG2 pv2 p2 := ph2
  replace ph0_0 : RSl RTArg 5 Φ_3 pG0_0 pv0_0 p0.Args := ph0_0
  replace ph1_0 : RSl RTVal 3 Φ_3 pG1_0 pv1_0 p1.Fields := ph1_0
  show WT _ _ [(2, pv2), (3, .pointer (some ⟨b_1, 0, none⟩)), (4, .pointer (some ⟨b_2, 0, none⟩)), (8, u1), (9, .int .i64 s2)] (St w0 Φ_3 [(b_2, .cells #[.string p1.Kind, pv1_0] 97 (0, 0)), (b_1, .cells #[.string p0.Kind, pv0_0, .bool p0.Not] 94 (0, 0))] [ob u1])
  unfold m_s_MatchPat_l1 at h
  refine WT.seq ?_
  refine WT.seq ?_
  refine WT.region ?_
  refine lq (q_move rfl) rfl ?_
  refine lq (q_fieldAddr Fld_94_1 rfl) rfl ?_
  refine lq (q_load1 T1_92 rfl (fun w1 hw => hw.rgO (i := 1) rfl 1 1 [pv0_0] rfl)) rfl ?_
  refine lq (q_lenR Sl_92 rfl rfl ph0_0) rfl ?_
  refine lq (q_lss rfl rfl) rfl ?_
  refine WL.nil ?_
  refine WT.cond rfl (fun c3 => ?_) (fun c3 => ?_)
  · replace h := ite_t h c3
    refine WT.skip ?_
    refine WT.seq ?_
    refine WT.block ?_
    refine WT.seq ?_
    refine WT.region ?_
    refine lq (q_fieldAddr Fld_94_1 rfl) rfl ?_
    refine lq (q_load1 T1_92 rfl (fun w1 hw => hw.rgO (i := 1) rfl 1 1 [pv0_0] rfl)) rfl ?_
    refine lq (q_move rfl) rfl ?_
    obtain ⟨x2, hx2, h⟩ := bind_some h
    obtain ⟨cs1, F1, -, g1, hb1, hs1, r1⟩ := ph0_0.el (idx_some hx2).2.2
    obtain ⟨rfl, -⟩ := r1
    refine lq (q_indexAddr Sl_92 rfl rfl ph0_0 hx2) rfl ?_
    refine lq (q_loadN Tn_140 rfl (fun w1 hw => (g1.of_eq 0 5 rfl rfl : rg _ _ _ [.int .i64 x2.K, .string x2.S, .int .i64 x2.V.K, .int .i64 x2.V.N, .string x2.V.S]).rangeAt hw.fro) rfl) rfl ?_
    refine ln (n_alloc (C := #[.int .i64 0, .string (⟨#[]⟩ : ByteArray), .int .i64 0, .int .i64 0, .string (⟨#[]⟩ : ByteArray)]) Zr_140 rfl) rfl (fun b_3 => ?_)
    refine ls (s_store (i := 0) (vs := [.int .i64 x2.K, .string x2.S, .int .i64 x2.V.K, .int .i64 x2.V.N, .string x2.V.S]) (C' := [.int .i64 x2.K, .string x2.S, .int .i64 x2.V.K, .int .i64 x2.V.N, .string x2.V.S]) (O' := [(b_3, .cells #[.int .i64 x2.K, .string x2.S, .int .i64 x2.V.K, .int .i64 x2.V.N, .string x2.V.S] 140 (0, 0)), (b_2, .cells #[.string p1.Kind, pv1_0] 97 (0, 0)), (b_1, .cells #[.string p0.Kind, pv0_0, .bool p0.Not] 94 (0, 0))]) Sz_140 rfl rfl rfl rfl rfl rfl ⟨rfl, rfl, rfl, rfl, rfl, trivial⟩ rfl rfl) rfl ?_
    refine WL.nil ?_
    refine WT.seq ?_
    refine WT.region ?_
    refine lq (q_move rfl) rfl ?_
    refine lq (q_fieldAddr Fld_140_1 rfl) rfl ?_
    refine lq (q_load1 T1_9 rfl (fun w1 hw => hw.rgO (i := 0) rfl 1 1 [.string x2.S] rfl)) rfl ?_
    obtain ⟨x3, hx3, h⟩ := bind_some h
    refine lp (p_call Fun_104 rfl (fun w1 hw => m_s_BindOf_ok hw.fro N s1 x2.S k1.rsl hx3)) rfl ?_
    refine lq (q_move rfl) rfl ?_
    refine lq (q_extract rfl rfl) rfl ?_
    refine lq (q_extract rfl rfl) rfl ?_
    refine ln (n_alloc (C := #[.int .i64 0, .int .i64 0, .string (⟨#[]⟩ : ByteArray)]) Zr_109 rfl) rfl (fun b_4 => ?_)
    refine ls (s_store (i := 0) (vs := [.int .i64 x3.1.K, .int .i64 x3.1.N, .string x3.1.S]) (C' := [.int .i64 x3.1.K, .int .i64 x3.1.N, .string x3.1.S]) (O' := [(b_4, .cells #[.int .i64 x3.1.K, .int .i64 x3.1.N, .string x3.1.S] 109 (0, 0)), (b_3, .cells #[.int .i64 x2.K, .string x2.S, .int .i64 x2.V.K, .int .i64 x2.V.N, .string x2.V.S] 140 (0, 0)), (b_2, .cells #[.string p1.Kind, pv1_0] 97 (0, 0)), (b_1, .cells #[.string p0.Kind, pv0_0, .bool p0.Not] 94 (0, 0))]) Sz_109 rfl rfl rfl rfl rfl rfl ⟨rfl, rfl, rfl, trivial⟩ rfl rfl) rfl ?_
    refine lq (q_assign rfl) rfl ?_
    refine WL.nil ?_
    refine WT.seq ?_
    refine WT.seq ?_
    refine WT.draw mixed (by kernel_rfl) (fun _ h => h.drew) ?_
    refine qq (q_fieldAddr Fld_140_0 rfl) rfl ?_
    refine qq (q_load1 T1_3 rfl (fun w1 hw => hw.rgO (i := 1) rfl 0 1 [.int .i64 x2.K] rfl)) rfl ?_
    refine qq (q_eql rfl rfl) rfl ?_
    refine qq (q_move rfl) rfl ?_
    obtain ⟨b2, hb_2, h⟩ := bind_some h
    refine WQ.cutN 9 [(62, .bool b2), (2, pv2), (3, .pointer (some ⟨b_1, 0, none⟩)), (4, .pointer (some ⟨b_2, 0, none⟩)), (8, u1), (9, .int .i64 s2), (10, .pointer (some ⟨b_3, 0, none⟩)), (11, .pointer (some ⟨b_4, 0, none⟩)), (12, .bool x3.2)] ?_ (fun K => ?_)
    rotate_left
    · refine WQ.split (d := 53) rfl (fun c4 => ?_) (fun c4 => ?_)
      · replace hb_2 := ite_t hb_2 c4
        refine WQ.yes rfl rfl ?_
        refine qq (q_fieldAddr Fld_140_2 rfl) rfl ?_
        refine WQ.yes rfl rfl ?_
        refine qq (q_loadN Tn_109 rfl (fun w1 hw => hw.rgO (i := 1) rfl 2 3 [.int .i64 x2.V.K, .int .i64 x2.V.N, .string x2.V.S] rfl) rfl) rfl ?_
        refine WQ.yes rfl rfl ?_
        refine qq (q_fieldAddr Fld_97_1 rfl) rfl ?_
        refine WQ.yes rfl rfl ?_
        refine qq (q_load1 T1_95 rfl (fun w1 hw => hw.rgO (i := 2) rfl 1 1 [pv1_0] rfl)) rfl ?_
        refine WQ.yes rfl rfl ?_
        refine qq (q_move rfl) rfl ?_
        refine WQ.yes rfl rfl ?_
        obtain ⟨x4, hx4, hb_2⟩ := bind_some hb_2
        obtain ⟨cs2, F2, -, g2, hb2, hs2, r2⟩ := ph1_0.el (idx_some hx4).2.2
        obtain ⟨rfl, -⟩ := r2
        refine qq (q_indexAddr Sl_95 rfl rfl ph1_0 hx4) rfl ?_
        refine WQ.yes rfl rfl ?_
        refine qq (q_loadN Tn_109 rfl (fun w1 hw => (g2.of_eq 0 3 rfl rfl : rg _ _ _ [.int .i64 x4.K, .int .i64 x4.N, .string x4.S]).rangeAt hw.fro) rfl) rfl ?_
        refine WQ.yes rfl rfl ?_
        refine qq (q_neA EqT_109 rfl rfl rfl (r := eqT_TVal x2.V x4) rfl) rfl ?_
        refine WQ.q (q_pick1 rfl rfl) rfl rfl rfl ?_
        cases hb_2
        exact WQ.keep (by exact ⟨rfl, rfl, rfl, rfl, rfl, rfl, rfl, rfl, rfl, trivial⟩) K
      · replace hb_2 := ite_f hb_2 c4
        refine WQ.no rfl rfl rfl rfl ?_
        refine WQ.no rfl rfl rfl rfl ?_
        refine WQ.no rfl rfl rfl rfl ?_
        refine WQ.no rfl rfl rfl rfl ?_
        refine WQ.no rfl rfl rfl rfl ?_
        refine WQ.no rfl rfl rfl rfl ?_
        refine WQ.no rfl rfl rfl rfl ?_
        refine WQ.no rfl rfl rfl rfl ?_
        refine WQ.q (q_pick0 rfl rfl) rfl rfl rfl ?_
        cases hb_2
        exact WQ.keep (by exact ⟨rfl, rfl, rfl, rfl, rfl, rfl, rfl, rfl, rfl, trivial⟩) K
    refine qq (q_move rfl) rfl ?_
    obtain ⟨b3, hb_3, h⟩ := bind_some h
    refine WQ.cutN 16 [(79, .bool b3), (2, pv2), (3, .pointer (some ⟨b_1, 0, none⟩)), (4, .pointer (some ⟨b_2, 0, none⟩)), (8, u1), (9, .int .i64 s2), (10, .pointer (some ⟨b_3, 0, none⟩)), (12, .bool x3.2)] ?_ (fun K => ?_)
    rotate_left
    · refine WQ.split (d := 63) rfl (fun c5 => ?_) (fun c5 => ?_)
      · replace hb_3 := ite_t hb_3 c5
        refine WQ.no rfl rfl rfl rfl ?_
        refine WQ.no rfl rfl rfl rfl ?_
        refine WQ.no rfl rfl rfl rfl ?_
        refine WQ.no rfl rfl rfl rfl ?_
        refine WQ.nox rfl rfl rfl rfl ?_
        refine WQ.no rfl rfl rfl rfl ?_
        refine WQ.no rfl rfl rfl rfl ?_
        refine WQ.nox rfl rfl rfl rfl ?_
        refine WQ.nox rfl rfl rfl rfl ?_
        refine WQ.nox rfl rfl rfl rfl ?_
        refine WQ.nox rfl rfl rfl rfl ?_
        refine WQ.nox rfl rfl rfl rfl ?_
        refine WQ.nox rfl rfl rfl rfl ?_
        refine WQ.nox rfl rfl rfl rfl ?_
        refine WQ.no rfl rfl rfl rfl ?_
        refine WQ.q (q_pick1 rfl rfl) rfl rfl rfl ?_
        cases hb_3
        exact WQ.keep (by exact ⟨rfl, rfl, rfl, rfl, rfl, rfl, rfl, rfl, trivial⟩) K
      · replace hb_3 := ite_f hb_3 c5
        refine WQ.yes rfl rfl ?_
        refine qq (q_fieldAddr Fld_140_0 rfl) rfl ?_
        refine WQ.yes rfl rfl ?_
        refine qq (q_load1 T1_3 rfl (fun w1 hw => hw.rgO (i := 1) rfl 0 1 [.int .i64 x2.K] rfl)) rfl ?_
        refine WQ.yes rfl rfl ?_
        refine qq (q_eql rfl rfl) rfl ?_
        refine WQ.yes rfl rfl ?_
        refine qq (q_move rfl) rfl ?_
        obtain ⟨b4, hb_4, hb_3⟩ := bind_some hb_3
        refine WQ.cutN 2 [(69, .bool b4), (2, pv2), (3, .pointer (some ⟨b_1, 0, none⟩)), (4, .pointer (some ⟨b_2, 0, none⟩)), (8, u1), (9, .int .i64 s2), (10, .pointer (some ⟨b_3, 0, none⟩)), (11, .pointer (some ⟨b_4, 0, none⟩)), (12, .bool x3.2), (63, .bool false)] ?_ (fun K => ?_)
        rotate_left
        · refine WQ.split (d := 67) rfl (fun c6 => ?_) (fun c6 => ?_)
          · replace hb_4 := ite_t hb_4 c6
            refine WQ.yes rfl rfl ?_
            refine qq (q_move rfl) rfl ?_
            refine WQ.yes rfl rfl ?_
            refine WQ.q (q_pick1 rfl rfl) rfl rfl rfl ?_
            cases hb_4
            exact WQ.keep (by exact ⟨rfl, rfl, rfl, rfl, rfl, rfl, rfl, rfl, rfl, rfl, trivial⟩) K
          · replace hb_4 := ite_f hb_4 c6
            refine WQ.no rfl rfl rfl rfl ?_
            refine WQ.yes rfl rfl ?_
            refine WQ.q (q_pick0 rfl rfl) rfl rfl rfl ?_
            cases hb_4
            exact WQ.keep (by exact ⟨rfl, rfl, rfl, rfl, rfl, rfl, rfl, rfl, rfl, rfl, trivial⟩) K
        refine WQ.yes rfl rfl ?_
        refine qq (q_move rfl) rfl ?_
        obtain ⟨b5, hb_5, hb_3⟩ := bind_some hb_3
        refine WQ.cutN 8 [(78, .bool b5), (2, pv2), (3, .pointer (some ⟨b_1, 0, none⟩)), (4, .pointer (some ⟨b_2, 0, none⟩)), (8, u1), (9, .int .i64 s2), (10, .pointer (some ⟨b_3, 0, none⟩)), (12, .bool x3.2), (63, .bool false)] ?_ (fun K => ?_)
        rotate_left
        · refine WQ.split (d := 70) rfl (fun c7 => ?_) (fun c7 => ?_)
          · replace hb_5 := ite_t hb_5 c7
            refine WQ.yes rfl rfl ?_
            refine qq (q_loadN Tn_109 rfl (fun w1 hw => hw.rgO (i := 0) rfl 0 3 [.int .i64 x3.1.K, .int .i64 x3.1.N, .string x3.1.S] rfl) rfl) rfl ?_
            refine WQ.yes rfl rfl ?_
            refine qq (q_fieldAddr Fld_97_1 rfl) rfl ?_
            refine WQ.yes rfl rfl ?_
            refine qq (q_load1 T1_95 rfl (fun w1 hw => hw.rgO (i := 2) rfl 1 1 [pv1_0] rfl)) rfl ?_
            refine WQ.yes rfl rfl ?_
            refine qq (q_move rfl) rfl ?_
            refine WQ.yes rfl rfl ?_
            obtain ⟨x5, hx5, hb_5⟩ := bind_some hb_5
            obtain ⟨cs3, F3, -, g3, hb3, hs3, r3⟩ := ph1_0.el (idx_some hx5).2.2
            obtain ⟨rfl, -⟩ := r3
            refine qq (q_indexAddr Sl_95 rfl rfl ph1_0 hx5) rfl ?_
            refine WQ.yes rfl rfl ?_
            refine qq (q_loadN Tn_109 rfl (fun w1 hw => (g3.of_eq 0 3 rfl rfl : rg _ _ _ [.int .i64 x5.K, .int .i64 x5.N, .string x5.S]).rangeAt hw.fro) rfl) rfl ?_
            refine WQ.yes rfl rfl ?_
            refine qq (q_neA EqT_109 rfl rfl rfl (r := eqT_TVal x3.1 x5) rfl) rfl ?_
            refine WQ.yes rfl rfl ?_
            refine WQ.q (q_pick1 rfl rfl) rfl rfl rfl ?_
            cases hb_5
            exact WQ.keep (by exact ⟨rfl, rfl, rfl, rfl, rfl, rfl, rfl, rfl, rfl, trivial⟩) K
          · replace hb_5 := ite_f hb_5 c7
            refine WQ.no rfl rfl rfl rfl ?_
            refine WQ.no rfl rfl rfl rfl ?_
            refine WQ.no rfl rfl rfl rfl ?_
            refine WQ.no rfl rfl rfl rfl ?_
            refine WQ.no rfl rfl rfl rfl ?_
            refine WQ.no rfl rfl rfl rfl ?_
            refine WQ.no rfl rfl rfl rfl ?_
            refine WQ.yes rfl rfl ?_
            refine WQ.q (q_pick0 rfl rfl) rfl rfl rfl ?_
            cases hb_5
            exact WQ.keep (by exact ⟨rfl, rfl, rfl, rfl, rfl, rfl, rfl, rfl, rfl, trivial⟩) K
        refine WQ.q (q_pick0 rfl rfl) rfl rfl rfl ?_
        cases hb_3
        exact WQ.keep (by exact ⟨rfl, rfl, rfl, rfl, rfl, rfl, rfl, rfl, trivial⟩) K
    refine WQ.nil ?_
    refine WT.cond rfl (fun c8 => ?_) (fun c8 => ?_)
    · replace h := ite_t h c8
      refine WT.seq ?_
      refine WT.region ?_
      have rc2 : RC RTBind 4 Φ_3 ([] : List (List Nat)) [] ([] : List TBind) := RC.nil _ _ _
      refine le' (e_lit (vs := []) (C := #[]) RTBind.lasts Sl_44 Zr_111 rfl rfl rfl rfl (fill_made MC_111_0 (fill_nil)) rfl rc2 rfl (by simpa using Kw.nil)) rfl (fun v3 Φ_4 D3 q3 => ?_)
      obtain ⟨fr3, h3⟩ := q3
      replace h3 : OSl RTBind 111 4 Φ_4 [] v3 ([] : List TBind) := by simpa using h3
      replace ph2 := ph2.frame RTBind.lasts fr3 (Dj.empty _)
      refine lq (q_move rfl) rfl ?_
      obtain ⟨x6, hx6, h⟩ := bind_some h
      refine le' (e_appF RTBind.lasts RTBind.one RTBind.flat Sl_44 Ei_111 rfl rfl rfl rfl rfl (js := [0]) (Rr := [ob u1]) rfl h3 ph2 hx6) rfl (fun v4 Φ_5 D4 q4 => ?_)
      obtain ⟨⟨ap2, fr4⟩, h4⟩ := q4
      refine lq (q_assign rfl) rfl ?_
      refine lq (q_assign rfl) rfl ?_
      refine WL.nil ?_
      refine WT.ret Try.func53 (resOk.two rfl rfl) (fun w1 hw => ?_)
      subst hb0
      cases h
      refine postG_of_St (js := [0]) hw rfl ⟨v4, rfl, rfl, h4⟩
    replace h := ite_f h c8
    refine WT.skip ?_
    refine WT.seq ?_
    refine WT.region ?_
    refine lq (q_fieldAddr Fld_140_0 rfl) rfl ?_
    refine lq (q_load1 T1_3 rfl (fun w1 hw => hw.rgO (i := 1) rfl 0 1 [.int .i64 x2.K] rfl)) rfl ?_
    refine lq (q_eql rfl rfl) rfl ?_
    refine lq (q_move rfl) rfl ?_
    obtain ⟨b6, hb_6, h⟩ := bind_some h
    refine WL.cutN 3 [(89, .bool b6), (2, pv2), (3, .pointer (some ⟨b_1, 0, none⟩)), (4, .pointer (some ⟨b_2, 0, none⟩)), (8, u1), (9, .int .i64 s2), (10, .pointer (some ⟨b_3, 0, none⟩))] ?_ (fun K => ?_)
    rotate_left
    · refine WL.split (d := 86) rfl (fun c9 => ?_) (fun c9 => ?_)
      · replace hb_6 := ite_t hb_6 c9
        refine WL.yes rfl rfl ?_
        refine lq (q_move rfl) rfl ?_
        refine WL.yes rfl rfl ?_
        refine lq (q_not rfl) rfl ?_
        refine WL.q (q_pick1 rfl rfl) rfl rfl rfl ?_
        cases hb_6
        exact WL.keep (by exact ⟨rfl, rfl, rfl, rfl, rfl, rfl, rfl, trivial⟩) K
      · replace hb_6 := ite_f hb_6 c9
        refine WL.no rfl rfl rfl rfl ?_
        refine WL.no rfl rfl rfl rfl ?_
        refine WL.q (q_pick0 rfl rfl) rfl rfl rfl ?_
        cases hb_6
        exact WL.keep (by exact ⟨rfl, rfl, rfl, rfl, rfl, rfl, rfl, trivial⟩) K
    refine WL.nil ?_
    refine WT.cond rfl (fun c10 => ?_) (fun c10 => ?_)
    · replace h := ite_t h c10
      refine WT.mix (Kn Φ_3 pG1_0 [(b_4, .cells #[.int .i64 x3.1.K, .int .i64 x3.1.N, .string x3.1.S] 109 (0, 0)), (b_3, .cells #[.int .i64 x2.K, .string x2.S, .int .i64 x2.V.K, .int .i64 x2.V.N, .string x2.V.S] 140 (0, 0)), (b_2, .cells #[.string p1.Kind, pv1_0] 97 (0, 0)), (b_1, .cells #[.string p0.Kind, pv0_0, .bool p0.Not] 94 (0, 0))]) (fun _ => true) mixed (fun _ h => h.drew) ?_
      refine mq 0 rfl (by kernel_rfl) (fun w1 hw => Kn.of (fun _ _ _ h => h) (AllIn.mem ⟨List.mem_of_getElem? (i := 0) rfl, List.mem_of_getElem? (i := 1) rfl, List.mem_of_getElem? (i := 2) rfl, List.mem_of_getElem? (i := 3) rfl, trivial⟩) hw) (q_move rfl) rfl ?_
      refine mq 1 rfl (by kernel_rfl) (fun w1 hw => Kn.of (fun _ _ _ h => h) (AllIn.mem ⟨List.mem_of_getElem? (i := 0) rfl, List.mem_of_getElem? (i := 1) rfl, List.mem_of_getElem? (i := 2) rfl, List.mem_of_getElem? (i := 3) rfl, trivial⟩) hw) (q_fieldAddr Fld_140_1 rfl) rfl ?_
      refine mq 2 rfl (by kernel_rfl) (fun w1 hw => Kn.of (fun _ _ _ h => h) (AllIn.mem ⟨List.mem_of_getElem? (i := 0) rfl, List.mem_of_getElem? (i := 1) rfl, List.mem_of_getElem? (i := 2) rfl, List.mem_of_getElem? (i := 3) rfl, trivial⟩) hw) (q_load1 T1_9 rfl (fun w1 hw => hw.rgO (i := 1) rfl 1 1 [.string x2.S] rfl)) rfl ?_
      refine mq 3 rfl (by kernel_rfl) (fun w1 hw => Kn.of (fun _ _ _ h => h) (AllIn.mem ⟨List.mem_of_getElem? (i := 0) rfl, List.mem_of_getElem? (i := 1) rfl, List.mem_of_getElem? (i := 2) rfl, List.mem_of_getElem? (i := 3) rfl, trivial⟩) hw) (q_fieldAddr Fld_97_1 rfl) rfl ?_
      refine mq 4 rfl (by kernel_rfl) (fun w1 hw => Kn.of (fun _ _ _ h => h) (AllIn.mem ⟨List.mem_of_getElem? (i := 0) rfl, List.mem_of_getElem? (i := 1) rfl, List.mem_of_getElem? (i := 2) rfl, List.mem_of_getElem? (i := 3) rfl, trivial⟩) hw) (q_load1 T1_95 rfl (fun w1 hw => hw.rgO (i := 2) rfl 1 1 [pv1_0] rfl)) rfl ?_
      refine mq 5 rfl (by kernel_rfl) (fun w1 hw => Kn.of (fun _ _ _ h => h) (AllIn.mem ⟨List.mem_of_getElem? (i := 0) rfl, List.mem_of_getElem? (i := 1) rfl, List.mem_of_getElem? (i := 2) rfl, List.mem_of_getElem? (i := 3) rfl, trivial⟩) hw) (q_move rfl) rfl ?_
      obtain ⟨x7, hx7, h⟩ := bind_some h
      obtain ⟨cs4, F4, -, g4, hb4, hs4, r4⟩ := ph1_0.el (idx_some hx7).2.2
      obtain ⟨rfl, -⟩ := r4
      refine mq 6 rfl (by kernel_rfl) (fun w1 hw => Kn.of (fun _ _ _ h => h) (AllIn.mem ⟨List.mem_of_getElem? (i := 0) rfl, List.mem_of_getElem? (i := 1) rfl, List.mem_of_getElem? (i := 2) rfl, List.mem_of_getElem? (i := 3) rfl, trivial⟩) hw) (q_indexAddr Sl_95 rfl rfl ph1_0 hx7) rfl ?_
      refine mq 7 rfl (by kernel_rfl) (fun w1 hw => Kn.of (fun _ _ _ h => h) (AllIn.mem ⟨List.mem_of_getElem? (i := 0) rfl, List.mem_of_getElem? (i := 1) rfl, List.mem_of_getElem? (i := 2) rfl, List.mem_of_getElem? (i := 3) rfl, trivial⟩) hw) (q_loadN Tn_109 rfl (fun w1 hw => hw.rg hb4 (g4.of_eq 0 3 rfl rfl : rg _ _ _ [.int .i64 x7.K, .int .i64 x7.N, .string x7.S])) rfl) rfl ?_
      refine mq 8 rfl (by kernel_rfl) (fun w1 hw => Kn.of (fun _ _ _ h => h) (AllIn.mem ⟨List.mem_of_getElem? (i := 0) rfl, List.mem_of_getElem? (i := 1) rfl, List.mem_of_getElem? (i := 2) rfl, List.mem_of_getElem? (i := 3) rfl, trivial⟩) hw) (q_build (vs := [(0, .string x2.S), (1, .agg [.int .i64 x7.K, .int .i64 x7.N, .string x7.S].toArray)]) (C := #[.string x2.S, .int .i64 x7.K, .int .i64 x7.N, .string x7.S]) Pl_111 Zr_111 rfl (fill_cons (cells := [.string ⟨#[]⟩, .int .i64 0, .int .i64 0, .string ⟨#[]⟩]) (c := [.string x2.S]) (C' := [.string x2.S, .int .i64 0, .int .i64 0, .string ⟨#[]⟩]) rfl rfl rfl rfl rfl (fill_cons (cells := [.string x2.S, .int .i64 0, .int .i64 0, .string ⟨#[]⟩]) (c := [.int .i64 x7.K, .int .i64 x7.N, .string x7.S]) (C' := [.string x2.S, .int .i64 x7.K, .int .i64 x7.N, .string x7.S]) rfl rfl rfl rfl rfl (fill_nil)))) rfl ?_
      have rc3 : RC RTBind 4 Φ_3 ([[]] : List (List Nat)) [.string x2.S, .int .i64 x7.K, .int .i64 x7.N, .string x7.S] ([(⟨x2.S, x7⟩ : TBind)] : List TBind) := RC.cons (c := [.string x2.S, .int .i64 x7.K, .int .i64 x7.N, .string x7.S]) (cells := []) ⟨rfl, rfl⟩ rfl (RC.nil _ _ _)
      refine WM.one 9 (by kernel_rfl) (me rfl (fun _ v Φx D w1 hq hw => Kn.of (fun k hk o ho => hq.1 k o (by simp) ((fun _ _ _ h => h) k hk o ho)) (AllIn.mem ⟨List.mem_of_getElem? (i := 0) rfl, List.mem_of_getElem? (i := 1) rfl, List.mem_of_getElem? (i := 2) rfl, List.mem_of_getElem? (i := 3) rfl, trivial⟩) hw) (e_lit (vs := [(0, .agg [.string x2.S, .int .i64 x7.K, .int .i64 x7.N, .string x7.S].toArray)]) (C := #[.string x2.S, .int .i64 x7.K, .int .i64 x7.N, .string x7.S]) RTBind.lasts Sl_44 Zr_111 rfl rfl rfl rfl (fill_made MC_111_1 (fill_cons (cells := [.string ⟨#[]⟩, .int .i64 0, .int .i64 0, .string ⟨#[]⟩]) (c := [.string x2.S, .int .i64 x7.K, .int .i64 x7.N, .string x7.S]) (C' := [.string x2.S, .int .i64 x7.K, .int .i64 x7.N, .string x7.S]) rfl rfl rfl rfl rfl (fill_nil))) rfl rc3 rfl (by simpa using Kw.nil)) rfl (fun v5 Φ_6 D5 q5 => ?_))
      obtain ⟨fr5, h5⟩ := q5
      replace h5 : OSl RTBind 111 4 Φ_6 [] v5 ([(⟨x2.S, x7⟩ : TBind)] : List TBind) := by simpa using h5
      replace ph2 := ph2.frame RTBind.lasts fr5 (Dj.empty _)
      replace ph0_0 := ph0_0.frame RTArg.lasts fr5 (Dj.empty _)
      replace ph1_0 := ph1_0.frame RTVal.lasts fr5 (Dj.empty _)
      replace k1 := k1.frame RTBind.lasts fr5 (Dj.empty _) (Dj.empty _)
      obtain ⟨x8, hx8, h⟩ := bind_some h
      refine WM.one 10 (by kernel_rfl) (me rfl (fun _ v Φx D w1 hq hw => Kn.of (fun k hk o ho => hq.1.2 k o ((hq.1.1.o pa1_0) k hk) ((fun k hk o ho => fr5 k o (by simp) ((fun _ _ _ h => h) k hk o ho)) k hk o ho)) (AllIn.mem ⟨List.mem_of_getElem? (i := 0) rfl, List.mem_of_getElem? (i := 1) rfl, List.mem_of_getElem? (i := 2) rfl, List.mem_of_getElem? (i := 3) rfl, trivial⟩) hw) (e_appF RTBind.lasts RTBind.one RTBind.flat Sl_44 Ei_111 rfl rfl rfl rfl rfl (js := [1]) (Rr := [ob v5]) rfl k1 h5.rsl hx8) rfl (fun v6 Φ_7 D6 q6 => ?_))
      obtain ⟨⟨ap3, fr6⟩, h6⟩ := q6
      replace ph2 := ph2.frame RTBind.lasts fr6 (ap3.o pa2)
      replace ph0_0 := ph0_0.frame RTArg.lasts fr6 (ap3.o pa0_0)
      replace ph1_0 := ph1_0.frame RTVal.lasts fr6 (ap3.o pa1_0)
      refine mq 11 rfl (by kernel_rfl) (fun w1 hw => Kn.of (fun k hk o ho => fr6 k o ((ap3.o pa1_0) k hk) ((fun k hk o ho => fr5 k o (by simp) ((fun _ _ _ h => h) k hk o ho)) k hk o ho)) (AllIn.mem ⟨List.mem_of_getElem? (i := 0) rfl, List.mem_of_getElem? (i := 1) rfl, List.mem_of_getElem? (i := 2) rfl, List.mem_of_getElem? (i := 3) rfl, trivial⟩) hw) (q_assign rfl) rfl ?_
      refine WM.nil (by kernel_rfl) ?_
      refine WT.inBlock ?_
      refine WT.region ?_
      refine lq (q_move rfl) rfl ?_
      refine lq (q_add rfl rfl) rfl ?_
      refine lq (q_assign rfl) rfl ?_
      refine WL.nil ?_
      refine WT.inLoop (WT.mono (l' := [(2, pv2), (3, .pointer (some ⟨b_1, 0, none⟩)), (4, .pointer (some ⟨b_2, 0, none⟩)), (8, v6), (9, .int .i64 (IntKind.i64.wrap (s2 + 1)))]) (S' := St w0 Φ_7 [(b_2, .cells #[.string p1.Kind, pv1_0] 97 (0, 0)), (b_1, .cells #[.string p0.Kind, pv0_0, .bool p0.Not] 94 (0, 0))] [ob v6]) ⟨rfl, rfl, rfl, rfl, rfl, trivial⟩ (fun w1 hw => (hw.sel (js := [0]) rfl).selO (js := [2, 2]) rfl) ?_)
      exact ih1 (Φ_7, x8, v6, IntKind.i64.wrap (s2 + 1)) ⟨h, h6, ph2, ph0_0, ph1_0⟩
    replace h := ite_f h c10
    refine WT.skip ?_
    refine WT.inBlock ?_
    refine WT.region ?_
    refine lq (q_move rfl) rfl ?_
    refine lq (q_add rfl rfl) rfl ?_
    refine lq (q_assign rfl) rfl ?_
    refine WL.nil ?_
    refine WT.inLoop (WT.mono (l' := [(2, pv2), (3, .pointer (some ⟨b_1, 0, none⟩)), (4, .pointer (some ⟨b_2, 0, none⟩)), (8, u1), (9, .int .i64 (IntKind.i64.wrap (s2 + 1)))]) (S' := St w0 Φ_3 [(b_2, .cells #[.string p1.Kind, pv1_0] 97 (0, 0)), (b_1, .cells #[.string p0.Kind, pv0_0, .bool p0.Not] 94 (0, 0))] [ob u1]) ⟨rfl, rfl, rfl, rfl, rfl, trivial⟩ (fun w1 hw => (hw.sel (js := [0]) rfl).selO (js := [2, 2]) rfl) ?_)
    exact ih1 (Φ_3, s1, u1, IntKind.i64.wrap (s2 + 1)) ⟨h, k1, ph2, ph0_0, ph1_0⟩
  replace h := ite_f h c3
  refine WT.exit rfl ?_
  refine WT.seq ?_
  refine WT.region ?_
  refine lq (q_move rfl) rfl ?_
  refine lq (q_assign rfl) rfl ?_
  refine lq (q_assign rfl) rfl ?_
  refine WL.nil ?_
  refine WT.ret Try.func53 (resOk.two rfl rfl) (fun w1 hw => ?_)
  subst hb0
  cases h
  refine postG_of_St (js := [0]) hw rfl ⟨u1, rfl, rfl, k1⟩
theorem m_s_BindsFor_ok {Φ : Hp} {w : World} (hΦ : In Φ w) (N : Nat) (p0 : TRule) (p1 : TStore) (p2 : (List Int)) {pv0_0 : Value} {pG0_0 : List Nat} {pv0_1 : Value} {pG0_1 : List Nat} {pv0_2 : Value} {pG0_2 : List Nat} {pv1_0 : Value} {pG1_0 : List Nat} {pv2 : Value} {pG2 : List Nat} (ph0_0 : RSl RTPat 3 Φ pG0_0 pv0_0 p0.Pats) (ph0_1 : RSl RTCond 11 Φ pG0_1 pv0_1 p0.Conds) (ph0_2 : RSl RTAct 5 Φ pG0_2 pv0_2 p0.Acts) (ph1_0 : RSl RTItem 3 Φ pG1_0 pv1_0 p1.Items) (ph2 : RSl (RI .i64) 1 Φ pG2 pv2 p2) {r : (List TBind) × Bool} (h : m_s_BindsFor N p0 p1 p2 = some r) :
    Calls Try.prog 13 [.agg [.string p0.Name, .int .i64 p0.Sal, pv0_0, pv0_1, pv0_2].toArray, .agg [pv1_0, .int .i64 p1.Next].toArray, pv2].toArray w (PostG Φ w [] (fun Φ' Fs v => ∃ (sr_0_0 : Value), v = .tuple #[sr_0_0, .bool r.2] ∧ Fs = [ob sr_0_0] ∧ OSl RTBind 111 4 Φ' [] sr_0_0 r.1)) := by
  refine enter Try.func13 rfl Try.ntmps13 rfl (St.start0 hΦ) ?_
  have pa0_0 : Old ⟨w, [], Φ⟩ pG0_0 := Old.mk hΦ ph0_0.kn (Dj.empty _)
  have pa0_1 : Old ⟨w, [], Φ⟩ pG0_1 := Old.mk hΦ ph0_1.kn (Dj.empty _)
  have pa0_2 : Old ⟨w, [], Φ⟩ pG0_2 := Old.mk hΦ ph0_2.kn (Dj.empty _)
  have pa1_0 : Old ⟨w, [], Φ⟩ pG1_0 := Old.mk hΦ ph1_0.kn (Dj.empty _)
  have pa2 : Old ⟨w, [], Φ⟩ pG2 := Old.mk hΦ ph2.kn (Dj.empty _)
  revert pa0_0 pa0_1 pa0_2 pa1_0 pa2
  generalize hb0 : (⟨w, [], Φ⟩ : Base) = w0
  intro pa0_0 pa0_1 pa0_2 pa1_0 pa2
  unfold m_s_BindsFor at h
  refine WT.seq ?_
  refine WT.region ?_
  refine ln (n_box (C := #[.string p0.Name, .int .i64 p0.Sal, pv0_0, pv0_1, pv0_2]) rfl rfl) rfl (fun b_1 => ?_)
  refine ln (n_box (C := #[pv1_0, .int .i64 p1.Next]) rfl rfl) rfl (fun b_2 => ?_)
  refine lq (q_assign rfl) rfl ?_
  refine lq (q_assign rfl) rfl ?_
  refine WL.nil ?_
  refine WT.seq ?_
  refine WT.region ?_
  have rc1 : RC RTBind 4 Φ ([] : List (List Nat)) [] ([] : List TBind) := RC.nil _ _ _
  refine le' (e_lit (vs := []) (C := #[]) RTBind.lasts Sl_44 Zr_111 rfl rfl rfl rfl (fill_made MC_111_0 (fill_nil)) rfl rc1 rfl (by simpa using Kw.nil)) rfl (fun v1 Φ_1 D1 q1 => ?_)
  obtain ⟨fr1, h1⟩ := q1
  replace h1 : OSl RTBind 111 4 Φ_1 [] v1 ([] : List TBind) := by simpa using h1
  replace ph2 := ph2.frame RI.lasts fr1 (Dj.empty _)
  replace ph0_0 := ph0_0.frame RTPat.lasts fr1 (Dj.empty _)
  replace ph0_1 := ph0_1.frame RTCond.lasts fr1 (Dj.empty _)
  replace ph0_2 := ph0_2.frame RTAct.lasts fr1 (Dj.empty _)
  replace ph1_0 := ph1_0.frame RTItem.lasts fr1 (Dj.empty _)
  refine lq (q_assign rfl) rfl ?_
  refine WL.nil ?_
  refine WT.seq ?_
  refine WT.region ?_
  refine lq (q_assign rfl) rfl ?_
  refine WL.nil ?_
  refine WT.seq ?_
  refine WT.seq ?_
  refine WT.region ?_
  refine lq (q_assign rfl) rfl ?_
  refine WL.nil ?_
  refine WT.block ?_
  refine WT.loop ?_
  refine WT.mono (l' := [(2, pv2), (3, .pointer (some ⟨b_1, 0, none⟩)), (4, .pointer (some ⟨b_2, 0, none⟩)), (8, v1), (9, .int .i64 0), (10, .int .i64 0)]) (S' := St w0 Φ_1 [(b_2, .cells #[pv1_0, .int .i64 p1.Next] 55 (0, 0)), (b_1, .cells #[.string p0.Name, .int .i64 p0.Sal, pv0_0, pv0_1, pv0_2] 51 (0, 0))] [ob v1]) ⟨rfl, rfl, rfl, rfl, rfl, rfl, trivial⟩ (fun w1 hw => (hw.sel (js := [0]) rfl).selO (js := [0, 0]) rfl) ?_
  refine loop_ind (σ := Hp × (List TBind) × Value × Int × Int) (fun s => [(2, pv2), (3, .pointer (some ⟨b_1, 0, none⟩)), (4, .pointer (some ⟨b_2, 0, none⟩)), (8, s.2.2.1), (9, .int .i64 s.2.2.2.1), (10, .int .i64 s.2.2.2.2)]) (fun s => St w0 s.1 [(b_2, .cells #[pv1_0, .int .i64 p1.Next] 55 (0, 0)), (b_1, .cells #[.string p0.Name, .int .i64 p0.Sal, pv0_0, pv0_1, pv0_2] 51 (0, 0))] [ob s.2.2.1]) (fun m s => m_s_BindsFor_l1 N p0 p1 p2 m s.2.1 s.2.2.2.1 s.2.2.2.2 = some r ∧ (OSl RTBind 111 4 s.1 [] s.2.2.1 s.2.1) ∧ (RSl (RI .i64) 1 s.1 pG2 pv2 p2) ∧ (RSl RTPat 3 s.1 pG0_0 pv0_0 p0.Pats) ∧ (RSl RTCond 11 s.1 pG0_1 pv0_1 p0.Conds) ∧ (RSl RTAct 5 s.1 pG0_2 pv0_2 p0.Acts) ∧ (RSl RTItem 3 s.1 pG1_0 pv1_0 p1.Items)) (fun s hm => none_ne (show (none : Option ((List TBind) × Bool)) = some r from hm.1)) (fun n1 ih1 s hm => ?_) N (Φ_1, ([] : List TBind), v1, 0, 0) ⟨h, h1, ph2, ph0_0, ph0_1, ph0_2, ph1_0⟩
  obtain ⟨Φ_2, s1, u1, s2, s3⟩ := s
  obtain ⟨h, k1, ph2, ph0_0, ph0_1, ph0_2, ph1_0⟩ := hm
  replace h : m_s_BindsFor_l1 N p0 p1 p2 (n1 + 1) s1 s2 s3 = some r := h
  replace k1 : OSl RTBind 111 4 Φ_2 [] u1 s1 := k1
  replace ph2 : RSl (RI .i64) 1 Φ_2 pG2 pv2 p2 := ph2
  replace ph0_0 : RSl RTPat 3 Φ_2 pG0_0 pv0_0 p0.Pats := ph0_0
  replace ph0_1 : RSl RTCond 11 Φ_2 pG0_1 pv0_1 p0.Conds := ph0_1
  replace ph0_2 : RSl RTAct 5 Φ_2 pG0_2 pv0_2 p0.Acts := ph0_2
  replace ph1_0 : RSl RTItem 3 Φ_2 pG1_0 pv1_0 p1.Items := ph1_0
  show WT _ _ [(2, pv2), (3, .pointer (some ⟨b_1, 0, none⟩)), (4, .pointer (some ⟨b_2, 0, none⟩)), (8, u1), (9, .int .i64 s2), (10, .int .i64 s3)] (St w0 Φ_2 [(b_2, .cells #[pv1_0, .int .i64 p1.Next] 55 (0, 0)), (b_1, .cells #[.string p0.Name, .int .i64 p0.Sal, pv0_0, pv0_1, pv0_2] 51 (0, 0))] [ob u1])
  unfold m_s_BindsFor_l1 at h
  refine WT.seq ?_
  refine WT.seq ?_
  refine WT.region ?_
  refine lq (q_move rfl) rfl ?_
  refine lq (q_fieldAddr Fld_51_2 rfl) rfl ?_
  refine lq (q_load1 T1_47 rfl (fun w1 hw => hw.rgO (i := 1) rfl 2 1 [pv0_0] rfl)) rfl ?_
  refine lq (q_lenR Sl_47 rfl rfl ph0_0) rfl ?_
  refine lq (q_lss rfl rfl) rfl ?_
  refine WL.nil ?_
  refine WT.cond rfl (fun c1 => ?_) (fun c1 => ?_)
  · replace h := ite_t h c1
    refine WT.skip ?_
    refine WT.seq ?_
    refine WT.block ?_
    refine WT.seq ?_
    refine WT.seq ?_
    refine WT.region ?_
    refine lq (q_fieldAddr Fld_51_2 rfl) rfl ?_
    refine lq (q_load1 T1_47 rfl (fun w1 hw => hw.rgO (i := 1) rfl 2 1 [pv0_0] rfl)) rfl ?_
    refine lq (q_move rfl) rfl ?_
    obtain ⟨x1, hx1, h⟩ := bind_some h
    obtain ⟨cs1, F1, -, g1, hb1, hs1, r1⟩ := ph0_0.el (idx_some hx1).2.2
    obtain ⟨v2, G1, rfl, hq1, h2⟩ := r1
    obtain rfl := hq1.symm
    refine lq (q_indexAddr Sl_47 rfl rfl ph0_0 hx1) rfl ?_
    refine lq (q_fieldAddr Fld_94_2 rfl) rfl ?_
    refine lq (q_load1 T1_4 rfl (fun w1 hw => (g1.of_eq 2 1 rfl rfl : rg _ _ _ [.bool x1.Not]).rangeAt hw.fro)) rfl ?_
    refine WL.nil ?_
    refine WT.cond rfl (fun c2 => ?_) (fun c2 => ?_)
    · replace h := ite_t h c2
      refine WT.exit rfl ?_
      refine WT.region ?_
      refine lq (q_move rfl) rfl ?_
      refine lq (q_add rfl rfl) rfl ?_
      refine lq (q_assign rfl) rfl ?_
      refine WL.nil ?_
      refine WT.inLoop (WT.mono (l' := [(2, pv2), (3, .pointer (some ⟨b_1, 0, none⟩)), (4, .pointer (some ⟨b_2, 0, none⟩)), (8, u1), (9, .int .i64 s2), (10, .int .i64 (IntKind.i64.wrap (s3 + 1)))]) (S' := St w0 Φ_2 [(b_2, .cells #[pv1_0, .int .i64 p1.Next] 55 (0, 0)), (b_1, .cells #[.string p0.Name, .int .i64 p0.Sal, pv0_0, pv0_1, pv0_2] 51 (0, 0))] [ob u1]) ⟨rfl, rfl, rfl, rfl, rfl, rfl, trivial⟩ (fun w1 hw => (hw.sel (js := [0]) rfl).selO (js := [0, 0]) rfl) ?_)
      exact ih1 (Φ_2, s1, u1, s2, IntKind.i64.wrap (s3 + 1)) ⟨h, k1, ph2, ph0_0, ph0_1, ph0_2, ph1_0⟩
    replace h := ite_f h c2
    refine WT.skip ?_
    refine WT.seq ?_
    refine WT.seq ?_
    refine WT.region ?_
    refine lq (q_move rfl) rfl ?_
    refine lq (q_move rfl) rfl ?_
    refine lq (q_lenR Sl_41 rfl rfl ph2) rfl ?_
    refine lq (q_geq rfl rfl) rfl ?_
    refine WL.nil ?_
    refine WT.cond rfl (fun c3 => ?_) (fun c3 => ?_)
    · replace h := ite_t h c3
      refine WT.seq ?_
      refine WT.region ?_
      have rc2 : RC RTBind 4 Φ_2 ([] : List (List Nat)) [] ([] : List TBind) := RC.nil _ _ _
      refine le' (e_lit (vs := []) (C := #[]) RTBind.lasts Sl_44 Zr_111 rfl rfl rfl rfl (fill_made MC_111_0 (fill_nil)) rfl rc2 rfl (by simpa using Kw.nil)) rfl (fun v3 Φ_3 D2 q2 => ?_)
      obtain ⟨fr2, h3⟩ := q2
      replace h3 : OSl RTBind 111 4 Φ_3 [] v3 ([] : List TBind) := by simpa using h3
      refine lq (q_assign rfl) rfl ?_
      refine lq (q_assign rfl) rfl ?_
      refine WL.nil ?_
      refine WT.ret Try.func13 (resOk.two rfl rfl) (fun w1 hw => ?_)
      subst hb0
      cases h
      refine postG_of_St (js := [0]) hw rfl ⟨v3, rfl, rfl, h3⟩
    replace h := ite_f h c3
    refine WT.skip ?_
    refine WT.seq ?_
    refine cut (σ := Hp × Nat × (List TVal) × Value × Bool × ByteArray) (fun s => [(2, pv2), (3, .pointer (some ⟨b_1, 0, none⟩)), (4, .pointer (some ⟨b_2, 0, none⟩)), (8, u1), (9, .int .i64 s2), (10, .int .i64 s3), (11, .pointer (some ⟨s.2.1, 0, none⟩)), (12, .bool s.2.2.2.2.1)]) (fun s => St w0 s.1 [(s.2.1, .cells #[.string s.2.2.2.2.2, s.2.2.2.1] 97 (0, 0)), (b_2, .cells #[pv1_0, .int .i64 p1.Next] 55 (0, 0)), (b_1, .cells #[.string p0.Name, .int .i64 p0.Sal, pv0_0, pv0_1, pv0_2] 51 (0, 0))] [ob s.2.2.2.1, ob u1]) (fun s => m_s_BindsFor_j2 N p0 s1 s2 s3 (m_s_BindsFor_l1 N p0 p1 p2 n1) s.2.2.1 s.2.2.2.2.1 s.2.2.2.2.2 = some r ∧ (OSl RTBind 111 4 s.1 [] u1 s1) ∧ (OSl RTVal 109 3 s.1 [] s.2.2.2.1 s.2.2.1) ∧ (RSl (RI .i64) 1 s.1 pG2 pv2 p2) ∧ (RSl RTPat 3 s.1 pG0_0 pv0_0 p0.Pats) ∧ (RSl RTCond 11 s.1 pG0_1 pv0_1 p0.Conds) ∧ (RSl RTAct 5 s.1 pG0_2 pv0_2 p0.Acts) ∧ (RSl RTItem 3 s.1 pG1_0 pv1_0 p1.Items)) (fun s hm => ?_) (fun K => ?_)
    · clear h
      obtain ⟨Φ_5, b_4, s4, u2, s5, s6⟩ := s
      obtain ⟨h, k1, k2, ph2, ph0_0, ph0_1, ph0_2, ph1_0⟩ := hm
      replace h : m_s_BindsFor_j2 N p0 s1 s2 s3 (m_s_BindsFor_l1 N p0 p1 p2 n1) s4 s5 s6 = some r := h
      replace k1 : OSl RTBind 111 4 Φ_5 [] u1 s1 := k1
      replace k2 : OSl RTVal 109 3 Φ_5 [] u2 s4 := k2
      replace ph2 : RSl (RI .i64) 1 Φ_5 pG2 pv2 p2 := ph2
      replace ph0_0 : RSl RTPat 3 Φ_5 pG0_0 pv0_0 p0.Pats := ph0_0
      replace ph0_1 : RSl RTCond 11 Φ_5 pG0_1 pv0_1 p0.Conds := ph0_1
      replace ph0_2 : RSl RTAct 5 Φ_5 pG0_2 pv0_2 p0.Acts := ph0_2
      replace ph1_0 : RSl RTItem 3 Φ_5 pG1_0 pv1_0 p1.Items := ph1_0
      show WT _ _ [(2, pv2), (3, .pointer (some ⟨b_1, 0, none⟩)), (4, .pointer (some ⟨b_2, 0, none⟩)), (8, u1), (9, .int .i64 s2), (10, .int .i64 s3), (11, .pointer (some ⟨b_4, 0, none⟩)), (12, .bool s5)] (St w0 Φ_5 [(b_4, .cells #[.string s6, u2] 97 (0, 0)), (b_2, .cells #[pv1_0, .int .i64 p1.Next] 55 (0, 0)), (b_1, .cells #[.string p0.Name, .int .i64 p0.Sal, pv0_0, pv0_1, pv0_2] 51 (0, 0))] [ob u2, ob u1])
      unfold m_s_BindsFor_j2 at h
      refine WT.seq ?_
      refine WT.mix (Kn Φ_5 pG0_0 [(b_4, .cells #[.string s6, u2] 97 (0, 0)), (b_2, .cells #[pv1_0, .int .i64 p1.Next] 55 (0, 0)), (b_1, .cells #[.string p0.Name, .int .i64 p0.Sal, pv0_0, pv0_1, pv0_2] 51 (0, 0))]) (fun _ => true) mixed (fun _ h => h.drew) ?_
      refine mq 0 rfl (by kernel_rfl) (fun w1 hw => Kn.of (fun _ _ _ h => h) (AllIn.mem ⟨List.mem_of_getElem? (i := 0) rfl, List.mem_of_getElem? (i := 1) rfl, List.mem_of_getElem? (i := 2) rfl, trivial⟩) hw) (q_fieldAddr Fld_51_2 rfl) rfl ?_
      refine mq 1 rfl (by kernel_rfl) (fun w1 hw => Kn.of (fun _ _ _ h => h) (AllIn.mem ⟨List.mem_of_getElem? (i := 0) rfl, List.mem_of_getElem? (i := 1) rfl, List.mem_of_getElem? (i := 2) rfl, trivial⟩) hw) (q_load1 T1_47 rfl (fun w1 hw => hw.rgO (i := 2) rfl 2 1 [pv0_0] rfl)) rfl ?_
      refine mq 2 rfl (by kernel_rfl) (fun w1 hw => Kn.of (fun _ _ _ h => h) (AllIn.mem ⟨List.mem_of_getElem? (i := 0) rfl, List.mem_of_getElem? (i := 1) rfl, List.mem_of_getElem? (i := 2) rfl, trivial⟩) hw) (q_move rfl) rfl ?_
      obtain ⟨x4, hx4, h⟩ := bind_some h
      obtain ⟨cs3, F4, -, g3, hb3, hs3, r3⟩ := ph0_0.el (idx_some hx4).2.2
      obtain ⟨v6, G2, rfl, hq2, h5⟩ := r3
      obtain rfl := hq2.symm
      refine mq 3 rfl (by kernel_rfl) (fun w1 hw => Kn.of (fun _ _ _ h => h) (AllIn.mem ⟨List.mem_of_getElem? (i := 0) rfl, List.mem_of_getElem? (i := 1) rfl, List.mem_of_getElem? (i := 2) rfl, trivial⟩) hw) (q_indexAddr Sl_47 rfl rfl ph0_0 hx4) rfl ?_
      refine mq 4 rfl (by kernel_rfl) (fun w1 hw => Kn.of (fun _ _ _ h => h) (AllIn.mem ⟨List.mem_of_getElem? (i := 0) rfl, List.mem_of_getElem? (i := 1) rfl, List.mem_of_getElem? (i := 2) rfl, trivial⟩) hw) (q_loadN Tn_94 rfl (fun w1 hw => hw.rg hb3 (g3.of_eq 0 3 rfl rfl : rg _ _ _ [.string x4.Kind, v6, .bool x4.Not])) rfl) rfl ?_
      refine mq 5 rfl (by kernel_rfl) (fun w1 hw => Kn.of (fun _ _ _ h => h) (AllIn.mem ⟨List.mem_of_getElem? (i := 0) rfl, List.mem_of_getElem? (i := 1) rfl, List.mem_of_getElem? (i := 2) rfl, trivial⟩) hw) (q_loadN Tn_97 rfl (fun w1 hw => hw.rgO (i := 0) rfl 0 2 [.string s6, u2] rfl) rfl) rfl ?_
      refine mq 6 rfl (by kernel_rfl) (fun w1 hw => Kn.of (fun _ _ _ h => h) (AllIn.mem ⟨List.mem_of_getElem? (i := 0) rfl, List.mem_of_getElem? (i := 1) rfl, List.mem_of_getElem? (i := 2) rfl, trivial⟩) hw) (q_move rfl) rfl ?_
      obtain ⟨x5, hx5, h⟩ := bind_some h
      refine WM.one 7 (by kernel_rfl) (mc rfl (fun _ v Φx D w1 hq hw => Kn.of (fun k hk o ho => hq.2.1 k o ((hq.1.o pa0_0) k hk) ((fun _ _ _ h => h) k hk o ho)) (AllIn.mem ⟨List.mem_of_getElem? (i := 0) rfl, List.mem_of_getElem? (i := 1) rfl, List.mem_of_getElem? (i := 2) rfl, trivial⟩) hw) (k_call (js := []) (R := [ob u2, ob u1]) Fun_53 rfl rfl (fun w1 hw ap hl => m_s_MatchPat_ok hw.fro N x4 (⟨s6, s4⟩ : TFact) s1 h5 k2.rsl k1.rsl  hx5)) rfl (fun v7 Φ_6 F5 q4 => ?_))
      obtain ⟨ap2, fr4, v8, rfl, rfl, h6⟩ := q4
      replace ph2 := ph2.frame RI.lasts fr4 (ap2.o pa2)
      replace ph0_0 := ph0_0.frame RTPat.lasts fr4 (ap2.o pa0_0)
      replace ph0_1 := ph0_1.frame RTCond.lasts fr4 (ap2.o pa0_1)
      replace ph0_2 := ph0_2.frame RTAct.lasts fr4 (ap2.o pa0_2)
      replace ph1_0 := ph1_0.frame RTItem.lasts fr4 (ap2.o pa1_0)
      refine mq 8 rfl (by kernel_rfl) (fun w1 hw => Kn.of (fun k hk o ho => fr4 k o ((ap2.o pa0_0) k hk) ((fun _ _ _ h => h) k hk o ho)) (AllIn.mem ⟨List.mem_of_getElem? (i := 0) rfl, List.mem_of_getElem? (i := 1) rfl, List.mem_of_getElem? (i := 2) rfl, trivial⟩) hw) (q_move rfl) rfl ?_
      refine mq 9 rfl (by kernel_rfl) (fun w1 hw => Kn.of (fun k hk o ho => fr4 k o ((ap2.o pa0_0) k hk) ((fun _ _ _ h => h) k hk o ho)) (AllIn.mem ⟨List.mem_of_getElem? (i := 0) rfl, List.mem_of_getElem? (i := 1) rfl, List.mem_of_getElem? (i := 2) rfl, trivial⟩) hw) (q_extract rfl rfl) rfl ?_
      refine mq 10 rfl (by kernel_rfl) (fun w1 hw => Kn.of (fun k hk o ho => fr4 k o ((ap2.o pa0_0) k hk) ((fun _ _ _ h => h) k hk o ho)) (AllIn.mem ⟨List.mem_of_getElem? (i := 0) rfl, List.mem_of_getElem? (i := 1) rfl, List.mem_of_getElem? (i := 2) rfl, trivial⟩) hw) (q_extract rfl rfl) rfl ?_
      refine mq 11 rfl (by kernel_rfl) (fun w1 hw => Kn.of (fun k hk o ho => fr4 k o ((ap2.o pa0_0) k hk) ((fun _ _ _ h => h) k hk o ho)) (AllIn.mem ⟨List.mem_of_getElem? (i := 0) rfl, List.mem_of_getElem? (i := 1) rfl, List.mem_of_getElem? (i := 2) rfl, trivial⟩) hw) (q_assign rfl) rfl ?_
      refine mq 12 rfl (by kernel_rfl) (fun w1 hw => Kn.of (fun k hk o ho => fr4 k o ((ap2.o pa0_0) k hk) ((fun _ _ _ h => h) k hk o ho)) (AllIn.mem ⟨List.mem_of_getElem? (i := 0) rfl, List.mem_of_getElem? (i := 1) rfl, List.mem_of_getElem? (i := 2) rfl, trivial⟩) hw) (q_assign rfl) rfl ?_
      refine WM.nil (by kernel_rfl) ?_
      refine WT.seq ?_
      refine WT.seq ?_
      refine WT.region ?_
      refine lq (q_move rfl) rfl ?_
      refine lq (q_not rfl) rfl ?_
      refine lq (q_move rfl) rfl ?_
      obtain ⟨b1, hb_1, h⟩ := bind_some h
      refine WL.cutN 3 [(59, .bool b1), (2, pv2), (3, .pointer (some ⟨b_1, 0, none⟩)), (4, .pointer (some ⟨b_2, 0, none⟩)), (9, .int .i64 s2), (10, .int .i64 s3), (13, v8)] ?_ (fun K => ?_)
      rotate_left
      · refine WL.split (d := 56) rfl (fun c4 => ?_) (fun c4 => ?_)
        · replace hb_1 := ite_t hb_1 c4
          refine WL.no rfl rfl rfl rfl ?_
          refine WL.no rfl rfl rfl rfl ?_
          refine WL.q (q_pick1 rfl rfl) rfl rfl rfl ?_
          cases hb_1
          exact WL.keep (by exact ⟨rfl, rfl, rfl, rfl, rfl, rfl, rfl, trivial⟩) K
        · replace hb_1 := ite_f hb_1 c4
          refine WL.yes rfl rfl ?_
          refine lq (q_move rfl) rfl ?_
          refine WL.yes rfl rfl ?_
          refine lq (q_not rfl) rfl ?_
          refine WL.q (q_pick0 rfl rfl) rfl rfl rfl ?_
          cases hb_1
          exact WL.keep (by exact ⟨rfl, rfl, rfl, rfl, rfl, rfl, rfl, trivial⟩) K
      refine WL.nil ?_
      refine WT.cond rfl (fun c5 => ?_) (fun c5 => ?_)
      · replace h := ite_t h c5
        refine WT.seq ?_
        refine WT.region ?_
        have rc3 : RC RTBind 4 Φ_6 ([] : List (List Nat)) [] ([] : List TBind) := RC.nil _ _ _
        refine le' (e_lit (vs := []) (C := #[]) RTBind.lasts Sl_44 Zr_111 rfl rfl rfl rfl (fill_made MC_111_0 (fill_nil)) rfl rc3 rfl (by simpa using Kw.nil)) rfl (fun v9 Φ_7 D3 q5 => ?_)
        obtain ⟨fr5, h7⟩ := q5
        replace h7 : OSl RTBind 111 4 Φ_7 [] v9 ([] : List TBind) := by simpa using h7
        refine lq (q_assign rfl) rfl ?_
        refine lq (q_assign rfl) rfl ?_
        refine WL.nil ?_
        refine WT.ret Try.func13 (resOk.two rfl rfl) (fun w1 hw => ?_)
        subst hb0
        cases h
        refine postG_of_St (js := [0]) hw rfl ⟨v9, rfl, rfl, h7⟩
      replace h := ite_f h c5
      refine WT.skip ?_
      refine WT.seq ?_
      refine WT.region ?_
      refine lq (q_move rfl) rfl ?_
      refine lq (q_assign rfl) rfl ?_
      refine WL.nil ?_
      refine WT.region ?_
      refine lq (q_move rfl) rfl ?_
      refine lq (q_add rfl rfl) rfl ?_
      refine lq (q_assign rfl) rfl ?_
      refine WL.nil ?_
      refine WT.inBlock ?_
      refine WT.region ?_
      refine lq (q_move rfl) rfl ?_
      refine lq (q_add rfl rfl) rfl ?_
      refine lq (q_assign rfl) rfl ?_
      refine WL.nil ?_
      refine WT.inLoop (WT.mono (l' := [(2, pv2), (3, .pointer (some ⟨b_1, 0, none⟩)), (4, .pointer (some ⟨b_2, 0, none⟩)), (8, v8), (9, .int .i64 (IntKind.i64.wrap (s2 + 1))), (10, .int .i64 (IntKind.i64.wrap (s3 + 1)))]) (S' := St w0 Φ_6 [(b_2, .cells #[pv1_0, .int .i64 p1.Next] 55 (0, 0)), (b_1, .cells #[.string p0.Name, .int .i64 p0.Sal, pv0_0, pv0_1, pv0_2] 51 (0, 0))] [ob v8]) ⟨rfl, rfl, rfl, rfl, rfl, rfl, trivial⟩ (fun w1 hw => (hw.sel (js := [0]) rfl).selO (js := [1, 1]) rfl) ?_)
      exact ih1 (Φ_6, x5.1, v8, IntKind.i64.wrap (s2 + 1), IntKind.i64.wrap (s3 + 1)) ⟨h, h6, ph2, ph0_0, ph0_1, ph0_2, ph1_0⟩
    refine WT.mix (Kn Φ_2 pG2 [(b_2, .cells #[pv1_0, .int .i64 p1.Next] 55 (0, 0)), (b_1, .cells #[.string p0.Name, .int .i64 p0.Sal, pv0_0, pv0_1, pv0_2] 51 (0, 0))]) (fun _ => true) mixed (fun _ h => h.drew) ?_
    refine mq 0 rfl (by kernel_rfl) (fun w1 hw => Kn.of (fun _ _ _ h => h) (AllIn.mem ⟨List.mem_of_getElem? (i := 0) rfl, List.mem_of_getElem? (i := 1) rfl, trivial⟩) hw) (q_loadN Tn_55 rfl (fun w1 hw => hw.rgO (i := 0) rfl 0 2 [pv1_0, .int .i64 p1.Next] rfl) rfl) rfl ?_
    refine mq 1 rfl (by kernel_rfl) (fun w1 hw => Kn.of (fun _ _ _ h => h) (AllIn.mem ⟨List.mem_of_getElem? (i := 0) rfl, List.mem_of_getElem? (i := 1) rfl, trivial⟩) hw) (q_move rfl) rfl ?_
    refine mq 2 rfl (by kernel_rfl) (fun w1 hw => Kn.of (fun _ _ _ h => h) (AllIn.mem ⟨List.mem_of_getElem? (i := 0) rfl, List.mem_of_getElem? (i := 1) rfl, trivial⟩) hw) (q_move rfl) rfl ?_
    obtain ⟨x6, hx6, h⟩ := bind_some h
    obtain ⟨cs4, F6, -, g4, hb4, hs4, r4⟩ := ph2.el (idx_some hx6).2.2
    obtain ⟨rfl, -⟩ := r4
    refine mq 3 rfl (by kernel_rfl) (fun w1 hw => Kn.of (fun _ _ _ h => h) (AllIn.mem ⟨List.mem_of_getElem? (i := 0) rfl, List.mem_of_getElem? (i := 1) rfl, trivial⟩) hw) (q_indexAddr Sl_41 rfl rfl ph2 hx6) rfl ?_
    refine mq 4 rfl (by kernel_rfl) (fun w1 hw => Kn.of (fun _ _ _ h => h) (AllIn.mem ⟨List.mem_of_getElem? (i := 0) rfl, List.mem_of_getElem? (i := 1) rfl, trivial⟩) hw) (q_load1 T1_3 rfl (fun w1 hw => hw.rg hb4 (g4.of_eq 0 1 rfl rfl : rg _ _ _ [.int .i64 x6]))) rfl ?_
    refine WM.two 5 9 (by kernel_rfl) ?_ ?_
    · skip
      obtain ⟨x7, hx7, h⟩ := bind_some h
      refine mc rfl (fun _ v Φx D w1 hq hw => Kn.of (fun k hk o ho => hq.2.1 k o ((hq.1.o pa2) k hk) ((fun _ _ _ h => h) k hk o ho)) (AllIn.mem ⟨List.mem_of_getElem? (i := 0) rfl, List.mem_of_getElem? (i := 1) rfl, trivial⟩) hw) (k_call (js := []) (R := [ob u1]) Fun_52 rfl rfl (fun w1 hw ap hl => m_s_FactOf_ok hw.fro N p1 x6 ph1_0  hx7)) rfl (fun v10 Φ_8 F7 q6 => ?_)
      obtain ⟨ap3, fr6, v11, rfl, rfl, h8⟩ := q6
      replace ph2 := ph2.frame RI.lasts fr6 (ap3.o pa2)
      replace ph0_0 := ph0_0.frame RTPat.lasts fr6 (ap3.o pa0_0)
      replace ph0_1 := ph0_1.frame RTCond.lasts fr6 (ap3.o pa0_1)
      replace ph0_2 := ph0_2.frame RTAct.lasts fr6 (ap3.o pa0_2)
      replace ph1_0 := ph1_0.frame RTItem.lasts fr6 (ap3.o pa1_0)
      replace k1 := k1.frame RTBind.lasts fr6 (ap3.r (i := 0) rfl) (Dj.nil _)
      refine mq 6 rfl (by kernel_rfl) (fun w1 hw => Kn.of (fun k hk o ho => fr6 k o ((ap3.o pa2) k hk) ((fun _ _ _ h => h) k hk o ho)) (AllIn.mem ⟨List.mem_of_getElem? (i := 0) rfl, List.mem_of_getElem? (i := 1) rfl, trivial⟩) hw) (q_move rfl) rfl ?_
      refine mq 7 rfl (by kernel_rfl) (fun w1 hw => Kn.of (fun k hk o ho => fr6 k o ((ap3.o pa2) k hk) ((fun _ _ _ h => h) k hk o ho)) (AllIn.mem ⟨List.mem_of_getElem? (i := 0) rfl, List.mem_of_getElem? (i := 1) rfl, trivial⟩) hw) (q_extract rfl rfl) rfl ?_
      refine mq 8 rfl (by kernel_rfl) (fun w1 hw => Kn.of (fun k hk o ho => fr6 k o ((ap3.o pa2) k hk) ((fun _ _ _ h => h) k hk o ho)) (AllIn.mem ⟨List.mem_of_getElem? (i := 0) rfl, List.mem_of_getElem? (i := 1) rfl, trivial⟩) hw) (q_extract rfl rfl) rfl ?_
      refine WM.one 9 (by kernel_rfl) (mn rfl (fun _ b w1 hw => Kn.of (fun k hk o ho => fr6 k o ((ap3.o pa2) k hk) ((fun _ _ _ h => h) k hk o ho)) (AllIn.mem ⟨List.mem_of_getElem? (i := 1) rfl, List.mem_of_getElem? (i := 2) rfl, trivial⟩) hw) (n_alloc (C := #[.string (⟨#[]⟩ : ByteArray), .slice none 0 0]) Zr_97 rfl) rfl (fun b_5 => ?_))
      refine WM.one 10 (by kernel_rfl) (ms rfl (fun _ w1 hw => Kn.of (fun k hk o ho => fr6 k o ((ap3.o pa2) k hk) ((fun _ _ _ h => h) k hk o ho)) (AllIn.mem ⟨List.mem_of_getElem? (i := 1) rfl, List.mem_of_getElem? (i := 2) rfl, trivial⟩) hw) (s_store (i := 0) (vs := [.string x7.1.Kind, v11]) (C' := [.string x7.1.Kind, v11]) (O' := [(b_5, .cells #[.string x7.1.Kind, v11] 97 (0, 0)), (b_2, .cells #[pv1_0, .int .i64 p1.Next] 55 (0, 0)), (b_1, .cells #[.string p0.Name, .int .i64 p0.Sal, pv0_0, pv0_1, pv0_2] 51 (0, 0))]) Sz_97 rfl rfl rfl rfl rfl rfl ⟨rfl, h8.one, trivial⟩ rfl rfl) rfl ?_)
      refine mq 11 rfl (by kernel_rfl) (fun w1 hw => Kn.of (fun k hk o ho => fr6 k o ((ap3.o pa2) k hk) ((fun _ _ _ h => h) k hk o ho)) (AllIn.mem ⟨List.mem_of_getElem? (i := 1) rfl, List.mem_of_getElem? (i := 2) rfl, trivial⟩) hw) (q_assign rfl) rfl ?_
      refine WM.nil (by kernel_rfl) ?_
      refine WT.mono (l' := [(2, pv2), (3, .pointer (some ⟨b_1, 0, none⟩)), (4, .pointer (some ⟨b_2, 0, none⟩)), (8, u1), (9, .int .i64 s2), (10, .int .i64 s3), (11, .pointer (some ⟨b_5, 0, none⟩)), (12, .bool x7.2)]) (S' := St w0 Φ_8 [(b_5, .cells #[.string x7.1.Kind, v11] 97 (0, 0)), (b_2, .cells #[pv1_0, .int .i64 p1.Next] 55 (0, 0)), (b_1, .cells #[.string p0.Name, .int .i64 p0.Sal, pv0_0, pv0_1, pv0_2] 51 (0, 0))] [ob v11, ob u1]) ⟨rfl, rfl, rfl, rfl, rfl, rfl, rfl, rfl, trivial⟩ (fun w1 hw => (hw.sel (js := [0, 0]) rfl).selO (js := [0, 0, 0]) rfl) ?_
      exact K (Φ_8, b_5, x7.1.Fields, v11, x7.2, x7.1.Kind) ⟨h, k1, h8, ph2, ph0_0, ph0_1, ph0_2, ph1_0⟩
    refine mn rfl (fun _ b w1 hw => Kn.of (fun _ _ _ h => h) (AllIn.mem ⟨List.mem_of_getElem? (i := 1) rfl, List.mem_of_getElem? (i := 2) rfl, trivial⟩) hw) (n_alloc (C := #[.string (⟨#[]⟩ : ByteArray), .slice none 0 0]) Zr_97 rfl) rfl (fun b_6 => ?_)
    obtain ⟨x8, hx8, h⟩ := bind_some h
    refine WM.one 5 (by kernel_rfl) (mc rfl (fun _ v Φx D w1 hq hw => Kn.of (fun k hk o ho => hq.2.1 k o ((hq.1.o pa2) k hk) ((fun _ _ _ h => h) k hk o ho)) (AllIn.mem ⟨List.mem_of_getElem? (i := 1) rfl, List.mem_of_getElem? (i := 2) rfl, trivial⟩) hw) (k_call (js := []) (R := [ob u1]) Fun_52 rfl rfl (fun w1 hw ap hl => m_s_FactOf_ok hw.fro N p1 x6 ph1_0  hx8)) rfl (fun v12 Φ_9 F8 q7 => ?_))
    obtain ⟨ap4, fr7, v13, rfl, rfl, h9⟩ := q7
    replace ph2 := ph2.frame RI.lasts fr7 (ap4.o pa2)
    replace ph0_0 := ph0_0.frame RTPat.lasts fr7 (ap4.o pa0_0)
    replace ph0_1 := ph0_1.frame RTCond.lasts fr7 (ap4.o pa0_1)
    replace ph0_2 := ph0_2.frame RTAct.lasts fr7 (ap4.o pa0_2)
    replace ph1_0 := ph1_0.frame RTItem.lasts fr7 (ap4.o pa1_0)
    replace k1 := k1.frame RTBind.lasts fr7 (ap4.r (i := 0) rfl) (Dj.nil _)
    refine mq 6 rfl (by kernel_rfl) (fun w1 hw => Kn.of (fun k hk o ho => fr7 k o ((ap4.o pa2) k hk) ((fun _ _ _ h => h) k hk o ho)) (AllIn.mem ⟨List.mem_of_getElem? (i := 1) rfl, List.mem_of_getElem? (i := 2) rfl, trivial⟩) hw) (q_move rfl) rfl ?_
    refine mq 7 rfl (by kernel_rfl) (fun w1 hw => Kn.of (fun k hk o ho => fr7 k o ((ap4.o pa2) k hk) ((fun _ _ _ h => h) k hk o ho)) (AllIn.mem ⟨List.mem_of_getElem? (i := 1) rfl, List.mem_of_getElem? (i := 2) rfl, trivial⟩) hw) (q_extract rfl rfl) rfl ?_
    refine mq 8 rfl (by kernel_rfl) (fun w1 hw => Kn.of (fun k hk o ho => fr7 k o ((ap4.o pa2) k hk) ((fun _ _ _ h => h) k hk o ho)) (AllIn.mem ⟨List.mem_of_getElem? (i := 1) rfl, List.mem_of_getElem? (i := 2) rfl, trivial⟩) hw) (q_extract rfl rfl) rfl ?_
    refine WM.one 10 (by kernel_rfl) (ms rfl (fun _ w1 hw => Kn.of (fun k hk o ho => fr7 k o ((ap4.o pa2) k hk) ((fun _ _ _ h => h) k hk o ho)) (AllIn.mem ⟨List.mem_of_getElem? (i := 1) rfl, List.mem_of_getElem? (i := 2) rfl, trivial⟩) hw) (s_store (i := 0) (vs := [.string x8.1.Kind, v13]) (C' := [.string x8.1.Kind, v13]) (O' := [(b_6, .cells #[.string x8.1.Kind, v13] 97 (0, 0)), (b_2, .cells #[pv1_0, .int .i64 p1.Next] 55 (0, 0)), (b_1, .cells #[.string p0.Name, .int .i64 p0.Sal, pv0_0, pv0_1, pv0_2] 51 (0, 0))]) Sz_97 rfl rfl rfl rfl rfl rfl ⟨rfl, h9.one, trivial⟩ rfl rfl) rfl ?_)
    refine mq 11 rfl (by kernel_rfl) (fun w1 hw => Kn.of (fun k hk o ho => fr7 k o ((ap4.o pa2) k hk) ((fun _ _ _ h => h) k hk o ho)) (AllIn.mem ⟨List.mem_of_getElem? (i := 1) rfl, List.mem_of_getElem? (i := 2) rfl, trivial⟩) hw) (q_assign rfl) rfl ?_
    refine WM.nil (by kernel_rfl) ?_
    refine WT.mono (l' := [(2, pv2), (3, .pointer (some ⟨b_1, 0, none⟩)), (4, .pointer (some ⟨b_2, 0, none⟩)), (8, u1), (9, .int .i64 s2), (10, .int .i64 s3), (11, .pointer (some ⟨b_6, 0, none⟩)), (12, .bool x8.2)]) (S' := St w0 Φ_9 [(b_6, .cells #[.string x8.1.Kind, v13] 97 (0, 0)), (b_2, .cells #[pv1_0, .int .i64 p1.Next] 55 (0, 0)), (b_1, .cells #[.string p0.Name, .int .i64 p0.Sal, pv0_0, pv0_1, pv0_2] 51 (0, 0))] [ob v13, ob u1]) ⟨rfl, rfl, rfl, rfl, rfl, rfl, rfl, rfl, trivial⟩ (fun w1 hw => (hw.sel (js := [0, 0]) rfl).selO (js := [0, 0, 0]) rfl) ?_
    exact K (Φ_9, b_6, x8.1.Fields, v13, x8.2, x8.1.Kind) ⟨h, k1, h9, ph2, ph0_0, ph0_1, ph0_2, ph1_0⟩
  replace h := ite_f h c1
  refine WT.exit rfl ?_
  refine WT.seq ?_
  refine WT.seq ?_
  refine WT.region ?_
  refine lq (q_move rfl) rfl ?_
  refine lq (q_move rfl) rfl ?_
  refine lq (q_lenR Sl_41 rfl rfl ph2) rfl ?_
  refine lq (q_neq rfl rfl) rfl ?_
  refine WL.nil ?_
  refine WT.cond rfl (fun c6 => ?_) (fun c6 => ?_)
  · replace h := ite_t h c6
    refine WT.seq ?_
    refine WT.region ?_
    have rc4 : RC RTBind 4 Φ_2 ([] : List (List Nat)) [] ([] : List TBind) := RC.nil _ _ _
    refine le' (e_lit (vs := []) (C := #[]) RTBind.lasts Sl_44 Zr_111 rfl rfl rfl rfl (fill_made MC_111_0 (fill_nil)) rfl rc4 rfl (by simpa using Kw.nil)) rfl (fun v14 Φ_10 D4 q8 => ?_)
    obtain ⟨fr8, h10⟩ := q8
    replace h10 : OSl RTBind 111 4 Φ_10 [] v14 ([] : List TBind) := by simpa using h10
    refine lq (q_assign rfl) rfl ?_
    refine lq (q_assign rfl) rfl ?_
    refine WL.nil ?_
    refine WT.ret Try.func13 (resOk.two rfl rfl) (fun w1 hw => ?_)
    subst hb0
    cases h
    refine postG_of_St (js := [0]) hw rfl ⟨v14, rfl, rfl, h10⟩
  replace h := ite_f h c6
  refine WT.skip ?_
  refine WT.seq ?_
  refine WT.region ?_
  refine lq (q_move rfl) rfl ?_
  refine lq (q_assign rfl) rfl ?_
  refine lq (q_assign rfl) rfl ?_
  refine WL.nil ?_
  refine WT.ret Try.func13 (resOk.two rfl rfl) (fun w1 hw => ?_)
  subst hb0
  cases h
  refine postG_of_St (js := [0]) hw rfl ⟨u1, rfl, rfl, k1⟩
theorem m_l_toVal_ok {Φ : Hp} {w : World} (hΦ : In Φ w) (N : Nat) (p0 : TVal)   {r : TVal} (h : m_l_toVal N p0 = some r) :
    Calls Try.prog 172 [.agg [.int .i64 p0.K, .int .i64 p0.N, .string p0.S].toArray].toArray w (Post (.agg [.int .i64 r.K, .int .i64 r.N, .string r.S].toArray) w) := by
  refine enter Try.func172 rfl Try.ntmps172 rfl (St.start0 hΦ) ?_
  unfold m_l_toVal at h
  refine WT.seq ?_
  refine WT.region ?_
  refine ln (n_box (C := #[.int .i64 p0.K, .int .i64 p0.N, .string p0.S]) rfl rfl) rfl (fun b_1 => ?_)
  refine ln (n_alloc (C := #[.int .i64 0, .int .i64 0, .string (⟨#[]⟩ : ByteArray)]) Zr_109 rfl) rfl (fun b_2 => ?_)
  refine WL.nil ?_
  refine WT.seq ?_
  refine WT.region ?_
  refine ln (n_alloc (C := #[.int .i64 0, .int .i64 0, .string (⟨#[]⟩ : ByteArray)]) Zr_109 rfl) rfl (fun b_3 => ?_)
  refine WL.nil ?_
  refine WT.seq ?_
  refine WT.region ?_
  refine lq (q_fieldAddr Fld_155_0 rfl) rfl ?_
  refine lq (q_load1 T1_3 rfl (fun w1 hw => hw.rgO (i := 2) rfl 0 1 [.int .i64 p0.K] rfl)) rfl ?_
  refine lq (q_fieldAddr Fld_109_0 rfl) rfl ?_
  refine ls (s_store (i := 0) (vs := [.int .i64 p0.K]) (C' := [.int .i64 p0.K, .int .i64 0, .string (⟨#[]⟩ : ByteArray)]) (O' := [(b_3, .cells #[.int .i64 p0.K, .int .i64 0, .string (⟨#[]⟩ : ByteArray)] 109 (0, 0)), (b_2, .cells #[.int .i64 0, .int .i64 0, .string (⟨#[]⟩ : ByteArray)] 109 (0, 0)), (b_1, .cells #[.int .i64 p0.K, .int .i64 p0.N, .string p0.S] 155 (0, 0))]) Sz_3 rfl rfl rfl rfl rfl rfl ⟨rfl, trivial⟩ rfl rfl) rfl ?_
  refine WL.nil ?_
  refine WT.seq ?_
  refine WT.region ?_
  refine lq (q_fieldAddr Fld_155_1 rfl) rfl ?_
  refine lq (q_load1 T1_3 rfl (fun w1 hw => hw.rgO (i := 2) rfl 1 1 [.int .i64 p0.N] rfl)) rfl ?_
  refine lq (q_fieldAddr Fld_109_1 rfl) rfl ?_
  refine ls (s_store (i := 0) (vs := [.int .i64 p0.N]) (C' := [.int .i64 p0.K, .int .i64 p0.N, .string (⟨#[]⟩ : ByteArray)]) (O' := [(b_3, .cells #[.int .i64 p0.K, .int .i64 p0.N, .string (⟨#[]⟩ : ByteArray)] 109 (0, 0)), (b_2, .cells #[.int .i64 0, .int .i64 0, .string (⟨#[]⟩ : ByteArray)] 109 (0, 0)), (b_1, .cells #[.int .i64 p0.K, .int .i64 p0.N, .string p0.S] 155 (0, 0))]) Sz_3 rfl rfl rfl rfl rfl rfl ⟨rfl, trivial⟩ rfl rfl) rfl ?_
  refine WL.nil ?_
  refine WT.seq ?_
  refine WT.region ?_
  refine lq (q_fieldAddr Fld_155_2 rfl) rfl ?_
  refine lq (q_load1 T1_9 rfl (fun w1 hw => hw.rgO (i := 2) rfl 2 1 [.string p0.S] rfl)) rfl ?_
  refine lq (q_fieldAddr Fld_109_2 rfl) rfl ?_
  refine ls (s_store (i := 0) (vs := [.string p0.S]) (C' := [.int .i64 p0.K, .int .i64 p0.N, .string p0.S]) (O' := [(b_3, .cells #[.int .i64 p0.K, .int .i64 p0.N, .string p0.S] 109 (0, 0)), (b_2, .cells #[.int .i64 0, .int .i64 0, .string (⟨#[]⟩ : ByteArray)] 109 (0, 0)), (b_1, .cells #[.int .i64 p0.K, .int .i64 p0.N, .string p0.S] 155 (0, 0))]) Sz_9 rfl rfl rfl rfl rfl rfl ⟨rfl, trivial⟩ rfl rfl) rfl ?_
  refine WL.nil ?_
  refine WT.seq ?_
  refine WT.region ?_
  refine lq (q_loadN Tn_109 rfl (fun w1 hw => hw.rgO (i := 0) rfl 0 3 [.int .i64 p0.K, .int .i64 p0.N, .string p0.S] rfl) rfl) rfl ?_
  refine ls (s_store (i := 1) (vs := [.int .i64 p0.K, .int .i64 p0.N, .string p0.S]) (C' := [.int .i64 p0.K, .int .i64 p0.N, .string p0.S]) (O' := [(b_3, .cells #[.int .i64 p0.K, .int .i64 p0.N, .string p0.S] 109 (0, 0)), (b_2, .cells #[.int .i64 p0.K, .int .i64 p0.N, .string p0.S] 109 (0, 0)), (b_1, .cells #[.int .i64 p0.K, .int .i64 p0.N, .string p0.S] 155 (0, 0))]) Sz_109 rfl rfl rfl rfl rfl rfl ⟨rfl, rfl, rfl, trivial⟩ rfl rfl) rfl ?_
  refine WL.nil ?_
  refine WT.ret Try.func172 (resOk.one (rv_cell Tn_109 rfl (fun w1 hw => hw.rgO (i := 1) rfl 0 3 [.int .i64 p0.K, .int .i64 p0.N, .string p0.S] rfl) rfl)) (fun w1 hw => ?_)
  cases h
  exact post_of_St hw
theorem m_l_toArg_ok {Φ : Hp} {w : World} (hΦ : In Φ w) (N : Nat) (p0 : TArg)   {r : TArg} (h : m_l_toArg N p0 = some r) :
    Calls Try.prog 148 [.agg [.int .i64 p0.K, .string p0.S, .int .i64 p0.V.K, .int .i64 p0.V.N, .string p0.V.S].toArray].toArray w (Post (.agg [.int .i64 r.K, .string r.S, .int .i64 r.V.K, .int .i64 r.V.N, .string r.V.S].toArray) w) := by
  refine enter Try.func148 rfl Try.ntmps148 rfl (St.start0 hΦ) ?_
  unfold m_l_toArg at h
  refine WT.seq ?_
  refine WT.region ?_
  refine ln (n_box (C := #[.int .i64 p0.K, .string p0.S, .int .i64 p0.V.K, .int .i64 p0.V.N, .string p0.V.S]) rfl rfl) rfl (fun b_1 => ?_)
  refine ln (n_alloc (C := #[.int .i64 0, .string (⟨#[]⟩ : ByteArray), .int .i64 0, .int .i64 0, .string (⟨#[]⟩ : ByteArray)]) Zr_140 rfl) rfl (fun b_2 => ?_)
  refine WL.nil ?_
  refine WT.seq ?_
  refine WT.region ?_
  refine ln (n_alloc (C := #[.int .i64 0, .string (⟨#[]⟩ : ByteArray), .int .i64 0, .int .i64 0, .string (⟨#[]⟩ : ByteArray)]) Zr_140 rfl) rfl (fun b_3 => ?_)
  refine WL.nil ?_
  refine WT.seq ?_
  refine WT.region ?_
  refine lq (q_fieldAddr Fld_157_0 rfl) rfl ?_
  refine lq (q_load1 T1_3 rfl (fun w1 hw => hw.rgO (i := 2) rfl 0 1 [.int .i64 p0.K] rfl)) rfl ?_
  refine lq (q_fieldAddr Fld_140_0 rfl) rfl ?_
  refine ls (s_store (i := 0) (vs := [.int .i64 p0.K]) (C' := [.int .i64 p0.K, .string (⟨#[]⟩ : ByteArray), .int .i64 0, .int .i64 0, .string (⟨#[]⟩ : ByteArray)]) (O' := [(b_3, .cells #[.int .i64 p0.K, .string (⟨#[]⟩ : ByteArray), .int .i64 0, .int .i64 0, .string (⟨#[]⟩ : ByteArray)] 140 (0, 0)), (b_2, .cells #[.int .i64 0, .string (⟨#[]⟩ : ByteArray), .int .i64 0, .int .i64 0, .string (⟨#[]⟩ : ByteArray)] 140 (0, 0)), (b_1, .cells #[.int .i64 p0.K, .string p0.S, .int .i64 p0.V.K, .int .i64 p0.V.N, .string p0.V.S] 157 (0, 0))]) Sz_3 rfl rfl rfl rfl rfl rfl ⟨rfl, trivial⟩ rfl rfl) rfl ?_
  refine WL.nil ?_
  refine WT.seq ?_
  refine WT.region ?_
  refine lq (q_fieldAddr Fld_157_1 rfl) rfl ?_
  refine lq (q_load1 T1_9 rfl (fun w1 hw => hw.rgO (i := 2) rfl 1 1 [.string p0.S] rfl)) rfl ?_
  refine lq (q_fieldAddr Fld_140_1 rfl) rfl ?_
  refine ls (s_store (i := 0) (vs := [.string p0.S]) (C' := [.int .i64 p0.K, .string p0.S, .int .i64 0, .int .i64 0, .string (⟨#[]⟩ : ByteArray)]) (O' := [(b_3, .cells #[.int .i64 p0.K, .string p0.S, .int .i64 0, .int .i64 0, .string (⟨#[]⟩ : ByteArray)] 140 (0, 0)), (b_2, .cells #[.int .i64 0, .string (⟨#[]⟩ : ByteArray), .int .i64 0, .int .i64 0, .string (⟨#[]⟩ : ByteArray)] 140 (0, 0)), (b_1, .cells #[.int .i64 p0.K, .string p0.S, .int .i64 p0.V.K, .int .i64 p0.V.N, .string p0.V.S] 157 (0, 0))]) Sz_9 rfl rfl rfl rfl rfl rfl ⟨rfl, trivial⟩ rfl rfl) rfl ?_
  refine WL.nil ?_
  refine WT.seq ?_
  refine WT.region ?_
  refine lq (q_fieldAddr Fld_157_2 rfl) rfl ?_
  refine lq (q_loadN Tn_155 rfl (fun w1 hw => hw.rgO (i := 2) rfl 2 3 [.int .i64 p0.V.K, .int .i64 p0.V.N, .string p0.V.S] rfl) rfl) rfl ?_
  obtain ⟨x1, hx1, h⟩ := bind_some h
  refine lp (p_call Fun_172 rfl (fun w1 hw => m_l_toVal_ok hw.fro N p0.V hx1)) rfl ?_
  refine lq (q_fieldAddr Fld_140_2 rfl) rfl ?_
  refine ls (s_store (i := 0) (vs := [.int .i64 x1.K, .int .i64 x1.N, .string x1.S]) (C' := [.int .i64 p0.K, .string p0.S, .int .i64 x1.K, .int .i64 x1.N, .string x1.S]) (O' := [(b_3, .cells #[.int .i64 p0.K, .string p0.S, .int .i64 x1.K, .int .i64 x1.N, .string x1.S] 140 (0, 0)), (b_2, .cells #[.int .i64 0, .string (⟨#[]⟩ : ByteArray), .int .i64 0, .int .i64 0, .string (⟨#[]⟩ : ByteArray)] 140 (0, 0)), (b_1, .cells #[.int .i64 p0.K, .string p0.S, .int .i64 p0.V.K, .int .i64 p0.V.N, .string p0.V.S] 157 (0, 0))]) Sz_109 rfl rfl rfl rfl rfl rfl ⟨rfl, rfl, rfl, trivial⟩ rfl rfl) rfl ?_
  refine WL.nil ?_
  refine WT.seq ?_
  refine WT.region ?_
  refine lq (q_loadN Tn_140 rfl (fun w1 hw => hw.rgO (i := 0) rfl 0 5 [.int .i64 p0.K, .string p0.S, .int .i64 x1.K, .int .i64 x1.N, .string x1.S] rfl) rfl) rfl ?_
  refine ls (s_store (i := 1) (vs := [.int .i64 p0.K, .string p0.S, .int .i64 x1.K, .int .i64 x1.N, .string x1.S]) (C' := [.int .i64 p0.K, .string p0.S, .int .i64 x1.K, .int .i64 x1.N, .string x1.S]) (O' := [(b_3, .cells #[.int .i64 p0.K, .string p0.S, .int .i64 x1.K, .int .i64 x1.N, .string x1.S] 140 (0, 0)), (b_2, .cells #[.int .i64 p0.K, .string p0.S, .int .i64 x1.K, .int .i64 x1.N, .string x1.S] 140 (0, 0)), (b_1, .cells #[.int .i64 p0.K, .string p0.S, .int .i64 p0.V.K, .int .i64 p0.V.N, .string p0.V.S] 157 (0, 0))]) Sz_140 rfl rfl rfl rfl rfl rfl ⟨rfl, rfl, rfl, rfl, rfl, trivial⟩ rfl rfl) rfl ?_
  refine WL.nil ?_
  refine WT.ret Try.func148 (resOk.one (rv_cell Tn_140 rfl (fun w1 hw => hw.rgO (i := 1) rfl 0 5 [.int .i64 p0.K, .string p0.S, .int .i64 x1.K, .int .i64 x1.N, .string x1.S] rfl) rfl)) (fun w1 hw => ?_)
  cases h
  exact post_of_St hw
theorem m_l_toArgS_ok {Φ : Hp} {w : World} (hΦ : In Φ w) (N : Nat) (p0 : (List TArg)) {pv0 : Value} {pG0 : List Nat} (ph0 : RSl RTArg 5 Φ pG0 pv0 p0) {r : (List TArg)} (h : m_l_toArgS N p0 = some r) :
    Calls Try.prog 147 [pv0].toArray w (PostG Φ w [] (fun Φ' Fs v => ∃ (sr_0_0 : Value), v = sr_0_0 ∧ Fs = [ob sr_0_0] ∧ OSl RTArg 140 5 Φ' [] sr_0_0 r)) := by
  refine enter Try.func147 rfl Try.ntmps147 rfl (St.start0 hΦ) ?_
  have pa0 : Old ⟨w, [], Φ⟩ pG0 := Old.mk hΦ ph0.kn (Dj.empty _)
  revert pa0
  generalize hb0 : (⟨w, [], Φ⟩ : Base) = w0
  intro pa0
  unfold m_l_toArgS at h
  refine WT.seq ?_
  refine WT.region ?_
  refine lq (q_assign rfl) rfl ?_
  refine WL.nil ?_
  refine WT.seq ?_
  refine WT.region ?_
  refine lq (q_move rfl) rfl ?_
  refine lq (q_lenR Sl_151 rfl rfl ph0) rfl ?_
  obtain ⟨x1, hx1, h⟩ := bind_some h
  refine le' (e_make (R := RTArg) Sl_92 Zr_140 By_140 rfl rfl rfl (fun _ => ⟨rfl, rfl⟩) rfl rfl (Int.le_refl _) hx1 (mk_le hx1)) rfl (fun v1 Φ_1 D1 q1 => ?_)
  obtain ⟨fr1, h1⟩ := q1
  replace ph0 := ph0.frame RTArg.lasts fr1 (Dj.empty _)
  refine lq (q_assign rfl) rfl ?_
  refine WL.nil ?_
  refine WT.seq ?_
  refine WT.seq ?_
  refine WT.region ?_
  refine lq (q_assign rfl) rfl ?_
  refine WL.nil ?_
  refine WT.block ?_
  refine WT.loop ?_
  refine WT.mono (l' := [(0, pv0), (3, v1), (4, .int .i64 0)]) (S' := St w0 Φ_1 [] [ob v1]) ⟨rfl, rfl, rfl, trivial⟩ (fun w1 hw => (hw.sel (js := [0]) rfl).selO (js := []) rfl) ?_
  refine loop_ind (σ := Hp × (List TArg) × Int) (fun s => [(0, pv0), (3, v1), (4, .int .i64 s.2.2)]) (fun s => St w0 s.1 [] [ob v1]) (fun m s => m_l_toArgS_l1 N p0 m s.2.1 s.2.2 = some r ∧ (OSl RTArg 140 5 s.1 [] v1 s.2.1) ∧ (RSl RTArg 5 s.1 pG0 pv0 p0)) (fun s hm => none_ne (show (none : Option ((List TArg))) = some r from hm.1)) (fun n1 ih1 s hm => ?_) N (Φ_1, x1, 0) ⟨h, h1, ph0⟩
  obtain ⟨Φ_2, s1, s2⟩ := s
  obtain ⟨h, k1, ph0⟩ := hm
  replace h : m_l_toArgS_l1 N p0 (n1 + 1) s1 s2 = some r := h
  replace k1 : OSl RTArg 140 5 Φ_2 [] v1 s1 := k1
  replace ph0 : RSl RTArg 5 Φ_2 pG0 pv0 p0 := ph0
  show WT _ _ [(0, pv0), (3, v1), (4, .int .i64 s2)] (St w0 Φ_2 [] [ob v1])
  unfold m_l_toArgS_l1 at h
  refine WT.seq ?_
  refine WT.seq ?_
  refine WT.region ?_
  refine lq (q_move rfl) rfl ?_
  refine lq (q_move rfl) rfl ?_
  refine lq (q_lenR Sl_151 rfl rfl ph0) rfl ?_
  refine lq (q_lss rfl rfl) rfl ?_
  refine WL.nil ?_
  refine WT.cond rfl (fun c1 => ?_) (fun c1 => ?_)
  · replace h := ite_t h c1
    refine WT.skip ?_
    refine WT.seq ?_
    refine WT.block ?_
    refine WT.region ?_
    refine lq (q_move rfl) rfl ?_
    refine lq (q_move rfl) rfl ?_
    refine lq (q_move rfl) rfl ?_
    refine lq (q_move rfl) rfl ?_
    obtain ⟨x2, hx2, h⟩ := bind_some h
    obtain ⟨cs1, F1, -, g1, hb1, hs1, r1⟩ := ph0.el (idx_some hx2).2.2
    obtain ⟨rfl, -⟩ := r1
    refine lq (q_indexAddr Sl_151 rfl rfl ph0 hx2) rfl ?_
    refine lq (q_loadN Tn_157 rfl (fun w1 hw => (g1.of_eq 0 5 rfl rfl : rg _ _ _ [.int .i64 x2.K, .string x2.S, .int .i64 x2.V.K, .int .i64 x2.V.N, .string x2.V.S]).rangeAt hw.fro) rfl) rfl ?_
    obtain ⟨x3, hx3, h⟩ := bind_some h
    refine lp (p_call Fun_148 rfl (fun w1 hw => m_l_toArg_ok hw.fro N x2 hx3)) rfl ?_
    obtain ⟨x4, hx4, h⟩ := bind_some h
    obtain ⟨cs2, F2, -, g2, hb2, hs2, r2⟩ := k1.elS (idx_some hx4).2.2
    obtain ⟨rfl, -⟩ := r2
    refine lq (q_indexAddr Sl_92 rfl rfl k1.rsl hx4) rfl ?_
    refine lu (u_setF (js := [0]) (Rr := []) (vs := [.int .i64 x3.K, .string x3.S, .int .i64 x3.V.K, .int .i64 x3.V.N, .string x3.V.S]) (x' := x3) RTArg.lasts RTArg.flat Sz_140 rfl rfl rfl rfl ⟨rfl, rfl, rfl, rfl, rfl, trivial⟩ rfl k1 (idx_lt hx4) ⟨rfl, rfl⟩) rfl (fun Φ_3 D2 q2 => ?_)
    obtain ⟨⟨ap1, fr2⟩, h2⟩ := q2
    replace ph0 := ph0.frame RTArg.lasts fr2 (ap1.o pa0)
    refine WL.nil ?_
    refine WT.inBlock ?_
    refine WT.region ?_
    refine lq (q_move rfl) rfl ?_
    refine lq (q_add rfl rfl) rfl ?_
    refine lq (q_assign rfl) rfl ?_
    refine WL.nil ?_
    refine WT.inLoop (WT.mono (l' := [(0, pv0), (3, v1), (4, .int .i64 (IntKind.i64.wrap (s2 + 1)))]) (S' := St w0 Φ_3 [] [ob v1]) ⟨rfl, rfl, rfl, trivial⟩ (fun w1 hw => (hw.sel (js := [0]) rfl).selO (js := []) rfl) ?_)
    exact ih1 (Φ_3, (s1.set s2.toNat x3), IntKind.i64.wrap (s2 + 1)) ⟨h, h2, ph0⟩
  replace h := ite_f h c1
  refine WT.exit rfl ?_
  refine WT.seq ?_
  refine WT.region ?_
  refine lq (q_move rfl) rfl ?_
  refine lq (q_assign rfl) rfl ?_
  refine WL.nil ?_
  refine WT.ret Try.func147 (resOk.one rfl) (fun w1 hw => ?_)
  subst hb0
  cases h
  refine postG_of_St (js := [0]) hw rfl ⟨v1, rfl, rfl, k1⟩
theorem m_l_toPat_ok {Φ : Hp} {w : World} (hΦ : In Φ w) (N : Nat) (p0 : TPat) {pv0_0 : Value} {pG0_0 : List Nat} (ph0_0 : RSl RTArg 5 Φ pG0_0 pv0_0 p0.Args) {r : TPat} (h : m_l_toPat N p0 = some r) :
    Calls Try.prog 105 [.agg [.string p0.Kind, pv0_0, .bool p0.Not].toArray].toArray w (PostG Φ w [] (fun Φ' Fs v => ∃ (sr_0_0 : Value), v = .agg [.string r.Kind, sr_0_0, .bool r.Not].toArray ∧ Fs = [ob sr_0_0] ∧ OSl RTArg 140 5 Φ' [] sr_0_0 r.Args)) := by
  refine enter Try.func105 rfl Try.ntmps105 rfl (St.start0 hΦ) ?_
  have pa0_0 : Old ⟨w, [], Φ⟩ pG0_0 := Old.mk hΦ ph0_0.kn (Dj.empty _)
  unfold m_l_toPat at h
  refine WT.seq ?_
  refine WT.region ?_
  refine ln (n_box (C := #[.string p0.Kind, pv0_0, .bool p0.Not]) rfl rfl) rfl (fun b_1 => ?_)
  refine ln (n_alloc (C := #[.string (⟨#[]⟩ : ByteArray), .slice none 0 0, .bool false]) Zr_94 rfl) rfl (fun b_2 => ?_)
  refine WL.nil ?_
  refine WT.seq ?_
  refine WT.region ?_
  refine ln (n_alloc (C := #[.string (⟨#[]⟩ : ByteArray), .slice none 0 0, .bool false]) Zr_94 rfl) rfl (fun b_3 => ?_)
  refine WL.nil ?_
  refine WT.seq ?_
  refine WT.region ?_
  refine lq (q_fieldAddr Fld_153_0 rfl) rfl ?_
  refine lq (q_load1 T1_9 rfl (fun w1 hw => hw.rgO (i := 2) rfl 0 1 [.string p0.Kind] rfl)) rfl ?_
  refine lq (q_fieldAddr Fld_94_0 rfl) rfl ?_
  refine ls (s_store (i := 0) (vs := [.string p0.Kind]) (C' := [.string p0.Kind, .slice none 0 0, .bool false]) (O' := [(b_3, .cells #[.string p0.Kind, .slice none 0 0, .bool false] 94 (0, 0)), (b_2, .cells #[.string (⟨#[]⟩ : ByteArray), .slice none 0 0, .bool false] 94 (0, 0)), (b_1, .cells #[.string p0.Kind, pv0_0, .bool p0.Not] 153 (0, 0))]) Sz_9 rfl rfl rfl rfl rfl rfl ⟨rfl, trivial⟩ rfl rfl) rfl ?_
  refine WL.nil ?_
  refine WT.seq ?_
  refine WT.region ?_
  refine lq (q_fieldAddr Fld_153_1 rfl) rfl ?_
  refine lq (q_load1 T1_151 rfl (fun w1 hw => hw.rgO (i := 2) rfl 1 1 [pv0_0] rfl)) rfl ?_
  obtain ⟨x1, hx1, h⟩ := bind_some h
  refine lc (k_call (js := []) (R := []) Fun_147 rfl rfl (fun w1 hw ap hl => m_l_toArgS_ok hw.fro N p0.Args ph0_0  hx1)) rfl (fun v1 Φ_1 F1 q1 => ?_)
  obtain ⟨ap1, fr1, v2, rfl, rfl, h1⟩ := q1
  replace ph0_0 := ph0_0.frame RTArg.lasts fr1 (ap1.o pa0_0)
  refine lq (q_fieldAddr Fld_94_1 rfl) rfl ?_
  refine ls (s_store (i := 0) (vs := [v1]) (C' := [.string p0.Kind, v1, .bool false]) (O' := [(b_3, .cells #[.string p0.Kind, v1, .bool false] 94 (0, 0)), (b_2, .cells #[.string (⟨#[]⟩ : ByteArray), .slice none 0 0, .bool false] 94 (0, 0)), (b_1, .cells #[.string p0.Kind, pv0_0, .bool p0.Not] 153 (0, 0))]) Sz_92 rfl rfl rfl (one_cells h1.one) rfl rfl ⟨h1.one, trivial⟩ rfl rfl) rfl ?_
  refine WL.nil ?_
  refine WT.seq ?_
  refine WT.region ?_
  refine lq (q_fieldAddr Fld_153_2 rfl) rfl ?_
  refine lq (q_load1 T1_4 rfl (fun w1 hw => hw.rgO (i := 2) rfl 2 1 [.bool p0.Not] rfl)) rfl ?_
  refine lq (q_fieldAddr Fld_94_2 rfl) rfl ?_
  refine ls (s_store (i := 0) (vs := [.bool p0.Not]) (C' := [.string p0.Kind, v1, .bool p0.Not]) (O' := [(b_3, .cells #[.string p0.Kind, v1, .bool p0.Not] 94 (0, 0)), (b_2, .cells #[.string (⟨#[]⟩ : ByteArray), .slice none 0 0, .bool false] 94 (0, 0)), (b_1, .cells #[.string p0.Kind, pv0_0, .bool p0.Not] 153 (0, 0))]) Sz_4 rfl rfl rfl rfl rfl rfl ⟨rfl, trivial⟩ rfl rfl) rfl ?_
  refine WL.nil ?_
  refine WT.seq ?_
  refine WT.region ?_
  refine lq (q_loadN Tn_94 rfl (fun w1 hw => hw.rgO (i := 0) rfl 0 3 [.string p0.Kind, v1, .bool p0.Not] rfl) rfl) rfl ?_
  refine ls (s_store (i := 1) (vs := [.string p0.Kind, v1, .bool p0.Not]) (C' := [.string p0.Kind, v1, .bool p0.Not]) (O' := [(b_3, .cells #[.string p0.Kind, v1, .bool p0.Not] 94 (0, 0)), (b_2, .cells #[.string p0.Kind, v1, .bool p0.Not] 94 (0, 0)), (b_1, .cells #[.string p0.Kind, pv0_0, .bool p0.Not] 153 (0, 0))]) Sz_94 rfl rfl rfl rfl rfl rfl ⟨rfl, h1.one, rfl, trivial⟩ rfl rfl) rfl ?_
  refine WL.nil ?_
  refine WT.ret Try.func105 (resOk.one (rv_cell Tn_94 rfl (fun w1 hw => hw.rgO (i := 1) rfl 0 3 [.string p0.Kind, v1, .bool p0.Not] rfl) rfl)) (fun w1 hw => ?_)
  cases h
  refine postG_of_St (js := [0]) hw rfl ⟨v1, rfl, rfl, h1⟩
theorem m_l_toPatS_ok {Φ : Hp} {w : World} (hΦ : In Φ w) (N : Nat) (p0 : (List TPat)) {pv0 : Value} {pG0 : List Nat} (ph0 : RSl RTPat 3 Φ pG0 pv0 p0) {r : (List TPat)} (h : m_l_toPatS N p0 = some r) :
    Calls Try.prog 54 [pv0].toArray w (PostG Φ w [] (fun Φ' Fs v => ∃ (sr_0_0 : Value) (Dr_0_0 : List Nat), v = sr_0_0 ∧ Fs = [ob sr_0_0, Dr_0_0] ∧ OSl OTPat 94 3 Φ' Dr_0_0 sr_0_0 r)) := by
  refine enter Try.func54 rfl Try.ntmps54 rfl (St.start0 hΦ) ?_
  have pa0 : Old ⟨w, [], Φ⟩ pG0 := Old.mk hΦ ph0.kn (Dj.empty _)
  revert pa0
  generalize hb0 : (⟨w, [], Φ⟩ : Base) = w0
  intro pa0
  unfold m_l_toPatS at h
  refine WT.seq ?_
  refine WT.region ?_
  refine lq (q_assign rfl) rfl ?_
  refine WL.nil ?_
  refine WT.seq ?_
  refine WT.region ?_
  refine lq (q_move rfl) rfl ?_
  refine lq (q_lenR Sl_33 rfl rfl ph0) rfl ?_
  obtain ⟨x1, hx1, h⟩ := bind_some h
  refine le' (e_make (R := OTPat) Sl_47 Zr_94 By_94 rfl rfl rfl (fun _ => ⟨.slice none 0 0, rfl, rfl, OSl.nil _ _ _ _⟩) rfl rfl (Int.le_refl _) hx1 (mk_le hx1)) rfl (fun v1 Φ_1 D1 q1 => ?_)
  obtain ⟨fr1, h1⟩ := q1
  replace ph0 := ph0.frame RTPat.lasts fr1 (Dj.empty _)
  refine WL.conv (S' := St w0 Φ_1 [] ([] :: [ob v1])) (fun w1 hw => hw.addNil) ?_
  refine lq (q_assign rfl) rfl ?_
  refine WL.nil ?_
  refine WT.seq ?_
  refine WT.seq ?_
  refine WT.region ?_
  refine lq (q_assign rfl) rfl ?_
  refine WL.nil ?_
  refine WT.block ?_
  refine WT.loop ?_
  refine WT.mono (l' := [(0, pv0), (3, v1), (4, .int .i64 0)]) (S' := St w0 Φ_1 [] [[], ob v1]) ⟨rfl, rfl, rfl, trivial⟩ (fun w1 hw => (hw.sel (js := [0, 0]) rfl).selO (js := []) rfl) ?_
  refine loop_ind (σ := Hp × (List TPat) × List Nat × Int) (fun s => [(0, pv0), (3, v1), (4, .int .i64 s.2.2.2)]) (fun s => St w0 s.1 [] [s.2.2.1, ob v1]) (fun m s => m_l_toPatS_l1 N p0 m s.2.1 s.2.2.2 = some r ∧ (OSl OTPat 94 3 s.1 s.2.2.1 v1 s.2.1) ∧ (RSl RTPat 3 s.1 pG0 pv0 p0)) (fun s hm => none_ne (show (none : Option ((List TPat))) = some r from hm.1)) (fun n1 ih1 s hm => ?_) N (Φ_1, x1, [], 0) ⟨h, h1, ph0⟩
  obtain ⟨Φ_2, s1, D2, s2⟩ := s
  obtain ⟨h, k1, ph0⟩ := hm
  replace h : m_l_toPatS_l1 N p0 (n1 + 1) s1 s2 = some r := h
  replace k1 : OSl OTPat 94 3 Φ_2 D2 v1 s1 := k1
  replace ph0 : RSl RTPat 3 Φ_2 pG0 pv0 p0 := ph0
  show WT _ _ [(0, pv0), (3, v1), (4, .int .i64 s2)] (St w0 Φ_2 [] [D2, ob v1])
  unfold m_l_toPatS_l1 at h
  refine WT.seq ?_
  refine WT.seq ?_
  refine WT.region ?_
  refine lq (q_move rfl) rfl ?_
  refine lq (q_move rfl) rfl ?_
  refine lq (q_lenR Sl_33 rfl rfl ph0) rfl ?_
  refine lq (q_lss rfl rfl) rfl ?_
  refine WL.nil ?_
  refine WT.cond rfl (fun c1 => ?_) (fun c1 => ?_)
  · replace h := ite_t h c1
    refine WT.skip ?_
    refine WT.seq ?_
    refine WT.block ?_
    refine WT.region ?_
    refine lq (q_move rfl) rfl ?_
    refine lq (q_move rfl) rfl ?_
    refine lq (q_move rfl) rfl ?_
    refine lq (q_move rfl) rfl ?_
    obtain ⟨x2, hx2, h⟩ := bind_some h
    obtain ⟨cs1, F1, -, g1, hb1, hs1, r1⟩ := ph0.el (idx_some hx2).2.2
    obtain ⟨v2, G1, rfl, hq1, h2⟩ := r1
    obtain rfl := hq1.symm
    refine lq (q_indexAddr Sl_33 rfl rfl ph0 hx2) rfl ?_
    refine lq (q_loadN Tn_153 rfl (fun w1 hw => (g1.of_eq 0 3 rfl rfl : rg _ _ _ [.string x2.Kind, v2, .bool x2.Not]).rangeAt hw.fro) rfl) rfl ?_
    obtain ⟨x3, hx3, h⟩ := bind_some h
    refine lc (k_call (js := []) (R := [D2, ob v1]) Fun_105 rfl rfl (fun w1 hw ap hl => m_l_toPat_ok hw.fro N x2 h2  hx3)) rfl (fun v3 Φ_3 F2 q2 => ?_)
    obtain ⟨ap1, fr2, v4, rfl, rfl, h3⟩ := q2
    replace ph0 := ph0.frame RTPat.lasts fr2 (ap1.o pa0)
    replace k1 := k1.frame OTPat.lasts fr2 (ap1.r (i := 1) rfl) (ap1.r (i := 0) rfl)
    obtain ⟨x4, hx4, h⟩ := bind_some h
    obtain ⟨cs2, F3, -, g2, hb2, hs2, r2⟩ := k1.elS (idx_some hx4).2.2
    obtain ⟨v5, rfl, rfl, h4⟩ := r2
    have h5 := h4.rsl
    refine lq (q_indexAddr Sl_47 rfl rfl k1.rsl hx4) rfl ?_
    have r3 : OTPat Φ_3 ((ob v4 ++ [])) [.string x3.Kind, v4, .bool x3.Not] x3 := ⟨v4, rfl, rfl, h3⟩
    refine lu (u_setO (js := [2]) (Rr := [ob v4, D2]) (vs := [.string x3.Kind, v4, .bool x3.Not]) (x' := x3) OTPat.lasts Sz_94 rfl rfl rfl rfl ⟨rfl, h3.one, rfl, trivial⟩ rfl k1 (idx_lt hx4) r3 (OTPat.knows _ _ _ _ r3) (fun ap => (ap.r (i := 1) rfl)) (fun ap => by simpa [ob_nil] using (ap.r (i := 0) rfl))) rfl (fun Φ_4 D3 q3 => ?_)
    obtain ⟨⟨ap2, fr3⟩, sp1, h6⟩ := q3
    replace ph0 := ph0.frame RTPat.lasts fr3 (ap2.o pa0)
    refine WL.conv (S' := St w0 Φ_4 [] [D3, ob v1]) (fun w1 hw => hw.merge (js := [2, 1]) rfl (by simpa [List.append_assoc, ob_nil] using sp1)) ?_
    refine WL.nil ?_
    refine WT.inBlock ?_
    refine WT.region ?_
    refine lq (q_move rfl) rfl ?_
    refine lq (q_add rfl rfl) rfl ?_
    refine lq (q_assign rfl) rfl ?_
    refine WL.nil ?_
    refine WT.inLoop (WT.mono (l' := [(0, pv0), (3, v1), (4, .int .i64 (IntKind.i64.wrap (s2 + 1)))]) (S' := St w0 Φ_4 [] [D3, ob v1]) ⟨rfl, rfl, rfl, trivial⟩ (fun w1 hw => (hw.sel (js := [0, 0]) rfl).selO (js := []) rfl) ?_)
    exact ih1 (Φ_4, (s1.set s2.toNat x3), D3, IntKind.i64.wrap (s2 + 1)) ⟨h, h6, ph0⟩
  replace h := ite_f h c1
  refine WT.exit rfl ?_
  refine WT.seq ?_
  refine WT.region ?_
  refine lq (q_move rfl) rfl ?_
  refine lq (q_assign rfl) rfl ?_
  refine WL.nil ?_
  refine WT.ret Try.func54 (resOk.one rfl) (fun w1 hw => ?_)
  subst hb0
  cases h
  refine postG_of_St (js := [1, 0]) hw rfl ⟨v1, D2, rfl, rfl, k1⟩
theorem m_l_toCond_ok {Φ : Hp} {w : World} (hΦ : In Φ w) (N : Nat) (p0 : TCond)   {r : TCond} (h : m_l_toCond N p0 = some r) :
    Calls Try.prog 106 [.agg [.int .i64 p0.Op, .int .i64 p0.L.K, .string p0.L.S, .int .i64 p0.L.V.K, .int .i64 p0.L.V.N, .string p0.L.V.S, .int .i64 p0.R.K, .string p0.R.S, .int .i64 p0.R.V.K, .int .i64 p0.R.V.N, .string p0.R.V.S].toArray].toArray w (Post (.agg [.int .i64 r.Op, .int .i64 r.L.K, .string r.L.S, .int .i64 r.L.V.K, .int .i64 r.L.V.N, .string r.L.V.S, .int .i64 r.R.K, .string r.R.S, .int .i64 r.R.V.K, .int .i64 r.R.V.N, .string r.R.V.S].toArray) w) := by
  refine enter Try.func106 rfl Try.ntmps106 rfl (St.start0 hΦ) ?_
  unfold m_l_toCond at h
  refine WT.seq ?_
  refine WT.region ?_
  refine ln (n_box (C := #[.int .i64 p0.Op, .int .i64 p0.L.K, .string p0.L.S, .int .i64 p0.L.V.K, .int .i64 p0.L.V.N, .string p0.L.V.S, .int .i64 p0.R.K, .string p0.R.S, .int .i64 p0.R.V.K, .int .i64 p0.R.V.N, .string p0.R.V.S]) rfl rfl) rfl (fun b_1 => ?_)
  refine ln (n_alloc (C := #[.int .i64 0, .int .i64 0, .string (⟨#[]⟩ : ByteArray), .int .i64 0, .int .i64 0, .string (⟨#[]⟩ : ByteArray), .int .i64 0, .string (⟨#[]⟩ : ByteArray), .int .i64 0, .int .i64 0, .string (⟨#[]⟩ : ByteArray)]) Zr_142 rfl) rfl (fun b_2 => ?_)
  refine WL.nil ?_
  refine WT.seq ?_
  refine WT.region ?_
  refine ln (n_alloc (C := #[.int .i64 0, .int .i64 0, .string (⟨#[]⟩ : ByteArray), .int .i64 0, .int .i64 0, .string (⟨#[]⟩ : ByteArray), .int .i64 0, .string (⟨#[]⟩ : ByteArray), .int .i64 0, .int .i64 0, .string (⟨#[]⟩ : ByteArray)]) Zr_142 rfl) rfl (fun b_3 => ?_)
  refine WL.nil ?_
  refine WT.seq ?_
  refine WT.region ?_
  refine lq (q_fieldAddr Fld_159_0 rfl) rfl ?_
  refine lq (q_load1 T1_3 rfl (fun w1 hw => hw.rgO (i := 2) rfl 0 1 [.int .i64 p0.Op] rfl)) rfl ?_
  refine lq (q_fieldAddr Fld_142_0 rfl) rfl ?_
  refine ls (s_store (i := 0) (vs := [.int .i64 p0.Op]) (C' := [.int .i64 p0.Op, .int .i64 0, .string (⟨#[]⟩ : ByteArray), .int .i64 0, .int .i64 0, .string (⟨#[]⟩ : ByteArray), .int .i64 0, .string (⟨#[]⟩ : ByteArray), .int .i64 0, .int .i64 0, .string (⟨#[]⟩ : ByteArray)]) (O' := [(b_3, .cells #[.int .i64 p0.Op, .int .i64 0, .string (⟨#[]⟩ : ByteArray), .int .i64 0, .int .i64 0, .string (⟨#[]⟩ : ByteArray), .int .i64 0, .string (⟨#[]⟩ : ByteArray), .int .i64 0, .int .i64 0, .string (⟨#[]⟩ : ByteArray)] 142 (0, 0)), (b_2, .cells #[.int .i64 0, .int .i64 0, .string (⟨#[]⟩ : ByteArray), .int .i64 0, .int .i64 0, .string (⟨#[]⟩ : ByteArray), .int .i64 0, .string (⟨#[]⟩ : ByteArray), .int .i64 0, .int .i64 0, .string (⟨#[]⟩ : ByteArray)] 142 (0, 0)), (b_1, .cells #[.int .i64 p0.Op, .int .i64 p0.L.K, .string p0.L.S, .int .i64 p0.L.V.K, .int .i64 p0.L.V.N, .string p0.L.V.S, .int .i64 p0.R.K, .string p0.R.S, .int .i64 p0.R.V.K, .int .i64 p0.R.V.N, .string p0.R.V.S] 159 (0, 0))]) Sz_3 rfl rfl rfl rfl rfl rfl ⟨rfl, trivial⟩ rfl rfl) rfl ?_
  refine WL.nil ?_
  refine WT.seq ?_
  refine WT.region ?_
  refine lq (q_fieldAddr Fld_159_1 rfl) rfl ?_
  refine lq (q_loadN Tn_157 rfl (fun w1 hw => hw.rgO (i := 2) rfl 1 5 [.int .i64 p0.L.K, .string p0.L.S, .int .i64 p0.L.V.K, .int .i64 p0.L.V.N, .string p0.L.V.S] rfl) rfl) rfl ?_
  obtain ⟨x1, hx1, h⟩ := bind_some h
  refine lp (p_call Fun_148 rfl (fun w1 hw => m_l_toArg_ok hw.fro N p0.L hx1)) rfl ?_
  refine lq (q_fieldAddr Fld_142_1 rfl) rfl ?_
  refine ls (s_store (i := 0) (vs := [.int .i64 x1.K, .string x1.S, .int .i64 x1.V.K, .int .i64 x1.V.N, .string x1.V.S]) (C' := [.int .i64 p0.Op, .int .i64 x1.K, .string x1.S, .int .i64 x1.V.K, .int .i64 x1.V.N, .string x1.V.S, .int .i64 0, .string (⟨#[]⟩ : ByteArray), .int .i64 0, .int .i64 0, .string (⟨#[]⟩ : ByteArray)]) (O' := [(b_3, .cells #[.int .i64 p0.Op, .int .i64 x1.K, .string x1.S, .int .i64 x1.V.K, .int .i64 x1.V.N, .string x1.V.S, .int .i64 0, .string (⟨#[]⟩ : ByteArray), .int .i64 0, .int .i64 0, .string (⟨#[]⟩ : ByteArray)] 142 (0, 0)), (b_2, .cells #[.int .i64 0, .int .i64 0, .string (⟨#[]⟩ : ByteArray), .int .i64 0, .int .i64 0, .string (⟨#[]⟩ : ByteArray), .int .i64 0, .string (⟨#[]⟩ : ByteArray), .int .i64 0, .int .i64 0, .string (⟨#[]⟩ : ByteArray)] 142 (0, 0)), (b_1, .cells #[.int .i64 p0.Op, .int .i64 p0.L.K, .string p0.L.S, .int .i64 p0.L.V.K, .int .i64 p0.L.V.N, .string p0.L.V.S, .int .i64 p0.R.K, .string p0.R.S, .int .i64 p0.R.V.K, .int .i64 p0.R.V.N, .string p0.R.V.S] 159 (0, 0))]) Sz_140 rfl rfl rfl rfl rfl rfl ⟨rfl, rfl, rfl, rfl, rfl, trivial⟩ rfl rfl) rfl ?_
  refine WL.nil ?_
  refine WT.seq ?_
  refine WT.region ?_
  refine lq (q_fieldAddr Fld_159_2 rfl) rfl ?_
  refine lq (q_loadN Tn_157 rfl (fun w1 hw => hw.rgO (i := 2) rfl 6 5 [.int .i64 p0.R.K, .string p0.R.S, .int .i64 p0.R.V.K, .int .i64 p0.R.V.N, .string p0.R.V.S] rfl) rfl) rfl ?_
  obtain ⟨x2, hx2, h⟩ := bind_some h
  refine lp (p_call Fun_148 rfl (fun w1 hw => m_l_toArg_ok hw.fro N p0.R hx2)) rfl ?_
  refine lq (q_fieldAddr Fld_142_2 rfl) rfl ?_
  refine ls (s_store (i := 0) (vs := [.int .i64 x2.K, .string x2.S, .int .i64 x2.V.K, .int .i64 x2.V.N, .string x2.V.S]) (C' := [.int .i64 p0.Op, .int .i64 x1.K, .string x1.S, .int .i64 x1.V.K, .int .i64 x1.V.N, .string x1.V.S, .int .i64 x2.K, .string x2.S, .int .i64 x2.V.K, .int .i64 x2.V.N, .string x2.V.S]) (O' := [(b_3, .cells #[.int .i64 p0.Op, .int .i64 x1.K, .string x1.S, .int .i64 x1.V.K, .int .i64 x1.V.N, .string x1.V.S, .int .i64 x2.K, .string x2.S, .int .i64 x2.V.K, .int .i64 x2.V.N, .string x2.V.S] 142 (0, 0)), (b_2, .cells #[.int .i64 0, .int .i64 0, .string (⟨#[]⟩ : ByteArray), .int .i64 0, .int .i64 0, .string (⟨#[]⟩ : ByteArray), .int .i64 0, .string (⟨#[]⟩ : ByteArray), .int .i64 0, .int .i64 0, .string (⟨#[]⟩ : ByteArray)] 142 (0, 0)), (b_1, .cells #[.int .i64 p0.Op, .int .i64 p0.L.K, .string p0.L.S, .int .i64 p0.L.V.K, .int .i64 p0.L.V.N, .string p0.L.V.S, .int .i64 p0.R.K, .string p0.R.S, .int .i64 p0.R.V.K, .int .i64 p0.R.V.N, .string p0.R.V.S] 159 (0, 0))]) Sz_140 rfl rfl rfl rfl rfl rfl ⟨rfl, rfl, rfl, rfl, rfl, trivial⟩ rfl rfl) rfl ?_
  refine WL.nil ?_
  refine WT.seq ?_
  refine WT.region ?_
  refine lq (q_loadN Tn_142 rfl (fun w1 hw => hw.rgO (i := 0) rfl 0 11 [.int .i64 p0.Op, .int .i64 x1.K, .string x1.S, .int .i64 x1.V.K, .int .i64 x1.V.N, .string x1.V.S, .int .i64 x2.K, .string x2.S, .int .i64 x2.V.K, .int .i64 x2.V.N, .string x2.V.S] rfl) rfl) rfl ?_
  refine ls (s_store (i := 1) (vs := [.int .i64 p0.Op, .int .i64 x1.K, .string x1.S, .int .i64 x1.V.K, .int .i64 x1.V.N, .string x1.V.S, .int .i64 x2.K, .string x2.S, .int .i64 x2.V.K, .int .i64 x2.V.N, .string x2.V.S]) (C' := [.int .i64 p0.Op, .int .i64 x1.K, .string x1.S, .int .i64 x1.V.K, .int .i64 x1.V.N, .string x1.V.S, .int .i64 x2.K, .string x2.S, .int .i64 x2.V.K, .int .i64 x2.V.N, .string x2.V.S]) (O' := [(b_3, .cells #[.int .i64 p0.Op, .int .i64 x1.K, .string x1.S, .int .i64 x1.V.K, .int .i64 x1.V.N, .string x1.V.S, .int .i64 x2.K, .string x2.S, .int .i64 x2.V.K, .int .i64 x2.V.N, .string x2.V.S] 142 (0, 0)), (b_2, .cells #[.int .i64 p0.Op, .int .i64 x1.K, .string x1.S, .int .i64 x1.V.K, .int .i64 x1.V.N, .string x1.V.S, .int .i64 x2.K, .string x2.S, .int .i64 x2.V.K, .int .i64 x2.V.N, .string x2.V.S] 142 (0, 0)), (b_1, .cells #[.int .i64 p0.Op, .int .i64 p0.L.K, .string p0.L.S, .int .i64 p0.L.V.K, .int .i64 p0.L.V.N, .string p0.L.V.S, .int .i64 p0.R.K, .string p0.R.S, .int .i64 p0.R.V.K, .int .i64 p0.R.V.N, .string p0.R.V.S] 159 (0, 0))]) Sz_142 rfl rfl rfl rfl rfl rfl ⟨rfl, rfl, rfl, rfl, rfl, rfl, rfl, rfl, rfl, rfl, rfl, trivial⟩ rfl rfl) rfl ?_
  refine WL.nil ?_
  refine WT.ret Try.func106 (resOk.one (rv_cell Tn_142 rfl (fun w1 hw => hw.rgO (i := 1) rfl 0 11 [.int .i64 p0.Op, .int .i64 x1.K, .string x1.S, .int .i64 x1.V.K, .int .i64 x1.V.N, .string x1.V.S, .int .i64 x2.K, .string x2.S, .int .i64 x2.V.K, .int .i64 x2.V.N, .string x2.V.S] rfl) rfl)) (fun w1 hw => ?_)
  cases h
  exact post_of_St hw
theorem m_l_toCondS_ok {Φ : Hp} {w : World} (hΦ : In Φ w) (N : Nat) (p0 : (List TCond)) {pv0 : Value} {pG0 : List Nat} (ph0 : RSl RTCond 11 Φ pG0 pv0 p0) {r : (List TCond)} (h : m_l_toCondS N p0 = some r) :
    Calls Try.prog 55 [pv0].toArray w (PostG Φ w [] (fun Φ' Fs v => ∃ (sr_0_0 : Value), v = sr_0_0 ∧ Fs = [ob sr_0_0] ∧ OSl RTCond 142 11 Φ' [] sr_0_0 r)) := by
  refine enter Try.func55 rfl Try.ntmps55 rfl (St.start0 hΦ) ?_
  have pa0 : Old ⟨w, [], Φ⟩ pG0 := Old.mk hΦ ph0.kn (Dj.empty _)
  revert pa0
  generalize hb0 : (⟨w, [], Φ⟩ : Base) = w0
  intro pa0
  unfold m_l_toCondS at h
  refine WT.seq ?_
  refine WT.region ?_
  refine lq (q_assign rfl) rfl ?_
  refine WL.nil ?_
  refine WT.seq ?_
  refine WT.region ?_
  refine lq (q_move rfl) rfl ?_
  refine lq (q_lenR Sl_34 rfl rfl ph0) rfl ?_
  obtain ⟨x1, hx1, h⟩ := bind_some h
  refine le' (e_make (R := RTCond) Sl_48 Zr_142 By_142 rfl rfl rfl (fun _ => ⟨rfl, rfl⟩) rfl rfl (Int.le_refl _) hx1 (mk_le hx1)) rfl (fun v1 Φ_1 D1 q1 => ?_)
  obtain ⟨fr1, h1⟩ := q1
  replace ph0 := ph0.frame RTCond.lasts fr1 (Dj.empty _)
  refine lq (q_assign rfl) rfl ?_
  refine WL.nil ?_
  refine WT.seq ?_
  refine WT.seq ?_
  refine WT.region ?_
  refine lq (q_assign rfl) rfl ?_
  refine WL.nil ?_
  refine WT.block ?_
  refine WT.loop ?_
  refine WT.mono (l' := [(0, pv0), (3, v1), (4, .int .i64 0)]) (S' := St w0 Φ_1 [] [ob v1]) ⟨rfl, rfl, rfl, trivial⟩ (fun w1 hw => (hw.sel (js := [0]) rfl).selO (js := []) rfl) ?_
  refine loop_ind (σ := Hp × (List TCond) × Int) (fun s => [(0, pv0), (3, v1), (4, .int .i64 s.2.2)]) (fun s => St w0 s.1 [] [ob v1]) (fun m s => m_l_toCondS_l1 N p0 m s.2.1 s.2.2 = some r ∧ (OSl RTCond 142 11 s.1 [] v1 s.2.1) ∧ (RSl RTCond 11 s.1 pG0 pv0 p0)) (fun s hm => none_ne (show (none : Option ((List TCond))) = some r from hm.1)) (fun n1 ih1 s hm => ?_) N (Φ_1, x1, 0) ⟨h, h1, ph0⟩
  obtain ⟨Φ_2, s1, s2⟩ := s
  obtain ⟨h, k1, ph0⟩ := hm
  replace h : m_l_toCondS_l1 N p0 (n1 + 1) s1 s2 = some r := h
  replace k1 : OSl RTCond 142 11 Φ_2 [] v1 s1 := k1
  replace ph0 : RSl RTCond 11 Φ_2 pG0 pv0 p0 := ph0
  show WT _ _ [(0, pv0), (3, v1), (4, .int .i64 s2)] (St w0 Φ_2 [] [ob v1])
  unfold m_l_toCondS_l1 at h
  refine WT.seq ?_
  refine WT.seq ?_
  refine WT.region ?_
  refine lq (q_move rfl) rfl ?_
  refine lq (q_move rfl) rfl ?_
  refine lq (q_lenR Sl_34 rfl rfl ph0) rfl ?_
  refine lq (q_lss rfl rfl) rfl ?_
  refine WL.nil ?_
  refine WT.cond rfl (fun c1 => ?_) (fun c1 => ?_)
  · replace h := ite_t h c1
    refine WT.skip ?_
    refine WT.seq ?_
    refine WT.block ?_
    refine WT.region ?_
    refine lq (q_move rfl) rfl ?_
    refine lq (q_move rfl) rfl ?_
    refine lq (q_move rfl) rfl ?_
    refine lq (q_move rfl) rfl ?_
    obtain ⟨x2, hx2, h⟩ := bind_some h
    obtain ⟨cs1, F1, -, g1, hb1, hs1, r1⟩ := ph0.el (idx_some hx2).2.2
    obtain ⟨rfl, -⟩ := r1
    refine lq (q_indexAddr Sl_34 rfl rfl ph0 hx2) rfl ?_
    refine lq (q_loadN Tn_159 rfl (fun w1 hw => (g1.of_eq 0 11 rfl rfl : rg _ _ _ [.int .i64 x2.Op, .int .i64 x2.L.K, .string x2.L.S, .int .i64 x2.L.V.K, .int .i64 x2.L.V.N, .string x2.L.V.S, .int .i64 x2.R.K, .string x2.R.S, .int .i64 x2.R.V.K, .int .i64 x2.R.V.N, .string x2.R.V.S]).rangeAt hw.fro) rfl) rfl ?_
    obtain ⟨x3, hx3, h⟩ := bind_some h
    refine lp (p_call Fun_106 rfl (fun w1 hw => m_l_toCond_ok hw.fro N x2 hx3)) rfl ?_
    obtain ⟨x4, hx4, h⟩ := bind_some h
    obtain ⟨cs2, F2, -, g2, hb2, hs2, r2⟩ := k1.elS (idx_some hx4).2.2
    obtain ⟨rfl, -⟩ := r2
    refine lq (q_indexAddr Sl_48 rfl rfl k1.rsl hx4) rfl ?_
    refine lu (u_setF (js := [0]) (Rr := []) (vs := [.int .i64 x3.Op, .int .i64 x3.L.K, .string x3.L.S, .int .i64 x3.L.V.K, .int .i64 x3.L.V.N, .string x3.L.V.S, .int .i64 x3.R.K, .string x3.R.S, .int .i64 x3.R.V.K, .int .i64 x3.R.V.N, .string x3.R.V.S]) (x' := x3) RTCond.lasts RTCond.flat Sz_142 rfl rfl rfl rfl ⟨rfl, rfl, rfl, rfl, rfl, rfl, rfl, rfl, rfl, rfl, rfl, trivial⟩ rfl k1 (idx_lt hx4) ⟨rfl, rfl⟩) rfl (fun Φ_3 D2 q2 => ?_)
    obtain ⟨⟨ap1, fr2⟩, h2⟩ := q2
    replace ph0 := ph0.frame RTCond.lasts fr2 (ap1.o pa0)
    refine WL.nil ?_
    refine WT.inBlock ?_
    refine WT.region ?_
    refine lq (q_move rfl) rfl ?_
    refine lq (q_add rfl rfl) rfl ?_
    refine lq (q_assign rfl) rfl ?_
    refine WL.nil ?_
    refine WT.inLoop (WT.mono (l' := [(0, pv0), (3, v1), (4, .int .i64 (IntKind.i64.wrap (s2 + 1)))]) (S' := St w0 Φ_3 [] [ob v1]) ⟨rfl, rfl, rfl, trivial⟩ (fun w1 hw => (hw.sel (js := [0]) rfl).selO (js := []) rfl) ?_)
    exact ih1 (Φ_3, (s1.set s2.toNat x3), IntKind.i64.wrap (s2 + 1)) ⟨h, h2, ph0⟩
  replace h := ite_f h c1
  refine WT.exit rfl ?_
  refine WT.seq ?_
  refine WT.region ?_
  refine lq (q_move rfl) rfl ?_
  refine lq (q_assign rfl) rfl ?_
  refine WL.nil ?_
  refine WT.ret Try.func55 (resOk.one rfl) (fun w1 hw => ?_)
  subst hb0
  cases h
  refine postG_of_St (js := [0]) hw rfl ⟨v1, rfl, rfl, k1⟩
theorem m_l_toExpr_ok {Φ : Hp} {w : World} (hΦ : In Φ w) (N : Nat) (p0 : TExpr)   {r : TExpr} (h : m_l_toExpr N p0 = some r) :
    Calls Try.prog 173 [.agg [.string p0.Op, .int .i64 p0.L.K, .string p0.L.S, .int .i64 p0.L.V.K, .int .i64 p0.L.V.N, .string p0.L.V.S, .int .i64 p0.R.K, .string p0.R.S, .int .i64 p0.R.V.K, .int .i64 p0.R.V.N, .string p0.R.V.S].toArray].toArray w (Post (.agg [.string r.Op, .int .i64 r.L.K, .string r.L.S, .int .i64 r.L.V.K, .int .i64 r.L.V.N, .string r.L.V.S, .int .i64 r.R.K, .string r.R.S, .int .i64 r.R.V.K, .int .i64 r.R.V.N, .string r.R.V.S].toArray) w) := by
  refine enter Try.func173 rfl Try.ntmps173 rfl (St.start0 hΦ) ?_
  unfold m_l_toExpr at h
  refine WT.seq ?_
  refine WT.region ?_
  refine ln (n_box (C := #[.string p0.Op, .int .i64 p0.L.K, .string p0.L.S, .int .i64 p0.L.V.K, .int .i64 p0.L.V.N, .string p0.L.V.S, .int .i64 p0.R.K, .string p0.R.S, .int .i64 p0.R.V.K, .int .i64 p0.R.V.N, .string p0.R.V.S]) rfl rfl) rfl (fun b_1 => ?_)
  refine ln (n_alloc (C := #[.string (⟨#[]⟩ : ByteArray), .int .i64 0, .string (⟨#[]⟩ : ByteArray), .int .i64 0, .int .i64 0, .string (⟨#[]⟩ : ByteArray), .int .i64 0, .string (⟨#[]⟩ : ByteArray), .int .i64 0, .int .i64 0, .string (⟨#[]⟩ : ByteArray)]) Zr_197 rfl) rfl (fun b_2 => ?_)
  refine WL.nil ?_
  refine WT.seq ?_
  refine WT.region ?_
  refine ln (n_alloc (C := #[.string (⟨#[]⟩ : ByteArray), .int .i64 0, .string (⟨#[]⟩ : ByteArray), .int .i64 0, .int .i64 0, .string (⟨#[]⟩ : ByteArray), .int .i64 0, .string (⟨#[]⟩ : ByteArray), .int .i64 0, .int .i64 0, .string (⟨#[]⟩ : ByteArray)]) Zr_197 rfl) rfl (fun b_3 => ?_)
  refine WL.nil ?_
  refine WT.seq ?_
  refine WT.region ?_
  refine lq (q_fieldAddr Fld_225_0 rfl) rfl ?_
  refine lq (q_load1 T1_9 rfl (fun w1 hw => hw.rgO (i := 2) rfl 0 1 [.string p0.Op] rfl)) rfl ?_
  refine lq (q_fieldAddr Fld_197_0 rfl) rfl ?_
  refine ls (s_store (i := 0) (vs := [.string p0.Op]) (C' := [.string p0.Op, .int .i64 0, .string (⟨#[]⟩ : ByteArray), .int .i64 0, .int .i64 0, .string (⟨#[]⟩ : ByteArray), .int .i64 0, .string (⟨#[]⟩ : ByteArray), .int .i64 0, .int .i64 0, .string (⟨#[]⟩ : ByteArray)]) (O' := [(b_3, .cells #[.string p0.Op, .int .i64 0, .string (⟨#[]⟩ : ByteArray), .int .i64 0, .int .i64 0, .string (⟨#[]⟩ : ByteArray), .int .i64 0, .string (⟨#[]⟩ : ByteArray), .int .i64 0, .int .i64 0, .string (⟨#[]⟩ : ByteArray)] 197 (0, 0)), (b_2, .cells #[.string (⟨#[]⟩ : ByteArray), .int .i64 0, .string (⟨#[]⟩ : ByteArray), .int .i64 0, .int .i64 0, .string (⟨#[]⟩ : ByteArray), .int .i64 0, .string (⟨#[]⟩ : ByteArray), .int .i64 0, .int .i64 0, .string (⟨#[]⟩ : ByteArray)] 197 (0, 0)), (b_1, .cells #[.string p0.Op, .int .i64 p0.L.K, .string p0.L.S, .int .i64 p0.L.V.K, .int .i64 p0.L.V.N, .string p0.L.V.S, .int .i64 p0.R.K, .string p0.R.S, .int .i64 p0.R.V.K, .int .i64 p0.R.V.N, .string p0.R.V.S] 225 (0, 0))]) Sz_9 rfl rfl rfl rfl rfl rfl ⟨rfl, trivial⟩ rfl rfl) rfl ?_
  refine WL.nil ?_
  refine WT.seq ?_
  refine WT.region ?_
  refine lq (q_fieldAddr Fld_225_1 rfl) rfl ?_
  refine lq (q_loadN Tn_157 rfl (fun w1 hw => hw.rgO (i := 2) rfl 1 5 [.int .i64 p0.L.K, .string p0.L.S, .int .i64 p0.L.V.K, .int .i64 p0.L.V.N, .string p0.L.V.S] rfl) rfl) rfl ?_
  obtain ⟨x1, hx1, h⟩ := bind_some h
  refine lp (p_call Fun_148 rfl (fun w1 hw => m_l_toArg_ok hw.fro N p0.L hx1)) rfl ?_
  refine lq (q_fieldAddr Fld_197_1 rfl) rfl ?_
  refine ls (s_store (i := 0) (vs := [.int .i64 x1.K, .string x1.S, .int .i64 x1.V.K, .int .i64 x1.V.N, .string x1.V.S]) (C' := [.string p0.Op, .int .i64 x1.K, .string x1.S, .int .i64 x1.V.K, .int .i64 x1.V.N, .string x1.V.S, .int .i64 0, .string (⟨#[]⟩ : ByteArray), .int .i64 0, .int .i64 0, .string (⟨#[]⟩ : ByteArray)]) (O' := [(b_3, .cells #[.string p0.Op, .int .i64 x1.K, .string x1.S, .int .i64 x1.V.K, .int .i64 x1.V.N, .string x1.V.S, .int .i64 0, .string (⟨#[]⟩ : ByteArray), .int .i64 0, .int .i64 0, .string (⟨#[]⟩ : ByteArray)] 197 (0, 0)), (b_2, .cells #[.string (⟨#[]⟩ : ByteArray), .int .i64 0, .string (⟨#[]⟩ : ByteArray), .int .i64 0, .int .i64 0, .string (⟨#[]⟩ : ByteArray), .int .i64 0, .string (⟨#[]⟩ : ByteArray), .int .i64 0, .int .i64 0, .string (⟨#[]⟩ : ByteArray)] 197 (0, 0)), (b_1, .cells #[.string p0.Op, .int .i64 p0.L.K, .string p0.L.S, .int .i64 p0.L.V.K, .int .i64 p0.L.V.N, .string p0.L.V.S, .int .i64 p0.R.K, .string p0.R.S, .int .i64 p0.R.V.K, .int .i64 p0.R.V.N, .string p0.R.V.S] 225 (0, 0))]) Sz_140 rfl rfl rfl rfl rfl rfl ⟨rfl, rfl, rfl, rfl, rfl, trivial⟩ rfl rfl) rfl ?_
  refine WL.nil ?_
  refine WT.seq ?_
  refine WT.region ?_
  refine lq (q_fieldAddr Fld_225_2 rfl) rfl ?_
  refine lq (q_loadN Tn_157 rfl (fun w1 hw => hw.rgO (i := 2) rfl 6 5 [.int .i64 p0.R.K, .string p0.R.S, .int .i64 p0.R.V.K, .int .i64 p0.R.V.N, .string p0.R.V.S] rfl) rfl) rfl ?_
  obtain ⟨x2, hx2, h⟩ := bind_some h
  refine lp (p_call Fun_148 rfl (fun w1 hw => m_l_toArg_ok hw.fro N p0.R hx2)) rfl ?_
  refine lq (q_fieldAddr Fld_197_2 rfl) rfl ?_
  refine ls (s_store (i := 0) (vs := [.int .i64 x2.K, .string x2.S, .int .i64 x2.V.K, .int .i64 x2.V.N, .string x2.V.S]) (C' := [.string p0.Op, .int .i64 x1.K, .string x1.S, .int .i64 x1.V.K, .int .i64 x1.V.N, .string x1.V.S, .int .i64 x2.K, .string x2.S, .int .i64 x2.V.K, .int .i64 x2.V.N, .string x2.V.S]) (O' := [(b_3, .cells #[.string p0.Op, .int .i64 x1.K, .string x1.S, .int .i64 x1.V.K, .int .i64 x1.V.N, .string x1.V.S, .int .i64 x2.K, .string x2.S, .int .i64 x2.V.K, .int .i64 x2.V.N, .string x2.V.S] 197 (0, 0)), (b_2, .cells #[.string (⟨#[]⟩ : ByteArray), .int .i64 0, .string (⟨#[]⟩ : ByteArray), .int .i64 0, .int .i64 0, .string (⟨#[]⟩ : ByteArray), .int .i64 0, .string (⟨#[]⟩ : ByteArray), .int .i64 0, .int .i64 0, .string (⟨#[]⟩ : ByteArray)] 197 (0, 0)), (b_1, .cells #[.string p0.Op, .int .i64 p0.L.K, .string p0.L.S, .int .i64 p0.L.V.K, .int .i64 p0.L.V.N, .string p0.L.V.S, .int .i64 p0.R.K, .string p0.R.S, .int .i64 p0.R.V.K, .int .i64 p0.R.V.N, .string p0.R.V.S] 225 (0, 0))]) Sz_140 rfl rfl rfl rfl rfl rfl ⟨rfl, rfl, rfl, rfl, rfl, trivial⟩ rfl rfl) rfl ?_
  refine WL.nil ?_
  refine WT.seq ?_
  refine WT.region ?_
  refine lq (q_loadN Tn_197 rfl (fun w1 hw => hw.rgO (i := 0) rfl 0 11 [.string p0.Op, .int .i64 x1.K, .string x1.S, .int .i64 x1.V.K, .int .i64 x1.V.N, .string x1.V.S, .int .i64 x2.K, .string x2.S, .int .i64 x2.V.K, .int .i64 x2.V.N, .string x2.V.S] rfl) rfl) rfl ?_
  refine ls (s_store (i := 1) (vs := [.string p0.Op, .int .i64 x1.K, .string x1.S, .int .i64 x1.V.K, .int .i64 x1.V.N, .string x1.V.S, .int .i64 x2.K, .string x2.S, .int .i64 x2.V.K, .int .i64 x2.V.N, .string x2.V.S]) (C' := [.string p0.Op, .int .i64 x1.K, .string x1.S, .int .i64 x1.V.K, .int .i64 x1.V.N, .string x1.V.S, .int .i64 x2.K, .string x2.S, .int .i64 x2.V.K, .int .i64 x2.V.N, .string x2.V.S]) (O' := [(b_3, .cells #[.string p0.Op, .int .i64 x1.K, .string x1.S, .int .i64 x1.V.K, .int .i64 x1.V.N, .string x1.V.S, .int .i64 x2.K, .string x2.S, .int .i64 x2.V.K, .int .i64 x2.V.N, .string x2.V.S] 197 (0, 0)), (b_2, .cells #[.string p0.Op, .int .i64 x1.K, .string x1.S, .int .i64 x1.V.K, .int .i64 x1.V.N, .string x1.V.S, .int .i64 x2.K, .string x2.S, .int .i64 x2.V.K, .int .i64 x2.V.N, .string x2.V.S] 197 (0, 0)), (b_1, .cells #[.string p0.Op, .int .i64 p0.L.K, .string p0.L.S, .int .i64 p0.L.V.K, .int .i64 p0.L.V.N, .string p0.L.V.S, .int .i64 p0.R.K, .string p0.R.S, .int .i64 p0.R.V.K, .int .i64 p0.R.V.N, .string p0.R.V.S] 225 (0, 0))]) Sz_197 rfl rfl rfl rfl rfl rfl ⟨rfl, rfl, rfl, rfl, rfl, rfl, rfl, rfl, rfl, rfl, rfl, trivial⟩ rfl rfl) rfl ?_
  refine WL.nil ?_
  refine WT.ret Try.func173 (resOk.one (rv_cell Tn_197 rfl (fun w1 hw => hw.rgO (i := 1) rfl 0 11 [.string p0.Op, .int .i64 x1.K, .string x1.S, .int .i64 x1.V.K, .int .i64 x1.V.N, .string x1.V.S, .int .i64 x2.K, .string x2.S, .int .i64 x2.V.K, .int .i64 x2.V.N, .string x2.V.S] rfl) rfl)) (fun w1 hw => ?_)
  cases h
  exact post_of_St hw
theorem m_l_toExprS_ok {Φ : Hp} {w : World} (hΦ : In Φ w) (N : Nat) (p0 : (List TExpr)) {pv0 : Value} {pG0 : List Nat} (ph0 : RSl RTExpr 11 Φ pG0 pv0 p0) {r : (List TExpr)} (h : m_l_toExprS N p0 = some r) :
    Calls Try.prog 149 [pv0].toArray w (PostG Φ w [] (fun Φ' Fs v => ∃ (sr_0_0 : Value), v = sr_0_0 ∧ Fs = [ob sr_0_0] ∧ OSl RTExpr 197 11 Φ' [] sr_0_0 r)) := by
  refine enter Try.func149 rfl Try.ntmps149 rfl (St.start0 hΦ) ?_
  have pa0 : Old ⟨w, [], Φ⟩ pG0 := Old.mk hΦ ph0.kn (Dj.empty _)
  revert pa0
  generalize hb0 : (⟨w, [], Φ⟩ : Base) = w0
  intro pa0
  unfold m_l_toExprS at h
  refine WT.seq ?_
  refine WT.region ?_
  refine lq (q_assign rfl) rfl ?_
  refine WL.nil ?_
  refine WT.seq ?_
  refine WT.region ?_
  refine lq (q_move rfl) rfl ?_
  refine lq (q_lenR Sl_161 rfl rfl ph0) rfl ?_
  obtain ⟨x1, hx1, h⟩ := bind_some h
  refine le' (e_make (R := RTExpr) Sl_144 Zr_197 By_197 rfl rfl rfl (fun _ => ⟨rfl, rfl⟩) rfl rfl (Int.le_refl _) hx1 (mk_le hx1)) rfl (fun v1 Φ_1 D1 q1 => ?_)
  obtain ⟨fr1, h1⟩ := q1
  replace ph0 := ph0.frame RTExpr.lasts fr1 (Dj.empty _)
  refine lq (q_assign rfl) rfl ?_
  refine WL.nil ?_
  refine WT.seq ?_
  refine WT.seq ?_
  refine WT.region ?_
  refine lq (q_assign rfl) rfl ?_
  refine WL.nil ?_
  refine WT.block ?_
  refine WT.loop ?_
  refine WT.mono (l' := [(0, pv0), (3, v1), (4, .int .i64 0)]) (S' := St w0 Φ_1 [] [ob v1]) ⟨rfl, rfl, rfl, trivial⟩ (fun w1 hw => (hw.sel (js := [0]) rfl).selO (js := []) rfl) ?_
  refine loop_ind (σ := Hp × (List TExpr) × Int) (fun s => [(0, pv0), (3, v1), (4, .int .i64 s.2.2)]) (fun s => St w0 s.1 [] [ob v1]) (fun m s => m_l_toExprS_l1 N p0 m s.2.1 s.2.2 = some r ∧ (OSl RTExpr 197 11 s.1 [] v1 s.2.1) ∧ (RSl RTExpr 11 s.1 pG0 pv0 p0)) (fun s hm => none_ne (show (none : Option ((List TExpr))) = some r from hm.1)) (fun n1 ih1 s hm => ?_) N (Φ_1, x1, 0) ⟨h, h1, ph0⟩
  obtain ⟨Φ_2, s1, s2⟩ := s
  obtain ⟨h, k1, ph0⟩ := hm
  replace h : m_l_toExprS_l1 N p0 (n1 + 1) s1 s2 = some r := h
  replace k1 : OSl RTExpr 197 11 Φ_2 [] v1 s1 := k1
  replace ph0 : RSl RTExpr 11 Φ_2 pG0 pv0 p0 := ph0
  show WT _ _ [(0, pv0), (3, v1), (4, .int .i64 s2)] (St w0 Φ_2 [] [ob v1])
  unfold m_l_toExprS_l1 at h
  refine WT.seq ?_
  refine WT.seq ?_
  refine WT.region ?_
  refine lq (q_move rfl) rfl ?_
  refine lq (q_move rfl) rfl ?_
  refine lq (q_lenR Sl_161 rfl rfl ph0) rfl ?_
  refine lq (q_lss rfl rfl) rfl ?_
  refine WL.nil ?_
  refine WT.cond rfl (fun c1 => ?_) (fun c1 => ?_)
  · replace h := ite_t h c1
    refine WT.skip ?_
    refine WT.seq ?_
    refine WT.block ?_
    refine WT.region ?_
    refine lq (q_move rfl) rfl ?_
    refine lq (q_move rfl) rfl ?_
    refine lq (q_move rfl) rfl ?_
    refine lq (q_move rfl) rfl ?_
    obtain ⟨x2, hx2, h⟩ := bind_some h
    obtain ⟨cs1, F1, -, g1, hb1, hs1, r1⟩ := ph0.el (idx_some hx2).2.2
    obtain ⟨rfl, -⟩ := r1
    refine lq (q_indexAddr Sl_161 rfl rfl ph0 hx2) rfl ?_
    refine lq (q_loadN Tn_225 rfl (fun w1 hw => (g1.of_eq 0 11 rfl rfl : rg _ _ _ [.string x2.Op, .int .i64 x2.L.K, .string x2.L.S, .int .i64 x2.L.V.K, .int .i64 x2.L.V.N, .string x2.L.V.S, .int .i64 x2.R.K, .string x2.R.S, .int .i64 x2.R.V.K, .int .i64 x2.R.V.N, .string x2.R.V.S]).rangeAt hw.fro) rfl) rfl ?_
    obtain ⟨x3, hx3, h⟩ := bind_some h
    refine lp (p_call Fun_173 rfl (fun w1 hw => m_l_toExpr_ok hw.fro N x2 hx3)) rfl ?_
    obtain ⟨x4, hx4, h⟩ := bind_some h
    obtain ⟨cs2, F2, -, g2, hb2, hs2, r2⟩ := k1.elS (idx_some hx4).2.2
    obtain ⟨rfl, -⟩ := r2
    refine lq (q_indexAddr Sl_144 rfl rfl k1.rsl hx4) rfl ?_
    refine lu (u_setF (js := [0]) (Rr := []) (vs := [.string x3.Op, .int .i64 x3.L.K, .string x3.L.S, .int .i64 x3.L.V.K, .int .i64 x3.L.V.N, .string x3.L.V.S, .int .i64 x3.R.K, .string x3.R.S, .int .i64 x3.R.V.K, .int .i64 x3.R.V.N, .string x3.R.V.S]) (x' := x3) RTExpr.lasts RTExpr.flat Sz_197 rfl rfl rfl rfl ⟨rfl, rfl, rfl, rfl, rfl, rfl, rfl, rfl, rfl, rfl, rfl, trivial⟩ rfl k1 (idx_lt hx4) ⟨rfl, rfl⟩) rfl (fun Φ_3 D2 q2 => ?_)
    obtain ⟨⟨ap1, fr2⟩, h2⟩ := q2
    replace ph0 := ph0.frame RTExpr.lasts fr2 (ap1.o pa0)
    refine WL.nil ?_
    refine WT.inBlock ?_
    refine WT.region ?_
    refine lq (q_move rfl) rfl ?_
    refine lq (q_add rfl rfl) rfl ?_
    refine lq (q_assign rfl) rfl ?_
    refine WL.nil ?_
    refine WT.inLoop (WT.mono (l' := [(0, pv0), (3, v1), (4, .int .i64 (IntKind.i64.wrap (s2 + 1)))]) (S' := St w0 Φ_3 [] [ob v1]) ⟨rfl, rfl, rfl, trivial⟩ (fun w1 hw => (hw.sel (js := [0]) rfl).selO (js := []) rfl) ?_)
    exact ih1 (Φ_3, (s1.set s2.toNat x3), IntKind.i64.wrap (s2 + 1)) ⟨h, h2, ph0⟩
  replace h := ite_f h c1
  refine WT.exit rfl ?_
  refine WT.seq ?_
  refine WT.region ?_
  refine lq (q_move rfl) rfl ?_
  refine lq (q_assign rfl) rfl ?_
  refine WL.nil ?_
  refine WT.ret Try.func149 (resOk.one rfl) (fun w1 hw => ?_)
  subst hb0
  cases h
  refine postG_of_St (js := [0]) hw rfl ⟨v1, rfl, rfl, k1⟩
theorem m_l_toAct_ok {Φ : Hp} {w : World} (hΦ : In Φ w) (N : Nat) (p0 : TAct) {pv0_0 : Value} {pG0_0 : List Nat} (ph0_0 : RSl RTExpr 11 Φ pG0_0 pv0_0 p0.Args) {r : TAct} (h : m_l_toAct N p0 = some r) :
    Calls Try.prog 107 [.agg [.int .i64 p0.Kind, .string p0.Name, pv0_0, .int .i64 p0.N, .string p0.Undo].toArray].toArray w (PostG Φ w [] (fun Φ' Fs v => ∃ (sr_0_0 : Value), v = .agg [.int .i64 r.Kind, .string r.Name, sr_0_0, .int .i64 r.N, .string r.Undo].toArray ∧ Fs = [ob sr_0_0] ∧ OSl RTExpr 197 11 Φ' [] sr_0_0 r.Args)) := by
  refine enter Try.func107 rfl Try.ntmps107 rfl (St.start0 hΦ) ?_
  have pa0_0 : Old ⟨w, [], Φ⟩ pG0_0 := Old.mk hΦ ph0_0.kn (Dj.empty _)
  unfold m_l_toAct at h
  refine WT.seq ?_
  refine WT.region ?_
  refine ln (n_box (C := #[.int .i64 p0.Kind, .string p0.Name, pv0_0, .int .i64 p0.N, .string p0.Undo]) rfl rfl) rfl (fun b_1 => ?_)
  refine ln (n_alloc (C := #[.int .i64 0, .string (⟨#[]⟩ : ByteArray), .slice none 0 0, .int .i64 0, .string (⟨#[]⟩ : ByteArray)]) Zr_146 rfl) rfl (fun b_2 => ?_)
  refine WL.nil ?_
  refine WT.seq ?_
  refine WT.region ?_
  refine ln (n_alloc (C := #[.int .i64 0, .string (⟨#[]⟩ : ByteArray), .slice none 0 0, .int .i64 0, .string (⟨#[]⟩ : ByteArray)]) Zr_146 rfl) rfl (fun b_3 => ?_)
  refine WL.nil ?_
  refine WT.seq ?_
  refine WT.region ?_
  refine lq (q_fieldAddr Fld_163_0 rfl) rfl ?_
  refine lq (q_load1 T1_3 rfl (fun w1 hw => hw.rgO (i := 2) rfl 0 1 [.int .i64 p0.Kind] rfl)) rfl ?_
  refine lq (q_fieldAddr Fld_146_0 rfl) rfl ?_
  refine ls (s_store (i := 0) (vs := [.int .i64 p0.Kind]) (C' := [.int .i64 p0.Kind, .string (⟨#[]⟩ : ByteArray), .slice none 0 0, .int .i64 0, .string (⟨#[]⟩ : ByteArray)]) (O' := [(b_3, .cells #[.int .i64 p0.Kind, .string (⟨#[]⟩ : ByteArray), .slice none 0 0, .int .i64 0, .string (⟨#[]⟩ : ByteArray)] 146 (0, 0)), (b_2, .cells #[.int .i64 0, .string (⟨#[]⟩ : ByteArray), .slice none 0 0, .int .i64 0, .string (⟨#[]⟩ : ByteArray)] 146 (0, 0)), (b_1, .cells #[.int .i64 p0.Kind, .string p0.Name, pv0_0, .int .i64 p0.N, .string p0.Undo] 163 (0, 0))]) Sz_3 rfl rfl rfl rfl rfl rfl ⟨rfl, trivial⟩ rfl rfl) rfl ?_
  refine WL.nil ?_
  refine WT.seq ?_
  refine WT.region ?_
  refine lq (q_fieldAddr Fld_163_1 rfl) rfl ?_
  refine lq (q_load1 T1_9 rfl (fun w1 hw => hw.rgO (i := 2) rfl 1 1 [.string p0.Name] rfl)) rfl ?_
  refine lq (q_fieldAddr Fld_146_1 rfl) rfl ?_
  refine ls (s_store (i := 0) (vs := [.string p0.Name]) (C' := [.int .i64 p0.Kind, .string p0.Name, .slice none 0 0, .int .i64 0, .string (⟨#[]⟩ : ByteArray)]) (O' := [(b_3, .cells #[.int .i64 p0.Kind, .string p0.Name, .slice none 0 0, .int .i64 0, .string (⟨#[]⟩ : ByteArray)] 146 (0, 0)), (b_2, .cells #[.int .i64 0, .string (⟨#[]⟩ : ByteArray), .slice none 0 0, .int .i64 0, .string (⟨#[]⟩ : ByteArray)] 146 (0, 0)), (b_1, .cells #[.int .i64 p0.Kind, .string p0.Name, pv0_0, .int .i64 p0.N, .string p0.Undo] 163 (0, 0))]) Sz_9 rfl rfl rfl rfl rfl rfl ⟨rfl, trivial⟩ rfl rfl) rfl ?_
  refine WL.nil ?_
  refine WT.seq ?_
  refine WT.region ?_
  refine lq (q_fieldAddr Fld_163_2 rfl) rfl ?_
  refine lq (q_load1 T1_161 rfl (fun w1 hw => hw.rgO (i := 2) rfl 2 1 [pv0_0] rfl)) rfl ?_
  obtain ⟨x1, hx1, h⟩ := bind_some h
  refine lc (k_call (js := []) (R := []) Fun_149 rfl rfl (fun w1 hw ap hl => m_l_toExprS_ok hw.fro N p0.Args ph0_0  hx1)) rfl (fun v1 Φ_1 F1 q1 => ?_)
  obtain ⟨ap1, fr1, v2, rfl, rfl, h1⟩ := q1
  replace ph0_0 := ph0_0.frame RTExpr.lasts fr1 (ap1.o pa0_0)
  refine lq (q_fieldAddr Fld_146_2 rfl) rfl ?_
  refine ls (s_store (i := 0) (vs := [v1]) (C' := [.int .i64 p0.Kind, .string p0.Name, v1, .int .i64 0, .string (⟨#[]⟩ : ByteArray)]) (O' := [(b_3, .cells #[.int .i64 p0.Kind, .string p0.Name, v1, .int .i64 0, .string (⟨#[]⟩ : ByteArray)] 146 (0, 0)), (b_2, .cells #[.int .i64 0, .string (⟨#[]⟩ : ByteArray), .slice none 0 0, .int .i64 0, .string (⟨#[]⟩ : ByteArray)] 146 (0, 0)), (b_1, .cells #[.int .i64 p0.Kind, .string p0.Name, pv0_0, .int .i64 p0.N, .string p0.Undo] 163 (0, 0))]) Sz_144 rfl rfl rfl (one_cells h1.one) rfl rfl ⟨h1.one, trivial⟩ rfl rfl) rfl ?_
  refine WL.nil ?_
  refine WT.seq ?_
  refine WT.region ?_
  refine lq (q_fieldAddr Fld_163_3 rfl) rfl ?_
  refine lq (q_load1 T1_3 rfl (fun w1 hw => hw.rgO (i := 2) rfl 3 1 [.int .i64 p0.N] rfl)) rfl ?_
  refine lq (q_fieldAddr Fld_146_3 rfl) rfl ?_
  refine ls (s_store (i := 0) (vs := [.int .i64 p0.N]) (C' := [.int .i64 p0.Kind, .string p0.Name, v1, .int .i64 p0.N, .string (⟨#[]⟩ : ByteArray)]) (O' := [(b_3, .cells #[.int .i64 p0.Kind, .string p0.Name, v1, .int .i64 p0.N, .string (⟨#[]⟩ : ByteArray)] 146 (0, 0)), (b_2, .cells #[.int .i64 0, .string (⟨#[]⟩ : ByteArray), .slice none 0 0, .int .i64 0, .string (⟨#[]⟩ : ByteArray)] 146 (0, 0)), (b_1, .cells #[.int .i64 p0.Kind, .string p0.Name, pv0_0, .int .i64 p0.N, .string p0.Undo] 163 (0, 0))]) Sz_3 rfl rfl rfl rfl rfl rfl ⟨rfl, trivial⟩ rfl rfl) rfl ?_
  refine WL.nil ?_
  refine WT.seq ?_
  refine WT.region ?_
  refine lq (q_fieldAddr Fld_163_4 rfl) rfl ?_
  refine lq (q_load1 T1_9 rfl (fun w1 hw => hw.rgO (i := 2) rfl 4 1 [.string p0.Undo] rfl)) rfl ?_
  refine lq (q_fieldAddr Fld_146_4 rfl) rfl ?_
  refine ls (s_store (i := 0) (vs := [.string p0.Undo]) (C' := [.int .i64 p0.Kind, .string p0.Name, v1, .int .i64 p0.N, .string p0.Undo]) (O' := [(b_3, .cells #[.int .i64 p0.Kind, .string p0.Name, v1, .int .i64 p0.N, .string p0.Undo] 146 (0, 0)), (b_2, .cells #[.int .i64 0, .string (⟨#[]⟩ : ByteArray), .slice none 0 0, .int .i64 0, .string (⟨#[]⟩ : ByteArray)] 146 (0, 0)), (b_1, .cells #[.int .i64 p0.Kind, .string p0.Name, pv0_0, .int .i64 p0.N, .string p0.Undo] 163 (0, 0))]) Sz_9 rfl rfl rfl rfl rfl rfl ⟨rfl, trivial⟩ rfl rfl) rfl ?_
  refine WL.nil ?_
  refine WT.seq ?_
  refine WT.region ?_
  refine lq (q_loadN Tn_146 rfl (fun w1 hw => hw.rgO (i := 0) rfl 0 5 [.int .i64 p0.Kind, .string p0.Name, v1, .int .i64 p0.N, .string p0.Undo] rfl) rfl) rfl ?_
  refine ls (s_store (i := 1) (vs := [.int .i64 p0.Kind, .string p0.Name, v1, .int .i64 p0.N, .string p0.Undo]) (C' := [.int .i64 p0.Kind, .string p0.Name, v1, .int .i64 p0.N, .string p0.Undo]) (O' := [(b_3, .cells #[.int .i64 p0.Kind, .string p0.Name, v1, .int .i64 p0.N, .string p0.Undo] 146 (0, 0)), (b_2, .cells #[.int .i64 p0.Kind, .string p0.Name, v1, .int .i64 p0.N, .string p0.Undo] 146 (0, 0)), (b_1, .cells #[.int .i64 p0.Kind, .string p0.Name, pv0_0, .int .i64 p0.N, .string p0.Undo] 163 (0, 0))]) Sz_146 rfl rfl rfl rfl rfl rfl ⟨rfl, rfl, h1.one, rfl, rfl, trivial⟩ rfl rfl) rfl ?_
  refine WL.nil ?_
  refine WT.ret Try.func107 (resOk.one (rv_cell Tn_146 rfl (fun w1 hw => hw.rgO (i := 1) rfl 0 5 [.int .i64 p0.Kind, .string p0.Name, v1, .int .i64 p0.N, .string p0.Undo] rfl) rfl)) (fun w1 hw => ?_)
  cases h
  refine postG_of_St (js := [0]) hw rfl ⟨v1, rfl, rfl, h1⟩
theorem m_l_toActS_ok {Φ : Hp} {w : World} (hΦ : In Φ w) (N : Nat) (p0 : (List TAct)) {pv0 : Value} {pG0 : List Nat} (ph0 : RSl RTAct 5 Φ pG0 pv0 p0) {r : (List TAct)} (h : m_l_toActS N p0 = some r) :
    Calls Try.prog 56 [pv0].toArray w (PostG Φ w [] (fun Φ' Fs v => ∃ (sr_0_0 : Value) (Dr_0_0 : List Nat), v = sr_0_0 ∧ Fs = [ob sr_0_0, Dr_0_0] ∧ OSl OTAct 146 5 Φ' Dr_0_0 sr_0_0 r)) := by
  refine enter Try.func56 rfl Try.ntmps56 rfl (St.start0 hΦ) ?_
  have pa0 : Old ⟨w, [], Φ⟩ pG0 := Old.mk hΦ ph0.kn (Dj.empty _)
  revert pa0
  generalize hb0 : (⟨w, [], Φ⟩ : Base) = w0
  intro pa0
  unfold m_l_toActS at h
  refine WT.seq ?_
  refine WT.region ?_
  refine lq (q_assign rfl) rfl ?_
  refine WL.nil ?_
  refine WT.seq ?_
  refine WT.region ?_
  refine lq (q_move rfl) rfl ?_
  refine lq (q_lenR Sl_35 rfl rfl ph0) rfl ?_
  obtain ⟨x1, hx1, h⟩ := bind_some h
  refine le' (e_make (R := OTAct) Sl_49 Zr_146 By_146 rfl rfl rfl (fun _ => ⟨.slice none 0 0, rfl, rfl, OSl.nil _ _ _ _⟩) rfl rfl (Int.le_refl _) hx1 (mk_le hx1)) rfl (fun v1 Φ_1 D1 q1 => ?_)
  obtain ⟨fr1, h1⟩ := q1
  replace ph0 := ph0.frame RTAct.lasts fr1 (Dj.empty _)
  refine WL.conv (S' := St w0 Φ_1 [] ([] :: [ob v1])) (fun w1 hw => hw.addNil) ?_
  refine lq (q_assign rfl) rfl ?_
  refine WL.nil ?_
  refine WT.seq ?_
  refine WT.seq ?_
  refine WT.region ?_
  refine lq (q_assign rfl) rfl ?_
  refine WL.nil ?_
  refine WT.block ?_
  refine WT.loop ?_
  refine WT.mono (l' := [(0, pv0), (3, v1), (4, .int .i64 0)]) (S' := St w0 Φ_1 [] [[], ob v1]) ⟨rfl, rfl, rfl, trivial⟩ (fun w1 hw => (hw.sel (js := [0, 0]) rfl).selO (js := []) rfl) ?_
  refine loop_ind (σ := Hp × (List TAct) × List Nat × Int) (fun s => [(0, pv0), (3, v1), (4, .int .i64 s.2.2.2)]) (fun s => St w0 s.1 [] [s.2.2.1, ob v1]) (fun m s => m_l_toActS_l1 N p0 m s.2.1 s.2.2.2 = some r ∧ (OSl OTAct 146 5 s.1 s.2.2.1 v1 s.2.1) ∧ (RSl RTAct 5 s.1 pG0 pv0 p0)) (fun s hm => none_ne (show (none : Option ((List TAct))) = some r from hm.1)) (fun n1 ih1 s hm => ?_) N (Φ_1, x1, [], 0) ⟨h, h1, ph0⟩
  obtain ⟨Φ_2, s1, D2, s2⟩ := s
  obtain ⟨h, k1, ph0⟩ := hm
  replace h : m_l_toActS_l1 N p0 (n1 + 1) s1 s2 = some r := h
  replace k1 : OSl OTAct 146 5 Φ_2 D2 v1 s1 := k1
  replace ph0 : RSl RTAct 5 Φ_2 pG0 pv0 p0 := ph0
  show WT _ _ [(0, pv0), (3, v1), (4, .int .i64 s2)] (St w0 Φ_2 [] [D2, ob v1])
  unfold m_l_toActS_l1 at h
  refine WT.seq ?_
  refine WT.seq ?_
  refine WT.region ?_
  refine lq (q_move rfl) rfl ?_
  refine lq (q_move rfl) rfl ?_
  refine lq (q_lenR Sl_35 rfl rfl ph0) rfl ?_
  refine lq (q_lss rfl rfl) rfl ?_
  refine WL.nil ?_
  refine WT.cond rfl (fun c1 => ?_) (fun c1 => ?_)
  · replace h := ite_t h c1
    refine WT.skip ?_
    refine WT.seq ?_
    refine WT.block ?_
    refine WT.region ?_
    refine lq (q_move rfl) rfl ?_
    refine lq (q_move rfl) rfl ?_
    refine lq (q_move rfl) rfl ?_
    refine lq (q_move rfl) rfl ?_
    obtain ⟨x2, hx2, h⟩ := bind_some h
    obtain ⟨cs1, F1, -, g1, hb1, hs1, r1⟩ := ph0.el (idx_some hx2).2.2
    obtain ⟨v2, G1, rfl, hq1, h2⟩ := r1
    obtain rfl := hq1.symm
    refine lq (q_indexAddr Sl_35 rfl rfl ph0 hx2) rfl ?_
    refine lq (q_loadN Tn_163 rfl (fun w1 hw => (g1.of_eq 0 5 rfl rfl : rg _ _ _ [.int .i64 x2.Kind, .string x2.Name, v2, .int .i64 x2.N, .string x2.Undo]).rangeAt hw.fro) rfl) rfl ?_
    obtain ⟨x3, hx3, h⟩ := bind_some h
    refine lc (k_call (js := []) (R := [D2, ob v1]) Fun_107 rfl rfl (fun w1 hw ap hl => m_l_toAct_ok hw.fro N x2 h2  hx3)) rfl (fun v3 Φ_3 F2 q2 => ?_)
    obtain ⟨ap1, fr2, v4, rfl, rfl, h3⟩ := q2
    replace ph0 := ph0.frame RTAct.lasts fr2 (ap1.o pa0)
    replace k1 := k1.frame OTAct.lasts fr2 (ap1.r (i := 1) rfl) (ap1.r (i := 0) rfl)
    obtain ⟨x4, hx4, h⟩ := bind_some h
    obtain ⟨cs2, F3, -, g2, hb2, hs2, r2⟩ := k1.elS (idx_some hx4).2.2
    obtain ⟨v5, rfl, rfl, h4⟩ := r2
    have h5 := h4.rsl
    refine lq (q_indexAddr Sl_49 rfl rfl k1.rsl hx4) rfl ?_
    have r3 : OTAct Φ_3 ((ob v4 ++ [])) [.int .i64 x3.Kind, .string x3.Name, v4, .int .i64 x3.N, .string x3.Undo] x3 := ⟨v4, rfl, rfl, h3⟩
    refine lu (u_setO (js := [2]) (Rr := [ob v4, D2]) (vs := [.int .i64 x3.Kind, .string x3.Name, v4, .int .i64 x3.N, .string x3.Undo]) (x' := x3) OTAct.lasts Sz_146 rfl rfl rfl rfl ⟨rfl, rfl, h3.one, rfl, rfl, trivial⟩ rfl k1 (idx_lt hx4) r3 (OTAct.knows _ _ _ _ r3) (fun ap => (ap.r (i := 1) rfl)) (fun ap => by simpa [ob_nil] using (ap.r (i := 0) rfl))) rfl (fun Φ_4 D3 q3 => ?_)
    obtain ⟨⟨ap2, fr3⟩, sp1, h6⟩ := q3
    replace ph0 := ph0.frame RTAct.lasts fr3 (ap2.o pa0)
    refine WL.conv (S' := St w0 Φ_4 [] [D3, ob v1]) (fun w1 hw => hw.merge (js := [2, 1]) rfl (by simpa [List.append_assoc, ob_nil] using sp1)) ?_
    refine WL.nil ?_
    refine WT.inBlock ?_
    refine WT.region ?_
    refine lq (q_move rfl) rfl ?_
    refine lq (q_add rfl rfl) rfl ?_
    refine lq (q_assign rfl) rfl ?_
    refine WL.nil ?_
    refine WT.inLoop (WT.mono (l' := [(0, pv0), (3, v1), (4, .int .i64 (IntKind.i64.wrap (s2 + 1)))]) (S' := St w0 Φ_4 [] [D3, ob v1]) ⟨rfl, rfl, rfl, trivial⟩ (fun w1 hw => (hw.sel (js := [0, 0]) rfl).selO (js := []) rfl) ?_)
    exact ih1 (Φ_4, (s1.set s2.toNat x3), D3, IntKind.i64.wrap (s2 + 1)) ⟨h, h6, ph0⟩
  replace h := ite_f h c1
  refine WT.exit rfl ?_
  refine WT.seq ?_
  refine WT.region ?_
  refine lq (q_move rfl) rfl ?_
  refine lq (q_assign rfl) rfl ?_
  refine WL.nil ?_
  refine WT.ret Try.func56 (resOk.one rfl) (fun w1 hw => ?_)
  subst hb0
  cases h
  refine postG_of_St (js := [1, 0]) hw rfl ⟨v1, D2, rfl, rfl, k1⟩
theorem m_l_toRule_ok {Φ : Hp} {w : World} (hΦ : In Φ w) (N : Nat) (p0 : TRule) {pv0_0 : Value} {pG0_0 : List Nat} {pv0_1 : Value} {pG0_1 : List Nat} {pv0_2 : Value} {pG0_2 : List Nat} (ph0_0 : RSl RTPat 3 Φ pG0_0 pv0_0 p0.Pats) (ph0_1 : RSl RTCond 11 Φ pG0_1 pv0_1 p0.Conds) (ph0_2 : RSl RTAct 5 Φ pG0_2 pv0_2 p0.Acts) {r : TRule} (h : m_l_toRule N p0 = some r) :
    Calls Try.prog 14 [.agg [.string p0.Name, .int .i64 p0.Sal, pv0_0, pv0_1, pv0_2].toArray].toArray w (PostG Φ w [] (fun Φ' Fs v => ∃ (sr_0_0 : Value) (Dr_0_0 : List Nat) (sr_0_1 : Value) (sr_0_2 : Value) (Dr_0_2 : List Nat), v = .agg [.string r.Name, .int .i64 r.Sal, sr_0_0, sr_0_1, sr_0_2].toArray ∧ Fs = [ob sr_0_0, Dr_0_0, ob sr_0_1, ob sr_0_2, Dr_0_2] ∧ OSl OTPat 94 3 Φ' Dr_0_0 sr_0_0 r.Pats ∧ OSl RTCond 142 11 Φ' [] sr_0_1 r.Conds ∧ OSl OTAct 146 5 Φ' Dr_0_2 sr_0_2 r.Acts)) := by
  refine enter Try.func14 rfl Try.ntmps14 rfl (St.start0 hΦ) ?_
  have pa0_0 : Old ⟨w, [], Φ⟩ pG0_0 := Old.mk hΦ ph0_0.kn (Dj.empty _)
  have pa0_1 : Old ⟨w, [], Φ⟩ pG0_1 := Old.mk hΦ ph0_1.kn (Dj.empty _)
  have pa0_2 : Old ⟨w, [], Φ⟩ pG0_2 := Old.mk hΦ ph0_2.kn (Dj.empty _)
  unfold m_l_toRule at h
  refine WT.seq ?_
  refine WT.region ?_
  refine ln (n_box (C := #[.string p0.Name, .int .i64 p0.Sal, pv0_0, pv0_1, pv0_2]) rfl rfl) rfl (fun b_1 => ?_)
  refine ln (n_alloc (C := #[.string (⟨#[]⟩ : ByteArray), .int .i64 0, .slice none 0 0, .slice none 0 0, .slice none 0 0]) Zr_51 rfl) rfl (fun b_2 => ?_)
  refine WL.nil ?_
  refine WT.seq ?_
  refine WT.region ?_
  refine ln (n_alloc (C := #[.string (⟨#[]⟩ : ByteArray), .int .i64 0, .slice none 0 0, .slice none 0 0, .slice none 0 0]) Zr_51 rfl) rfl (fun b_3 => ?_)
  refine WL.nil ?_
  refine WT.seq ?_
  refine WT.region ?_
  refine lq (q_fieldAddr Fld_37_0 rfl) rfl ?_
  refine lq (q_load1 T1_9 rfl (fun w1 hw => hw.rgO (i := 2) rfl 0 1 [.string p0.Name] rfl)) rfl ?_
  refine lq (q_fieldAddr Fld_51_0 rfl) rfl ?_
  refine ls (s_store (i := 0) (vs := [.string p0.Name]) (C' := [.string p0.Name, .int .i64 0, .slice none 0 0, .slice none 0 0, .slice none 0 0]) (O' := [(b_3, .cells #[.string p0.Name, .int .i64 0, .slice none 0 0, .slice none 0 0, .slice none 0 0] 51 (0, 0)), (b_2, .cells #[.string (⟨#[]⟩ : ByteArray), .int .i64 0, .slice none 0 0, .slice none 0 0, .slice none 0 0] 51 (0, 0)), (b_1, .cells #[.string p0.Name, .int .i64 p0.Sal, pv0_0, pv0_1, pv0_2] 37 (0, 0))]) Sz_9 rfl rfl rfl rfl rfl rfl ⟨rfl, trivial⟩ rfl rfl) rfl ?_
  refine WL.nil ?_
  refine WT.seq ?_
  refine WT.region ?_
  refine lq (q_fieldAddr Fld_37_1 rfl) rfl ?_
  refine lq (q_load1 T1_3 rfl (fun w1 hw => hw.rgO (i := 2) rfl 1 1 [.int .i64 p0.Sal] rfl)) rfl ?_
  refine lq (q_fieldAddr Fld_51_1 rfl) rfl ?_
  refine ls (s_store (i := 0) (vs := [.int .i64 p0.Sal]) (C' := [.string p0.Name, .int .i64 p0.Sal, .slice none 0 0, .slice none 0 0, .slice none 0 0]) (O' := [(b_3, .cells #[.string p0.Name, .int .i64 p0.Sal, .slice none 0 0, .slice none 0 0, .slice none 0 0] 51 (0, 0)), (b_2, .cells #[.string (⟨#[]⟩ : ByteArray), .int .i64 0, .slice none 0 0, .slice none 0 0, .slice none 0 0] 51 (0, 0)), (b_1, .cells #[.string p0.Name, .int .i64 p0.Sal, pv0_0, pv0_1, pv0_2] 37 (0, 0))]) Sz_3 rfl rfl rfl rfl rfl rfl ⟨rfl, trivial⟩ rfl rfl) rfl ?_
  refine WL.nil ?_
  refine WT.seq ?_
  refine WT.region ?_
  refine lq (q_fieldAddr Fld_37_2 rfl) rfl ?_
  refine lq (q_load1 T1_33 rfl (fun w1 hw => hw.rgO (i := 2) rfl 2 1 [pv0_0] rfl)) rfl ?_
  obtain ⟨x1, hx1, h⟩ := bind_some h
  refine lc (k_call (js := []) (R := []) Fun_54 rfl rfl (fun w1 hw ap hl => m_l_toPatS_ok hw.fro N p0.Pats ph0_0  hx1)) rfl (fun v1 Φ_1 F1 q1 => ?_)
  obtain ⟨ap1, fr1, v2, D1, rfl, rfl, h1⟩ := q1
  replace ph0_0 := ph0_0.frame RTPat.lasts fr1 (ap1.o pa0_0)
  replace ph0_1 := ph0_1.frame RTCond.lasts fr1 (ap1.o pa0_1)
  replace ph0_2 := ph0_2.frame RTAct.lasts fr1 (ap1.o pa0_2)
  refine lq (q_fieldAddr Fld_51_2 rfl) rfl ?_
  refine ls (s_store (i := 0) (vs := [v1]) (C' := [.string p0.Name, .int .i64 p0.Sal, v1, .slice none 0 0, .slice none 0 0]) (O' := [(b_3, .cells #[.string p0.Name, .int .i64 p0.Sal, v1, .slice none 0 0, .slice none 0 0] 51 (0, 0)), (b_2, .cells #[.string (⟨#[]⟩ : ByteArray), .int .i64 0, .slice none 0 0, .slice none 0 0, .slice none 0 0] 51 (0, 0)), (b_1, .cells #[.string p0.Name, .int .i64 p0.Sal, pv0_0, pv0_1, pv0_2] 37 (0, 0))]) Sz_47 rfl rfl rfl (one_cells h1.one) rfl rfl ⟨h1.one, trivial⟩ rfl rfl) rfl ?_
  refine WL.nil ?_
  refine WT.seq ?_
  refine WT.region ?_
  refine lq (q_fieldAddr Fld_37_3 rfl) rfl ?_
  refine lq (q_load1 T1_34 rfl (fun w1 hw => hw.rgO (i := 2) rfl 3 1 [pv0_1] rfl)) rfl ?_
  obtain ⟨x2, hx2, h⟩ := bind_some h
  refine lc (k_call (js := []) (R := [ob v1, D1]) Fun_55 rfl rfl (fun w1 hw ap hl => m_l_toCondS_ok hw.fro N p0.Conds ph0_1  hx2)) rfl (fun v3 Φ_2 F2 q2 => ?_)
  obtain ⟨ap2, fr2, v4, rfl, rfl, h2⟩ := q2
  replace ph0_0 := ph0_0.frame RTPat.lasts fr2 (ap2.o pa0_0)
  replace ph0_1 := ph0_1.frame RTCond.lasts fr2 (ap2.o pa0_1)
  replace ph0_2 := ph0_2.frame RTAct.lasts fr2 (ap2.o pa0_2)
  replace h1 := h1.frame OTPat.lasts fr2 (ap2.r (i := 0) rfl) (ap2.r (i := 1) rfl)
  refine lq (q_fieldAddr Fld_51_3 rfl) rfl ?_
  refine ls (s_store (i := 0) (vs := [v3]) (C' := [.string p0.Name, .int .i64 p0.Sal, v1, v3, .slice none 0 0]) (O' := [(b_3, .cells #[.string p0.Name, .int .i64 p0.Sal, v1, v3, .slice none 0 0] 51 (0, 0)), (b_2, .cells #[.string (⟨#[]⟩ : ByteArray), .int .i64 0, .slice none 0 0, .slice none 0 0, .slice none 0 0] 51 (0, 0)), (b_1, .cells #[.string p0.Name, .int .i64 p0.Sal, pv0_0, pv0_1, pv0_2] 37 (0, 0))]) Sz_48 rfl rfl rfl (one_cells h2.one) rfl rfl ⟨h2.one, trivial⟩ rfl rfl) rfl ?_
  refine WL.nil ?_
  refine WT.seq ?_
  refine WT.region ?_
  refine lq (q_fieldAddr Fld_37_4 rfl) rfl ?_
  refine lq (q_load1 T1_35 rfl (fun w1 hw => hw.rgO (i := 2) rfl 4 1 [pv0_2] rfl)) rfl ?_
  obtain ⟨x3, hx3, h⟩ := bind_some h
  refine lc (k_call (js := []) (R := [ob v3, ob v1, D1]) Fun_56 rfl rfl (fun w1 hw ap hl => m_l_toActS_ok hw.fro N p0.Acts ph0_2  hx3)) rfl (fun v5 Φ_3 F3 q3 => ?_)
  obtain ⟨ap3, fr3, v6, D2, rfl, rfl, h3⟩ := q3
  replace h1 := h1.frame OTPat.lasts fr3 (ap3.r (i := 1) rfl) (ap3.r (i := 2) rfl)
  replace h2 := h2.frame RTCond.lasts fr3 (ap3.r (i := 0) rfl) (Dj.nil _)
  refine lq (q_fieldAddr Fld_51_4 rfl) rfl ?_
  refine ls (s_store (i := 0) (vs := [v5]) (C' := [.string p0.Name, .int .i64 p0.Sal, v1, v3, v5]) (O' := [(b_3, .cells #[.string p0.Name, .int .i64 p0.Sal, v1, v3, v5] 51 (0, 0)), (b_2, .cells #[.string (⟨#[]⟩ : ByteArray), .int .i64 0, .slice none 0 0, .slice none 0 0, .slice none 0 0] 51 (0, 0)), (b_1, .cells #[.string p0.Name, .int .i64 p0.Sal, pv0_0, pv0_1, pv0_2] 37 (0, 0))]) Sz_49 rfl rfl rfl (one_cells h3.one) rfl rfl ⟨h3.one, trivial⟩ rfl rfl) rfl ?_
  refine WL.nil ?_
  refine WT.seq ?_
  refine WT.region ?_
  refine lq (q_loadN Tn_51 rfl (fun w1 hw => hw.rgO (i := 0) rfl 0 5 [.string p0.Name, .int .i64 p0.Sal, v1, v3, v5] rfl) rfl) rfl ?_
  refine ls (s_store (i := 1) (vs := [.string p0.Name, .int .i64 p0.Sal, v1, v3, v5]) (C' := [.string p0.Name, .int .i64 p0.Sal, v1, v3, v5]) (O' := [(b_3, .cells #[.string p0.Name, .int .i64 p0.Sal, v1, v3, v5] 51 (0, 0)), (b_2, .cells #[.string p0.Name, .int .i64 p0.Sal, v1, v3, v5] 51 (0, 0)), (b_1, .cells #[.string p0.Name, .int .i64 p0.Sal, pv0_0, pv0_1, pv0_2] 37 (0, 0))]) Sz_51 rfl rfl rfl rfl rfl rfl ⟨rfl, rfl, h1.one, h2.one, h3.one, trivial⟩ rfl rfl) rfl ?_
  refine WL.nil ?_
  refine WT.ret Try.func14 (resOk.one (rv_cell Tn_51 rfl (fun w1 hw => hw.rgO (i := 1) rfl 0 5 [.string p0.Name, .int .i64 p0.Sal, v1, v3, v5] rfl) rfl)) (fun w1 hw => ?_)
  cases h
  refine postG_of_St (js := [3, 3, 2, 0, 0]) hw rfl ⟨v1, D1, v3, v5, D2, rfl, rfl, h1, h2, h3⟩
theorem m_l_toValS_ok {Φ : Hp} {w : World} (hΦ : In Φ w) (N : Nat) (p0 : (List TVal)) {pv0 : Value} {pG0 : List Nat} (ph0 : RSl RTVal 3 Φ pG0 pv0 p0) {r : (List TVal)} (h : m_l_toValS N p0 = some r) :
    Calls Try.prog 174 [pv0].toArray w (PostG Φ w [] (fun Φ' Fs v => ∃ (sr_0_0 : Value), v = sr_0_0 ∧ Fs = [ob sr_0_0] ∧ OSl RTVal 109 3 Φ' [] sr_0_0 r)) := by
  refine enter Try.func174 rfl Try.ntmps174 rfl (St.start0 hΦ) ?_
  have pa0 : Old ⟨w, [], Φ⟩ pG0 := Old.mk hΦ ph0.kn (Dj.empty _)
  revert pa0
  generalize hb0 : (⟨w, [], Φ⟩ : Base) = w0
  intro pa0
  unfold m_l_toValS at h
  refine WT.seq ?_
  refine WT.region ?_
  refine lq (q_assign rfl) rfl ?_
  refine WL.nil ?_
  refine WT.seq ?_
  refine WT.region ?_
  refine lq (q_move rfl) rfl ?_
  refine lq (q_lenR Sl_165 rfl rfl ph0) rfl ?_
  obtain ⟨x1, hx1, h⟩ := bind_some h
  refine le' (e_make (R := RTVal) Sl_95 Zr_109 By_109 rfl rfl rfl (fun _ => ⟨rfl, rfl⟩) rfl rfl (Int.le_refl _) hx1 (mk_le hx1)) rfl (fun v1 Φ_1 D1 q1 => ?_)
  obtain ⟨fr1, h1⟩ := q1
  replace ph0 := ph0.frame RTVal.lasts fr1 (Dj.empty _)
  refine lq (q_assign rfl) rfl ?_
  refine WL.nil ?_
  refine WT.seq ?_
  refine WT.seq ?_
  refine WT.region ?_
  refine lq (q_assign rfl) rfl ?_
  refine WL.nil ?_
  refine WT.block ?_
  refine WT.loop ?_
  refine WT.mono (l' := [(0, pv0), (3, v1), (4, .int .i64 0)]) (S' := St w0 Φ_1 [] [ob v1]) ⟨rfl, rfl, rfl, trivial⟩ (fun w1 hw => (hw.sel (js := [0]) rfl).selO (js := []) rfl) ?_
  refine loop_ind (σ := Hp × (List TVal) × Int) (fun s => [(0, pv0), (3, v1), (4, .int .i64 s.2.2)]) (fun s => St w0 s.1 [] [ob v1]) (fun m s => m_l_toValS_l1 N p0 m s.2.1 s.2.2 = some r ∧ (OSl RTVal 109 3 s.1 [] v1 s.2.1) ∧ (RSl RTVal 3 s.1 pG0 pv0 p0)) (fun s hm => none_ne (show (none : Option ((List TVal))) = some r from hm.1)) (fun n1 ih1 s hm => ?_) N (Φ_1, x1, 0) ⟨h, h1, ph0⟩
  obtain ⟨Φ_2, s1, s2⟩ := s
  obtain ⟨h, k1, ph0⟩ := hm
  replace h : m_l_toValS_l1 N p0 (n1 + 1) s1 s2 = some r := h
  replace k1 : OSl RTVal 109 3 Φ_2 [] v1 s1 := k1
  replace ph0 : RSl RTVal 3 Φ_2 pG0 pv0 p0 := ph0
  show WT _ _ [(0, pv0), (3, v1), (4, .int .i64 s2)] (St w0 Φ_2 [] [ob v1])
  unfold m_l_toValS_l1 at h
  refine WT.seq ?_
  refine WT.seq ?_
  refine WT.region ?_
  refine lq (q_move rfl) rfl ?_
  refine lq (q_move rfl) rfl ?_
  refine lq (q_lenR Sl_165 rfl rfl ph0) rfl ?_
  refine lq (q_lss rfl rfl) rfl ?_
  refine WL.nil ?_
  refine WT.cond rfl (fun c1 => ?_) (fun c1 => ?_)
  · replace h := ite_t h c1
    refine WT.skip ?_
    refine WT.seq ?_
    refine WT.block ?_
    refine WT.region ?_
    refine lq (q_move rfl) rfl ?_
    refine lq (q_move rfl) rfl ?_
    refine lq (q_move rfl) rfl ?_
    refine lq (q_move rfl) rfl ?_
    obtain ⟨x2, hx2, h⟩ := bind_some h
    obtain ⟨cs1, F1, -, g1, hb1, hs1, r1⟩ := ph0.el (idx_some hx2).2.2
    obtain ⟨rfl, -⟩ := r1
    refine lq (q_indexAddr Sl_165 rfl rfl ph0 hx2) rfl ?_
    refine lq (q_loadN Tn_155 rfl (fun w1 hw => (g1.of_eq 0 3 rfl rfl : rg _ _ _ [.int .i64 x2.K, .int .i64 x2.N, .string x2.S]).rangeAt hw.fro) rfl) rfl ?_
    obtain ⟨x3, hx3, h⟩ := bind_some h
    refine lp (p_call Fun_172 rfl (fun w1 hw => m_l_toVal_ok hw.fro N x2 hx3)) rfl ?_
    obtain ⟨x4, hx4, h⟩ := bind_some h
    obtain ⟨cs2, F2, -, g2, hb2, hs2, r2⟩ := k1.elS (idx_some hx4).2.2
    obtain ⟨rfl, -⟩ := r2
    refine lq (q_indexAddr Sl_95 rfl rfl k1.rsl hx4) rfl ?_
    refine lu (u_setF (js := [0]) (Rr := []) (vs := [.int .i64 x3.K, .int .i64 x3.N, .string x3.S]) (x' := x3) RTVal.lasts RTVal.flat Sz_109 rfl rfl rfl rfl ⟨rfl, rfl, rfl, trivial⟩ rfl k1 (idx_lt hx4) ⟨rfl, rfl⟩) rfl (fun Φ_3 D2 q2 => ?_)
    obtain ⟨⟨ap1, fr2⟩, h2⟩ := q2
    replace ph0 := ph0.frame RTVal.lasts fr2 (ap1.o pa0)
    refine WL.nil ?_
    refine WT.inBlock ?_
    refine WT.region ?_
    refine lq (q_move rfl) rfl ?_
    refine lq (q_add rfl rfl) rfl ?_
    refine lq (q_assign rfl) rfl ?_
    refine WL.nil ?_
    refine WT.inLoop (WT.mono (l' := [(0, pv0), (3, v1), (4, .int .i64 (IntKind.i64.wrap (s2 + 1)))]) (S' := St w0 Φ_3 [] [ob v1]) ⟨rfl, rfl, rfl, trivial⟩ (fun w1 hw => (hw.sel (js := [0]) rfl).selO (js := []) rfl) ?_)
    exact ih1 (Φ_3, (s1.set s2.toNat x3), IntKind.i64.wrap (s2 + 1)) ⟨h, h2, ph0⟩
  replace h := ite_f h c1
  refine WT.exit rfl ?_
  refine WT.seq ?_
  refine WT.region ?_
  refine lq (q_move rfl) rfl ?_
  refine lq (q_assign rfl) rfl ?_
  refine WL.nil ?_
  refine WT.ret Try.func174 (resOk.one rfl) (fun w1 hw => ?_)
  subst hb0
  cases h
  refine postG_of_St (js := [0]) hw rfl ⟨v1, rfl, rfl, k1⟩
theorem m_l_toFact_ok {Φ : Hp} {w : World} (hΦ : In Φ w) (N : Nat) (p0 : TFact) {pv0_0 : Value} {pG0_0 : List Nat} (ph0_0 : RSl RTVal 3 Φ pG0_0 pv0_0 p0.Fields) {r : TFact} (h : m_l_toFact N p0 = some r) :
    Calls Try.prog 150 [.agg [.string p0.Kind, pv0_0].toArray].toArray w (PostG Φ w [] (fun Φ' Fs v => ∃ (sr_0_0 : Value), v = .agg [.string r.Kind, sr_0_0].toArray ∧ Fs = [ob sr_0_0] ∧ OSl RTVal 109 3 Φ' [] sr_0_0 r.Fields)) := by
  refine enter Try.func150 rfl Try.ntmps150 rfl (St.start0 hΦ) ?_
  unfold m_l_toFact at h
  refine WT.seq ?_
  refine WT.region ?_
  refine ln (n_box (C := #[.string p0.Kind, pv0_0]) rfl rfl) rfl (fun b_1 => ?_)
  refine ln (n_alloc (C := #[.string (⟨#[]⟩ : ByteArray), .slice none 0 0]) Zr_97 rfl) rfl (fun b_2 => ?_)
  refine WL.nil ?_
  refine WT.seq ?_
  refine WT.region ?_
  refine ln (n_alloc (C := #[.string (⟨#[]⟩ : ByteArray), .slice none 0 0]) Zr_97 rfl) rfl (fun b_3 => ?_)
  refine WL.nil ?_
  refine WT.seq ?_
  refine WT.region ?_
  refine lq (q_fieldAddr Fld_167_0 rfl) rfl ?_
  refine lq (q_load1 T1_9 rfl (fun w1 hw => hw.rgO (i := 2) rfl 0 1 [.string p0.Kind] rfl)) rfl ?_
  refine lq (q_fieldAddr Fld_97_0 rfl) rfl ?_
  refine ls (s_store (i := 0) (vs := [.string p0.Kind]) (C' := [.string p0.Kind, .slice none 0 0]) (O' := [(b_3, .cells #[.string p0.Kind, .slice none 0 0] 97 (0, 0)), (b_2, .cells #[.string (⟨#[]⟩ : ByteArray), .slice none 0 0] 97 (0, 0)), (b_1, .cells #[.string p0.Kind, pv0_0] 167 (0, 0))]) Sz_9 rfl rfl rfl rfl rfl rfl ⟨rfl, trivial⟩ rfl rfl) rfl ?_
  refine WL.nil ?_
  refine WT.seq ?_
  refine WT.region ?_
  refine lq (q_fieldAddr Fld_167_1 rfl) rfl ?_
  refine lq (q_load1 T1_165 rfl (fun w1 hw => hw.rgO (i := 2) rfl 1 1 [pv0_0] rfl)) rfl ?_
  obtain ⟨x1, hx1, h⟩ := bind_some h
  refine lc (k_call (js := []) (R := []) Fun_174 rfl rfl (fun w1 hw ap hl => m_l_toValS_ok hw.fro N p0.Fields ph0_0  hx1)) rfl (fun v1 Φ_1 F1 q1 => ?_)
  obtain ⟨ap1, fr1, v2, rfl, rfl, h1⟩ := q1
  refine lq (q_fieldAddr Fld_97_1 rfl) rfl ?_
  refine ls (s_store (i := 0) (vs := [v1]) (C' := [.string p0.Kind, v1]) (O' := [(b_3, .cells #[.string p0.Kind, v1] 97 (0, 0)), (b_2, .cells #[.string (⟨#[]⟩ : ByteArray), .slice none 0 0] 97 (0, 0)), (b_1, .cells #[.string p0.Kind, pv0_0] 167 (0, 0))]) Sz_95 rfl rfl rfl (one_cells h1.one) rfl rfl ⟨h1.one, trivial⟩ rfl rfl) rfl ?_
  refine WL.nil ?_
  refine WT.seq ?_
  refine WT.region ?_
  refine lq (q_loadN Tn_97 rfl (fun w1 hw => hw.rgO (i := 0) rfl 0 2 [.string p0.Kind, v1] rfl) rfl) rfl ?_
  refine ls (s_store (i := 1) (vs := [.string p0.Kind, v1]) (C' := [.string p0.Kind, v1]) (O' := [(b_3, .cells #[.string p0.Kind, v1] 97 (0, 0)), (b_2, .cells #[.string p0.Kind, v1] 97 (0, 0)), (b_1, .cells #[.string p0.Kind, pv0_0] 167 (0, 0))]) Sz_97 rfl rfl rfl rfl rfl rfl ⟨rfl, h1.one, trivial⟩ rfl rfl) rfl ?_
  refine WL.nil ?_
  refine WT.ret Try.func150 (resOk.one (rv_cell Tn_97 rfl (fun w1 hw => hw.rgO (i := 1) rfl 0 2 [.string p0.Kind, v1] rfl) rfl)) (fun w1 hw => ?_)
  cases h
  refine postG_of_St (js := [0]) hw rfl ⟨v1, rfl, rfl, h1⟩
end Go.Proofs.Ytjangilipfjcmaa
