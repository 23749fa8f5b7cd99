/- Printed by a program of ours: each Go function computes its Lean function. -/
import Derived.Test.YtjangilipfjcmaaGreatProg
import Derived.Test.YtjangilipfjcmaaGreatWMatchesMod
namespace Go.Proofs.YtjangilipfjcmaaGreat
open Eng
open Go.RowKit (Below)
set_option linter.unusedVariables false
set_option linter.unusedSimpArgs false

set_option maxRecDepth 100000
set_option maxHeartbeats 1000000
theorem mixed : Tryz.prog.follows .mixedOrders = true := by kernel_rfl
theorem Sl_22 : Sl Tryz.prog 22 5 1 = true := by kernel_rfl
theorem Fld_49_2 : Fld Tryz.prog 49 2 2 = true := by kernel_rfl
theorem T1_45 : T1 Tryz.prog 45 = true := by kernel_rfl
theorem Sl_45 : Sl Tryz.prog 45 114 3 = true := by kernel_rfl
theorem Tn_114 : Tn Tryz.prog 114 3 = true := by kernel_rfl
theorem Zr_114 : (Tryz.prog.info? 114).map (·.zero) = some (some (.agg #[.string ⟨#[]⟩, .slice none 0 0, .bool false])) := by kernel_rfl
theorem Sz_114 : Sz Tryz.prog 114 3 = true := by kernel_rfl
theorem Fld_114_2 : Fld Tryz.prog 114 2 2 = true := by kernel_rfl
theorem T1_4 : T1 Tryz.prog 4 = true := by kernel_rfl
theorem Bo_4 : Bo Tryz.prog 4 = true := by kernel_rfl
theorem MC_114_1 : madeCells (Value.agg #[.string ⟨#[]⟩, .slice none 0 0, .bool false] : Value).cells (1 * 3) = #[.string ⟨#[]⟩, .slice none 0 0, .bool false] := by kernel_rfl
theorem Ei_114 : (Tryz.prog.info? 114).map (fun i => (i.zero, i.size, i.bytes)) = some (some (.agg #[.string ⟨#[]⟩, .slice none 0 0, .bool false]), 3, 48) := by kernel_rfl
theorem Sl_100 : Sl Tryz.prog 100 121 3 = true := by kernel_rfl
theorem MC_121_0 : madeCells (Value.agg #[.int .i64 0, .int .i64 0, .string ⟨#[]⟩] : Value).cells (0 * 3) = #[] := by kernel_rfl
theorem Zr_121 : (Tryz.prog.info? 121).map (·.zero) = some (some (.agg #[.int .i64 0, .int .i64 0, .string ⟨#[]⟩])) := by kernel_rfl
theorem Ei_121 : (Tryz.prog.info? 121).map (fun i => (i.zero, i.size, i.bytes)) = some (some (.agg #[.int .i64 0, .int .i64 0, .string ⟨#[]⟩]), 3, 32) := by kernel_rfl
theorem Zr_116 : (Tryz.prog.info? 116).map (·.zero) = some (some (.agg #[.string ⟨#[]⟩, .slice none 0 0])) := by kernel_rfl
theorem Fld_116_0 : Fld Tryz.prog 116 0 0 = true := by kernel_rfl
theorem T1_9 : T1 Tryz.prog 9 = true := by kernel_rfl
theorem Fld_116_1 : Fld Tryz.prog 116 1 1 = true := by kernel_rfl
theorem T1_100 : T1 Tryz.prog 100 = true := by kernel_rfl
theorem Fun_219 : Fun Tryz.prog 219 = true := by kernel_rfl
theorem Pl_116 : Pl Tryz.prog 116 #[(0, 1), (1, 1)] = true := by kernel_rfl
theorem Sz_116 : Sz Tryz.prog 116 2 = true := by kernel_rfl
theorem Tn_116 : Tn Tryz.prog 116 2 = true := by kernel_rfl
theorem Fld_52_0 : Fld Tryz.prog 52 0 0 = true := by kernel_rfl
theorem T1_50 : T1 Tryz.prog 50 = true := by kernel_rfl
theorem Sl_50 : Sl Tryz.prog 50 142 3 = true := by kernel_rfl
theorem Tn_142 : Tn Tryz.prog 142 3 = true := by kernel_rfl
theorem Zr_142 : (Tryz.prog.info? 142).map (·.zero) = some (some (.agg #[.int .i64 0, .string ⟨#[]⟩, .slice none 0 0])) := by kernel_rfl
theorem Sz_142 : Sz Tryz.prog 142 3 = true := by kernel_rfl
theorem Fld_142_0 : Fld Tryz.prog 142 0 0 = true := by kernel_rfl
theorem T1_3 : T1 Tryz.prog 3 = true := by kernel_rfl
theorem Fld_142_1 : Fld Tryz.prog 142 1 1 = true := by kernel_rfl
theorem Fun_186 : Fun Tryz.prog 186 = true := by kernel_rfl
theorem Sl_55 : Sl Tryz.prog 55 123 4 = true := by kernel_rfl
theorem MC_123_0 : madeCells (Value.agg #[.string ⟨#[]⟩, .int .i64 0, .int .i64 0, .string ⟨#[]⟩] : Value).cells (0 * 4) = #[] := by kernel_rfl
theorem Zr_123 : (Tryz.prog.info? 123).map (·.zero) = some (some (.agg #[.string ⟨#[]⟩, .int .i64 0, .int .i64 0, .string ⟨#[]⟩])) := by kernel_rfl
theorem Ei_123 : (Tryz.prog.info? 123).map (fun i => (i.zero, i.size, i.bytes)) = some (some (.agg #[.string ⟨#[]⟩, .int .i64 0, .int .i64 0, .string ⟨#[]⟩]), 4, 48) := by kernel_rfl
theorem Tn_123 : Tn Tryz.prog 123 4 = true := by kernel_rfl
theorem Sz_123 : Sz Tryz.prog 123 4 = true := by kernel_rfl
theorem Fld_123_0 : Fld Tryz.prog 123 0 0 = true := by kernel_rfl
theorem Fld_123_1 : Fld Tryz.prog 123 1 1 = true := by kernel_rfl
theorem Tn_121 : Tn Tryz.prog 121 3 = true := by kernel_rfl
theorem Sz_121 : Sz Tryz.prog 121 3 = true := by kernel_rfl
theorem Pl_121 : Pl Tryz.prog 121 #[(0, 1), (1, 1), (2, 1)] = true := by kernel_rfl
theorem Fld_114_0 : Fld Tryz.prog 114 0 0 = true := by kernel_rfl
theorem Fld_114_1 : Fld Tryz.prog 114 1 1 = true := by kernel_rfl
theorem T1_112 : T1 Tryz.prog 112 = true := by kernel_rfl
theorem Sl_112 : Sl Tryz.prog 112 126 5 = true := by kernel_rfl
theorem Fun_187 : Fun Tryz.prog 187 = true := by kernel_rfl
theorem Tn_126 : Tn Tryz.prog 126 5 = true := by kernel_rfl
theorem Zr_126 : (Tryz.prog.info? 126).map (·.zero) = some (some (.agg #[.int .i64 0, .string ⟨#[]⟩, .int .i64 0, .int .i64 0, .string ⟨#[]⟩])) := by kernel_rfl
theorem Sz_126 : Sz Tryz.prog 126 5 = true := by kernel_rfl
theorem Fld_126_0 : Fld Tryz.prog 126 0 0 = true := by kernel_rfl
theorem Fld_126_2 : Fld Tryz.prog 126 2 2 = true := by kernel_rfl
theorem EqT_121 : EqT Tryz.prog 121 [.i .i64, .i .i64, .s] = true := by kernel_rfl
theorem Fld_126_1 : Fld Tryz.prog 126 1 1 = true := by kernel_rfl
theorem Fun_188 : Fun Tryz.prog 188 = true := by kernel_rfl
theorem Pl_123 : Pl Tryz.prog 123 #[(0, 1), (1, 3)] = true := by kernel_rfl
theorem MC_123_1 : madeCells (Value.agg #[.string ⟨#[]⟩, .int .i64 0, .int .i64 0, .string ⟨#[]⟩] : Value).cells (1 * 4) = #[.string ⟨#[]⟩, .int .i64 0, .int .i64 0, .string ⟨#[]⟩] := by kernel_rfl
theorem Sl_41 : Sl Tryz.prog 41 3 1 = true := by kernel_rfl
theorem Tn_52 : Tn Tryz.prog 52 2 = true := by kernel_rfl
theorem Fun_126 : Fun Tryz.prog 126 = true := by kernel_rfl
theorem Fun_127 : Fun Tryz.prog 127 = true := by kernel_rfl
theorem Tn_49 : Tn Tryz.prog 49 5 = true := by kernel_rfl
theorem Fun_61 : Fun Tryz.prog 61 = true := by kernel_rfl
theorem Fun_62 : Fun Tryz.prog 62 = true := by kernel_rfl
theorem EqT_123 : EqT Tryz.prog 123 [.s, .i .i64, .i .i64, .s] = true := by kernel_rfl
theorem Fun_138 : Fun Tryz.prog 138 = true := by kernel_rfl
theorem Fun_224 : Fun Tryz.prog 224 = true := by kernel_rfl
theorem Str_9 : Str Tryz.prog 9 = true := by kernel_rfl
theorem Fun_196 : Fun Tryz.prog 196 = true := by kernel_rfl
theorem Fun_139 : Fun Tryz.prog 139 = true := by kernel_rfl
theorem Fld_121_0 : Fld Tryz.prog 121 0 0 = true := by kernel_rfl
theorem Fld_121_1 : Fld Tryz.prog 121 1 1 = true := by kernel_rfl
theorem Fun_71 : Fun Tryz.prog 71 = true := by kernel_rfl
theorem Fld_121_2 : Fld Tryz.prog 121 2 2 = true := by kernel_rfl
theorem Fun_244 : Fun Tryz.prog 244 = true := by kernel_rfl
theorem Fun_225 : Fun Tryz.prog 225 = true := by kernel_rfl
theorem Fun_149 : Fun Tryz.prog 149 = true := by kernel_rfl
theorem Fun_70 : Fun Tryz.prog 70 = true := by kernel_rfl
theorem Fun_197 : Fun Tryz.prog 197 = true := by kernel_rfl
theorem Fun_24 : Fun Tryz.prog 24 = true := by kernel_rfl
theorem Fun_140 : Fun Tryz.prog 140 = true := by kernel_rfl
theorem Fld_128_0 : Fld Tryz.prog 128 0 0 = true := by kernel_rfl
theorem Fld_128_1 : Fld Tryz.prog 128 1 1 = true := by kernel_rfl
theorem Fun_141 : Fun Tryz.prog 141 = true := by kernel_rfl
theorem Fld_128_2 : Fld Tryz.prog 128 2 6 = true := by kernel_rfl
theorem Fld_175_0 : Fld Tryz.prog 175 0 0 = true := by kernel_rfl
theorem Fld_175_1 : Fld Tryz.prog 175 1 1 = true := by kernel_rfl
theorem Fld_175_2 : Fld Tryz.prog 175 2 6 = true := by kernel_rfl
theorem Pl_126 : Pl Tryz.prog 126 #[(0, 1), (1, 1), (2, 3)] = true := by kernel_rfl
theorem EqT_126 : EqT Tryz.prog 126 [.i .i64, .s, .i .i64, .i .i64, .s] = true := by kernel_rfl
theorem Fld_135_1 : Fld Tryz.prog 135 1 1 = true := by kernel_rfl
theorem Fld_135_2 : Fld Tryz.prog 135 2 2 = true := by kernel_rfl
theorem T1_133 : T1 Tryz.prog 133 = true := by kernel_rfl
theorem Sl_133 : Sl Tryz.prog 133 175 11 = true := by kernel_rfl
theorem Tn_175 : Tn Tryz.prog 175 11 = true := by kernel_rfl
theorem Zr_175 : (Tryz.prog.info? 175).map (·.zero) = some (some (.agg #[.string ⟨#[]⟩, .int .i64 0, .string ⟨#[]⟩, .int .i64 0, .int .i64 0, .string ⟨#[]⟩, .int .i64 0, .string ⟨#[]⟩, .int .i64 0, .int .i64 0, .string ⟨#[]⟩])) := by kernel_rfl
theorem Sz_175 : Sz Tryz.prog 175 11 = true := by kernel_rfl
theorem Fun_198 : Fun Tryz.prog 198 = true := by kernel_rfl
theorem Fld_135_0 : Fld Tryz.prog 135 0 0 = true := by kernel_rfl
theorem Tn_135 : Tn Tryz.prog 135 5 = true := by kernel_rfl
theorem Fun_142 : Fun Tryz.prog 142 = true := by kernel_rfl
theorem Fld_135_3 : Fld Tryz.prog 135 3 3 = true := by kernel_rfl
theorem Fld_135_4 : Fld Tryz.prog 135 4 4 = true := by kernel_rfl
theorem Fun_143 : Fun Tryz.prog 143 = true := by kernel_rfl
theorem Sl_137 : Sl Tryz.prog 137 9 1 = true := by kernel_rfl
theorem Fun_145 : Fun Tryz.prog 145 = true := by kernel_rfl
theorem Fun_77 : Fun Tryz.prog 77 = true := by kernel_rfl
theorem MC_9_1 : madeCells (Value.string ⟨#[]⟩ : Value).cells (1 * 1) = #[.string ⟨#[]⟩] := by kernel_rfl
theorem Zr_9 : (Tryz.prog.info? 9).map (·.zero) = some (some (.string ⟨#[]⟩)) := by kernel_rfl
theorem Ei_9 : (Tryz.prog.info? 9).map (fun i => (i.zero, i.size, i.bytes)) = some (some (.string ⟨#[]⟩), 1, 16) := by kernel_rfl
theorem Fun_199 : Fun Tryz.prog 199 = true := by kernel_rfl
theorem Fun_144 : Fun Tryz.prog 144 = true := by kernel_rfl
theorem Fld_49_3 : Fld Tryz.prog 49 3 3 = true := by kernel_rfl
theorem T1_46 : T1 Tryz.prog 46 = true := by kernel_rfl
theorem Sl_46 : Sl Tryz.prog 46 128 11 = true := by kernel_rfl
theorem Tn_128 : Tn Tryz.prog 128 11 = true := by kernel_rfl
theorem Zr_128 : (Tryz.prog.info? 128).map (·.zero) = some (some (.agg #[.int .i64 0, .int .i64 0, .string ⟨#[]⟩, .int .i64 0, .int .i64 0, .string ⟨#[]⟩, .int .i64 0, .string ⟨#[]⟩, .int .i64 0, .int .i64 0, .string ⟨#[]⟩])) := by kernel_rfl
theorem Sz_128 : Sz Tryz.prog 128 11 = true := by kernel_rfl
theorem MC_126_2 : madeCells (Value.agg #[.int .i64 0, .string ⟨#[]⟩, .int .i64 0, .int .i64 0, .string ⟨#[]⟩] : Value).cells (2 * 5) = #[.int .i64 0, .string ⟨#[]⟩, .int .i64 0, .int .i64 0, .string ⟨#[]⟩, .int .i64 0, .string ⟨#[]⟩, .int .i64 0, .int .i64 0, .string ⟨#[]⟩] := by kernel_rfl
theorem Fld_49_4 : Fld Tryz.prog 49 4 4 = true := by kernel_rfl
theorem T1_47 : T1 Tryz.prog 47 = true := by kernel_rfl
theorem Sl_47 : Sl Tryz.prog 47 135 5 = true := by kernel_rfl
theorem Zr_135 : (Tryz.prog.info? 135).map (·.zero) = some (some (.agg #[.int .i64 0, .string ⟨#[]⟩, .slice none 0 0, .int .i64 0, .string ⟨#[]⟩])) := by kernel_rfl
theorem Sz_135 : Sz Tryz.prog 135 5 = true := by kernel_rfl
theorem Fld_49_0 : Fld Tryz.prog 49 0 0 = true := by kernel_rfl
theorem Fld_49_1 : Fld Tryz.prog 49 1 1 = true := by kernel_rfl
theorem Fun_72 : Fun Tryz.prog 72 = true := by kernel_rfl
theorem Fun_73 : Fun Tryz.prog 73 = true := by kernel_rfl
theorem Fun_74 : Fun Tryz.prog 74 = true := by kernel_rfl
theorem Fun_75 : Fun Tryz.prog 75 = true := by kernel_rfl
theorem Fun_76 : Fun Tryz.prog 76 = true := by kernel_rfl
theorem Fun_109 : Fun Tryz.prog 109 = true := by kernel_rfl
theorem Fld_52_1 : Fld Tryz.prog 52 1 1 = true := by kernel_rfl
theorem Fun_79 : Fun Tryz.prog 79 = true := by kernel_rfl
theorem Fun_80 : Fun Tryz.prog 80 = true := by kernel_rfl
theorem Fun_66 : Fun Tryz.prog 66 = true := by kernel_rfl
theorem Fun_200 : Fun Tryz.prog 200 = true := by kernel_rfl
theorem Fun_240 : Fun Tryz.prog 240 = true := by kernel_rfl
theorem Fun_147 : Fun Tryz.prog 147 = true := by kernel_rfl
theorem Fun_220 : Fun Tryz.prog 220 = true := by kernel_rfl
theorem MC_3_3 : madeCells (Value.int .i64 0 : Value).cells (3 * 1) = #[.int .i64 0, .int .i64 0, .int .i64 0] := by kernel_rfl
theorem Zr_3 : (Tryz.prog.info? 3).map (·.zero) = some (some (.int .i64 0)) := by kernel_rfl
theorem Fun_146 : Fun Tryz.prog 146 = true := by kernel_rfl
theorem Fun_190 : Fun Tryz.prog 190 = true := by kernel_rfl
theorem Fun_131 : Fun Tryz.prog 131 = true := by kernel_rfl
theorem Fun_132 : Fun Tryz.prog 132 = true := by kernel_rfl
theorem Fun_67 : Fun Tryz.prog 67 = true := by kernel_rfl
theorem MC_3_0 : madeCells (Value.int .i64 0 : Value).cells (0 * 1) = #[] := by kernel_rfl
theorem Ei_3 : (Tryz.prog.info? 3).map (fun i => (i.zero, i.size, i.bytes)) = some (some (.int .i64 0), 1, 8) := by kernel_rfl
theorem Fun_21 : Fun Tryz.prog 21 = true := by kernel_rfl
theorem Fun_22 : Fun Tryz.prog 22 = true := by kernel_rfl
theorem T1_59 : T1 Tryz.prog 59 = true := by kernel_rfl
theorem Fun_189 : Fun Tryz.prog 189 = true := by kernel_rfl
theorem Pl_63 : Pl Tryz.prog 63 #[(0, 1), (1, 1), (2, 1)] = true := by kernel_rfl
theorem Zr_63 : (Tryz.prog.info? 63).map (·.zero) = some (some (.agg #[.int .i64 0, .slice none 0 0, .slice none 0 0])) := by kernel_rfl
theorem MC_63_1 : madeCells (Value.agg #[.int .i64 0, .slice none 0 0, .slice none 0 0] : Value).cells (1 * 3) = #[.int .i64 0, .slice none 0 0, .slice none 0 0] := by kernel_rfl
theorem Sl_59 : Sl Tryz.prog 59 63 3 = true := by kernel_rfl
theorem Ei_63 : (Tryz.prog.info? 63).map (fun i => (i.zero, i.size, i.bytes)) = some (some (.agg #[.int .i64 0, .slice none 0 0, .slice none 0 0]), 3, 56) := by kernel_rfl
theorem Sz_59 : Sz Tryz.prog 59 1 = true := by kernel_rfl
theorem MC_3_1 : madeCells (Value.int .i64 0 : Value).cells (1 * 1) = #[.int .i64 0] := by kernel_rfl
theorem Fun_130 : Fun Tryz.prog 130 = true := by kernel_rfl
theorem Zr_59 : (Tryz.prog.info? 59).map (·.zero) = some (some (.slice none 0 0)) := by kernel_rfl
theorem Fun_26 : Fun Tryz.prog 26 = true := by kernel_rfl
theorem Fun_28 : Fun Tryz.prog 28 = true := by kernel_rfl
theorem Fun_65 : Fun Tryz.prog 65 = true := by kernel_rfl
theorem T1_5 : T1 Tryz.prog 5 = true := by kernel_rfl
theorem Ik_5 : Ik Tryz.prog 5 .u8 = true := by kernel_rfl
theorem Ik_3 : Ik Tryz.prog 3 .i64 = true := by kernel_rfl
theorem Pl_159 : Pl Tryz.prog 159 #[(0, 1), (1, 1), (2, 1)] = true := by kernel_rfl
theorem Zr_159 : (Tryz.prog.info? 159).map (·.zero) = some (some (.agg #[.slice none 0 0, .int .i64 0, .int .i64 0])) := by kernel_rfl
theorem Fld_159_2 : Fld Tryz.prog 159 2 2 = true := by kernel_rfl
theorem Sz_3 : Sz Tryz.prog 3 1 = true := by kernel_rfl
theorem Fld_159_1 : Fld Tryz.prog 159 1 1 = true := by kernel_rfl
theorem Fld_159_0 : Fld Tryz.prog 159 0 0 = true := by kernel_rfl
theorem T1_22 : T1 Tryz.prog 22 = true := by kernel_rfl
theorem Fun_124 : Fun Tryz.prog 124 = true := by kernel_rfl
theorem Fun_59 : Fun Tryz.prog 59 = true := by kernel_rfl
theorem Fun_47 : Fun Tryz.prog 47 = true := by kernel_rfl
theorem MC_9_2 : madeCells (Value.string ⟨#[]⟩ : Value).cells (2 * 1) = #[.string ⟨#[]⟩, .string ⟨#[]⟩] := by kernel_rfl
theorem Fun_101 : Fun Tryz.prog 101 = true := by kernel_rfl
theorem Fun_183 : Fun Tryz.prog 183 = true := by kernel_rfl
theorem Fun_180 : Fun Tryz.prog 180 = true := by kernel_rfl
theorem MC_9_4 : madeCells (Value.string ⟨#[]⟩ : Value).cells (4 * 1) = #[.string ⟨#[]⟩, .string ⟨#[]⟩, .string ⟨#[]⟩, .string ⟨#[]⟩] := by kernel_rfl
theorem Fun_181 : Fun Tryz.prog 181 = true := by kernel_rfl
theorem Pl_114 : Pl Tryz.prog 114 #[(0, 1), (1, 1), (2, 1)] = true := by kernel_rfl
theorem Fun_175 : Fun Tryz.prog 175 = true := by kernel_rfl
theorem MC_126_1 : madeCells (Value.agg #[.int .i64 0, .string ⟨#[]⟩, .int .i64 0, .int .i64 0, .string ⟨#[]⟩] : Value).cells (1 * 5) = #[.int .i64 0, .string ⟨#[]⟩, .int .i64 0, .int .i64 0, .string ⟨#[]⟩] := by kernel_rfl
theorem Ei_126 : (Tryz.prog.info? 126).map (fun i => (i.zero, i.size, i.bytes)) = some (some (.agg #[.int .i64 0, .string ⟨#[]⟩, .int .i64 0, .int .i64 0, .string ⟨#[]⟩]), 5, 56) := by kernel_rfl
theorem Sz_112 : Sz Tryz.prog 112 1 = true := by kernel_rfl
theorem MC_9_0 : madeCells (Value.string ⟨#[]⟩ : Value).cells (0 * 1) = #[] := by kernel_rfl
theorem Fun_177 : Fun Tryz.prog 177 = true := by kernel_rfl
theorem Fun_176 : Fun Tryz.prog 176 = true := by kernel_rfl
theorem Fun_178 : Fun Tryz.prog 178 = true := by kernel_rfl
theorem Pl_128 : Pl Tryz.prog 128 #[(0, 1), (1, 5), (6, 5)] = true := by kernel_rfl
theorem Fun_179 : Fun Tryz.prog 179 = true := by kernel_rfl
theorem Pl_175 : Pl Tryz.prog 175 #[(0, 1), (1, 5), (6, 5)] = true := by kernel_rfl
theorem Sz_9 : Sz Tryz.prog 9 1 = true := by kernel_rfl
theorem MC_3_8 : madeCells (Value.int .i64 0 : Value).cells (8 * 1) = #[.int .i64 0, .int .i64 0, .int .i64 0, .int .i64 0, .int .i64 0, .int .i64 0, .int .i64 0, .int .i64 0] := by kernel_rfl
theorem Fun_113 : Fun Tryz.prog 113 = true := by kernel_rfl
theorem Pl_135 : Pl Tryz.prog 135 #[(0, 1), (1, 1), (2, 1), (3, 1), (4, 1)] = true := by kernel_rfl
theorem MC_9_5 : madeCells (Value.string ⟨#[]⟩ : Value).cells (5 * 1) = #[.string ⟨#[]⟩, .string ⟨#[]⟩, .string ⟨#[]⟩, .string ⟨#[]⟩, .string ⟨#[]⟩] := by kernel_rfl
theorem Fun_182 : Fun Tryz.prog 182 = true := by kernel_rfl
theorem MC_175_1 : madeCells (Value.agg #[.string ⟨#[]⟩, .int .i64 0, .string ⟨#[]⟩, .int .i64 0, .int .i64 0, .string ⟨#[]⟩, .int .i64 0, .string ⟨#[]⟩, .int .i64 0, .int .i64 0, .string ⟨#[]⟩] : Value).cells (1 * 11) = #[.string ⟨#[]⟩, .int .i64 0, .string ⟨#[]⟩, .int .i64 0, .int .i64 0, .string ⟨#[]⟩, .int .i64 0, .string ⟨#[]⟩, .int .i64 0, .int .i64 0, .string ⟨#[]⟩] := by kernel_rfl
theorem Ei_175 : (Tryz.prog.info? 175).map (fun i => (i.zero, i.size, i.bytes)) = some (some (.agg #[.string ⟨#[]⟩, .int .i64 0, .string ⟨#[]⟩, .int .i64 0, .int .i64 0, .string ⟨#[]⟩, .int .i64 0, .string ⟨#[]⟩, .int .i64 0, .int .i64 0, .string ⟨#[]⟩]), 11, 128) := by kernel_rfl
theorem Sz_133 : Sz Tryz.prog 133 1 = true := by kernel_rfl
theorem MC_3_4 : madeCells (Value.int .i64 0 : Value).cells (4 * 1) = #[.int .i64 0, .int .i64 0, .int .i64 0, .int .i64 0] := by kernel_rfl
theorem Zr_49 : (Tryz.prog.info? 49).map (·.zero) = some (some (.agg #[.string ⟨#[]⟩, .int .i64 0, .slice none 0 0, .slice none 0 0, .slice none 0 0])) := by kernel_rfl
theorem MC_3_5 : madeCells (Value.int .i64 0 : Value).cells (5 * 1) = #[.int .i64 0, .int .i64 0, .int .i64 0, .int .i64 0, .int .i64 0] := by kernel_rfl
theorem Pl_49 : Pl Tryz.prog 49 #[(0, 1), (1, 1), (2, 1), (3, 1), (4, 1)] = true := by kernel_rfl
theorem Sz_49 : Sz Tryz.prog 49 5 = true := by kernel_rfl
theorem Fun_114 : Fun Tryz.prog 114 = true := by kernel_rfl
theorem Sz_45 : Sz Tryz.prog 45 1 = true := by kernel_rfl
theorem Fun_115 : Fun Tryz.prog 115 = true := by kernel_rfl
theorem Fun_119 : Fun Tryz.prog 119 = true := by kernel_rfl
theorem Fun_118 : Fun Tryz.prog 118 = true := by kernel_rfl
theorem Fun_117 : Fun Tryz.prog 117 = true := by kernel_rfl
theorem MC_135_1 : madeCells (Value.agg #[.int .i64 0, .string ⟨#[]⟩, .slice none 0 0, .int .i64 0, .string ⟨#[]⟩] : Value).cells (1 * 5) = #[.int .i64 0, .string ⟨#[]⟩, .slice none 0 0, .int .i64 0, .string ⟨#[]⟩] := by kernel_rfl
theorem Ei_135 : (Tryz.prog.info? 135).map (fun i => (i.zero, i.size, i.bytes)) = some (some (.agg #[.int .i64 0, .string ⟨#[]⟩, .slice none 0 0, .int .i64 0, .string ⟨#[]⟩]), 5, 72) := by kernel_rfl
theorem Sz_47 : Sz Tryz.prog 47 1 = true := by kernel_rfl
theorem Fun_116 : Fun Tryz.prog 116 = true := by kernel_rfl
theorem MC_128_1 : madeCells (Value.agg #[.int .i64 0, .int .i64 0, .string ⟨#[]⟩, .int .i64 0, .int .i64 0, .string ⟨#[]⟩, .int .i64 0, .string ⟨#[]⟩, .int .i64 0, .int .i64 0, .string ⟨#[]⟩] : Value).cells (1 * 11) = #[.int .i64 0, .int .i64 0, .string ⟨#[]⟩, .int .i64 0, .int .i64 0, .string ⟨#[]⟩, .int .i64 0, .string ⟨#[]⟩, .int .i64 0, .int .i64 0, .string ⟨#[]⟩] := by kernel_rfl
theorem Ei_128 : (Tryz.prog.info? 128).map (fun i => (i.zero, i.size, i.bytes)) = some (some (.agg #[.int .i64 0, .int .i64 0, .string ⟨#[]⟩, .int .i64 0, .int .i64 0, .string ⟨#[]⟩, .int .i64 0, .string ⟨#[]⟩, .int .i64 0, .int .i64 0, .string ⟨#[]⟩]), 11, 120) := by kernel_rfl
theorem Sz_46 : Sz Tryz.prog 46 1 = true := by kernel_rfl
theorem MC_142_0 : madeCells (Value.agg #[.int .i64 0, .string ⟨#[]⟩, .slice none 0 0] : Value).cells (0 * 3) = #[] := by kernel_rfl
theorem MC_142_1 : madeCells (Value.agg #[.int .i64 0, .string ⟨#[]⟩, .slice none 0 0] : Value).cells (1 * 3) = #[.int .i64 0, .string ⟨#[]⟩, .slice none 0 0] := by kernel_rfl
theorem Ei_142 : (Tryz.prog.info? 142).map (fun i => (i.zero, i.size, i.bytes)) = some (some (.agg #[.int .i64 0, .string ⟨#[]⟩, .slice none 0 0]), 3, 48) := by kernel_rfl
theorem Sz_50 : Sz Tryz.prog 50 1 = true := by kernel_rfl
theorem Sz_100 : Sz Tryz.prog 100 1 = true := by kernel_rfl
theorem Fun_174 : Fun Tryz.prog 174 = true := by kernel_rfl
theorem Fun_195 : Fun Tryz.prog 195 = true := by kernel_rfl
theorem Fun_137 : Fun Tryz.prog 137 = true := by kernel_rfl
theorem Fun_128 : Fun Tryz.prog 128 = true := by kernel_rfl
theorem Pl_142 : Pl Tryz.prog 142 #[(0, 1), (1, 2)] = true := by kernel_rfl
theorem MC_121_1 : madeCells (Value.agg #[.int .i64 0, .int .i64 0, .string ⟨#[]⟩] : Value).cells (1 * 3) = #[.int .i64 0, .int .i64 0, .string ⟨#[]⟩] := by kernel_rfl
theorem Zr_52 : (Tryz.prog.info? 52).map (·.zero) = some (some (.agg #[.slice none 0 0, .int .i64 0])) := by kernel_rfl
theorem Pl_52 : Pl Tryz.prog 52 #[(0, 1), (1, 1)] = true := by kernel_rfl
theorem Sz_52 : Sz Tryz.prog 52 2 = true := by kernel_rfl
theorem Fun_122 : Fun Tryz.prog 122 = true := by kernel_rfl
theorem Fun_121 : Fun Tryz.prog 121 = true := by kernel_rfl
theorem Fun_120 : Fun Tryz.prog 120 = true := by kernel_rfl
theorem Fun_44 : Fun Tryz.prog 44 = true := by kernel_rfl
theorem Fun_56 : Fun Tryz.prog 56 = true := by kernel_rfl
theorem Fun_57 : Fun Tryz.prog 57 = true := by kernel_rfl
theorem Fun_129 : Fun Tryz.prog 129 = true := by kernel_rfl
theorem Fun_64 : Fun Tryz.prog 64 = true := by kernel_rfl
theorem Fun_238 : Fun Tryz.prog 238 = true := by kernel_rfl
theorem Fun_239 : Fun Tryz.prog 239 = true := by kernel_rfl
theorem Fun_218 : Fun Tryz.prog 218 = true := by kernel_rfl
theorem Fun_184 : Fun Tryz.prog 184 = true := by kernel_rfl
theorem Fun_185 : Fun Tryz.prog 185 = true := by kernel_rfl
theorem Fun_123 : Fun Tryz.prog 123 = true := by kernel_rfl
theorem MC_63_0 : madeCells (Value.agg #[.int .i64 0, .slice none 0 0, .slice none 0 0] : Value).cells (0 * 3) = #[] := by kernel_rfl
theorem Fun_85 : Fun Tryz.prog 85 = true := by kernel_rfl
theorem Fun_150 : Fun Tryz.prog 150 = true := by kernel_rfl
theorem Fun_243 : Fun Tryz.prog 243 = true := by kernel_rfl
theorem Fun_254 : Fun Tryz.prog 254 = true := by kernel_rfl
theorem Fun_241 : Fun Tryz.prog 241 = true := by kernel_rfl
theorem Fun_223 : Fun Tryz.prog 223 = true := by kernel_rfl
theorem Fun_221 : Fun Tryz.prog 221 = true := by kernel_rfl
theorem Fun_84 : Fun Tryz.prog 84 = true := by kernel_rfl
theorem Fun_191 : Fun Tryz.prog 191 = true := by kernel_rfl
theorem Fun_192 : Fun Tryz.prog 192 = true := by kernel_rfl
theorem Fun_255 : Fun Tryz.prog 255 = true := by kernel_rfl
theorem Fun_242 : Fun Tryz.prog 242 = true := by kernel_rfl
theorem Fun_222 : Fun Tryz.prog 222 = true := by kernel_rfl
theorem Fun_193 : Fun Tryz.prog 193 = true := by kernel_rfl
theorem Fun_133 : Fun Tryz.prog 133 = true := by kernel_rfl
theorem Fun_134 : Fun Tryz.prog 134 = true := by kernel_rfl
theorem Fun_135 : Fun Tryz.prog 135 = true := by kernel_rfl
theorem Fun_194 : Fun Tryz.prog 194 = true := by kernel_rfl
theorem Fun_136 : Fun Tryz.prog 136 = true := by kernel_rfl
theorem Fun_68 : Fun Tryz.prog 68 = true := by kernel_rfl
theorem Fun_69 : Fun Tryz.prog 69 = true := by kernel_rfl
theorem Fun_58 : Fun Tryz.prog 58 = true := by kernel_rfl
theorem Fld_63_0 : Fld Tryz.prog 63 0 0 = true := by kernel_rfl
theorem Fld_63_1 : Fld Tryz.prog 63 1 1 = true := by kernel_rfl
theorem T1_41 : T1 Tryz.prog 41 = true := by kernel_rfl
theorem MC_3_2 : madeCells (Value.int .i64 0 : Value).cells (2 * 1) = #[.int .i64 0, .int .i64 0] := by kernel_rfl
theorem Fun_148 : Fun Tryz.prog 148 = true := by kernel_rfl
theorem Tn_63 : Tn Tryz.prog 63 3 = true := by kernel_rfl
theorem Fun_78 : Fun Tryz.prog 78 = true := by kernel_rfl
theorem Fun_10 : Fun Tryz.prog 10 = true := by kernel_rfl
theorem Fun_23 : Fun Tryz.prog 23 = true := by kernel_rfl
theorem Fun_19 : Fun Tryz.prog 19 = true := by kernel_rfl
theorem Fun_25 : Fun Tryz.prog 25 = true := by kernel_rfl
theorem Fun_16 : Fun Tryz.prog 16 = true := by kernel_rfl
theorem Fld_63_2 : Fld Tryz.prog 63 2 2 = true := by kernel_rfl
theorem T1_55 : T1 Tryz.prog 55 = true := by kernel_rfl
theorem Fun_18 : Fun Tryz.prog 18 = true := by kernel_rfl
theorem Fun_27 : Fun Tryz.prog 27 = true := by kernel_rfl
theorem m_l_big_ok {Φ : Hp} {w : World} (hΦ : In Φ w) (N : Nat) (p0 : (List Int)) {pv0 : Value} {pG0 : List Nat} (ph0 : RSl (RI .u8) 1 Φ pG0 pv0 p0) {r : Bool} (h : m_l_big N p0 = some r) :
  Calls Tryz.prog 10 [pv0].toArray w (Post (.bool r) w) := by
 refine enter Tryz.func10 rfl Tryz.ntmps10 rfl (St.start0 hΦ) ?_
 unfold m_l_big at h
 refine WT.seq <| WT.region <| lq (q_assign rfl) rfl <| WL.nil <| WT.seq <| WT.region <| lq (q_move rfl) rfl <| lq (q_lenR Sl_22 rfl rfl ph0) rfl <| lq (q_gtr rfl rfl) rfl <| lq (q_assign rfl) rfl <| WL.nil ?_
 refine WT.ret Tryz.func10 (resOk.one rfl) (fun w1 hw => ?_)
 cases h
 exact post_of_St hw
theorem m_i_pats_ok {Φ : Hp} {w : World} (hΦ : In Φ w) (N : Nat) (p0 : TRule) (p1 : Bool) {pv0_0 : Value} {pG0_0 : List Nat} {pv0_1 : Value} {pG0_1 : List Nat} {pv0_2 : Value} {pG0_2 : List Nat} (ph0_0 : RSl RTPat 3 Φ pG0_0 pv0_0 p0.Pats) (ph0_1 : RSl RTCond 11 Φ pG0_1 pv0_1 p0.Conds) (ph0_2 : RSl RTAct 5 Φ pG0_2 pv0_2 p0.Acts) {r : (List TPat)} (h : m_i_pats N p0 p1 = some r) :
  Calls Tryz.prog 61 [.agg [.string p0.Name, .int .i64 p0.Sal, pv0_0, pv0_1, pv0_2].toArray, .bool p1].toArray w (PostG Φ w [] (fun Φ' Fs v => ∃ (sr_0_0 : Value) (Dr_0_0 : List Nat), v = sr_0_0 ∧ Fs = [ob sr_0_0] ∧ OSl RTPat 114 3 Φ' Dr_0_0 sr_0_0 r ∧ (∀ k ∈ Dr_0_0, k ∈ pG0_0))) := by
 refine enter Tryz.func61 rfl Tryz.ntmps61 rfl (St.start0 hΦ) ?_
 have pa0_0 : Old ⟨w, [], Φ⟩ pG0_0 := Old.mk hΦ ph0_0.kn (Dj.empty _)
 revert pa0_0
 generalize hb0 : (⟨w, [], Φ⟩ : Base) = w0
 intro pa0_0
 unfold m_i_pats at h
 refine WT.seq <| WT.region ?_
 refine ln (n_box (C := #[.string p0.Name, .int .i64 p0.Sal, pv0_0, pv0_1, pv0_2]) rfl rfl) rfl (fun b_1 => ?_)
 refine lq (q_assign rfl) rfl <| WL.nil <| WT.seq <| WT.region <| lq (q_assign rfl) rfl <| WL.nil <| WT.seq <| WT.seq <| WT.region <| lq (q_fieldAddr Fld_49_2 rfl) rfl <| lq (q_load1 T1_45 rfl (fun w1 hw => hw.rgO (i := 0) rfl 2 1 [pv0_0] rfl)) rfl <| lq (q_lenR Sl_45 rfl rfl ph0_0) rfl <| lq (q_move rfl) rfl <| WL.nil <| WT.block <| WT.loop <| WT.conv (S' := St w0 Φ [(b_1, .cells #[.string p0.Name, .int .i64 p0.Sal, pv0_0, pv0_1, pv0_2] 49 (0, 0))] (ob (.slice none 0 0) :: [])) (fun w1 hw => hw.addNil) ?_
 have k1 := OSl.nil RTPat 114 3 Φ
 refine WT.mono (l' := [(1, .bool p1), (5, (.slice none 0 0)), (9, pv0_0), (10, .int .i64 (p0.Pats.length : Int)), (11, .int .i64 0)]) (S' := St w0 Φ [] [ob (.slice none 0 0)]) ⟨rfl, rfl, rfl, rfl, rfl, trivial⟩ (fun w1 hw => (hw.sel (js := [0]) rfl).selO (js := []) rfl) ?_
 refine loop_ind (σ := Hp × (List TPat) × Value × List Nat × Int) (fun s => [(1, .bool p1), (5, s.2.2.1), (9, pv0_0), (10, .int .i64 (p0.Pats.length : Int)), (11, .int .i64 s.2.2.2.2)]) (fun s => St w0 s.1 [] [ob s.2.2.1]) (fun m s => m_i_pats_l1 N p0 p1 m s.2.1 s.2.2.2.2 = some r ∧ (OSl RTPat 114 3 s.1 s.2.2.2.1 s.2.2.1 s.2.1) ∧ (∀ k ∈ s.2.2.2.1, k ∈ pG0_0) ∧ (RSl RTPat 3 s.1 pG0_0 pv0_0 p0.Pats)) (fun s hm => none_ne (show (none : Option ((List TPat))) = some r from hm.1)) (fun n1 ih1 s hm => ?_) N (Φ, ([] : List TPat), (.slice none 0 0), [], 0) ⟨h, k1, (by simp), ph0_0⟩
 obtain ⟨Φ_1, s1, u1, D1, s2⟩ := s
 obtain ⟨h, k2, i1, ph0_0⟩ := hm
 replace h : m_i_pats_l1 N p0 p1 (n1 + 1) s1 s2 = some r := h
 replace k2 : OSl RTPat 114 3 Φ_1 D1 u1 s1 := k2
 replace i1 : ∀ k ∈ D1, k ∈ pG0_0 := i1
 replace ph0_0 : RSl RTPat 3 Φ_1 pG0_0 pv0_0 p0.Pats := ph0_0
 show WT _ _ [(1, .bool p1), (5, u1), (9, pv0_0), (10, .int .i64 (p0.Pats.length : Int)), (11, .int .i64 s2)] (St w0 Φ_1 [] [ob u1])
 unfold m_i_pats_l1 at h
 refine WT.seq <| WT.region <| lq (q_lss rfl rfl) rfl <| WL.nil <| WT.seq ?_
 refine WT.cond rfl (fun c1 => ?_) (fun c1 => ?_)
 ·replace h := ite_t h c1
  refine WT.skip <| WT.seq <| WT.block <| WT.seq <| WT.region ?_
  obtain ⟨x1, hx1, h⟩ := bind_some h
  obtain ⟨cs1, F1, -, g1, hb1, hs1, r1⟩ := ph0_0.el (idx_some hx1).2.2
  obtain ⟨v1, G1, rfl, hq1, h1⟩ := r1
  obtain rfl := hq1.symm
  refine lq (q_indexAddr Sl_45 rfl rfl ph0_0 hx1) rfl <| lq (q_loadN Tn_114 rfl (fun w1 hw => (g1.of_eq 0 3 rfl rfl : rg _ _ _ [.string x1.Kind, v1, .bool x1.Not]).rangeAt hw.fro) rfl) rfl ?_
  refine ln (n_alloc (C := #[.string (⟨#[]⟩ : ByteArray), .slice none 0 0, .bool false]) Zr_114 rfl) rfl (fun b_2 => ?_)
  refine ls (s_store (i := 0) (vs := [.string x1.Kind, v1, .bool x1.Not]) (C' := [.string x1.Kind, v1, .bool x1.Not]) (O' := [(b_2, .cells #[.string x1.Kind, v1, .bool x1.Not] 114 (0, 0))]) Sz_114 rfl rfl rfl rfl rfl rfl ⟨rfl, h1.one, rfl, trivial⟩ rfl rfl) rfl <| WL.nil <| WT.seq <| WT.region <| lq (q_fieldAddr Fld_114_2 rfl) rfl <| lq (q_load1 T1_4 rfl (fun w1 hw => hw.rgO (i := 0) rfl 2 1 [.bool x1.Not] rfl)) rfl <| lq (q_move rfl) rfl ?_
  refine lq (q_beq Bo_4 rfl rfl) rfl <| WL.nil ?_
  refine WT.cond rfl (fun c2 => ?_) (fun c2 => ?_)
  ·replace h := ite_t h c2
   refine WT.region <| lq (q_move rfl) rfl <| lq (q_loadN Tn_114 rfl (fun w1 hw => hw.rgO (i := 0) rfl 0 3 [.string x1.Kind, v1, .bool x1.Not] rfl) rfl) rfl ?_
   have rc1 : RC RTPat 3 Φ_1 ([G1] : List (List Nat)) [.string x1.Kind, v1, .bool x1.Not] ([x1] : List TPat) := RC.cons (c := [.string x1.Kind, v1, .bool x1.Not]) (cells := []) ⟨v1, G1, rfl, rfl, h1⟩ rfl (RC.nil _ _ _)
   refine le' (e_lit (vs := [(0, .agg [.string x1.Kind, v1, .bool x1.Not].toArray)]) (C := #[.string x1.Kind, v1, .bool x1.Not]) RTPat.lasts Sl_45 Zr_114 rfl rfl rfl rfl (fill_made MC_114_1 (fill_cons (cells := [.string ⟨#[]⟩, .slice none 0 0, .bool false]) (c := [.string x1.Kind, v1, .bool x1.Not]) (C' := [.string x1.Kind, v1, .bool x1.Not]) rfl rfl rfl rfl rfl (fill_nil))) rfl rc1 rfl (RC.kn RTPat.knows rc1)) rfl (fun v2 Φ_2 D2 q1 => ?_)
   obtain ⟨fr1, h2⟩ := q1
   replace h2 : OSl RTPat 114 3 Φ_2 (G1) v2 ([x1] : List TPat) := by simpa [List.append_assoc] using h2
   replace ph0_0 := ph0_0.frame RTPat.lasts fr1 (Dj.empty _)
   replace k2 := k2.frame RTPat.lasts fr1 (Dj.empty _) (Dj.empty _)
   obtain ⟨x2, hx2, h⟩ := bind_some h
   refine le' (e_appO RTPat.lasts RTPat.one Sl_45 Ei_114 rfl rfl rfl rfl rfl (js := [1]) (Rr := [ob v2]) rfl k2 h2 (fun ap => (Dj.sub (ap.o pa0_0) i1)) (fun ap => (Dj.sub (Dj.sub (ap.o pa0_0) (fun k h => hs1 k h)) (fun k hk => (by simpa [List.append_assoc] using hk : k ∈ G1)))) hx2) rfl (fun v3 Φ_3 D3 q2 => ?_)
   obtain ⟨⟨ap1, fr2⟩, h3⟩ := q2
   replace ph0_0 := ph0_0.frame RTPat.lasts fr2 (ap1.o pa0_0)
   refine lq (q_assign rfl) rfl <| WL.nil <| WT.inBlock <| WT.region <| lq (q_add rfl rfl) rfl <| lq (q_move rfl) rfl <| WL.nil ?_
   refine WT.inLoop (WT.mono (l' := [(1, .bool p1), (5, v3), (9, pv0_0), (10, .int .i64 (p0.Pats.length : Int)), (11, .int .i64 (IntKind.i64.wrap (s2 + 1)))]) (S' := St w0 Φ_3 [] [ob v3]) ⟨rfl, rfl, rfl, rfl, rfl, trivial⟩ (fun w1 hw => (hw.sel (js := [0]) rfl).selO (js := []) rfl) ?_)
   exact ih1 (Φ_3, x2, v3, (D1 ++ (G1)), IntKind.i64.wrap (s2 + 1)) ⟨h, h3, (fun k hk => ((List.mem_append.1 hk).elim (fun h => (i1 k h)) (fun h => ((fun k h => hs1 k h) k ((fun k hk => (by simpa [List.append_assoc] using hk : k ∈ G1)) k h))))), ph0_0⟩
  replace h := ite_f h c2
  refine WT.skip <| WT.inBlock <| WT.region <| lq (q_add rfl rfl) rfl <| lq (q_move rfl) rfl <| WL.nil ?_
  refine WT.inLoop (WT.mono (l' := [(1, .bool p1), (5, u1), (9, pv0_0), (10, .int .i64 (p0.Pats.length : Int)), (11, .int .i64 (IntKind.i64.wrap (s2 + 1)))]) (S' := St w0 Φ_1 [] [ob u1]) ⟨rfl, rfl, rfl, rfl, rfl, trivial⟩ (fun w1 hw => (hw.sel (js := [0]) rfl).selO (js := []) rfl) ?_)
  exact ih1 (Φ_1, s1, u1, D1, IntKind.i64.wrap (s2 + 1)) ⟨h, k2, (fun k hk => (i1 k hk)), ph0_0⟩
 replace h := ite_f h c1
 refine WT.exit rfl <| WT.seq <| WT.region <| lq (q_move rfl) rfl <| lq (q_assign rfl) rfl <| WL.nil ?_
 refine WT.ret Tryz.func61 (resOk.one rfl) (fun w1 hw => ?_)
 subst hb0
 cases h
 refine postG_of_St (js := [0]) hw rfl ⟨u1, D1, rfl, rfl, k2, (fun k hk => (i1 k hk))⟩
theorem m_sl_Clone_Si_Val_i_Val_ok {Φ : Hp} {w : World} (hΦ : In Φ w) (N : Nat) (p0 : (List TVal)) {pv0 : Value} {pG0 : List Nat} (ph0 : RSl RTVal 3 Φ pG0 pv0 p0) {r : (List TVal)} (h : m_sl_Clone_Si_Val_i_Val N p0 = some r) :
  Calls Tryz.prog 219 [pv0].toArray w (PostG Φ w [] (fun Φ' Fs v => ∃ (sr_0_0 : Value), v = sr_0_0 ∧ Fs = [ob sr_0_0] ∧ OSl RTVal 121 3 Φ' [] sr_0_0 r)) := by
 refine enter Tryz.func219 rfl Tryz.ntmps219 rfl (St.start0 hΦ) ?_
 unfold m_sl_Clone_Si_Val_i_Val at h
 refine WT.seq <| WT.region <| lq (q_assign rfl) rfl <| WL.nil <| WT.seq <| WT.seq ?_
 rcases RSl.nilOr ph0 with ⟨hxs1, cc1, hv1⟩ | ⟨a1, cc1, hv1⟩
 ·skip
  replace h : some [] = some r := by simpa [hxs1, app] using h
  refine WT.region <| lq (q_move rfl) rfl <| lq (q_eqNil Sl_100 (congrArg some hv1) rfl) rfl <| WL.nil ?_
  refine WT.cond rfl (fun c => ?_) (fun c => by simp at c)
  refine WT.seq <| WT.region <| lq (q_assign rfl) rfl <| WL.nil ?_
  refine WT.ret Tryz.func219 (resOk.one rfl) (fun w1 hw => ?_)
  cases h
  replace hw := hw.addNil
  refine postG_of_St (js := [0]) hw rfl ⟨.slice none 0 0, rfl, rfl, OSl.nil _ _ _ _⟩
 refine WT.region <| lq (q_move rfl) rfl <| lq (q_eqNil Sl_100 (congrArg some hv1) rfl) rfl <| WL.nil ?_
 refine WT.cond rfl (fun c => by simp at c) (fun c => ?_)
 refine WT.skip <| WT.seq <| WT.region ?_
 have rc1 : RC RTVal 3 Φ ([] : List (List Nat)) [] ([] : List TVal) := RC.nil _ _ _
 refine le' (e_lit (vs := []) (C := #[]) RTVal.lasts Sl_100 Zr_121 rfl rfl rfl rfl (fill_made MC_121_0 (fill_nil)) rfl rc1 rfl (by simpa using Kw.nil)) rfl (fun v1 Φ_1 D1 q1 => ?_)
 obtain ⟨fr1, h1⟩ := q1
 replace h1 : OSl RTVal 121 3 Φ_1 [] v1 ([] : List TVal) := by simpa using h1
 replace ph0 := ph0.frame RTVal.lasts fr1 (Dj.empty _)
 refine lq (q_move rfl) rfl ?_
 obtain ⟨x1, hx1, h⟩ := bind_some h
 refine le' (e_appF RTVal.lasts RTVal.one RTVal.flat Sl_100 Ei_121 rfl rfl rfl rfl rfl (js := [0]) (Rr := []) rfl h1 ph0 hx1) rfl (fun v2 Φ_2 D2 q2 => ?_)
 obtain ⟨⟨ap1, fr2⟩, h2⟩ := q2
 refine lq (q_assign rfl) rfl <| WL.nil ?_
 refine WT.ret Tryz.func219 (resOk.one rfl) (fun w1 hw => ?_)
 cases h
 refine postG_of_St (js := [0]) hw rfl ⟨v2, rfl, rfl, h2⟩
theorem m_i_copyFact_ok {Φ : Hp} {w : World} (hΦ : In Φ w) (N : Nat) (p0 : TFact) {pv0_0 : Value} {pG0_0 : List Nat} (ph0_0 : RSl RTVal 3 Φ pG0_0 pv0_0 p0.Fields) {r : TFact} (h : m_i_copyFact N p0 = some r) :
  Calls Tryz.prog 186 [.agg [.string p0.Kind, pv0_0].toArray].toArray w (PostG Φ w [] (fun Φ' Fs v => ∃ (sr_0_0 : Value), v = .agg [.string r.Kind, sr_0_0].toArray ∧ Fs = [ob sr_0_0] ∧ OSl RTVal 121 3 Φ' [] sr_0_0 r.Fields)) := by
 refine enter Tryz.func186 rfl Tryz.ntmps186 rfl (St.start0 hΦ) ?_
 unfold m_i_copyFact at h
 refine WT.seq <| WT.region ?_
 refine ln (n_box (C := #[.string p0.Kind, pv0_0]) rfl rfl) rfl (fun b_1 => ?_)
 refine ln (n_alloc (C := #[.string (⟨#[]⟩ : ByteArray), .slice none 0 0]) Zr_116 rfl) rfl (fun b_2 => ?_)
 refine WL.nil <| WT.seq <| WT.mix (Kn Φ [] [(b_2, .cells #[.string (⟨#[]⟩ : ByteArray), .slice none 0 0] 116 (0, 0)), (b_1, .cells #[.string p0.Kind, pv0_0] 116 (0, 0))]) (fun i => match i with | 6 => false | _ => true) mixed (fun _ h => h.drew) <| mq 0 rfl (by kernel_rfl) (fun w1 hw => Kn.of (fun k hk _ _ => by simp at hk) (AllIn.mem ⟨gM 0 rfl, gM 1 rfl, trivial⟩) hw) (q_fieldAddr Fld_116_0 rfl) rfl ?_
 refine mq 1 rfl (by kernel_rfl) (fun w1 hw => Kn.of (fun k hk _ _ => by simp at hk) (AllIn.mem ⟨gM 0 rfl, gM 1 rfl, trivial⟩) hw) (q_load1 T1_9 rfl (fun w1 hw => hw.rgO (i := 1) rfl 0 1 [.string p0.Kind] rfl)) rfl <| mq 2 rfl (by kernel_rfl) (fun w1 hw => Kn.of (fun k hk _ _ => by simp at hk) (AllIn.mem ⟨gM 0 rfl, gM 1 rfl, trivial⟩) hw) (q_fieldAddr Fld_116_1 rfl) rfl ?_
 refine mq 3 rfl (by kernel_rfl) (fun w1 hw => Kn.of (fun k hk _ _ => by simp at hk) (AllIn.mem ⟨gM 0 rfl, gM 1 rfl, trivial⟩) hw) (q_load1 T1_100 rfl (fun w1 hw => hw.rgO (i := 1) rfl 1 1 [pv0_0] rfl)) rfl ?_
 obtain ⟨x1, hx1, h⟩ := bind_some h
 refine WM.one 4 (by kernel_rfl) (mc rfl (fun _ v Φx D w1 hq hw => Kn.of (fun k hk _ _ => by simp at hk) (AllIn.mem ⟨gM 0 rfl, gM 1 rfl, trivial⟩) hw) (k_call (js := []) (R := []) Fun_219 rfl rfl (fun w1 hw ap hl => m_sl_Clone_Si_Val_i_Val_ok hw.fro N p0.Fields ph0_0  hx1)) rfl (fun v1 Φ_1 F1 q1 => ?_))
 obtain ⟨ap1, fr1, v2, rfl, rfl, h1⟩ := q1
 refine mq 5 rfl (by kernel_rfl) (fun w1 hw => Kn.of (fun k hk _ _ => by simp at hk) (AllIn.mem ⟨gM 0 rfl, gM 1 rfl, trivial⟩) hw) (q_build (vs := [(0, .string p0.Kind), (1, v1)]) (C := #[.string p0.Kind, v1]) Pl_116 Zr_116 rfl (fill_cons (cells := [.string ⟨#[]⟩, .slice none 0 0]) (c := [.string p0.Kind]) (C' := [.string p0.Kind, .slice none 0 0]) rfl rfl rfl rfl rfl (fill_cons (cells := [.string p0.Kind, .slice none 0 0]) (c := [v1]) (C' := [.string p0.Kind, v1]) rfl (one_cells h1.one) rfl rfl rfl (fill_nil)))) rfl ?_
 refine WM.one 6 (by kernel_rfl) (ms rfl (fun hc => by cases hc) (s_store (i := 0) (vs := [.string p0.Kind, v1]) (C' := [.string p0.Kind, v1]) (O' := [(b_2, .cells #[.string p0.Kind, v1] 116 (0, 0)), (b_1, .cells #[.string p0.Kind, pv0_0] 116 (0, 0))]) Sz_116 rfl rfl rfl rfl rfl rfl ⟨rfl, h1.one, trivial⟩ rfl rfl) rfl ?_)
 refine WM.nil (by kernel_rfl) ?_
 refine WT.ret Tryz.func186 (resOk.one (rv_cell Tn_116 rfl (fun w1 hw => hw.rgO (i := 0) rfl 0 2 [.string p0.Kind, v1] rfl) rfl)) (fun w1 hw => ?_)
 cases h
 refine postG_of_St (js := [0]) hw rfl ⟨v1, rfl, rfl, h1⟩
theorem m_i_FactOf_ok {Φ : Hp} {w : World} (hΦ : In Φ w) (N : Nat) (p0 : TStore) (p1 : Int) {pv0_0 : Value} {pG0_0 : List Nat} (ph0_0 : RSl RTItem 3 Φ pG0_0 pv0_0 p0.Items) {r : TFact × Bool} (h : m_i_FactOf N p0 p1 = some r) :
  Calls Tryz.prog 126 [.agg [pv0_0, .int .i64 p0.Next].toArray, .int .i64 p1].toArray w (PostG Φ w [] (fun Φ' Fs v => ∃ (sr_0_0 : Value), v = .tuple #[.agg [.string r.1.Kind, sr_0_0].toArray, .bool r.2] ∧ Fs = [ob sr_0_0] ∧ OSl RTVal 121 3 Φ' [] sr_0_0 r.1.Fields)) := by
 refine enter Tryz.func126 rfl Tryz.ntmps126 rfl (St.start0 hΦ) ?_
 generalize hb0 : (⟨w, [], Φ⟩ : Base) = w0
 unfold m_i_FactOf at h
 refine WT.seq <| WT.region ?_
 refine ln (n_box (C := #[pv0_0, .int .i64 p0.Next]) rfl rfl) rfl (fun b_1 => ?_)
 refine ln (n_alloc (C := #[.string (⟨#[]⟩ : ByteArray), .slice none 0 0]) Zr_116 rfl) rfl (fun b_2 => ?_)
 refine lq (q_assign rfl) rfl <| WL.nil <| WT.seq <| WT.seq <| WT.region <| lq (q_fieldAddr Fld_52_0 rfl) rfl <| lq (q_load1 T1_50 rfl (fun w1 hw => hw.rgO (i := 1) rfl 0 1 [pv0_0] rfl)) rfl <| lq (q_lenR Sl_50 rfl rfl ph0_0) rfl <| lq (q_move rfl) rfl <| WL.nil <| WT.block <| WT.loop <| WT.mono (l' := [(1, .int .i64 p1), (4, .pointer (some ⟨b_2, 0, none⟩)), (9, pv0_0), (10, .int .i64 (p0.Items.length : Int)), (11, .int .i64 0)]) (S' := St w0 Φ [(b_2, .cells #[.string (⟨#[]⟩ : ByteArray), .slice none 0 0] 116 (0, 0))] []) ⟨rfl, rfl, rfl, rfl, rfl, trivial⟩ (fun w1 hw => (hw.sel (js := []) rfl).selO (js := [0]) rfl) ?_
 refine loop_ind (σ := Int) (fun s => [(1, .int .i64 p1), (4, .pointer (some ⟨b_2, 0, none⟩)), (9, pv0_0), (10, .int .i64 (p0.Items.length : Int)), (11, .int .i64 s)]) (fun s => St w0 Φ [(b_2, .cells #[.string (⟨#[]⟩ : ByteArray), .slice none 0 0] 116 (0, 0))] []) (fun m s => m_i_FactOf_l1 N p0 p1 m s = some r) (fun s hm => none_ne (show (none : Option (TFact × Bool)) = some r from hm)) (fun n1 ih1 s hm => ?_) N (0) h
 revert hm; revert s; intro s1 hm
 have h : m_i_FactOf_l1 N p0 p1 (n1 + 1) s1 = some r := hm
 show WT _ _ [(1, .int .i64 p1), (4, .pointer (some ⟨b_2, 0, none⟩)), (9, pv0_0), (10, .int .i64 (p0.Items.length : Int)), (11, .int .i64 s1)] (St w0 Φ [(b_2, .cells #[.string (⟨#[]⟩ : ByteArray), .slice none 0 0] 116 (0, 0))] [])
 unfold m_i_FactOf_l1 at h
 refine WT.seq <| WT.region <| lq (q_lss rfl rfl) rfl <| WL.nil <| WT.seq ?_
 refine WT.cond rfl (fun c1 => ?_) (fun c1 => ?_)
 ·replace h := ite_t h c1
  refine WT.skip <| WT.seq <| WT.block <| WT.seq <| WT.region ?_
  obtain ⟨x1, hx1, h⟩ := bind_some h
  obtain ⟨cs1, F1, -, g1, hb1, hs1, r1⟩ := ph0_0.el (idx_some hx1).2.2
  obtain ⟨v1, G1, rfl, hq1, h1⟩ := r1
  obtain rfl := hq1.symm
  refine lq (q_indexAddr Sl_50 rfl rfl ph0_0 hx1) rfl <| lq (q_loadN Tn_142 rfl (fun w1 hw => (g1.of_eq 0 3 rfl rfl : rg _ _ _ [.int .i64 x1.Id, .string x1.F.Kind, v1]).rangeAt hw.fro) rfl) rfl ?_
  refine ln (n_alloc (C := #[.int .i64 0, .string (⟨#[]⟩ : ByteArray), .slice none 0 0]) Zr_142 rfl) rfl (fun b_3 => ?_)
  refine ls (s_store (i := 0) (vs := [.int .i64 x1.Id, .string x1.F.Kind, v1]) (C' := [.int .i64 x1.Id, .string x1.F.Kind, v1]) (O' := [(b_3, .cells #[.int .i64 x1.Id, .string x1.F.Kind, v1] 142 (0, 0)), (b_2, .cells #[.string (⟨#[]⟩ : ByteArray), .slice none 0 0] 116 (0, 0))]) Sz_142 rfl rfl rfl rfl rfl rfl ⟨rfl, rfl, h1.one, trivial⟩ rfl rfl) rfl <| WL.nil <| WT.seq <| WT.region <| lq (q_fieldAddr Fld_142_0 rfl) rfl <| lq (q_load1 T1_3 rfl (fun w1 hw => hw.rgO (i := 0) rfl 0 1 [.int .i64 x1.Id] rfl)) rfl ?_
  refine lq (q_move rfl) rfl <| lq (q_eql rfl rfl) rfl <| WL.nil ?_
  refine WT.cond rfl (fun c2 => ?_) (fun c2 => ?_)
  ·replace h := ite_t h c2
   refine WT.seq <| WT.region <| lq (q_fieldAddr Fld_142_1 rfl) rfl <| lq (q_loadN Tn_116 rfl (fun w1 hw => hw.rgO (i := 0) rfl 1 2 [.string x1.F.Kind, v1] rfl) rfl) rfl ?_
   obtain ⟨x2, hx2, h⟩ := bind_some h
   refine lc (k_call (js := []) (R := []) Fun_186 rfl rfl (fun w1 hw ap hl => m_i_copyFact_ok hw.fro N x1.F h1  hx2)) rfl (fun v2 Φ_1 F2 q1 => ?_)
   obtain ⟨ap1, fr1, v3, rfl, rfl, h2⟩ := q1
   refine ls (s_store (i := 1) (vs := [.string x2.Kind, v3]) (C' := [.string x2.Kind, v3]) (O' := [(b_3, .cells #[.int .i64 x1.Id, .string x1.F.Kind, v1] 142 (0, 0)), (b_2, .cells #[.string x2.Kind, v3] 116 (0, 0))]) Sz_116 rfl rfl rfl rfl rfl rfl ⟨rfl, h2.one, trivial⟩ rfl rfl) rfl <| lq (q_assign rfl) rfl <| WL.nil ?_
   refine WT.ret Tryz.func126 (resOk.two (rv_cell Tn_116 rfl (fun w1 hw => hw.rgO (i := 1) rfl 0 2 [.string x2.Kind, v3] rfl) rfl) rfl) (fun w1 hw => ?_)
   subst hb0
   cases h
   refine postG_of_St (js := [0]) hw rfl ⟨v3, rfl, rfl, h2⟩
  replace h := ite_f h c2
  refine WT.skip <| WT.inBlock <| WT.region <| lq (q_add rfl rfl) rfl <| lq (q_move rfl) rfl <| WL.nil ?_
  refine WT.inLoop (WT.mono (l' := [(1, .int .i64 p1), (4, .pointer (some ⟨b_2, 0, none⟩)), (9, pv0_0), (10, .int .i64 (p0.Items.length : Int)), (11, .int .i64 (IntKind.i64.wrap (s1 + 1)))]) (S' := St w0 Φ [(b_2, .cells #[.string (⟨#[]⟩ : ByteArray), .slice none 0 0] 116 (0, 0))] []) ⟨rfl, rfl, rfl, rfl, rfl, trivial⟩ (fun w1 hw => (hw.sel (js := []) rfl).selO (js := [1]) rfl) ?_)
  exact ih1 (IntKind.i64.wrap (s1 + 1)) h
 replace h := ite_f h c1
 refine WT.exit rfl <| WT.seq <| WT.region <| lq (q_build (vs := []) (C := #[.string (⟨#[]⟩ : ByteArray), .slice none 0 0]) Pl_116 Zr_116 rfl (fill_nil)) rfl <| ls (s_store (i := 0) (vs := [.string (⟨#[]⟩ : ByteArray), .slice none 0 0]) (C' := [.string (⟨#[]⟩ : ByteArray), .slice none 0 0]) (O' := [(b_2, .cells #[.string (⟨#[]⟩ : ByteArray), .slice none 0 0] 116 (0, 0))]) Sz_116 rfl rfl rfl rfl rfl rfl ⟨rfl, rfl, trivial⟩ rfl rfl) rfl ?_
 refine lq (q_assign rfl) rfl <| WL.nil ?_
 refine WT.ret Tryz.func126 (resOk.two (rv_cell Tn_116 rfl (fun w1 hw => hw.rgO (i := 0) rfl 0 2 [.string (⟨#[]⟩ : ByteArray), .slice none 0 0] rfl) rfl) rfl) (fun w1 hw => ?_)
 subst hb0
 cases h
 replace hw := hw.addNil
 refine postG_of_St (js := [0]) hw rfl ⟨.slice none 0 0, rfl, rfl, OSl.nil _ _ _ _⟩
theorem m_sl_Clone_Si_Bind_i_Bind_ok {Φ : Hp} {w : World} (hΦ : In Φ w) (N : Nat) (p0 : (List TBind)) {pv0 : Value} {pG0 : List Nat} (ph0 : RSl RTBind 4 Φ pG0 pv0 p0) {r : (List TBind)} (h : m_sl_Clone_Si_Bind_i_Bind N p0 = some r) :
  Calls Tryz.prog 187 [pv0].toArray w (PostG Φ w [] (fun Φ' Fs v => ∃ (sr_0_0 : Value), v = sr_0_0 ∧ Fs = [ob sr_0_0] ∧ OSl RTBind 123 4 Φ' [] sr_0_0 r)) := by
 refine enter Tryz.func187 rfl Tryz.ntmps187 rfl (St.start0 hΦ) ?_
 unfold m_sl_Clone_Si_Bind_i_Bind at h
 refine WT.seq <| WT.region <| lq (q_assign rfl) rfl <| WL.nil <| WT.seq <| WT.seq ?_
 rcases RSl.nilOr ph0 with ⟨hxs1, cc1, hv1⟩ | ⟨a1, cc1, hv1⟩
 ·skip
  replace h : some [] = some r := by simpa [hxs1, app] using h
  refine WT.region <| lq (q_move rfl) rfl <| lq (q_eqNil Sl_55 (congrArg some hv1) rfl) rfl <| WL.nil ?_
  refine WT.cond rfl (fun c => ?_) (fun c => by simp at c)
  refine WT.seq <| WT.region <| lq (q_assign rfl) rfl <| WL.nil ?_
  refine WT.ret Tryz.func187 (resOk.one rfl) (fun w1 hw => ?_)
  cases h
  replace hw := hw.addNil
  refine postG_of_St (js := [0]) hw rfl ⟨.slice none 0 0, rfl, rfl, OSl.nil _ _ _ _⟩
 refine WT.region <| lq (q_move rfl) rfl <| lq (q_eqNil Sl_55 (congrArg some hv1) rfl) rfl <| WL.nil ?_
 refine WT.cond rfl (fun c => by simp at c) (fun c => ?_)
 refine WT.skip <| WT.seq <| WT.region ?_
 have rc1 : RC RTBind 4 Φ ([] : List (List Nat)) [] ([] : List TBind) := RC.nil _ _ _
 refine le' (e_lit (vs := []) (C := #[]) RTBind.lasts Sl_55 Zr_123 rfl rfl rfl rfl (fill_made MC_123_0 (fill_nil)) rfl rc1 rfl (by simpa using Kw.nil)) rfl (fun v1 Φ_1 D1 q1 => ?_)
 obtain ⟨fr1, h1⟩ := q1
 replace h1 : OSl RTBind 123 4 Φ_1 [] v1 ([] : List TBind) := by simpa using h1
 replace ph0 := ph0.frame RTBind.lasts fr1 (Dj.empty _)
 refine lq (q_move rfl) rfl ?_
 obtain ⟨x1, hx1, h⟩ := bind_some h
 refine le' (e_appF RTBind.lasts RTBind.one RTBind.flat Sl_55 Ei_123 rfl rfl rfl rfl rfl (js := [0]) (Rr := []) rfl h1 ph0 hx1) rfl (fun v2 Φ_2 D2 q2 => ?_)
 obtain ⟨⟨ap1, fr2⟩, h2⟩ := q2
 refine lq (q_assign rfl) rfl <| WL.nil ?_
 refine WT.ret Tryz.func187 (resOk.one rfl) (fun w1 hw => ?_)
 cases h
 refine postG_of_St (js := [0]) hw rfl ⟨v2, rfl, rfl, h2⟩
theorem m_i_BindOf_ok {Φ : Hp} {w : World} (hΦ : In Φ w) (N : Nat) (p0 : (List TBind)) (p1 : ByteArray) {pv0 : Value} {pG0 : List Nat} (ph0 : RSl RTBind 4 Φ pG0 pv0 p0) {r : TVal × Bool} (h : m_i_BindOf N p0 p1 = some r) :
  Calls Tryz.prog 188 [pv0, .string p1].toArray w (Post (.tuple #[.agg [.int .i64 r.1.K, .int .i64 r.1.N, .string r.1.S].toArray, .bool r.2]) w) := by
 refine enter Tryz.func188 rfl Tryz.ntmps188 rfl (St.start0 hΦ) ?_
 generalize hb0 : (⟨w, [], Φ⟩ : Base) = w0
 unfold m_i_BindOf at h
 refine WT.seq <| WT.region ?_
 refine ln (n_alloc (C := #[.int .i64 0, .int .i64 0, .string (⟨#[]⟩ : ByteArray)]) Zr_121 rfl) rfl (fun b_1 => ?_)
 refine lq (q_assign rfl) rfl <| WL.nil <| WT.seq <| WT.seq <| WT.region <| lq (q_move rfl) rfl <| lq (q_lenR Sl_55 rfl rfl ph0) rfl <| lq (q_move rfl) rfl <| WL.nil <| WT.block <| WT.loop <| WT.mono (l' := [(1, .string p1), (4, .pointer (some ⟨b_1, 0, none⟩)), (8, pv0), (9, .int .i64 (p0.length : Int)), (10, .int .i64 0)]) (S' := St w0 Φ [(b_1, .cells #[.int .i64 0, .int .i64 0, .string (⟨#[]⟩ : ByteArray)] 121 (0, 0))] []) ⟨rfl, rfl, rfl, rfl, rfl, trivial⟩ (fun w1 hw => (hw.sel (js := []) rfl).selO (js := [0]) rfl) ?_
 refine loop_ind (σ := Int) (fun s => [(1, .string p1), (4, .pointer (some ⟨b_1, 0, none⟩)), (8, pv0), (9, .int .i64 (p0.length : Int)), (10, .int .i64 s)]) (fun s => St w0 Φ [(b_1, .cells #[.int .i64 0, .int .i64 0, .string (⟨#[]⟩ : ByteArray)] 121 (0, 0))] []) (fun m s => m_i_BindOf_l1 N p0 p1 m s = some r) (fun s hm => none_ne (show (none : Option (TVal × Bool)) = some r from hm)) (fun n1 ih1 s hm => ?_) N (0) h
 revert hm; revert s; intro s1 hm
 have h : m_i_BindOf_l1 N p0 p1 (n1 + 1) s1 = some r := hm
 show WT _ _ [(1, .string p1), (4, .pointer (some ⟨b_1, 0, none⟩)), (8, pv0), (9, .int .i64 (p0.length : Int)), (10, .int .i64 s1)] (St w0 Φ [(b_1, .cells #[.int .i64 0, .int .i64 0, .string (⟨#[]⟩ : ByteArray)] 121 (0, 0))] [])
 unfold m_i_BindOf_l1 at h
 refine WT.seq <| WT.region <| lq (q_lss rfl rfl) rfl <| WL.nil <| WT.seq ?_
 refine WT.cond rfl (fun c1 => ?_) (fun c1 => ?_)
 ·replace h := ite_t h c1
  refine WT.skip <| WT.seq <| WT.block <| WT.seq <| WT.region ?_
  obtain ⟨x1, hx1, h⟩ := bind_some h
  obtain ⟨cs1, F1, -, g1, hb1, hs1, r1⟩ := ph0.el (idx_some hx1).2.2
  obtain ⟨rfl, -⟩ := r1
  refine lq (q_indexAddr Sl_55 rfl rfl ph0 hx1) rfl <| lq (q_loadN Tn_123 rfl (fun w1 hw => (g1.of_eq 0 4 rfl rfl : rg _ _ _ [.string x1.Name, .int .i64 x1.V.K, .int .i64 x1.V.N, .string x1.V.S]).rangeAt hw.fro) rfl) rfl ?_
  refine ln (n_alloc (C := #[.string (⟨#[]⟩ : ByteArray), .int .i64 0, .int .i64 0, .string (⟨#[]⟩ : ByteArray)]) Zr_123 rfl) rfl (fun b_2 => ?_)
  refine ls (s_store (i := 0) (vs := [.string x1.Name, .int .i64 x1.V.K, .int .i64 x1.V.N, .string x1.V.S]) (C' := [.string x1.Name, .int .i64 x1.V.K, .int .i64 x1.V.N, .string x1.V.S]) (O' := [(b_2, .cells #[.string x1.Name, .int .i64 x1.V.K, .int .i64 x1.V.N, .string x1.V.S] 123 (0, 0)), (b_1, .cells #[.int .i64 0, .int .i64 0, .string (⟨#[]⟩ : ByteArray)] 121 (0, 0))]) Sz_123 rfl rfl rfl rfl rfl rfl ⟨rfl, rfl, rfl, rfl, trivial⟩ rfl rfl) rfl ?_
  refine WL.nil <| WT.seq <| WT.region <| lq (q_fieldAddr Fld_123_0 rfl) rfl <| lq (q_load1 T1_9 rfl (fun w1 hw => hw.rgO (i := 0) rfl 0 1 [.string x1.Name] rfl)) rfl <| lq (q_move rfl) rfl <| lq (q_seq rfl rfl) rfl <| WL.nil ?_
  refine WT.cond rfl (fun c2 => ?_) (fun c2 => ?_)
  ·replace h := ite_t h c2
   refine WT.seq <| WT.region <| lq (q_fieldAddr Fld_123_1 rfl) rfl <| lq (q_loadN Tn_121 rfl (fun w1 hw => hw.rgO (i := 0) rfl 1 3 [.int .i64 x1.V.K, .int .i64 x1.V.N, .string x1.V.S] rfl) rfl) rfl <| ls (s_store (i := 1) (vs := [.int .i64 x1.V.K, .int .i64 x1.V.N, .string x1.V.S]) (C' := [.int .i64 x1.V.K, .int .i64 x1.V.N, .string x1.V.S]) (O' := [(b_2, .cells #[.string x1.Name, .int .i64 x1.V.K, .int .i64 x1.V.N, .string x1.V.S] 123 (0, 0)), (b_1, .cells #[.int .i64 x1.V.K, .int .i64 x1.V.N, .string x1.V.S] 121 (0, 0))]) Sz_121 rfl rfl rfl rfl rfl rfl ⟨rfl, rfl, rfl, trivial⟩ rfl rfl) rfl ?_
   refine lq (q_assign rfl) rfl <| WL.nil ?_
   refine WT.ret Tryz.func188 (resOk.two (rv_cell Tn_121 rfl (fun w1 hw => hw.rgO (i := 1) rfl 0 3 [.int .i64 x1.V.K, .int .i64 x1.V.N, .string x1.V.S] rfl) rfl) rfl) (fun w1 hw => ?_)
   subst hb0
   cases h
   exact post_of_St hw
  replace h := ite_f h c2
  refine WT.skip <| WT.inBlock <| WT.region <| lq (q_add rfl rfl) rfl <| lq (q_move rfl) rfl <| WL.nil ?_
  refine WT.inLoop (WT.mono (l' := [(1, .string p1), (4, .pointer (some ⟨b_1, 0, none⟩)), (8, pv0), (9, .int .i64 (p0.length : Int)), (10, .int .i64 (IntKind.i64.wrap (s1 + 1)))]) (S' := St w0 Φ [(b_1, .cells #[.int .i64 0, .int .i64 0, .string (⟨#[]⟩ : ByteArray)] 121 (0, 0))] []) ⟨rfl, rfl, rfl, rfl, rfl, trivial⟩ (fun w1 hw => (hw.sel (js := []) rfl).selO (js := [1]) rfl) ?_)
  exact ih1 (IntKind.i64.wrap (s1 + 1)) h
 replace h := ite_f h c1
 refine WT.exit rfl <| WT.seq <| WT.region <| lq (q_build (vs := []) (C := #[.int .i64 0, .int .i64 0, .string (⟨#[]⟩ : ByteArray)]) Pl_121 Zr_121 rfl (fill_nil)) rfl <| ls (s_store (i := 0) (vs := [.int .i64 0, .int .i64 0, .string (⟨#[]⟩ : ByteArray)]) (C' := [.int .i64 0, .int .i64 0, .string (⟨#[]⟩ : ByteArray)]) (O' := [(b_1, .cells #[.int .i64 0, .int .i64 0, .string (⟨#[]⟩ : ByteArray)] 121 (0, 0))]) Sz_121 rfl rfl rfl rfl rfl rfl ⟨rfl, rfl, rfl, trivial⟩ rfl rfl) rfl ?_
 refine lq (q_assign rfl) rfl <| WL.nil ?_
 refine WT.ret Tryz.func188 (resOk.two (rv_cell Tn_121 rfl (fun w1 hw => hw.rgO (i := 0) rfl 0 3 [.int .i64 0, .int .i64 0, .string (⟨#[]⟩ : ByteArray)] rfl) rfl) rfl) (fun w1 hw => ?_)
 subst hb0
 cases h
 exact post_of_St hw
theorem m_i_MatchPat_ok {Φ : Hp} {w : World} (hΦ : In Φ w) (N : Nat) (p0 : TPat) (p1 : TFact) (p2 : (List TBind)) {pv0_0 : Value} {pG0_0 : List Nat} {pv1_0 : Value} {pG1_0 : List Nat} {pv2 : Value} {pG2 : List Nat} (ph0_0 : RSl RTArg 5 Φ pG0_0 pv0_0 p0.Args) (ph1_0 : RSl RTVal 3 Φ pG1_0 pv1_0 p1.Fields) (ph2 : RSl RTBind 4 Φ pG2 pv2 p2) {r : (List TBind) × Bool} (h : m_i_MatchPat N p0 p1 p2 = some r) :
  Calls Tryz.prog 127 [.agg [.string p0.Kind, pv0_0, .bool p0.Not].toArray, .agg [.string p1.Kind, pv1_0].toArray, pv2].toArray w (PostG Φ w [] (fun Φ' Fs v => ∃ (sr_0_0 : Value), v = .tuple #[sr_0_0, .bool r.2] ∧ Fs = [ob sr_0_0] ∧ OSl RTBind 123 4 Φ' [] sr_0_0 r.1)) := by
 refine enter Tryz.func127 rfl Tryz.ntmps127 rfl (St.start0 hΦ) ?_
 have pa0_0 : Old ⟨w, [], Φ⟩ pG0_0 := Old.mk hΦ ph0_0.kn (Dj.empty _)
 have pa1_0 : Old ⟨w, [], Φ⟩ pG1_0 := Old.mk hΦ ph1_0.kn (Dj.empty _)
 have pa2 : Old ⟨w, [], Φ⟩ pG2 := Old.mk hΦ ph2.kn (Dj.empty _)
 revert pa0_0 pa1_0 pa2
 generalize hb0 : (⟨w, [], Φ⟩ : Base) = w0
 intro pa0_0 pa1_0 pa2
 unfold m_i_MatchPat at h
 refine WT.seq <| WT.region ?_
 refine ln (n_box (C := #[.string p0.Kind, pv0_0, .bool p0.Not]) rfl rfl) rfl (fun b_1 => ?_)
 refine ln (n_box (C := #[.string p1.Kind, pv1_0]) rfl rfl) rfl (fun b_2 => ?_)
 refine lq (q_assign rfl) rfl <| lq (q_assign rfl) rfl <| WL.nil <| WT.seq <| WT.seq <| WT.region <| lq (q_fieldAddr Fld_116_0 rfl) rfl <| lq (q_load1 T1_9 rfl (fun w1 hw => hw.rgO (i := 0) rfl 0 1 [.string p1.Kind] rfl)) rfl <| lq (q_fieldAddr Fld_114_0 rfl) rfl <| lq (q_load1 T1_9 rfl (fun w1 hw => hw.rgO (i := 1) rfl 0 1 [.string p0.Kind] rfl)) rfl <| lq (q_sne rfl rfl) rfl <| lq (q_move rfl) rfl ?_
 obtain ⟨b1, hb_1, h⟩ := bind_some h
 refine WL.cutN 8 [(27, .bool b1), (2, pv2), (3, .pointer (some ⟨b_1, 0, none⟩)), (4, .pointer (some ⟨b_2, 0, none⟩))] ?_ (fun K => ?_)
 rotate_left
 ·refine WL.split (d := 19) rfl (fun c1 => ?_) (fun c1 => ?_)
  ·replace hb_1 := ite_t hb_1 c1
   refine WL.no rfl rfl rfl rfl <| WL.no rfl rfl rfl rfl <| WL.no rfl rfl rfl rfl <| WL.no rfl rfl rfl rfl <| WL.no rfl rfl rfl rfl <| WL.no rfl rfl rfl rfl <| WL.no rfl rfl rfl rfl <| WL.q (q_pick1 rfl rfl) rfl rfl rfl ?_
   cases hb_1
   exact WL.keep (by exact ⟨rfl, rfl, rfl, rfl, trivial⟩) K
  ·replace hb_1 := ite_f hb_1 c1
   refine WL.yes rfl rfl <| lq (q_fieldAddr Fld_116_1 rfl) rfl <| WL.yes rfl rfl <| lq (q_load1 T1_100 rfl (fun w1 hw => hw.rgO (i := 0) rfl 1 1 [pv1_0] rfl)) rfl <| WL.yes rfl rfl <| lq (q_lenR Sl_100 rfl rfl ph1_0) rfl <| WL.yes rfl rfl <| lq (q_fieldAddr Fld_114_1 rfl) rfl <| WL.yes rfl rfl <| lq (q_load1 T1_112 rfl (fun w1 hw => hw.rgO (i := 1) rfl 1 1 [pv0_0] rfl)) rfl <| WL.yes rfl rfl <| lq (q_lenR Sl_112 rfl rfl ph0_0) rfl <| WL.yes rfl rfl <| lq (q_neq rfl rfl) rfl ?_
   refine WL.q (q_pick0 rfl rfl) rfl rfl rfl ?_
   cases hb_1
   exact WL.keep (by exact ⟨rfl, rfl, rfl, rfl, trivial⟩) K
 refine WL.nil ?_
 refine WT.cond rfl (fun c2 => ?_) (fun c2 => ?_)
 ·replace h := ite_t h c2
  refine WT.seq <| WT.region <| lq (q_move rfl) rfl ?_
  obtain ⟨x1, hx1, h⟩ := bind_some h
  refine lc (k_call (js := []) (R := []) Fun_187 rfl rfl (fun w1 hw ap hl => m_sl_Clone_Si_Bind_i_Bind_ok hw.fro N p2 ph2  hx1)) rfl (fun v1 Φ_1 F1 q1 => ?_)
  obtain ⟨ap1, fr1, v2, rfl, rfl, h1⟩ := q1
  refine lq (q_assign rfl) rfl <| lq (q_assign rfl) rfl <| WL.nil ?_
  refine WT.ret Tryz.func127 (resOk.two rfl rfl) (fun w1 hw => ?_)
  subst hb0
  cases h
  refine postG_of_St (js := [0]) hw rfl ⟨v1, rfl, rfl, h1⟩
 replace h := ite_f h c2
 refine WT.skip <| WT.seq <| WT.region <| lq (q_move rfl) rfl ?_
 obtain ⟨x2, hx2, h⟩ := bind_some h
 refine lc (k_call (js := []) (R := []) Fun_187 rfl rfl (fun w1 hw ap hl => m_sl_Clone_Si_Bind_i_Bind_ok hw.fro N p2 ph2  hx2)) rfl (fun v3 Φ_2 F2 q2 => ?_)
 obtain ⟨ap2, fr2, v4, rfl, rfl, h2⟩ := q2
 replace ph2 := ph2.frame RTBind.lasts fr2 (ap2.o pa2)
 replace ph0_0 := ph0_0.frame RTArg.lasts fr2 (ap2.o pa0_0)
 replace ph1_0 := ph1_0.frame RTVal.lasts fr2 (ap2.o pa1_0)
 refine lq (q_assign rfl) rfl <| WL.nil <| WT.seq <| WT.seq <| WT.region <| lq (q_fieldAddr Fld_114_1 rfl) rfl <| lq (q_load1 T1_112 rfl (fun w1 hw => hw.rgO (i := 1) rfl 1 1 [pv0_0] rfl)) rfl <| lq (q_lenR Sl_112 rfl rfl ph0_0) rfl <| lq (q_move rfl) rfl <| WL.nil <| WT.block <| WT.loop <| WT.mono (l' := [(2, pv2), (4, .pointer (some ⟨b_2, 0, none⟩)), (8, v3), (33, pv0_0), (34, .int .i64 (p0.Args.length : Int)), (35, .int .i64 0)]) (S' := St w0 Φ_2 [(b_2, .cells #[.string p1.Kind, pv1_0] 116 (0, 0))] [ob v3]) ⟨rfl, rfl, rfl, rfl, rfl, rfl, trivial⟩ (fun w1 hw => (hw.sel (js := [0]) rfl).selO (js := [0]) rfl) ?_
 refine loop_ind (σ := Hp × (List TBind) × Value × Int) (fun s => [(2, pv2), (4, .pointer (some ⟨b_2, 0, none⟩)), (8, s.2.2.1), (33, pv0_0), (34, .int .i64 (p0.Args.length : Int)), (35, .int .i64 s.2.2.2)]) (fun s => St w0 s.1 [(b_2, .cells #[.string p1.Kind, pv1_0] 116 (0, 0))] [ob s.2.2.1]) (fun m s => m_i_MatchPat_l1 N p0 p1 p2 m s.2.1 s.2.2.2 = some r ∧ (OSl RTBind 123 4 s.1 [] s.2.2.1 s.2.1) ∧ (RSl RTBind 4 s.1 pG2 pv2 p2) ∧ (RSl RTVal 3 s.1 pG1_0 pv1_0 p1.Fields) ∧ (RSl RTArg 5 s.1 pG0_0 pv0_0 p0.Args)) (fun s hm => none_ne (show (none : Option ((List TBind) × Bool)) = some r from hm.1)) (fun n1 ih1 s hm => ?_) N (Φ_2, x2, v3, 0) ⟨h, h2, ph2, ph1_0, ph0_0⟩
 obtain ⟨Φ_3, s1, u1, s2⟩ := s
 obtain ⟨h, k1, ph2, ph1_0, ph0_0⟩ := hm
 replace h : m_i_MatchPat_l1 N p0 p1 p2 (n1 + 1) s1 s2 = some r := h
 replace k1 : OSl RTBind 123 4 Φ_3 [] u1 s1 := k1
 replace ph2 : RSl RTBind 4 Φ_3 pG2 pv2 p2 := ph2
 replace ph1_0 : RSl RTVal 3 Φ_3 pG1_0 pv1_0 p1.Fields := ph1_0
 replace ph0_0 : RSl RTArg 5 Φ_3 pG0_0 pv0_0 p0.Args := ph0_0
 show WT _ _ [(2, pv2), (4, .pointer (some ⟨b_2, 0, none⟩)), (8, u1), (33, pv0_0), (34, .int .i64 (p0.Args.length : Int)), (35, .int .i64 s2)] (St w0 Φ_3 [(b_2, .cells #[.string p1.Kind, pv1_0] 116 (0, 0))] [ob u1])
 unfold m_i_MatchPat_l1 at h
 refine WT.seq <| WT.region <| lq (q_lss rfl rfl) rfl <| WL.nil <| WT.seq ?_
 refine WT.cond rfl (fun c3 => ?_) (fun c3 => ?_)
 ·replace h := ite_t h c3
  refine WT.skip <| WT.seq <| WT.block <| WT.seq <| WT.region <| lq (q_move rfl) rfl ?_
  obtain ⟨x3, hx3, h⟩ := bind_some h
  obtain ⟨cs1, F3, -, g1, hb1, hs1, r1⟩ := ph0_0.el (idx_some hx3).2.2
  obtain ⟨rfl, -⟩ := r1
  refine lq (q_indexAddr Sl_112 rfl rfl ph0_0 hx3) rfl <| lq (q_loadN Tn_126 rfl (fun w1 hw => (g1.of_eq 0 5 rfl rfl : rg _ _ _ [.int .i64 x3.K, .string x3.S, .int .i64 x3.V.K, .int .i64 x3.V.N, .string x3.V.S]).rangeAt hw.fro) rfl) rfl ?_
  refine ln (n_alloc (C := #[.int .i64 0, .string (⟨#[]⟩ : ByteArray), .int .i64 0, .int .i64 0, .string (⟨#[]⟩ : ByteArray)]) Zr_126 rfl) rfl (fun b_3 => ?_)
  refine lq (q_assign rfl) rfl <| ls (s_store (i := 0) (vs := [.int .i64 x3.K, .string x3.S, .int .i64 x3.V.K, .int .i64 x3.V.N, .string x3.V.S]) (C' := [.int .i64 x3.K, .string x3.S, .int .i64 x3.V.K, .int .i64 x3.V.N, .string x3.V.S]) (O' := [(b_3, .cells #[.int .i64 x3.K, .string x3.S, .int .i64 x3.V.K, .int .i64 x3.V.N, .string x3.V.S] 126 (0, 0)), (b_2, .cells #[.string p1.Kind, pv1_0] 116 (0, 0))]) Sz_126 rfl rfl rfl rfl rfl rfl ⟨rfl, rfl, rfl, rfl, rfl, trivial⟩ rfl rfl) rfl ?_
  refine WL.nil <| WT.seq <| WT.region <| lq (q_fieldAddr Fld_116_1 rfl) rfl <| lq (q_load1 T1_100 rfl (fun w1 hw => hw.rgO (i := 1) rfl 1 1 [pv1_0] rfl)) rfl <| lq (q_move rfl) rfl ?_
  obtain ⟨x4, hx4, h⟩ := bind_some h
  obtain ⟨cs2, F4, -, g2, hb2, hs2, r2⟩ := ph1_0.el (idx_some hx4).2.2
  obtain ⟨rfl, -⟩ := r2
  refine lq (q_indexAddr Sl_100 rfl rfl ph1_0 hx4) rfl <| lq (q_loadN Tn_121 rfl (fun w1 hw => (g2.of_eq 0 3 rfl rfl : rg _ _ _ [.int .i64 x4.K, .int .i64 x4.N, .string x4.S]).rangeAt hw.fro) rfl) rfl ?_
  refine ln (n_alloc (C := #[.int .i64 0, .int .i64 0, .string (⟨#[]⟩ : ByteArray)]) Zr_121 rfl) rfl (fun b_4 => ?_)
  refine ls (s_store (i := 0) (vs := [.int .i64 x4.K, .int .i64 x4.N, .string x4.S]) (C' := [.int .i64 x4.K, .int .i64 x4.N, .string x4.S]) (O' := [(b_4, .cells #[.int .i64 x4.K, .int .i64 x4.N, .string x4.S] 121 (0, 0)), (b_3, .cells #[.int .i64 x3.K, .string x3.S, .int .i64 x3.V.K, .int .i64 x3.V.N, .string x3.V.S] 126 (0, 0)), (b_2, .cells #[.string p1.Kind, pv1_0] 116 (0, 0))]) Sz_121 rfl rfl rfl rfl rfl rfl ⟨rfl, rfl, rfl, trivial⟩ rfl rfl) rfl ?_
  refine WL.nil <| WT.seq <| WT.region <| lq (q_fieldAddr Fld_126_0 rfl) rfl <| lq (q_load1 T1_3 rfl (fun w1 hw => hw.rgO (i := 1) rfl 0 1 [.int .i64 x3.K] rfl)) rfl <| WL.nil <| WT.block <| WT.seq <| WT.region <| lq (q_eql rfl rfl) rfl <| lq (q_assign rfl) rfl <| WL.nil ?_
  refine WT.cond rfl (fun c4 => ?_) (fun c4 => ?_)
  ·replace h := ite_t h c4
   refine WT.seq <| WT.region <| lq (q_fieldAddr Fld_126_2 rfl) rfl <| lq (q_loadN Tn_121 rfl (fun w1 hw => hw.rgO (i := 1) rfl 2 3 [.int .i64 x3.V.K, .int .i64 x3.V.N, .string x3.V.S] rfl) rfl) rfl <| lq (q_loadN Tn_121 rfl (fun w1 hw => hw.rgO (i := 0) rfl 0 3 [.int .i64 x4.K, .int .i64 x4.N, .string x4.S] rfl) rfl) rfl <| lq (q_neA EqT_121 rfl rfl rfl (r := eqT_TVal x3.V x4) rfl) rfl <| WL.nil ?_
   refine WT.cond rfl (fun c5 => ?_) (fun c5 => ?_)
   ·replace h := ite_t h c5
    refine WT.seq <| WT.region <| lq (q_move rfl) rfl ?_
    obtain ⟨x5, hx5, h⟩ := bind_some h
    refine lc (k_call (js := []) (R := [ob u1]) Fun_187 rfl rfl (fun w1 hw ap hl => m_sl_Clone_Si_Bind_i_Bind_ok hw.fro N p2 ph2  hx5)) rfl (fun v5 Φ_4 F5 q3 => ?_)
    obtain ⟨ap3, fr3, v6, rfl, rfl, h3⟩ := q3
    refine lq (q_assign rfl) rfl <| lq (q_assign rfl) rfl <| WL.nil ?_
    refine WT.ret Tryz.func127 (resOk.two rfl rfl) (fun w1 hw => ?_)
    subst hb0
    cases h
    refine postG_of_St (js := [0]) hw rfl ⟨v5, rfl, rfl, h3⟩
   replace h := ite_f h c5
   refine WT.skip <| WT.inBlock <| WT.inBlock <| WT.region <| lq (q_add rfl rfl) rfl <| lq (q_move rfl) rfl <| WL.nil ?_
   refine WT.inLoop (WT.mono (l' := [(2, pv2), (4, .pointer (some ⟨b_2, 0, none⟩)), (8, u1), (33, pv0_0), (34, .int .i64 (p0.Args.length : Int)), (35, .int .i64 (IntKind.i64.wrap (s2 + 1)))]) (S' := St w0 Φ_3 [(b_2, .cells #[.string p1.Kind, pv1_0] 116 (0, 0))] [ob u1]) ⟨rfl, rfl, rfl, rfl, rfl, rfl, trivial⟩ (fun w1 hw => (hw.sel (js := [0]) rfl).selO (js := [2]) rfl) ?_)
   exact ih1 (Φ_3, s1, u1, IntKind.i64.wrap (s2 + 1)) ⟨h, k1, ph2, ph1_0, ph0_0⟩
  replace h := ite_f h c4
  refine WT.seq <| WT.region <| lq (q_eql rfl rfl) rfl <| lq (q_assign rfl) rfl <| WL.nil ?_
  refine WT.cond rfl (fun c6 => ?_) (fun c6 => ?_)
  ·replace h := ite_t h c6
   refine WT.seq <| WT.region <| lq (q_move rfl) rfl <| lq (q_fieldAddr Fld_126_1 rfl) rfl <| lq (q_load1 T1_9 rfl (fun w1 hw => hw.rgO (i := 1) rfl 1 1 [.string x3.S] rfl)) rfl ?_
   obtain ⟨x6, hx6, h⟩ := bind_some h
   refine lp (p_call Fun_188 rfl (fun w1 hw => m_i_BindOf_ok hw.fro N s1 x3.S k1.rsl hx6)) rfl <| lq (q_move rfl) rfl <| lq (q_extract rfl rfl) rfl <| lq (q_extract rfl rfl) rfl ?_
   refine ln (n_alloc (C := #[.int .i64 0, .int .i64 0, .string (⟨#[]⟩ : ByteArray)]) Zr_121 rfl) rfl (fun b_5 => ?_)
   refine ls (s_store (i := 0) (vs := [.int .i64 x6.1.K, .int .i64 x6.1.N, .string x6.1.S]) (C' := [.int .i64 x6.1.K, .int .i64 x6.1.N, .string x6.1.S]) (O' := [(b_5, .cells #[.int .i64 x6.1.K, .int .i64 x6.1.N, .string x6.1.S] 121 (0, 0)), (b_4, .cells #[.int .i64 x4.K, .int .i64 x4.N, .string x4.S] 121 (0, 0)), (b_3, .cells #[.int .i64 x3.K, .string x3.S, .int .i64 x3.V.K, .int .i64 x3.V.N, .string x3.V.S] 126 (0, 0)), (b_2, .cells #[.string p1.Kind, pv1_0] 116 (0, 0))]) Sz_121 rfl rfl rfl rfl rfl rfl ⟨rfl, rfl, rfl, trivial⟩ rfl rfl) rfl ?_
   refine lq (q_assign rfl) rfl <| WL.nil <| WT.seq <| WT.seq <| WT.region <| lq (q_move rfl) rfl <| lq (q_move rfl) rfl ?_
   obtain ⟨b2, hb_2, h⟩ := bind_some h
   refine WL.cutN 4 [(69, .bool b2), (2, pv2), (4, .pointer (some ⟨b_2, 0, none⟩)), (8, u1), (10, .pointer (some ⟨b_3, 0, none⟩)), (11, .pointer (some ⟨b_4, 0, none⟩)), (13, .bool x6.2), (33, pv0_0), (34, .int .i64 (p0.Args.length : Int)), (35, .int .i64 s2)] ?_ (fun K => ?_)
   rotate_left
   ·refine WL.split (d := 65) rfl (fun c7 => ?_) (fun c7 => ?_)
    ·replace hb_2 := ite_t hb_2 c7
     refine WL.yes rfl rfl <| lq (q_loadN Tn_121 rfl (fun w1 hw => hw.rgO (i := 0) rfl 0 3 [.int .i64 x6.1.K, .int .i64 x6.1.N, .string x6.1.S] rfl) rfl) rfl <| WL.yes rfl rfl <| lq (q_loadN Tn_121 rfl (fun w1 hw => hw.rgO (i := 1) rfl 0 3 [.int .i64 x4.K, .int .i64 x4.N, .string x4.S] rfl) rfl) rfl <| WL.yes rfl rfl <| lq (q_neA EqT_121 rfl rfl rfl (r := eqT_TVal x6.1 x4) rfl) rfl <| WL.q (q_pick1 rfl rfl) rfl rfl rfl ?_
     cases hb_2
     exact WL.keep (by exact ⟨rfl, rfl, rfl, rfl, rfl, rfl, rfl, rfl, rfl, rfl, trivial⟩) K
    ·replace hb_2 := ite_f hb_2 c7
     refine WL.no rfl rfl rfl rfl <| WL.no rfl rfl rfl rfl <| WL.no rfl rfl rfl rfl <| WL.q (q_pick0 rfl rfl) rfl rfl rfl ?_
     cases hb_2
     exact WL.keep (by exact ⟨rfl, rfl, rfl, rfl, rfl, rfl, rfl, rfl, rfl, rfl, trivial⟩) K
   refine WL.nil ?_
   refine WT.cond rfl (fun c8 => ?_) (fun c8 => ?_)
   ·replace h := ite_t h c8
    refine WT.seq <| WT.region <| lq (q_move rfl) rfl ?_
    obtain ⟨x7, hx7, h⟩ := bind_some h
    refine lc (k_call (js := []) (R := [ob u1]) Fun_187 rfl rfl (fun w1 hw ap hl => m_sl_Clone_Si_Bind_i_Bind_ok hw.fro N p2 ph2  hx7)) rfl (fun v7 Φ_5 F6 q4 => ?_)
    obtain ⟨ap4, fr4, v8, rfl, rfl, h4⟩ := q4
    refine lq (q_assign rfl) rfl <| lq (q_assign rfl) rfl <| WL.nil ?_
    refine WT.ret Tryz.func127 (resOk.two rfl rfl) (fun w1 hw => ?_)
    subst hb0
    cases h
    refine postG_of_St (js := [0]) hw rfl ⟨v7, rfl, rfl, h4⟩
   replace h := ite_f h c8
   refine WT.skip <| WT.seq <| WT.region <| lq (q_move rfl) rfl <| lq (q_not rfl) rfl <| WL.nil ?_
   refine WT.cond rfl (fun c9 => ?_) (fun c9 => ?_)
   ·replace h := ite_t h c9
    refine WT.region <| lq (q_move rfl) rfl <| lq (q_fieldAddr Fld_126_1 rfl) rfl <| lq (q_load1 T1_9 rfl (fun w1 hw => hw.rgO (i := 2) rfl 1 1 [.string x3.S] rfl)) rfl <| lq (q_loadN Tn_121 rfl (fun w1 hw => hw.rgO (i := 1) rfl 0 3 [.int .i64 x4.K, .int .i64 x4.N, .string x4.S] rfl) rfl) rfl <| lq (q_build (vs := [(0, .string x3.S), (1, .agg [.int .i64 x4.K, .int .i64 x4.N, .string x4.S].toArray)]) (C := #[.string x3.S, .int .i64 x4.K, .int .i64 x4.N, .string x4.S]) Pl_123 Zr_123 rfl (fill_cons (cells := [.string ⟨#[]⟩, .int .i64 0, .int .i64 0, .string ⟨#[]⟩]) (c := [.string x3.S]) (C' := [.string x3.S, .int .i64 0, .int .i64 0, .string ⟨#[]⟩]) rfl rfl rfl rfl rfl (fill_cons (cells := [.string x3.S, .int .i64 0, .int .i64 0, .string ⟨#[]⟩]) (c := [.int .i64 x4.K, .int .i64 x4.N, .string x4.S]) (C' := [.string x3.S, .int .i64 x4.K, .int .i64 x4.N, .string x4.S]) rfl rfl rfl rfl rfl (fill_nil)))) rfl ?_
    have rc1 : RC RTBind 4 Φ_3 ([[]] : List (List Nat)) [.string x3.S, .int .i64 x4.K, .int .i64 x4.N, .string x4.S] ([(⟨x3.S, x4⟩ : TBind)] : List TBind) := RC.cons (c := [.string x3.S, .int .i64 x4.K, .int .i64 x4.N, .string x4.S]) (cells := []) ⟨rfl, rfl⟩ rfl (RC.nil _ _ _)
    refine le' (e_lit (vs := [(0, .agg [.string x3.S, .int .i64 x4.K, .int .i64 x4.N, .string x4.S].toArray)]) (C := #[.string x3.S, .int .i64 x4.K, .int .i64 x4.N, .string x4.S]) RTBind.lasts Sl_55 Zr_123 rfl rfl rfl rfl (fill_made MC_123_1 (fill_cons (cells := [.string ⟨#[]⟩, .int .i64 0, .int .i64 0, .string ⟨#[]⟩]) (c := [.string x3.S, .int .i64 x4.K, .int .i64 x4.N, .string x4.S]) (C' := [.string x3.S, .int .i64 x4.K, .int .i64 x4.N, .string x4.S]) rfl rfl rfl rfl rfl (fill_nil))) rfl rc1 rfl (by simpa using Kw.nil)) rfl (fun v9 Φ_6 D1 q5 => ?_)
    obtain ⟨fr5, h5⟩ := q5
    replace h5 : OSl RTBind 123 4 Φ_6 [] v9 ([(⟨x3.S, x4⟩ : TBind)] : List TBind) := by simpa using h5
    replace ph2 := ph2.frame RTBind.lasts fr5 (Dj.empty _)
    replace ph1_0 := ph1_0.frame RTVal.lasts fr5 (Dj.empty _)
    replace ph0_0 := ph0_0.frame RTArg.lasts fr5 (Dj.empty _)
    replace k1 := k1.frame RTBind.lasts fr5 (Dj.empty _) (Dj.empty _)
    obtain ⟨x8, hx8, h⟩ := bind_some h
    refine le' (e_appF RTBind.lasts RTBind.one RTBind.flat Sl_55 Ei_123 rfl rfl rfl rfl rfl (js := [1]) (Rr := [ob v9]) rfl k1 h5.rsl hx8) rfl (fun v10 Φ_7 D2 q6 => ?_)
    obtain ⟨⟨ap5, fr6⟩, h6⟩ := q6
    replace ph2 := ph2.frame RTBind.lasts fr6 (ap5.o pa2)
    replace ph1_0 := ph1_0.frame RTVal.lasts fr6 (ap5.o pa1_0)
    replace ph0_0 := ph0_0.frame RTArg.lasts fr6 (ap5.o pa0_0)
    refine lq (q_assign rfl) rfl <| WL.nil <| WT.inBlock <| WT.inBlock <| WT.region <| lq (q_add rfl rfl) rfl <| lq (q_move rfl) rfl <| WL.nil ?_
    refine WT.inLoop (WT.mono (l' := [(2, pv2), (4, .pointer (some ⟨b_2, 0, none⟩)), (8, v10), (33, pv0_0), (34, .int .i64 (p0.Args.length : Int)), (35, .int .i64 (IntKind.i64.wrap (s2 + 1)))]) (S' := St w0 Φ_7 [(b_2, .cells #[.string p1.Kind, pv1_0] 116 (0, 0))] [ob v10]) ⟨rfl, rfl, rfl, rfl, rfl, rfl, trivial⟩ (fun w1 hw => (hw.sel (js := [0]) rfl).selO (js := [3]) rfl) ?_)
    exact ih1 (Φ_7, x8, v10, IntKind.i64.wrap (s2 + 1)) ⟨h, h6, ph2, ph1_0, ph0_0⟩
   replace h := ite_f h c9
   refine WT.skip <| WT.inBlock <| WT.inBlock <| WT.region <| lq (q_add rfl rfl) rfl <| lq (q_move rfl) rfl <| WL.nil ?_
   refine WT.inLoop (WT.mono (l' := [(2, pv2), (4, .pointer (some ⟨b_2, 0, none⟩)), (8, u1), (33, pv0_0), (34, .int .i64 (p0.Args.length : Int)), (35, .int .i64 (IntKind.i64.wrap (s2 + 1)))]) (S' := St w0 Φ_3 [(b_2, .cells #[.string p1.Kind, pv1_0] 116 (0, 0))] [ob u1]) ⟨rfl, rfl, rfl, rfl, rfl, rfl, trivial⟩ (fun w1 hw => (hw.sel (js := [0]) rfl).selO (js := [3]) rfl) ?_)
   exact ih1 (Φ_3, s1, u1, IntKind.i64.wrap (s2 + 1)) ⟨h, k1, ph2, ph1_0, ph0_0⟩
  replace h := ite_f h c6
  refine WT.skip <| WT.inBlock <| WT.inBlock <| WT.region <| lq (q_add rfl rfl) rfl <| lq (q_move rfl) rfl <| WL.nil ?_
  refine WT.inLoop (WT.mono (l' := [(2, pv2), (4, .pointer (some ⟨b_2, 0, none⟩)), (8, u1), (33, pv0_0), (34, .int .i64 (p0.Args.length : Int)), (35, .int .i64 (IntKind.i64.wrap (s2 + 1)))]) (S' := St w0 Φ_3 [(b_2, .cells #[.string p1.Kind, pv1_0] 116 (0, 0))] [ob u1]) ⟨rfl, rfl, rfl, rfl, rfl, rfl, trivial⟩ (fun w1 hw => (hw.sel (js := [0]) rfl).selO (js := [2]) rfl) ?_)
  exact ih1 (Φ_3, s1, u1, IntKind.i64.wrap (s2 + 1)) ⟨h, k1, ph2, ph1_0, ph0_0⟩
 replace h := ite_f h c3
 refine WT.exit rfl <| WT.seq <| WT.region <| lq (q_move rfl) rfl <| lq (q_assign rfl) rfl <| lq (q_assign rfl) rfl <| WL.nil ?_
 refine WT.ret Tryz.func127 (resOk.two rfl rfl) (fun w1 hw => ?_)
 subst hb0
 cases h
 refine postG_of_St (js := [0]) hw rfl ⟨u1, rfl, rfl, k1⟩
theorem m_i_bindsOf_ok {Φ : Hp} {w : World} (hΦ : In Φ w) (N : Nat) (p0 : (List TPat)) (p1 : TStore) (p2 : (List Int)) {pv0 : Value} {pG0 : List Nat} {pv1_0 : Value} {pG1_0 : List Nat} {pv2 : Value} {pG2 : List Nat} (ph0 : RSl RTPat 3 Φ pG0 pv0 p0) (ph1_0 : RSl RTItem 3 Φ pG1_0 pv1_0 p1.Items) (ph2 : RSl (RI .i64) 1 Φ pG2 pv2 p2) {r : (List TBind) × Bool} (h : m_i_bindsOf N p0 p1 p2 = some r) :
  Calls Tryz.prog 62 [pv0, .agg [pv1_0, .int .i64 p1.Next].toArray, pv2].toArray w (PostG Φ w [] (fun Φ' Fs v => ∃ (sr_0_0 : Value), v = .tuple #[sr_0_0, .bool r.2] ∧ Fs = [ob sr_0_0] ∧ OSl RTBind 123 4 Φ' [] sr_0_0 r.1)) := by
 refine enter Tryz.func62 rfl Tryz.ntmps62 rfl (St.start0 hΦ) ?_
 have pa0 : Old ⟨w, [], Φ⟩ pG0 := Old.mk hΦ ph0.kn (Dj.empty _)
 have pa1_0 : Old ⟨w, [], Φ⟩ pG1_0 := Old.mk hΦ ph1_0.kn (Dj.empty _)
 have pa2 : Old ⟨w, [], Φ⟩ pG2 := Old.mk hΦ ph2.kn (Dj.empty _)
 revert pa0 pa1_0 pa2
 generalize hb0 : (⟨w, [], Φ⟩ : Base) = w0
 intro pa0 pa1_0 pa2
 unfold m_i_bindsOf at h
 refine WT.seq <| WT.region ?_
 refine ln (n_box (C := #[pv1_0, .int .i64 p1.Next]) rfl rfl) rfl (fun b_1 => ?_)
 refine lq (q_assign rfl) rfl <| lq (q_assign rfl) rfl <| WL.nil <| WT.seq <| WT.region <| lq (q_assign rfl) rfl <| WL.nil <| WT.seq <| WT.seq <| WT.region <| lq (q_move rfl) rfl <| lq (q_lenR Sl_41 rfl rfl ph2) rfl <| lq (q_move rfl) rfl <| WL.nil <| WT.block <| WT.loop <| WT.conv (S' := St w0 Φ [(b_1, .cells #[pv1_0, .int .i64 p1.Next] 52 (0, 0))] (ob (.slice none 0 0) :: [])) (fun w1 hw => hw.addNil) ?_
 have k1 := OSl.nil RTBind 123 4 Φ
 refine WT.mono (l' := [(0, pv0), (4, .pointer (some ⟨b_1, 0, none⟩)), (8, (.slice none 0 0)), (13, pv2), (14, .int .i64 (p2.length : Int)), (15, .int .i64 0)]) (S' := St w0 Φ [(b_1, .cells #[pv1_0, .int .i64 p1.Next] 52 (0, 0))] [ob (.slice none 0 0)]) ⟨rfl, rfl, rfl, rfl, rfl, rfl, trivial⟩ (fun w1 hw => (hw.sel (js := [0]) rfl).selO (js := [0]) rfl) ?_
 refine loop_ind (σ := Hp × (List TBind) × Value × Int) (fun s => [(0, pv0), (4, .pointer (some ⟨b_1, 0, none⟩)), (8, s.2.2.1), (13, pv2), (14, .int .i64 (p2.length : Int)), (15, .int .i64 s.2.2.2)]) (fun s => St w0 s.1 [(b_1, .cells #[pv1_0, .int .i64 p1.Next] 52 (0, 0))] [ob s.2.2.1]) (fun m s => m_i_bindsOf_l1 N p0 p1 p2 m s.2.1 s.2.2.2 = some r ∧ (OSl RTBind 123 4 s.1 [] s.2.2.1 s.2.1) ∧ (RSl RTPat 3 s.1 pG0 pv0 p0) ∧ (RSl RTItem 3 s.1 pG1_0 pv1_0 p1.Items) ∧ (RSl (RI .i64) 1 s.1 pG2 pv2 p2)) (fun s hm => none_ne (show (none : Option ((List TBind) × Bool)) = some r from hm.1)) (fun n1 ih1 s hm => ?_) N (Φ, ([] : List TBind), (.slice none 0 0), 0) ⟨h, k1, ph0, ph1_0, ph2⟩
 obtain ⟨Φ_1, s1, u1, s2⟩ := s
 obtain ⟨h, k2, ph0, ph1_0, ph2⟩ := hm
 replace h : m_i_bindsOf_l1 N p0 p1 p2 (n1 + 1) s1 s2 = some r := h
 replace k2 : OSl RTBind 123 4 Φ_1 [] u1 s1 := k2
 replace ph0 : RSl RTPat 3 Φ_1 pG0 pv0 p0 := ph0
 replace ph1_0 : RSl RTItem 3 Φ_1 pG1_0 pv1_0 p1.Items := ph1_0
 replace ph2 : RSl (RI .i64) 1 Φ_1 pG2 pv2 p2 := ph2
 show WT _ _ [(0, pv0), (4, .pointer (some ⟨b_1, 0, none⟩)), (8, u1), (13, pv2), (14, .int .i64 (p2.length : Int)), (15, .int .i64 s2)] (St w0 Φ_1 [(b_1, .cells #[pv1_0, .int .i64 p1.Next] 52 (0, 0))] [ob u1])
 unfold m_i_bindsOf_l1 at h
 refine WT.seq <| WT.region <| lq (q_lss rfl rfl) rfl <| WL.nil <| WT.seq ?_
 refine WT.cond rfl (fun c1 => ?_) (fun c1 => ?_)
 ·replace h := ite_t h c1
  refine WT.skip <| WT.seq <| WT.block <| WT.seq <| WT.region <| lq (q_move rfl) rfl ?_
  obtain ⟨x1, hx1, h⟩ := bind_some h
  obtain ⟨cs1, F1, -, g1, hb1, hs1, r1⟩ := ph2.el (idx_some hx1).2.2
  obtain ⟨rfl, -⟩ := r1
  refine lq (q_indexAddr Sl_41 rfl rfl ph2 hx1) rfl <| lq (q_load1 T1_3 rfl (fun w1 hw => (g1.of_eq 0 1 rfl rfl : rg _ _ _ [.int .i64 x1]).rangeAt hw.fro)) rfl <| lq (q_assign rfl) rfl <| lq (q_assign rfl) rfl <| WL.nil <| WT.seq <| WT.region <| lq (q_loadN Tn_52 rfl (fun w1 hw => hw.rgO (i := 0) rfl 0 2 [pv1_0, .int .i64 p1.Next] rfl) rfl) rfl <| lq (q_move rfl) rfl ?_
  obtain ⟨x2, hx2, h⟩ := bind_some h
  refine lc (k_call (js := []) (R := [ob u1]) Fun_126 rfl rfl (fun w1 hw ap hl => m_i_FactOf_ok hw.fro N p1 x1 ph1_0  hx2)) rfl (fun v1 Φ_2 F2 q1 => ?_)
  obtain ⟨ap1, fr1, v2, rfl, rfl, h1⟩ := q1
  replace ph0 := ph0.frame RTPat.lasts fr1 (ap1.o pa0)
  replace ph1_0 := ph1_0.frame RTItem.lasts fr1 (ap1.o pa1_0)
  replace ph2 := ph2.frame RI.lasts fr1 (ap1.o pa2)
  replace k2 := k2.frame RTBind.lasts fr1 (ap1.r (i := 0) rfl) (Dj.nil _)
  refine lq (q_move rfl) rfl <| lq (q_extract rfl rfl) rfl <| lq (q_extract rfl rfl) rfl ?_
  refine ln (n_alloc (C := #[.string (⟨#[]⟩ : ByteArray), .slice none 0 0]) Zr_116 rfl) rfl (fun b_2 => ?_)
  refine ls (s_store (i := 0) (vs := [.string x2.1.Kind, v2]) (C' := [.string x2.1.Kind, v2]) (O' := [(b_2, .cells #[.string x2.1.Kind, v2] 116 (0, 0)), (b_1, .cells #[pv1_0, .int .i64 p1.Next] 52 (0, 0))]) Sz_116 rfl rfl rfl rfl rfl rfl ⟨rfl, h1.one, trivial⟩ rfl rfl) rfl <| lq (q_assign rfl) rfl <| WL.nil <| WT.seq <| WT.seq <| WT.region <| lq (q_move rfl) rfl <| lq (q_not rfl) rfl <| WL.nil ?_
  refine WT.cond rfl (fun c2 => ?_) (fun c2 => ?_)
  ·replace h := ite_t h c2
   refine WT.seq <| WT.region <| lq (q_assign rfl) rfl <| lq (q_assign rfl) rfl <| WL.nil ?_
   refine WT.ret Tryz.func62 (resOk.two rfl rfl) (fun w1 hw => ?_)
   subst hb0
   cases h
   replace hw := hw.addNil
   refine postG_of_St (js := [0]) hw rfl ⟨.slice none 0 0, rfl, rfl, OSl.nil _ _ _ _⟩
  replace h := ite_f h c2
  refine WT.skip <| WT.seq <| WT.mix (Kn Φ_2 pG0 [(b_2, .cells #[.string x2.1.Kind, v2] 116 (0, 0)), (b_1, .cells #[pv1_0, .int .i64 p1.Next] 52 (0, 0))]) (fun _ => true) mixed (fun _ h => h.drew) <| mq 0 rfl (by kernel_rfl) (fun w1 hw => Kn.of (fun _ _ _ h => h) (AllIn.mem ⟨gM 0 rfl, gM 1 rfl, trivial⟩) hw) (q_move rfl) rfl <| mq 1 rfl (by kernel_rfl) (fun w1 hw => Kn.of (fun _ _ _ h => h) (AllIn.mem ⟨gM 0 rfl, gM 1 rfl, trivial⟩) hw) (q_move rfl) rfl ?_
  obtain ⟨x3, hx3, h⟩ := bind_some h
  obtain ⟨cs2, F3, -, g2, hb2, hs2, r2⟩ := ph0.el (idx_some hx3).2.2
  obtain ⟨v3, G1, rfl, hq1, h2⟩ := r2
  obtain rfl := hq1.symm
  refine mq 2 rfl (by kernel_rfl) (fun w1 hw => Kn.of (fun _ _ _ h => h) (AllIn.mem ⟨gM 0 rfl, gM 1 rfl, trivial⟩) hw) (q_indexAddr Sl_45 rfl rfl ph0 hx3) rfl <| mq 3 rfl (by kernel_rfl) (fun w1 hw => Kn.of (fun _ _ _ h => h) (AllIn.mem ⟨gM 0 rfl, gM 1 rfl, trivial⟩) hw) (q_loadN Tn_114 rfl (fun w1 hw => hw.rg hb2 (g2.of_eq 0 3 rfl rfl : rg _ _ _ [.string x3.Kind, v3, .bool x3.Not])) rfl) rfl ?_
  refine mq 4 rfl (by kernel_rfl) (fun w1 hw => Kn.of (fun _ _ _ h => h) (AllIn.mem ⟨gM 0 rfl, gM 1 rfl, trivial⟩) hw) (q_loadN Tn_116 rfl (fun w1 hw => hw.rgO (i := 0) rfl 0 2 [.string x2.1.Kind, v2] rfl) rfl) rfl <| mq 5 rfl (by kernel_rfl) (fun w1 hw => Kn.of (fun _ _ _ h => h) (AllIn.mem ⟨gM 0 rfl, gM 1 rfl, trivial⟩) hw) (q_move rfl) rfl ?_
  obtain ⟨x4, hx4, h⟩ := bind_some h
  refine WM.one 6 (by kernel_rfl) (mc rfl (fun _ v Φx D w1 hq hw => Kn.of (fun k hk o ho => hq.2.1 k o ((hq.1.o pa0) k hk) ((fun _ _ _ h => h) k hk o ho)) (AllIn.mem ⟨gM 0 rfl, gM 1 rfl, trivial⟩) hw) (k_call (js := []) (R := [ob v2, ob u1]) Fun_127 rfl rfl (fun w1 hw ap hl => m_i_MatchPat_ok hw.fro N x3 x2.1 s1 h2 h1.rsl k2.rsl  hx4)) rfl (fun v4 Φ_3 F4 q2 => ?_))
  obtain ⟨ap2, fr2, v5, rfl, rfl, h3⟩ := q2
  replace ph0 := ph0.frame RTPat.lasts fr2 (ap2.o pa0)
  replace ph1_0 := ph1_0.frame RTItem.lasts fr2 (ap2.o pa1_0)
  replace ph2 := ph2.frame RI.lasts fr2 (ap2.o pa2)
  replace k2 := k2.frame RTBind.lasts fr2 (ap2.r (i := 1) rfl) (Dj.nil _)
  refine mq 7 rfl (by kernel_rfl) (fun w1 hw => Kn.of (fun k hk o ho => fr2 k o ((ap2.o pa0) k hk) ((fun _ _ _ h => h) k hk o ho)) (AllIn.mem ⟨gM 0 rfl, gM 1 rfl, trivial⟩) hw) (q_move rfl) rfl <| mq 8 rfl (by kernel_rfl) (fun w1 hw => Kn.of (fun k hk o ho => fr2 k o ((ap2.o pa0) k hk) ((fun _ _ _ h => h) k hk o ho)) (AllIn.mem ⟨gM 0 rfl, gM 1 rfl, trivial⟩) hw) (q_extract rfl rfl) rfl ?_
  refine mq 9 rfl (by kernel_rfl) (fun w1 hw => Kn.of (fun k hk o ho => fr2 k o ((ap2.o pa0) k hk) ((fun _ _ _ h => h) k hk o ho)) (AllIn.mem ⟨gM 0 rfl, gM 1 rfl, trivial⟩) hw) (q_extract rfl rfl) rfl <| mq 10 rfl (by kernel_rfl) (fun w1 hw => Kn.of (fun k hk o ho => fr2 k o ((ap2.o pa0) k hk) ((fun _ _ _ h => h) k hk o ho)) (AllIn.mem ⟨gM 0 rfl, gM 1 rfl, trivial⟩) hw) (q_assign rfl) rfl ?_
  refine mq 11 rfl (by kernel_rfl) (fun w1 hw => Kn.of (fun k hk o ho => fr2 k o ((ap2.o pa0) k hk) ((fun _ _ _ h => h) k hk o ho)) (AllIn.mem ⟨gM 0 rfl, gM 1 rfl, trivial⟩) hw) (q_assign rfl) rfl <| WM.nil (by kernel_rfl) <| WT.seq <| WT.region <| lq (q_move rfl) rfl <| lq (q_not rfl) rfl <| WL.nil ?_
  refine WT.cond rfl (fun c3 => ?_) (fun c3 => ?_)
  ·replace h := ite_t h c3
   refine WT.seq <| WT.region <| lq (q_assign rfl) rfl <| lq (q_assign rfl) rfl <| WL.nil ?_
   refine WT.ret Tryz.func62 (resOk.two rfl rfl) (fun w1 hw => ?_)
   subst hb0
   cases h
   replace hw := hw.addNil
   refine postG_of_St (js := [0]) hw rfl ⟨.slice none 0 0, rfl, rfl, OSl.nil _ _ _ _⟩
  replace h := ite_f h c3
  refine WT.skip <| WT.inBlock <| WT.region <| lq (q_add rfl rfl) rfl <| lq (q_move rfl) rfl <| WL.nil ?_
  refine WT.inLoop (WT.mono (l' := [(0, pv0), (4, .pointer (some ⟨b_1, 0, none⟩)), (8, v5), (13, pv2), (14, .int .i64 (p2.length : Int)), (15, .int .i64 (IntKind.i64.wrap (s2 + 1)))]) (S' := St w0 Φ_3 [(b_1, .cells #[pv1_0, .int .i64 p1.Next] 52 (0, 0))] [ob v5]) ⟨rfl, rfl, rfl, rfl, rfl, rfl, trivial⟩ (fun w1 hw => (hw.sel (js := [0]) rfl).selO (js := [1]) rfl) ?_)
  exact ih1 (Φ_3, x4.1, v5, IntKind.i64.wrap (s2 + 1)) ⟨h, h3, ph0, ph1_0, ph2⟩
 replace h := ite_f h c1
 refine WT.exit rfl <| WT.seq <| WT.region <| lq (q_move rfl) rfl <| lq (q_assign rfl) rfl <| lq (q_assign rfl) rfl <| WL.nil ?_
 refine WT.ret Tryz.func62 (resOk.two rfl rfl) (fun w1 hw => ?_)
 subst hb0
 cases h
 refine postG_of_St (js := [0]) hw rfl ⟨u1, rfl, rfl, k2⟩
theorem m_i_BindsFor_ok {Φ : Hp} {w : World} (hΦ : In Φ w) (N : Nat) (p0 : TRule) (p1 : TStore) (p2 : (List Int)) {pv0_0 : Value} {pG0_0 : List Nat} {pv0_1 : Value} {pG0_1 : List Nat} {pv0_2 : Value} {pG0_2 : List Nat} {pv1_0 : Value} {pG1_0 : List Nat} {pv2 : Value} {pG2 : List Nat} (ph0_0 : RSl RTPat 3 Φ pG0_0 pv0_0 p0.Pats) (ph0_1 : RSl RTCond 11 Φ pG0_1 pv0_1 p0.Conds) (ph0_2 : RSl RTAct 5 Φ pG0_2 pv0_2 p0.Acts) (ph1_0 : RSl RTItem 3 Φ pG1_0 pv1_0 p1.Items) (ph2 : RSl (RI .i64) 1 Φ pG2 pv2 p2) {r : (List TBind) × Bool} (h : m_i_BindsFor N p0 p1 p2 = some r) :
  Calls Tryz.prog 16 [.agg [.string p0.Name, .int .i64 p0.Sal, pv0_0, pv0_1, pv0_2].toArray, .agg [pv1_0, .int .i64 p1.Next].toArray, pv2].toArray w (PostG Φ w [] (fun Φ' Fs v => ∃ (sr_0_0 : Value), v = .tuple #[sr_0_0, .bool r.2] ∧ Fs = [ob sr_0_0] ∧ OSl RTBind 123 4 Φ' [] sr_0_0 r.1)) := by
 refine enter Tryz.func16 rfl Tryz.ntmps16 rfl (St.start0 hΦ) ?_
 have pa1_0 : Old ⟨w, [], Φ⟩ pG1_0 := Old.mk hΦ ph1_0.kn (Dj.empty _)
 have pa2 : Old ⟨w, [], Φ⟩ pG2 := Old.mk hΦ ph2.kn (Dj.empty _)
 unfold m_i_BindsFor at h
 refine WT.seq <| WT.region ?_
 refine ln (n_box (C := #[.string p0.Name, .int .i64 p0.Sal, pv0_0, pv0_1, pv0_2]) rfl rfl) rfl (fun b_1 => ?_)
 refine ln (n_box (C := #[pv1_0, .int .i64 p1.Next]) rfl rfl) rfl (fun b_2 => ?_)
 refine lq (q_assign rfl) rfl <| lq (q_assign rfl) rfl <| WL.nil <| WT.seq <| WT.region <| lq (q_loadN Tn_49 rfl (fun w1 hw => hw.rgO (i := 1) rfl 0 5 [.string p0.Name, .int .i64 p0.Sal, pv0_0, pv0_1, pv0_2] rfl) rfl) rfl ?_
 obtain ⟨x1, hx1, h⟩ := bind_some h
 refine lc (k_call (js := []) (R := []) Fun_61 rfl rfl (fun w1 hw ap hl => m_i_pats_ok hw.fro N p0 false ph0_0 ph0_1 ph0_2  hx1)) rfl (fun v1 Φ_1 F1 q1 => ?_)
 obtain ⟨ap1, fr1, v2, D1, rfl, rfl, h1, i1⟩ := q1
 replace ph2 := ph2.frame RI.lasts fr1 (ap1.o pa2)
 replace ph1_0 := ph1_0.frame RTItem.lasts fr1 (ap1.o pa1_0)
 refine lq (q_assign rfl) rfl <| WL.nil <| WT.seq <| WT.seq <| WT.region <| lq (q_move rfl) rfl <| lq (q_lenR Sl_41 rfl rfl ph2) rfl <| lq (q_move rfl) rfl <| lq (q_lenR Sl_45 rfl rfl h1.rsl) rfl <| lq (q_neq rfl rfl) rfl <| WL.nil ?_
 refine WT.cond rfl (fun c1 => ?_) (fun c1 => ?_)
 ·replace h := ite_t h c1
  refine WT.seq <| WT.region <| lq (q_assign rfl) rfl <| lq (q_assign rfl) rfl <| WL.nil ?_
  refine WT.ret Tryz.func16 (resOk.two rfl rfl) (fun w1 hw => ?_)
  cases h
  replace hw := hw.addNil
  refine postG_of_St (js := [0]) hw rfl ⟨.slice none 0 0, rfl, rfl, OSl.nil _ _ _ _⟩
 replace h := ite_f h c1
 refine WT.skip <| WT.seq <| WT.region <| lq (q_move rfl) rfl <| lq (q_loadN Tn_52 rfl (fun w1 hw => hw.rgO (i := 0) rfl 0 2 [pv1_0, .int .i64 p1.Next] rfl) rfl) rfl <| lq (q_move rfl) rfl ?_
 obtain ⟨x2, hx2, h⟩ := bind_some h
 refine lc (k_call (js := []) (R := [ob v1]) Fun_62 rfl rfl (fun w1 hw ap hl => m_i_bindsOf_ok hw.fro N x1 p1 p2 h1.rsl ph1_0 ph2  hx2)) rfl (fun v3 Φ_2 F2 q2 => ?_)
 obtain ⟨ap2, fr2, v4, rfl, rfl, h2⟩ := q2
 refine lq (q_extract rfl rfl) rfl <| lq (q_extract rfl rfl) rfl <| lq (q_assign rfl) rfl <| lq (q_assign rfl) rfl <| WL.nil ?_
 refine WT.ret Tryz.func16 (resOk.two rfl rfl) (fun w1 hw => ?_)
 cases h
 refine postG_of_St (js := [0]) hw rfl ⟨v4, rfl, rfl, h2⟩
theorem m_l_sameBinds_ok {Φ : Hp} {w : World} (hΦ : In Φ w) (N : Nat) (p0 : (List TBind)) (p1 : (List TBind)) {pv0 : Value} {pG0 : List Nat} {pv1 : Value} {pG1 : List Nat} (ph0 : RSl RTBind 4 Φ pG0 pv0 p0) (ph1 : RSl RTBind 4 Φ pG1 pv1 p1) {r : Bool} (h : m_l_sameBinds N p0 p1 = some r) :
  Calls Tryz.prog 18 [pv0, pv1].toArray w (Post (.bool r) w) := by
 refine enter Tryz.func18 rfl Tryz.ntmps18 rfl (St.start0 hΦ) ?_
 generalize hb0 : (⟨w, [], Φ⟩ : Base) = w0
 unfold m_l_sameBinds at h
 refine WT.seq <| WT.region <| lq (q_assign rfl) rfl <| WL.nil <| WT.seq <| WT.seq <| WT.region <| lq (q_move rfl) rfl <| lq (q_lenR Sl_55 rfl rfl ph0) rfl <| lq (q_move rfl) rfl <| lq (q_lenR Sl_55 rfl rfl ph1) rfl <| lq (q_neq rfl rfl) rfl <| WL.nil ?_
 refine WT.cond rfl (fun c1 => ?_) (fun c1 => ?_)
 ·replace h := ite_t h c1
  refine WT.seq <| WT.region <| lq (q_assign rfl) rfl <| WL.nil ?_
  refine WT.ret Tryz.func18 (resOk.one rfl) (fun w1 hw => ?_)
  subst hb0
  cases h
  exact post_of_St hw
 replace h := ite_f h c1
 refine WT.skip <| WT.seq <| WT.seq <| WT.region <| lq (q_assign rfl) rfl <| WL.nil <| WT.block <| WT.loop <| WT.mono (l' := [(0, pv0), (1, pv1), (5, .int .i64 0)]) (S' := St w0 Φ [] []) ⟨rfl, rfl, rfl, trivial⟩ (fun w1 hw => (hw.sel (js := []) rfl).selO (js := []) rfl) ?_
 refine loop_ind (σ := Int) (fun s => [(0, pv0), (1, pv1), (5, .int .i64 s)]) (fun s => St w0 Φ [] []) (fun m s => m_l_sameBinds_l1 N p0 p1 m s = some r) (fun s hm => none_ne (show (none : Option (Bool)) = some r from hm)) (fun n1 ih1 s hm => ?_) N (0) h
 revert hm; revert s; intro s1 hm
 have h : m_l_sameBinds_l1 N p0 p1 (n1 + 1) s1 = some r := hm
 show WT _ _ [(0, pv0), (1, pv1), (5, .int .i64 s1)] (St w0 Φ [] [])
 unfold m_l_sameBinds_l1 at h
 refine WT.seq <| WT.seq <| WT.region <| lq (q_move rfl) rfl <| lq (q_move rfl) rfl <| lq (q_lenR Sl_55 rfl rfl ph0) rfl <| lq (q_lss rfl rfl) rfl <| WL.nil ?_
 refine WT.cond rfl (fun c2 => ?_) (fun c2 => ?_)
 ·replace h := ite_t h c2
  refine WT.skip <| WT.seq <| WT.block <| WT.seq <| WT.draw mixed (by kernel_rfl) (fun _ h => h.drew) <| qq (q_move rfl) rfl <| qq (q_move rfl) rfl ?_
  obtain ⟨x1, hx1, h⟩ := bind_some h
  obtain ⟨cs1, F1, -, g1, hb1, hs1, r1⟩ := ph0.el (idx_some hx1).2.2
  obtain ⟨rfl, -⟩ := r1
  refine qq (q_indexAddr Sl_55 rfl rfl ph0 hx1) rfl <| qq (q_loadN Tn_123 rfl (fun w1 hw => (g1.of_eq 0 4 rfl rfl : rg _ _ _ [.string x1.Name, .int .i64 x1.V.K, .int .i64 x1.V.N, .string x1.V.S]).rangeAt hw.fro) rfl) rfl <| qq (q_move rfl) rfl <| qq (q_move rfl) rfl ?_
  obtain ⟨x2, hx2, h⟩ := bind_some h
  obtain ⟨cs2, F2, -, g2, hb2, hs2, r2⟩ := ph1.el (idx_some hx2).2.2
  obtain ⟨rfl, -⟩ := r2
  refine qq (q_indexAddr Sl_55 rfl rfl ph1 hx2) rfl <| qq (q_loadN Tn_123 rfl (fun w1 hw => (g2.of_eq 0 4 rfl rfl : rg _ _ _ [.string x2.Name, .int .i64 x2.V.K, .int .i64 x2.V.N, .string x2.V.S]).rangeAt hw.fro) rfl) rfl <| qq (q_neA EqT_123 rfl rfl rfl (r := eqT_TBind x1 x2) rfl) rfl <| WQ.nil ?_
  refine WT.cond rfl (fun c3 => ?_) (fun c3 => ?_)
  ·replace h := ite_t h c3
   refine WT.seq <| WT.region <| lq (q_assign rfl) rfl <| WL.nil ?_
   refine WT.ret Tryz.func18 (resOk.one rfl) (fun w1 hw => ?_)
   subst hb0
   cases h
   exact post_of_St hw
  replace h := ite_f h c3
  refine WT.skip <| WT.inBlock <| WT.region <| lq (q_move rfl) rfl <| lq (q_add rfl rfl) rfl <| lq (q_assign rfl) rfl <| WL.nil ?_
  refine WT.inLoop (WT.mono (l' := [(0, pv0), (1, pv1), (5, .int .i64 (IntKind.i64.wrap (s1 + 1)))]) (S' := St w0 Φ [] []) ⟨rfl, rfl, rfl, trivial⟩ (fun w1 hw => (hw.sel (js := []) rfl).selO (js := []) rfl) ?_)
  exact ih1 (IntKind.i64.wrap (s1 + 1)) h
 replace h := ite_f h c2
 refine WT.exit rfl <| WT.seq <| WT.region <| lq (q_assign rfl) rfl <| WL.nil ?_
 refine WT.ret Tryz.func18 (resOk.one rfl) (fun w1 hw => ?_)
 subst hb0
 cases h
 exact post_of_St hw
theorem m_i_PosCount_ok {Φ : Hp} {w : World} (hΦ : In Φ w) (N : Nat) (p0 : TRule) {pv0_0 : Value} {pG0_0 : List Nat} {pv0_1 : Value} {pG0_1 : List Nat} {pv0_2 : Value} {pG0_2 : List Nat} (ph0_0 : RSl RTPat 3 Φ pG0_0 pv0_0 p0.Pats) (ph0_1 : RSl RTCond 11 Φ pG0_1 pv0_1 p0.Conds) (ph0_2 : RSl RTAct 5 Φ pG0_2 pv0_2 p0.Acts) {r : Int} (h : m_i_PosCount N p0 = some r) :
  Calls Tryz.prog 24 [.agg [.string p0.Name, .int .i64 p0.Sal, pv0_0, pv0_1, pv0_2].toArray].toArray w (Post (.int .i64 r) w) := by
 refine enter Tryz.func24 rfl Tryz.ntmps24 rfl (St.start0 hΦ) ?_
 generalize hb0 : (⟨w, [], Φ⟩ : Base) = w0
 unfold m_i_PosCount at h
 refine WT.seq <| WT.region ?_
 refine ln (n_box (C := #[.string p0.Name, .int .i64 p0.Sal, pv0_0, pv0_1, pv0_2]) rfl rfl) rfl (fun b_1 => ?_)
 refine lq (q_assign rfl) rfl <| WL.nil <| WT.seq <| WT.region <| lq (q_assign rfl) rfl <| WL.nil <| WT.seq <| WT.seq <| WT.region <| lq (q_fieldAddr Fld_49_2 rfl) rfl <| lq (q_load1 T1_45 rfl (fun w1 hw => hw.rgO (i := 0) rfl 2 1 [pv0_0] rfl)) rfl <| lq (q_lenR Sl_45 rfl rfl ph0_0) rfl <| lq (q_move rfl) rfl <| WL.nil <| WT.block <| WT.loop <| WT.mono (l' := [(3, .int .i64 0), (7, pv0_0), (8, .int .i64 (p0.Pats.length : Int)), (9, .int .i64 0)]) (S' := St w0 Φ [] []) ⟨rfl, rfl, rfl, rfl, trivial⟩ (fun w1 hw => (hw.sel (js := []) rfl).selO (js := []) rfl) ?_
 refine loop_ind (σ := Int × Int) (fun s => [(3, .int .i64 s.1), (7, pv0_0), (8, .int .i64 (p0.Pats.length : Int)), (9, .int .i64 s.2)]) (fun s => St w0 Φ [] []) (fun m s => m_i_PosCount_l1 N p0 m s.1 s.2 = some r) (fun s hm => none_ne (show (none : Option (Int)) = some r from hm)) (fun n1 ih1 s hm => ?_) N (0, 0) h
 obtain ⟨s1, s2⟩ := s
 have h : m_i_PosCount_l1 N p0 (n1 + 1) s1 s2 = some r := hm
 show WT _ _ [(3, .int .i64 s1), (7, pv0_0), (8, .int .i64 (p0.Pats.length : Int)), (9, .int .i64 s2)] (St w0 Φ [] [])
 unfold m_i_PosCount_l1 at h
 refine WT.seq <| WT.region <| lq (q_lss rfl rfl) rfl <| WL.nil <| WT.seq ?_
 refine WT.cond rfl (fun c1 => ?_) (fun c1 => ?_)
 ·replace h := ite_t h c1
  refine WT.skip <| WT.seq <| WT.block <| WT.seq <| WT.region ?_
  obtain ⟨x1, hx1, h⟩ := bind_some h
  obtain ⟨cs1, F1, -, g1, hb1, hs1, r1⟩ := ph0_0.el (idx_some hx1).2.2
  obtain ⟨v1, G1, rfl, hq1, h1⟩ := r1
  obtain rfl := hq1.symm
  refine lq (q_indexAddr Sl_45 rfl rfl ph0_0 hx1) rfl <| lq (q_loadN Tn_114 rfl (fun w1 hw => (g1.of_eq 0 3 rfl rfl : rg _ _ _ [.string x1.Kind, v1, .bool x1.Not]).rangeAt hw.fro) rfl) rfl ?_
  refine ln (n_alloc (C := #[.string (⟨#[]⟩ : ByteArray), .slice none 0 0, .bool false]) Zr_114 rfl) rfl (fun b_2 => ?_)
  refine ls (s_store (i := 0) (vs := [.string x1.Kind, v1, .bool x1.Not]) (C' := [.string x1.Kind, v1, .bool x1.Not]) (O' := [(b_2, .cells #[.string x1.Kind, v1, .bool x1.Not] 114 (0, 0))]) Sz_114 rfl rfl rfl rfl rfl rfl ⟨rfl, h1.one, rfl, trivial⟩ rfl rfl) rfl <| WL.nil <| WT.seq <| WT.region <| lq (q_fieldAddr Fld_114_2 rfl) rfl <| lq (q_load1 T1_4 rfl (fun w1 hw => hw.rgO (i := 0) rfl 2 1 [.bool x1.Not] rfl)) rfl <| lq (q_not rfl) rfl ?_
  refine WL.nil ?_
  refine WT.cond rfl (fun c2 => ?_) (fun c2 => ?_)
  ·replace h := ite_t h c2
   refine WT.region <| lq (q_move rfl) rfl <| lq (q_add rfl rfl) rfl <| lq (q_assign rfl) rfl <| WL.nil <| WT.inBlock <| WT.region <| lq (q_add rfl rfl) rfl <| lq (q_move rfl) rfl <| WL.nil ?_
   refine WT.inLoop (WT.mono (l' := [(3, .int .i64 (IntKind.i64.wrap (s1 + 1))), (7, pv0_0), (8, .int .i64 (p0.Pats.length : Int)), (9, .int .i64 (IntKind.i64.wrap (s2 + 1)))]) (S' := St w0 Φ [] []) ⟨rfl, rfl, rfl, rfl, trivial⟩ (fun w1 hw => (hw.sel (js := []) rfl).selO (js := []) rfl) ?_)
   exact ih1 (IntKind.i64.wrap (s1 + 1), IntKind.i64.wrap (s2 + 1)) h
  replace h := ite_f h c2
  refine WT.skip <| WT.inBlock <| WT.region <| lq (q_add rfl rfl) rfl <| lq (q_move rfl) rfl <| WL.nil ?_
  refine WT.inLoop (WT.mono (l' := [(3, .int .i64 s1), (7, pv0_0), (8, .int .i64 (p0.Pats.length : Int)), (9, .int .i64 (IntKind.i64.wrap (s2 + 1)))]) (S' := St w0 Φ [] []) ⟨rfl, rfl, rfl, rfl, trivial⟩ (fun w1 hw => (hw.sel (js := []) rfl).selO (js := []) rfl) ?_)
  exact ih1 (s1, IntKind.i64.wrap (s2 + 1)) h
 replace h := ite_f h c1
 refine WT.exit rfl <| WT.seq <| WT.region <| lq (q_move rfl) rfl <| lq (q_assign rfl) rfl <| WL.nil ?_
 refine WT.ret Tryz.func24 (resOk.one rfl) (fun w1 hw => ?_)
 subst hb0
 cases h
 exact post_of_St hw
theorem m_i_isSmall_ok {Φ : Hp} {w : World} (hΦ : In Φ w) (N : Nat) (p0 : Int)   {r : Bool} (h : m_i_isSmall N p0 = some r) :
  Calls Tryz.prog 138 [.int .u8 p0].toArray w (Post (.bool r) w) := by
 refine enter Tryz.func138 rfl Tryz.ntmps138 rfl (St.start0 hΦ) ?_
 unfold m_i_isSmall at h
 refine WT.seq <| WT.region <| lq (q_assign rfl) rfl <| WL.nil <| WT.seq <| WT.region <| lq (q_move rfl) rfl <| lq (q_geq rfl rfl) rfl <| lq (q_move rfl) rfl ?_
 obtain ⟨b1, hb_1, h⟩ := bind_some h
 refine WL.cutN 3 [(8, .bool b1), (2, .bool false)] ?_ (fun K => ?_)
 rotate_left
 ·refine WL.split (d := 5) rfl (fun c1 => ?_) (fun c1 => ?_)
  ·replace hb_1 := ite_t hb_1 c1
   refine WL.yes rfl rfl <| lq (q_move rfl) rfl <| WL.yes rfl rfl <| lq (q_leq rfl rfl) rfl <| WL.q (q_pick1 rfl rfl) rfl rfl rfl ?_
   cases hb_1
   exact WL.keep (by exact ⟨rfl, rfl, trivial⟩) K
  ·replace hb_1 := ite_f hb_1 c1
   refine WL.no rfl rfl rfl rfl <| WL.no rfl rfl rfl rfl <| WL.q (q_pick0 rfl rfl) rfl rfl rfl ?_
   cases hb_1
   exact WL.keep (by exact ⟨rfl, rfl, trivial⟩) K
 refine lq (q_assign rfl) rfl <| WL.nil ?_
 refine WT.ret Tryz.func138 (resOk.one rfl) (fun w1 hw => ?_)
 cases h
 exact post_of_St hw
theorem m_i_isDigit_ok {Φ : Hp} {w : World} (hΦ : In Φ w) (N : Nat) (p0 : Int)   {r : Bool} (h : m_i_isDigit N p0 = some r) :
  Calls Tryz.prog 224 [.int .u8 p0].toArray w (Post (.bool r) w) := by
 refine enter Tryz.func224 rfl Tryz.ntmps224 rfl (St.start0 hΦ) ?_
 unfold m_i_isDigit at h
 refine WT.seq <| WT.region <| lq (q_assign rfl) rfl <| WL.nil <| WT.seq <| WT.region <| lq (q_move rfl) rfl <| lq (q_geq rfl rfl) rfl <| lq (q_move rfl) rfl ?_
 obtain ⟨b1, hb_1, h⟩ := bind_some h
 refine WL.cutN 3 [(8, .bool b1), (2, .bool false)] ?_ (fun K => ?_)
 rotate_left
 ·refine WL.split (d := 5) rfl (fun c1 => ?_) (fun c1 => ?_)
  ·replace hb_1 := ite_t hb_1 c1
   refine WL.yes rfl rfl <| lq (q_move rfl) rfl <| WL.yes rfl rfl <| lq (q_leq rfl rfl) rfl <| WL.q (q_pick1 rfl rfl) rfl rfl rfl ?_
   cases hb_1
   exact WL.keep (by exact ⟨rfl, rfl, trivial⟩) K
  ·replace hb_1 := ite_f hb_1 c1
   refine WL.no rfl rfl rfl rfl <| WL.no rfl rfl rfl rfl <| WL.q (q_pick0 rfl rfl) rfl rfl rfl ?_
   cases hb_1
   exact WL.keep (by exact ⟨rfl, rfl, trivial⟩) K
 refine lq (q_assign rfl) rfl <| WL.nil ?_
 refine WT.ret Tryz.func224 (resOk.one rfl) (fun w1 hw => ?_)
 cases h
 exact post_of_St hw
theorem m_i_isWordByte_ok {Φ : Hp} {w : World} (hΦ : In Φ w) (N : Nat) (p0 : Int)   {r : Bool} (h : m_i_isWordByte N p0 = some r) :
  Calls Tryz.prog 196 [.int .u8 p0].toArray w (Post (.bool r) w) := by
 refine enter Tryz.func196 rfl Tryz.ntmps196 rfl (St.start0 hΦ) ?_
 unfold m_i_isWordByte at h
 refine WT.seq <| WT.region <| lq (q_assign rfl) rfl <| WL.nil <| WT.seq <| WT.region <| lq (q_move rfl) rfl ?_
 obtain ⟨x1, hx1, h⟩ := bind_some h
 refine lp (p_call Fun_138 rfl (fun w1 hw => m_i_isSmall_ok hw.fro N p0 hx1)) rfl <| lq (q_move rfl) rfl ?_
 obtain ⟨b1, hb_1, h⟩ := bind_some h
 refine WL.cutN 3 [(8, .bool b1), (0, .int .u8 p0), (2, .bool false)] ?_ (fun K => ?_)
 rotate_left
 ·refine WL.split (d := 5) rfl (fun c1 => ?_) (fun c1 => ?_)
  ·replace hb_1 := ite_t hb_1 c1
   refine WL.no rfl rfl rfl rfl <| WL.no rfl rfl rfl rfl <| WL.q (q_pick1 rfl rfl) rfl rfl rfl ?_
   cases hb_1
   exact WL.keep (by exact ⟨rfl, rfl, rfl, trivial⟩) K
  ·replace hb_1 := ite_f hb_1 c1
   refine WL.yes rfl rfl <| lq (q_move rfl) rfl <| WL.yes rfl rfl ?_
   obtain ⟨x2, hx2, hb_1⟩ := bind_some hb_1
   refine lp (p_call Fun_224 rfl (fun w1 hw => m_i_isDigit_ok hw.fro N p0 hx2)) rfl <| WL.q (q_pick0 rfl rfl) rfl rfl rfl ?_
   cases hb_1
   exact WL.keep (by exact ⟨rfl, rfl, rfl, trivial⟩) K
 refine lq (q_move rfl) rfl ?_
 obtain ⟨b2, hb_2, h⟩ := bind_some h
 refine WL.cutN 3 [(12, .bool b2), (2, .bool false)] ?_ (fun K => ?_)
 rotate_left
 ·refine WL.split (d := 9) rfl (fun c2 => ?_) (fun c2 => ?_)
  ·replace hb_2 := ite_t hb_2 c2
   refine WL.no rfl rfl rfl rfl <| WL.no rfl rfl rfl rfl <| WL.q (q_pick1 rfl rfl) rfl rfl rfl ?_
   cases hb_2
   exact WL.keep (by exact ⟨rfl, rfl, trivial⟩) K
  ·replace hb_2 := ite_f hb_2 c2
   refine WL.yes rfl rfl <| lq (q_move rfl) rfl <| WL.yes rfl rfl <| lq (q_eql rfl rfl) rfl <| WL.q (q_pick0 rfl rfl) rfl rfl rfl ?_
   cases hb_2
   exact WL.keep (by exact ⟨rfl, rfl, trivial⟩) K
 refine lq (q_assign rfl) rfl <| WL.nil ?_
 refine WT.ret Tryz.func196 (resOk.one rfl) (fun w1 hw => ?_)
 cases h
 exact post_of_St hw
theorem m_i_isWord_ok {Φ : Hp} {w : World} (hΦ : In Φ w) (N : Nat) (p0 : ByteArray) (p1 : Int)   {r : Bool} (h : m_i_isWord N p0 p1 = some r) :
  Calls Tryz.prog 139 [.string p0, .int .i64 p1].toArray w (Post (.bool r) w) := by
 refine enter Tryz.func139 rfl Tryz.ntmps139 rfl (St.start0 hΦ) ?_
 generalize hb0 : (⟨w, [], Φ⟩ : Base) = w0
 unfold m_i_isWord at h
 refine WT.seq <| WT.region <| lq (q_assign rfl) rfl <| WL.nil <| WT.seq <| WT.seq <| WT.region <| lq (q_move rfl) rfl <| lq (q_lenS Str_9 rfl rfl) rfl <| lq (q_move rfl) rfl <| lq (q_gtr rfl rfl) rfl <| WL.nil ?_
 refine WT.cond rfl (fun c1 => ?_) (fun c1 => ?_)
 ·replace h := ite_t h c1
  refine WT.seq <| WT.region <| lq (q_assign rfl) rfl <| WL.nil ?_
  refine WT.ret Tryz.func139 (resOk.one rfl) (fun w1 hw => ?_)
  subst hb0
  cases h
  exact post_of_St hw
 replace h := ite_f h c1
 refine WT.skip <| WT.seq <| WT.seq <| WT.region <| lq (q_assign rfl) rfl <| WL.nil <| WT.block <| WT.loop <| WT.mono (l' := [(0, .string p0), (5, .int .i64 0)]) (S' := St w0 Φ [] []) ⟨rfl, rfl, trivial⟩ (fun w1 hw => (hw.sel (js := []) rfl).selO (js := []) rfl) ?_
 refine loop_ind (σ := Int) (fun s => [(0, .string p0), (5, .int .i64 s)]) (fun s => St w0 Φ [] []) (fun m s => m_i_isWord_l1 N p0 m s = some r) (fun s hm => none_ne (show (none : Option (Bool)) = some r from hm)) (fun n1 ih1 s hm => ?_) N (0) h
 revert hm; revert s; intro s1 hm
 have h : m_i_isWord_l1 N p0 (n1 + 1) s1 = some r := hm
 show WT _ _ [(0, .string p0), (5, .int .i64 s1)] (St w0 Φ [] [])
 unfold m_i_isWord_l1 at h
 refine WT.seq <| WT.seq <| WT.region <| lq (q_move rfl) rfl <| lq (q_move rfl) rfl <| lq (q_lenS Str_9 rfl rfl) rfl <| lq (q_lss rfl rfl) rfl <| WL.nil ?_
 refine WT.cond rfl (fun c2 => ?_) (fun c2 => ?_)
 ·replace h := ite_t h c2
  refine WT.skip <| WT.seq <| WT.block <| WT.seq <| WT.region <| lq (q_move rfl) rfl <| lq (q_move rfl) rfl ?_
  obtain ⟨y1, hy1, h⟩ := bind_some h
  refine lq (q_indexS Str_9 rfl rfl hy1) rfl ?_
  obtain ⟨x1, hx1, h⟩ := bind_some h
  refine lp (p_call Fun_196 rfl (fun w1 hw => m_i_isWordByte_ok hw.fro N (y1.toNat : Int) hx1)) rfl <| lq (q_not rfl) rfl <| WL.nil ?_
  refine WT.cond rfl (fun c3 => ?_) (fun c3 => ?_)
  ·replace h := ite_t h c3
   refine WT.seq <| WT.region <| lq (q_assign rfl) rfl <| WL.nil ?_
   refine WT.ret Tryz.func139 (resOk.one rfl) (fun w1 hw => ?_)
   subst hb0
   cases h
   exact post_of_St hw
  replace h := ite_f h c3
  refine WT.skip <| WT.inBlock <| WT.region <| lq (q_move rfl) rfl <| lq (q_add rfl rfl) rfl <| lq (q_assign rfl) rfl <| WL.nil ?_
  refine WT.inLoop (WT.mono (l' := [(0, .string p0), (5, .int .i64 (IntKind.i64.wrap (s1 + 1)))]) (S' := St w0 Φ [] []) ⟨rfl, rfl, trivial⟩ (fun w1 hw => (hw.sel (js := []) rfl).selO (js := []) rfl) ?_)
  exact ih1 (IntKind.i64.wrap (s1 + 1)) h
 replace h := ite_f h c2
 refine WT.exit rfl <| WT.seq <| WT.region <| lq (q_assign rfl) rfl <| WL.nil ?_
 refine WT.ret Tryz.func139 (resOk.one rfl) (fun w1 hw => ?_)
 subst hb0
 cases h
 exact post_of_St hw
theorem m_i_NameOk_ok {Φ : Hp} {w : World} (hΦ : In Φ w) (N : Nat) (p0 : ByteArray)   {r : Bool} (h : m_i_NameOk N p0 = some r) :
  Calls Tryz.prog 70 [.string p0].toArray w (Post (.bool r) w) := by
 refine enter Tryz.func70 rfl Tryz.ntmps70 rfl (St.start0 hΦ) ?_
 unfold m_i_NameOk at h
 refine WT.seq <| WT.region <| lq (q_assign rfl) rfl <| WL.nil <| WT.seq <| WT.region <| lq (q_move rfl) rfl <| lq (q_lenS Str_9 rfl rfl) rfl <| lq (q_gtr rfl rfl) rfl <| lq (q_move rfl) rfl ?_
 obtain ⟨b1, hb_1, h⟩ := bind_some h
 refine WL.cutN 4 [(10, .bool b1), (0, .string p0), (2, .bool false)] ?_ (fun K => ?_)
 rotate_left
 ·refine WL.split (d := 6) rfl (fun c1 => ?_) (fun c1 => ?_)
  ·replace hb_1 := ite_t hb_1 c1
   refine WL.yes rfl rfl <| lq (q_move rfl) rfl <| WL.yes rfl rfl ?_
   obtain ⟨y1, hy1, hb_1⟩ := bind_some hb_1
   refine lq (q_indexS Str_9 rfl rfl hy1) rfl <| WL.yes rfl rfl ?_
   obtain ⟨x1, hx1, hb_1⟩ := bind_some hb_1
   refine lp (p_call Fun_138 rfl (fun w1 hw => m_i_isSmall_ok hw.fro N (y1.toNat : Int) hx1)) rfl <| WL.q (q_pick1 rfl rfl) rfl rfl rfl ?_
   cases hb_1
   exact WL.keep (by exact ⟨rfl, rfl, rfl, trivial⟩) K
  ·replace hb_1 := ite_f hb_1 c1
   refine WL.no rfl rfl rfl rfl <| WL.no rfl rfl rfl rfl <| WL.no rfl rfl rfl rfl <| WL.q (q_pick0 rfl rfl) rfl rfl rfl ?_
   cases hb_1
   exact WL.keep (by exact ⟨rfl, rfl, rfl, trivial⟩) K
 refine lq (q_move rfl) rfl ?_
 obtain ⟨b2, hb_2, h⟩ := bind_some h
 refine WL.cutN 3 [(14, .bool b2), (2, .bool false)] ?_ (fun K => ?_)
 rotate_left
 ·refine WL.split (d := 11) rfl (fun c2 => ?_) (fun c2 => ?_)
  ·replace hb_2 := ite_t hb_2 c2
   refine WL.yes rfl rfl <| lq (q_move rfl) rfl <| WL.yes rfl rfl ?_
   obtain ⟨x2, hx2, hb_2⟩ := bind_some hb_2
   refine lp (p_call Fun_139 rfl (fun w1 hw => m_i_isWord_ok hw.fro N p0 12 hx2)) rfl <| WL.q (q_pick1 rfl rfl) rfl rfl rfl ?_
   cases hb_2
   exact WL.keep (by exact ⟨rfl, rfl, trivial⟩) K
  ·replace hb_2 := ite_f hb_2 c2
   refine WL.no rfl rfl rfl rfl <| WL.no rfl rfl rfl rfl <| WL.q (q_pick0 rfl rfl) rfl rfl rfl ?_
   cases hb_2
   exact WL.keep (by exact ⟨rfl, rfl, trivial⟩) K
 refine lq (q_assign rfl) rfl <| WL.nil ?_
 refine WT.ret Tryz.func70 (resOk.one rfl) (fun w1 hw => ?_)
 cases h
 exact post_of_St hw
theorem m_i_inRange_ok {Φ : Hp} {w : World} (hΦ : In Φ w) (N : Nat) (p0 : Int) (p1 : Int) (p2 : Int)   {r : Bool} (h : m_i_inRange N p0 p1 p2 = some r) :
  Calls Tryz.prog 71 [.int .i64 p0, .int .i64 p1, .int .i64 p2].toArray w (Post (.bool r) w) := by
 refine enter Tryz.func71 rfl Tryz.ntmps71 rfl (St.start0 hΦ) ?_
 unfold m_i_inRange at h
 refine WT.seq <| WT.region <| lq (q_assign rfl) rfl <| WL.nil <| WT.seq <| WT.region <| lq (q_move rfl) rfl <| lq (q_move rfl) rfl <| lq (q_geq rfl rfl) rfl <| lq (q_move rfl) rfl ?_
 obtain ⟨b1, hb_1, h⟩ := bind_some h
 refine WL.cutN 4 [(14, .bool b1), (6, .bool false)] ?_ (fun K => ?_)
 rotate_left
 ·refine WL.split (d := 10) rfl (fun c1 => ?_) (fun c1 => ?_)
  ·replace hb_1 := ite_t hb_1 c1
   refine WL.yes rfl rfl <| lq (q_move rfl) rfl <| WL.yes rfl rfl <| lq (q_move rfl) rfl <| WL.yes rfl rfl <| lq (q_leq rfl rfl) rfl <| WL.q (q_pick1 rfl rfl) rfl rfl rfl ?_
   cases hb_1
   exact WL.keep (by exact ⟨rfl, rfl, trivial⟩) K
  ·replace hb_1 := ite_f hb_1 c1
   refine WL.no rfl rfl rfl rfl <| WL.no rfl rfl rfl rfl <| WL.no rfl rfl rfl rfl <| WL.q (q_pick0 rfl rfl) rfl rfl rfl ?_
   cases hb_1
   exact WL.keep (by exact ⟨rfl, rfl, trivial⟩) K
 refine lq (q_assign rfl) rfl <| WL.nil ?_
 refine WT.ret Tryz.func71 (resOk.one rfl) (fun w1 hw => ?_)
 cases h
 exact post_of_St hw
theorem m_i_ValOk_ok {Φ : Hp} {w : World} (hΦ : In Φ w) (N : Nat) (p0 : TVal)   {r : Bool} (h : m_i_ValOk N p0 = some r) :
  Calls Tryz.prog 149 [.agg [.int .i64 p0.K, .int .i64 p0.N, .string p0.S].toArray].toArray w (Post (.bool r) w) := by
 refine enter Tryz.func149 rfl Tryz.ntmps149 rfl (St.start0 hΦ) ?_
 unfold m_i_ValOk at h
 refine WT.seq <| WT.region ?_
 refine ln (n_box (C := #[.int .i64 p0.K, .int .i64 p0.N, .string p0.S]) rfl rfl) rfl (fun b_1 => ?_)
 refine lq (q_assign rfl) rfl <| WL.nil <| WT.seq <| WT.seq <| WT.region <| lq (q_fieldAddr Fld_121_0 rfl) rfl <| lq (q_load1 T1_3 rfl (fun w1 hw => hw.rgO (i := 0) rfl 0 1 [.int .i64 p0.K] rfl)) rfl <| WL.nil <| WT.block <| WT.seq <| WT.region <| lq (q_eql rfl rfl) rfl <| lq (q_assign rfl) rfl <| WL.nil ?_
 refine WT.cond rfl (fun c1 => ?_) (fun c1 => ?_)
 ·replace h := ite_t h c1
  refine WT.seq <| WT.region <| lq (q_fieldAddr Fld_121_1 rfl) rfl <| lq (q_load1 T1_3 rfl (fun w1 hw => hw.rgO (i := 0) rfl 1 1 [.int .i64 p0.N] rfl)) rfl ?_
  obtain ⟨x1, hx1, h⟩ := bind_some h
  refine lp (p_call Fun_71 rfl (fun w1 hw => m_i_inRange_ok hw.fro N p0.N (-1000000000) 1000000000 hx1)) rfl <| lq (q_move rfl) rfl ?_
  obtain ⟨b1, hb_1, h⟩ := bind_some h
  refine WL.cutN 4 [(14, .bool b1), (2, .bool false)] ?_ (fun K => ?_)
  rotate_left
  ·refine WL.split (d := 10) rfl (fun c2 => ?_) (fun c2 => ?_)
   ·replace hb_1 := ite_t hb_1 c2
    refine WL.yes rfl rfl <| lq (q_fieldAddr Fld_121_2 rfl) rfl <| WL.yes rfl rfl <| lq (q_load1 T1_9 rfl (fun w1 hw => hw.rgO (i := 0) rfl 2 1 [.string p0.S] rfl)) rfl <| WL.yes rfl rfl <| lq (q_seq rfl rfl) rfl <| WL.q (q_pick1 rfl rfl) rfl rfl rfl ?_
    cases hb_1
    exact WL.keep (by exact ⟨rfl, rfl, trivial⟩) K
   ·replace hb_1 := ite_f hb_1 c2
    refine WL.no rfl rfl rfl rfl <| WL.no rfl rfl rfl rfl <| WL.no rfl rfl rfl rfl <| WL.q (q_pick0 rfl rfl) rfl rfl rfl ?_
    cases hb_1
    exact WL.keep (by exact ⟨rfl, rfl, trivial⟩) K
  refine lq (q_assign rfl) rfl <| WL.nil ?_
  refine WT.ret Tryz.func149 (resOk.one rfl) (fun w1 hw => ?_)
  cases h
  exact post_of_St hw
 replace h := ite_f h c1
 refine WT.seq <| WT.region <| lq (q_eql rfl rfl) rfl <| lq (q_assign rfl) rfl <| WL.nil ?_
 refine WT.cond rfl (fun c3 => ?_) (fun c3 => ?_)
 ·replace h := ite_t h c3
  refine WT.seq <| WT.region <| lq (q_fieldAddr Fld_121_1 rfl) rfl <| lq (q_load1 T1_3 rfl (fun w1 hw => hw.rgO (i := 0) rfl 1 1 [.int .i64 p0.N] rfl)) rfl <| lq (q_eql rfl rfl) rfl <| lq (q_move rfl) rfl ?_
  obtain ⟨b2, hb_2, h⟩ := bind_some h
  refine WL.cutN 4 [(24, .bool b2), (2, .bool false)] ?_ (fun K => ?_)
  rotate_left
  ·refine WL.split (d := 20) rfl (fun c4 => ?_) (fun c4 => ?_)
   ·replace hb_2 := ite_t hb_2 c4
    refine WL.yes rfl rfl <| lq (q_fieldAddr Fld_121_2 rfl) rfl <| WL.yes rfl rfl <| lq (q_load1 T1_9 rfl (fun w1 hw => hw.rgO (i := 0) rfl 2 1 [.string p0.S] rfl)) rfl <| WL.yes rfl rfl ?_
    obtain ⟨x2, hx2, hb_2⟩ := bind_some hb_2
    refine lp (p_call Fun_139 rfl (fun w1 hw => m_i_isWord_ok hw.fro N p0.S 20 hx2)) rfl <| WL.q (q_pick1 rfl rfl) rfl rfl rfl ?_
    cases hb_2
    exact WL.keep (by exact ⟨rfl, rfl, trivial⟩) K
   ·replace hb_2 := ite_f hb_2 c4
    refine WL.no rfl rfl rfl rfl <| WL.no rfl rfl rfl rfl <| WL.no rfl rfl rfl rfl <| WL.q (q_pick0 rfl rfl) rfl rfl rfl ?_
    cases hb_2
    exact WL.keep (by exact ⟨rfl, rfl, trivial⟩) K
  refine lq (q_assign rfl) rfl <| WL.nil ?_
  refine WT.ret Tryz.func149 (resOk.one rfl) (fun w1 hw => ?_)
  cases h
  exact post_of_St hw
 replace h := ite_f h c3
 refine WT.skip <| WT.inBlock <| WT.seq <| WT.region <| lq (q_assign rfl) rfl <| WL.nil ?_
 refine WT.ret Tryz.func149 (resOk.one rfl) (fun w1 hw => ?_)
 cases h
 exact post_of_St hw
theorem m_i_isLarge_ok {Φ : Hp} {w : World} (hΦ : In Φ w) (N : Nat) (p0 : Int)   {r : Bool} (h : m_i_isLarge N p0 = some r) :
  Calls Tryz.prog 244 [.int .u8 p0].toArray w (Post (.bool r) w) := by
 refine enter Tryz.func244 rfl Tryz.ntmps244 rfl (St.start0 hΦ) ?_
 unfold m_i_isLarge at h
 refine WT.seq <| WT.region <| lq (q_assign rfl) rfl <| WL.nil <| WT.seq <| WT.region <| lq (q_move rfl) rfl <| lq (q_geq rfl rfl) rfl <| lq (q_move rfl) rfl ?_
 obtain ⟨b1, hb_1, h⟩ := bind_some h
 refine WL.cutN 3 [(8, .bool b1), (2, .bool false)] ?_ (fun K => ?_)
 rotate_left
 ·refine WL.split (d := 5) rfl (fun c1 => ?_) (fun c1 => ?_)
  ·replace hb_1 := ite_t hb_1 c1
   refine WL.yes rfl rfl <| lq (q_move rfl) rfl <| WL.yes rfl rfl <| lq (q_leq rfl rfl) rfl <| WL.q (q_pick1 rfl rfl) rfl rfl rfl ?_
   cases hb_1
   exact WL.keep (by exact ⟨rfl, rfl, trivial⟩) K
  ·replace hb_1 := ite_f hb_1 c1
   refine WL.no rfl rfl rfl rfl <| WL.no rfl rfl rfl rfl <| WL.q (q_pick0 rfl rfl) rfl rfl rfl ?_
   cases hb_1
   exact WL.keep (by exact ⟨rfl, rfl, trivial⟩) K
 refine lq (q_assign rfl) rfl <| WL.nil ?_
 refine WT.ret Tryz.func244 (resOk.one rfl) (fun w1 hw => ?_)
 cases h
 exact post_of_St hw
theorem m_i_isVar_ok {Φ : Hp} {w : World} (hΦ : In Φ w) (N : Nat) (p0 : ByteArray)   {r : Bool} (h : m_i_isVar N p0 = some r) :
  Calls Tryz.prog 225 [.string p0].toArray w (Post (.bool r) w) := by
 refine enter Tryz.func225 rfl Tryz.ntmps225 rfl (St.start0 hΦ) ?_
 generalize hb0 : (⟨w, [], Φ⟩ : Base) = w0
 unfold m_i_isVar at h
 refine WT.seq <| WT.region <| lq (q_assign rfl) rfl <| WL.nil <| WT.seq <| WT.seq <| WT.region <| lq (q_move rfl) rfl <| lq (q_lenS Str_9 rfl rfl) rfl <| lq (q_lss rfl rfl) rfl <| lq (q_move rfl) rfl ?_
 obtain ⟨b1, hb_1, h⟩ := bind_some h
 refine WL.cutN 4 [(11, .bool b1), (0, .string p0)] ?_ (fun K => ?_)
 rotate_left
 ·refine WL.split (d := 7) rfl (fun c1 => ?_) (fun c1 => ?_)
  ·replace hb_1 := ite_t hb_1 c1
   refine WL.no rfl rfl rfl rfl <| WL.no rfl rfl rfl rfl <| WL.no rfl rfl rfl rfl <| WL.q (q_pick1 rfl rfl) rfl rfl rfl ?_
   cases hb_1
   exact WL.keep (by exact ⟨rfl, rfl, trivial⟩) K
  ·replace hb_1 := ite_f hb_1 c1
   refine WL.yes rfl rfl <| lq (q_move rfl) rfl <| WL.yes rfl rfl <| lq (q_lenS Str_9 rfl rfl) rfl <| WL.yes rfl rfl <| lq (q_gtr rfl rfl) rfl <| WL.q (q_pick0 rfl rfl) rfl rfl rfl ?_
   cases hb_1
   exact WL.keep (by exact ⟨rfl, rfl, trivial⟩) K
 refine lq (q_move rfl) rfl ?_
 obtain ⟨b2, hb_2, h⟩ := bind_some h
 refine WL.cutN 5 [(17, .bool b2), (0, .string p0)] ?_ (fun K => ?_)
 rotate_left
 ·refine WL.split (d := 12) rfl (fun c2 => ?_) (fun c2 => ?_)
  ·replace hb_2 := ite_t hb_2 c2
   refine WL.no rfl rfl rfl rfl <| WL.no rfl rfl rfl rfl <| WL.no rfl rfl rfl rfl <| WL.no rfl rfl rfl rfl <| WL.q (q_pick1 rfl rfl) rfl rfl rfl ?_
   cases hb_2
   exact WL.keep (by exact ⟨rfl, rfl, trivial⟩) K
  ·replace hb_2 := ite_f hb_2 c2
   refine WL.yes rfl rfl <| lq (q_move rfl) rfl <| WL.yes rfl rfl ?_
   obtain ⟨y1, hy1, hb_2⟩ := bind_some hb_2
   refine lq (q_indexS Str_9 rfl rfl hy1) rfl <| WL.yes rfl rfl ?_
   obtain ⟨x1, hx1, hb_2⟩ := bind_some hb_2
   refine lp (p_call Fun_244 rfl (fun w1 hw => m_i_isLarge_ok hw.fro N (y1.toNat : Int) hx1)) rfl <| WL.yes rfl rfl <| lq (q_not rfl) rfl <| WL.q (q_pick0 rfl rfl) rfl rfl rfl ?_
   cases hb_2
   exact WL.keep (by exact ⟨rfl, rfl, trivial⟩) K
 refine WL.nil ?_
 refine WT.cond rfl (fun c3 => ?_) (fun c3 => ?_)
 ·replace h := ite_t h c3
  refine WT.seq <| WT.region <| lq (q_assign rfl) rfl <| WL.nil ?_
  refine WT.ret Tryz.func225 (resOk.one rfl) (fun w1 hw => ?_)
  subst hb0
  cases h
  exact post_of_St hw
 replace h := ite_f h c3
 refine WT.skip <| WT.seq <| WT.seq <| WT.region <| lq (q_assign rfl) rfl <| WL.nil <| WT.block <| WT.loop <| WT.mono (l' := [(0, .string p0), (3, .int .i64 0)]) (S' := St w0 Φ [] []) ⟨rfl, rfl, trivial⟩ (fun w1 hw => (hw.sel (js := []) rfl).selO (js := []) rfl) ?_
 refine loop_ind (σ := Int) (fun s => [(0, .string p0), (3, .int .i64 s)]) (fun s => St w0 Φ [] []) (fun m s => m_i_isVar_l1 N p0 m s = some r) (fun s hm => none_ne (show (none : Option (Bool)) = some r from hm)) (fun n1 ih1 s hm => ?_) N (0) h
 revert hm; revert s; intro s1 hm
 have h : m_i_isVar_l1 N p0 (n1 + 1) s1 = some r := hm
 show WT _ _ [(0, .string p0), (3, .int .i64 s1)] (St w0 Φ [] [])
 unfold m_i_isVar_l1 at h
 refine WT.seq <| WT.seq <| WT.region <| lq (q_move rfl) rfl <| lq (q_move rfl) rfl <| lq (q_lenS Str_9 rfl rfl) rfl <| lq (q_lss rfl rfl) rfl <| WL.nil ?_
 refine WT.cond rfl (fun c4 => ?_) (fun c4 => ?_)
 ·replace h := ite_t h c4
  refine WT.skip <| WT.seq <| WT.block <| WT.seq <| WT.region <| lq (q_move rfl) rfl <| lq (q_move rfl) rfl ?_
  obtain ⟨y2, hy2, h⟩ := bind_some h
  refine lq (q_indexS Str_9 rfl rfl hy2) rfl ?_
  obtain ⟨x2, hx2, h⟩ := bind_some h
  refine lp (p_call Fun_196 rfl (fun w1 hw => m_i_isWordByte_ok hw.fro N (y2.toNat : Int) hx2)) rfl <| lq (q_not rfl) rfl <| lq (q_move rfl) rfl ?_
  obtain ⟨b3, hb_3, h⟩ := bind_some h
  refine WL.cutN 6 [(35, .bool b3), (0, .string p0), (3, .int .i64 s1)] ?_ (fun K => ?_)
  rotate_left
  ·refine WL.split (d := 29) rfl (fun c5 => ?_) (fun c5 => ?_)
   ·replace hb_3 := ite_t hb_3 c5
    refine WL.yes rfl rfl <| lq (q_move rfl) rfl <| WL.yes rfl rfl <| lq (q_move rfl) rfl <| WL.yes rfl rfl ?_
    obtain ⟨y3, hy3, hb_3⟩ := bind_some hb_3
    refine lq (q_indexS Str_9 rfl rfl hy3) rfl <| WL.yes rfl rfl ?_
    obtain ⟨x3, hx3, hb_3⟩ := bind_some hb_3
    refine lp (p_call Fun_244 rfl (fun w1 hw => m_i_isLarge_ok hw.fro N (y3.toNat : Int) hx3)) rfl <| WL.yes rfl rfl <| lq (q_not rfl) rfl <| WL.q (q_pick1 rfl rfl) rfl rfl rfl ?_
    cases hb_3
    exact WL.keep (by exact ⟨rfl, rfl, rfl, trivial⟩) K
   ·replace hb_3 := ite_f hb_3 c5
    refine WL.no rfl rfl rfl rfl <| WL.no rfl rfl rfl rfl <| WL.no rfl rfl rfl rfl <| WL.no rfl rfl rfl rfl <| WL.no rfl rfl rfl rfl <| WL.q (q_pick0 rfl rfl) rfl rfl rfl ?_
    cases hb_3
    exact WL.keep (by exact ⟨rfl, rfl, rfl, trivial⟩) K
  refine WL.nil ?_
  refine WT.cond rfl (fun c6 => ?_) (fun c6 => ?_)
  ·replace h := ite_t h c6
   refine WT.seq <| WT.region <| lq (q_assign rfl) rfl <| WL.nil ?_
   refine WT.ret Tryz.func225 (resOk.one rfl) (fun w1 hw => ?_)
   subst hb0
   cases h
   exact post_of_St hw
  replace h := ite_f h c6
  refine WT.skip <| WT.inBlock <| WT.region <| lq (q_move rfl) rfl <| lq (q_add rfl rfl) rfl <| lq (q_assign rfl) rfl <| WL.nil ?_
  refine WT.inLoop (WT.mono (l' := [(0, .string p0), (3, .int .i64 (IntKind.i64.wrap (s1 + 1)))]) (S' := St w0 Φ [] []) ⟨rfl, rfl, trivial⟩ (fun w1 hw => (hw.sel (js := []) rfl).selO (js := []) rfl) ?_)
  exact ih1 (IntKind.i64.wrap (s1 + 1)) h
 replace h := ite_f h c4
 refine WT.exit rfl <| WT.seq <| WT.region <| lq (q_assign rfl) rfl <| WL.nil ?_
 refine WT.ret Tryz.func225 (resOk.one rfl) (fun w1 hw => ?_)
 subst hb0
 cases h
 exact post_of_St hw
theorem m_i_ArgOk_ok {Φ : Hp} {w : World} (hΦ : In Φ w) (N : Nat) (p0 : TArg)   {r : Bool} (h : m_i_ArgOk N p0 = some r) :
  Calls Tryz.prog 197 [.agg [.int .i64 p0.K, .string p0.S, .int .i64 p0.V.K, .int .i64 p0.V.N, .string p0.V.S].toArray].toArray w (Post (.bool r) w) := by
 refine enter Tryz.func197 rfl Tryz.ntmps197 rfl (St.start0 hΦ) ?_
 unfold m_i_ArgOk at h
 refine WT.seq <| WT.region ?_
 refine ln (n_box (C := #[.int .i64 p0.K, .string p0.S, .int .i64 p0.V.K, .int .i64 p0.V.N, .string p0.V.S]) rfl rfl) rfl (fun b_1 => ?_)
 refine lq (q_assign rfl) rfl <| WL.nil <| WT.seq <| WT.seq <| WT.region <| lq (q_fieldAddr Fld_126_0 rfl) rfl <| lq (q_load1 T1_3 rfl (fun w1 hw => hw.rgO (i := 0) rfl 0 1 [.int .i64 p0.K] rfl)) rfl <| WL.nil <| WT.block <| WT.seq <| WT.region <| lq (q_eql rfl rfl) rfl <| lq (q_assign rfl) rfl <| WL.nil ?_
 refine WT.cond rfl (fun c1 => ?_) (fun c1 => ?_)
 ·replace h := ite_t h c1
  refine WT.seq <| WT.region <| lq (q_fieldAddr Fld_126_1 rfl) rfl <| lq (q_load1 T1_9 rfl (fun w1 hw => hw.rgO (i := 0) rfl 1 1 [.string p0.S] rfl)) rfl ?_
  obtain ⟨x1, hx1, h⟩ := bind_some h
  refine lp (p_call Fun_225 rfl (fun w1 hw => m_i_isVar_ok hw.fro N p0.S hx1)) rfl <| lq (q_move rfl) rfl ?_
  obtain ⟨b1, hb_1, h⟩ := bind_some h
  refine WL.cutN 5 [(15, .bool b1), (2, .bool false)] ?_ (fun K => ?_)
  rotate_left
  ·refine WL.split (d := 10) rfl (fun c2 => ?_) (fun c2 => ?_)
   ·replace hb_1 := ite_t hb_1 c2
    refine WL.yes rfl rfl <| lq (q_fieldAddr Fld_126_2 rfl) rfl <| WL.yes rfl rfl <| lq (q_loadN Tn_121 rfl (fun w1 hw => hw.rgO (i := 0) rfl 2 3 [.int .i64 p0.V.K, .int .i64 p0.V.N, .string p0.V.S] rfl) rfl) rfl <| WL.yes rfl rfl <| lq (q_build (vs := []) (C := #[.int .i64 0, .int .i64 0, .string (⟨#[]⟩ : ByteArray)]) Pl_121 Zr_121 rfl (fill_nil)) rfl <| WL.yes rfl rfl <| lq (q_eqA EqT_121 rfl rfl rfl (r := eqT_TVal p0.V (⟨0, 0, (⟨#[]⟩ : ByteArray)⟩ : TVal)) rfl) rfl ?_
    refine WL.q (q_pick1 rfl rfl) rfl rfl rfl ?_
    cases hb_1
    exact WL.keep (by exact ⟨rfl, rfl, trivial⟩) K
   ·replace hb_1 := ite_f hb_1 c2
    refine WL.no rfl rfl rfl rfl <| WL.no rfl rfl rfl rfl <| WL.no rfl rfl rfl rfl <| WL.no rfl rfl rfl rfl <| WL.q (q_pick0 rfl rfl) rfl rfl rfl ?_
    cases hb_1
    exact WL.keep (by exact ⟨rfl, rfl, trivial⟩) K
  refine lq (q_assign rfl) rfl <| WL.nil ?_
  refine WT.ret Tryz.func197 (resOk.one rfl) (fun w1 hw => ?_)
  cases h
  exact post_of_St hw
 replace h := ite_f h c1
 refine WT.seq <| WT.region <| lq (q_eql rfl rfl) rfl <| lq (q_assign rfl) rfl <| WL.nil ?_
 refine WT.cond rfl (fun c3 => ?_) (fun c3 => ?_)
 ·replace h := ite_t h c3
  refine WT.seq <| WT.region <| lq (q_fieldAddr Fld_126_1 rfl) rfl <| lq (q_load1 T1_9 rfl (fun w1 hw => hw.rgO (i := 0) rfl 1 1 [.string p0.S] rfl)) rfl <| lq (q_seq rfl rfl) rfl <| lq (q_move rfl) rfl ?_
  obtain ⟨b2, hb_2, h⟩ := bind_some h
  refine WL.cutN 4 [(25, .bool b2), (2, .bool false)] ?_ (fun K => ?_)
  rotate_left
  ·refine WL.split (d := 21) rfl (fun c4 => ?_) (fun c4 => ?_)
   ·replace hb_2 := ite_t hb_2 c4
    refine WL.yes rfl rfl <| lq (q_fieldAddr Fld_126_2 rfl) rfl <| WL.yes rfl rfl <| lq (q_loadN Tn_121 rfl (fun w1 hw => hw.rgO (i := 0) rfl 2 3 [.int .i64 p0.V.K, .int .i64 p0.V.N, .string p0.V.S] rfl) rfl) rfl <| WL.yes rfl rfl ?_
    obtain ⟨x2, hx2, hb_2⟩ := bind_some hb_2
    refine lp (p_call Fun_149 rfl (fun w1 hw => m_i_ValOk_ok hw.fro N p0.V hx2)) rfl <| WL.q (q_pick1 rfl rfl) rfl rfl rfl ?_
    cases hb_2
    exact WL.keep (by exact ⟨rfl, rfl, trivial⟩) K
   ·replace hb_2 := ite_f hb_2 c4
    refine WL.no rfl rfl rfl rfl <| WL.no rfl rfl rfl rfl <| WL.no rfl rfl rfl rfl <| WL.q (q_pick0 rfl rfl) rfl rfl rfl ?_
    cases hb_2
    exact WL.keep (by exact ⟨rfl, rfl, trivial⟩) K
  refine lq (q_assign rfl) rfl <| WL.nil ?_
  refine WT.ret Tryz.func197 (resOk.one rfl) (fun w1 hw => ?_)
  cases h
  exact post_of_St hw
 replace h := ite_f h c3
 refine WT.seq <| WT.region <| lq (q_eql rfl rfl) rfl <| lq (q_assign rfl) rfl <| WL.nil ?_
 refine WT.cond rfl (fun c5 => ?_) (fun c5 => ?_)
 ·replace h := ite_t h c5
  refine WT.seq <| WT.region <| lq (q_fieldAddr Fld_126_1 rfl) rfl <| lq (q_load1 T1_9 rfl (fun w1 hw => hw.rgO (i := 0) rfl 1 1 [.string p0.S] rfl)) rfl <| lq (q_seq rfl rfl) rfl <| lq (q_move rfl) rfl ?_
  obtain ⟨b3, hb_3, h⟩ := bind_some h
  refine WL.cutN 5 [(36, .bool b3), (2, .bool false)] ?_ (fun K => ?_)
  rotate_left
  ·refine WL.split (d := 31) rfl (fun c6 => ?_) (fun c6 => ?_)
   ·replace hb_3 := ite_t hb_3 c6
    refine WL.yes rfl rfl <| lq (q_fieldAddr Fld_126_2 rfl) rfl <| WL.yes rfl rfl <| lq (q_loadN Tn_121 rfl (fun w1 hw => hw.rgO (i := 0) rfl 2 3 [.int .i64 p0.V.K, .int .i64 p0.V.N, .string p0.V.S] rfl) rfl) rfl <| WL.yes rfl rfl <| lq (q_build (vs := []) (C := #[.int .i64 0, .int .i64 0, .string (⟨#[]⟩ : ByteArray)]) Pl_121 Zr_121 rfl (fill_nil)) rfl <| WL.yes rfl rfl <| lq (q_eqA EqT_121 rfl rfl rfl (r := eqT_TVal p0.V (⟨0, 0, (⟨#[]⟩ : ByteArray)⟩ : TVal)) rfl) rfl ?_
    refine WL.q (q_pick1 rfl rfl) rfl rfl rfl ?_
    cases hb_3
    exact WL.keep (by exact ⟨rfl, rfl, trivial⟩) K
   ·replace hb_3 := ite_f hb_3 c6
    refine WL.no rfl rfl rfl rfl <| WL.no rfl rfl rfl rfl <| WL.no rfl rfl rfl rfl <| WL.no rfl rfl rfl rfl <| WL.q (q_pick0 rfl rfl) rfl rfl rfl ?_
    cases hb_3
    exact WL.keep (by exact ⟨rfl, rfl, trivial⟩) K
  refine lq (q_assign rfl) rfl <| WL.nil ?_
  refine WT.ret Tryz.func197 (resOk.one rfl) (fun w1 hw => ?_)
  cases h
  exact post_of_St hw
 replace h := ite_f h c5
 refine WT.skip <| WT.inBlock <| WT.seq <| WT.region <| lq (q_assign rfl) rfl <| WL.nil ?_
 refine WT.ret Tryz.func197 (resOk.one rfl) (fun w1 hw => ?_)
 cases h
 exact post_of_St hw
theorem m_i_PatOk_ok {Φ : Hp} {w : World} (hΦ : In Φ w) (N : Nat) (p0 : TPat) {pv0_0 : Value} {pG0_0 : List Nat} (ph0_0 : RSl RTArg 5 Φ pG0_0 pv0_0 p0.Args) {r : Bool} (h : m_i_PatOk N p0 = some r) :
  Calls Tryz.prog 140 [.agg [.string p0.Kind, pv0_0, .bool p0.Not].toArray].toArray w (Post (.bool r) w) := by
 refine enter Tryz.func140 rfl Tryz.ntmps140 rfl (St.start0 hΦ) ?_
 generalize hb0 : (⟨w, [], Φ⟩ : Base) = w0
 unfold m_i_PatOk at h
 refine WT.seq <| WT.region ?_
 refine ln (n_box (C := #[.string p0.Kind, pv0_0, .bool p0.Not]) rfl rfl) rfl (fun b_1 => ?_)
 refine lq (q_assign rfl) rfl <| WL.nil <| WT.seq <| WT.seq <| WT.region <| lq (q_fieldAddr Fld_114_0 rfl) rfl <| lq (q_load1 T1_9 rfl (fun w1 hw => hw.rgO (i := 0) rfl 0 1 [.string p0.Kind] rfl)) rfl ?_
 obtain ⟨x1, hx1, h⟩ := bind_some h
 refine lp (p_call Fun_70 rfl (fun w1 hw => m_i_NameOk_ok hw.fro N p0.Kind hx1)) rfl <| lq (q_not rfl) rfl <| lq (q_move rfl) rfl ?_
 obtain ⟨b1, hb_1, h⟩ := bind_some h
 refine WL.cutN 5 [(14, .bool b1), (1, .pointer (some ⟨b_1, 0, none⟩))] ?_ (fun K => ?_)
 rotate_left
 ·refine WL.split (d := 9) rfl (fun c1 => ?_) (fun c1 => ?_)
  ·replace hb_1 := ite_t hb_1 c1
   refine WL.no rfl rfl rfl rfl <| WL.no rfl rfl rfl rfl <| WL.no rfl rfl rfl rfl <| WL.no rfl rfl rfl rfl <| WL.q (q_pick1 rfl rfl) rfl rfl rfl ?_
   cases hb_1
   exact WL.keep (by exact ⟨rfl, rfl, trivial⟩) K
  ·replace hb_1 := ite_f hb_1 c1
   refine WL.yes rfl rfl <| lq (q_fieldAddr Fld_114_1 rfl) rfl <| WL.yes rfl rfl <| lq (q_load1 T1_112 rfl (fun w1 hw => hw.rgO (i := 0) rfl 1 1 [pv0_0] rfl)) rfl <| WL.yes rfl rfl <| lq (q_lenR Sl_112 rfl rfl ph0_0) rfl <| WL.yes rfl rfl <| lq (q_gtr rfl rfl) rfl <| WL.q (q_pick0 rfl rfl) rfl rfl rfl ?_
   cases hb_1
   exact WL.keep (by exact ⟨rfl, rfl, trivial⟩) K
 refine WL.nil ?_
 refine WT.cond rfl (fun c2 => ?_) (fun c2 => ?_)
 ·replace h := ite_t h c2
  refine WT.seq <| WT.region <| lq (q_assign rfl) rfl <| WL.nil ?_
  refine WT.ret Tryz.func140 (resOk.one rfl) (fun w1 hw => ?_)
  subst hb0
  cases h
  exact post_of_St hw
 replace h := ite_f h c2
 refine WT.skip <| WT.seq <| WT.seq <| WT.region <| lq (q_fieldAddr Fld_114_1 rfl) rfl <| lq (q_load1 T1_112 rfl (fun w1 hw => hw.rgO (i := 0) rfl 1 1 [pv0_0] rfl)) rfl <| lq (q_lenR Sl_112 rfl rfl ph0_0) rfl <| lq (q_move rfl) rfl <| WL.nil <| WT.block <| WT.loop <| WT.mono (l' := [(16, pv0_0), (17, .int .i64 (p0.Args.length : Int)), (18, .int .i64 0)]) (S' := St w0 Φ [] []) ⟨rfl, rfl, rfl, trivial⟩ (fun w1 hw => (hw.sel (js := []) rfl).selO (js := []) rfl) ?_
 refine loop_ind (σ := Int) (fun s => [(16, pv0_0), (17, .int .i64 (p0.Args.length : Int)), (18, .int .i64 s)]) (fun s => St w0 Φ [] []) (fun m s => m_i_PatOk_l1 N p0 m s = some r) (fun s hm => none_ne (show (none : Option (Bool)) = some r from hm)) (fun n1 ih1 s hm => ?_) N (0) h
 revert hm; revert s; intro s1 hm
 have h : m_i_PatOk_l1 N p0 (n1 + 1) s1 = some r := hm
 show WT _ _ [(16, pv0_0), (17, .int .i64 (p0.Args.length : Int)), (18, .int .i64 s1)] (St w0 Φ [] [])
 unfold m_i_PatOk_l1 at h
 refine WT.seq <| WT.region <| lq (q_lss rfl rfl) rfl <| WL.nil <| WT.seq ?_
 refine WT.cond rfl (fun c3 => ?_) (fun c3 => ?_)
 ·replace h := ite_t h c3
  refine WT.skip <| WT.seq <| WT.block <| WT.seq <| WT.region ?_
  obtain ⟨x2, hx2, h⟩ := bind_some h
  obtain ⟨cs1, F1, -, g1, hb1, hs1, r1⟩ := ph0_0.el (idx_some hx2).2.2
  obtain ⟨rfl, -⟩ := r1
  refine lq (q_indexAddr Sl_112 rfl rfl ph0_0 hx2) rfl <| lq (q_loadN Tn_126 rfl (fun w1 hw => (g1.of_eq 0 5 rfl rfl : rg _ _ _ [.int .i64 x2.K, .string x2.S, .int .i64 x2.V.K, .int .i64 x2.V.N, .string x2.V.S]).rangeAt hw.fro) rfl) rfl ?_
  refine ln (n_alloc (C := #[.int .i64 0, .string (⟨#[]⟩ : ByteArray), .int .i64 0, .int .i64 0, .string (⟨#[]⟩ : ByteArray)]) Zr_126 rfl) rfl (fun b_2 => ?_)
  refine ls (s_store (i := 0) (vs := [.int .i64 x2.K, .string x2.S, .int .i64 x2.V.K, .int .i64 x2.V.N, .string x2.V.S]) (C' := [.int .i64 x2.K, .string x2.S, .int .i64 x2.V.K, .int .i64 x2.V.N, .string x2.V.S]) (O' := [(b_2, .cells #[.int .i64 x2.K, .string x2.S, .int .i64 x2.V.K, .int .i64 x2.V.N, .string x2.V.S] 126 (0, 0))]) Sz_126 rfl rfl rfl rfl rfl rfl ⟨rfl, rfl, rfl, rfl, rfl, trivial⟩ rfl rfl) rfl ?_
  refine WL.nil <| WT.seq <| WT.region <| lq (q_loadN Tn_126 rfl (fun w1 hw => hw.rgO (i := 0) rfl 0 5 [.int .i64 x2.K, .string x2.S, .int .i64 x2.V.K, .int .i64 x2.V.N, .string x2.V.S] rfl) rfl) rfl ?_
  obtain ⟨x3, hx3, h⟩ := bind_some h
  refine lp (p_call Fun_197 rfl (fun w1 hw => m_i_ArgOk_ok hw.fro N x2 hx3)) rfl <| lq (q_not rfl) rfl <| WL.nil ?_
  refine WT.cond rfl (fun c4 => ?_) (fun c4 => ?_)
  ·replace h := ite_t h c4
   refine WT.seq <| WT.region <| lq (q_assign rfl) rfl <| WL.nil ?_
   refine WT.ret Tryz.func140 (resOk.one rfl) (fun w1 hw => ?_)
   subst hb0
   cases h
   exact post_of_St hw
  replace h := ite_f h c4
  refine WT.skip <| WT.inBlock <| WT.region <| lq (q_add rfl rfl) rfl <| lq (q_move rfl) rfl <| WL.nil ?_
  refine WT.inLoop (WT.mono (l' := [(16, pv0_0), (17, .int .i64 (p0.Args.length : Int)), (18, .int .i64 (IntKind.i64.wrap (s1 + 1)))]) (S' := St w0 Φ [] []) ⟨rfl, rfl, rfl, trivial⟩ (fun w1 hw => (hw.sel (js := []) rfl).selO (js := []) rfl) ?_)
  exact ih1 (IntKind.i64.wrap (s1 + 1)) h
 replace h := ite_f h c3
 refine WT.exit rfl <| WT.seq <| WT.region <| lq (q_assign rfl) rfl <| WL.nil ?_
 refine WT.ret Tryz.func140 (resOk.one rfl) (fun w1 hw => ?_)
 subst hb0
 cases h
 exact post_of_St hw
theorem m_i_patsOk_ok {Φ : Hp} {w : World} (hΦ : In Φ w) (N : Nat) (p0 : TRule) {pv0_0 : Value} {pG0_0 : List Nat} {pv0_1 : Value} {pG0_1 : List Nat} {pv0_2 : Value} {pG0_2 : List Nat} (ph0_0 : RSl RTPat 3 Φ pG0_0 pv0_0 p0.Pats) (ph0_1 : RSl RTCond 11 Φ pG0_1 pv0_1 p0.Conds) (ph0_2 : RSl RTAct 5 Φ pG0_2 pv0_2 p0.Acts) {r : Bool} (h : m_i_patsOk N p0 = some r) :
  Calls Tryz.prog 72 [.agg [.string p0.Name, .int .i64 p0.Sal, pv0_0, pv0_1, pv0_2].toArray].toArray w (Post (.bool r) w) := by
 refine enter Tryz.func72 rfl Tryz.ntmps72 rfl (St.start0 hΦ) ?_
 generalize hb0 : (⟨w, [], Φ⟩ : Base) = w0
 unfold m_i_patsOk at h
 refine WT.seq <| WT.region ?_
 refine ln (n_box (C := #[.string p0.Name, .int .i64 p0.Sal, pv0_0, pv0_1, pv0_2]) rfl rfl) rfl (fun b_1 => ?_)
 refine lq (q_assign rfl) rfl <| WL.nil <| WT.seq <| WT.seq <| WT.region <| lq (q_fieldAddr Fld_49_2 rfl) rfl <| lq (q_load1 T1_45 rfl (fun w1 hw => hw.rgO (i := 0) rfl 2 1 [pv0_0] rfl)) rfl <| lq (q_lenR Sl_45 rfl rfl ph0_0) rfl ?_
 obtain ⟨x1, hx1, h⟩ := bind_some h
 refine lp (p_call Fun_71 rfl (fun w1 hw => m_i_inRange_ok hw.fro N (p0.Pats.length : Int) 1 6 hx1)) rfl <| lq (q_not rfl) rfl <| lq (q_move rfl) rfl ?_
 obtain ⟨b1, hb_1, h⟩ := bind_some h
 refine WL.cutN 5 [(15, .bool b1), (1, .pointer (some ⟨b_1, 0, none⟩))] ?_ (fun K => ?_)
 rotate_left
 ·refine WL.split (d := 10) rfl (fun c1 => ?_) (fun c1 => ?_)
  ·replace hb_1 := ite_t hb_1 c1
   refine WL.no rfl rfl rfl rfl <| WL.no rfl rfl rfl rfl <| WL.no rfl rfl rfl rfl <| WL.no rfl rfl rfl rfl <| WL.q (q_pick1 rfl rfl) rfl rfl rfl ?_
   cases hb_1
   exact WL.keep (by exact ⟨rfl, rfl, trivial⟩) K
  ·replace hb_1 := ite_f hb_1 c1
   refine WL.yes rfl rfl <| lq (q_loadN Tn_49 rfl (fun w1 hw => hw.rgO (i := 0) rfl 0 5 [.string p0.Name, .int .i64 p0.Sal, pv0_0, pv0_1, pv0_2] rfl) rfl) rfl <| WL.yes rfl rfl ?_
   obtain ⟨x2, hx2, hb_1⟩ := bind_some hb_1
   refine lp (p_call Fun_24 rfl (fun w1 hw => m_i_PosCount_ok hw.fro N p0 ph0_0 ph0_1 ph0_2 hx2)) rfl <| WL.yes rfl rfl ?_
   obtain ⟨x3, hx3, hb_1⟩ := bind_some hb_1
   refine lp (p_call Fun_71 rfl (fun w1 hw => m_i_inRange_ok hw.fro N x2 1 3 hx3)) rfl <| WL.yes rfl rfl <| lq (q_not rfl) rfl <| WL.q (q_pick0 rfl rfl) rfl rfl rfl ?_
   cases hb_1
   exact WL.keep (by exact ⟨rfl, rfl, trivial⟩) K
 refine WL.nil ?_
 refine WT.cond rfl (fun c2 => ?_) (fun c2 => ?_)
 ·replace h := ite_t h c2
  refine WT.seq <| WT.region <| lq (q_assign rfl) rfl <| WL.nil ?_
  refine WT.ret Tryz.func72 (resOk.one rfl) (fun w1 hw => ?_)
  subst hb0
  cases h
  exact post_of_St hw
 replace h := ite_f h c2
 refine WT.skip <| WT.seq <| WT.seq <| WT.region <| lq (q_fieldAddr Fld_49_2 rfl) rfl <| lq (q_load1 T1_45 rfl (fun w1 hw => hw.rgO (i := 0) rfl 2 1 [pv0_0] rfl)) rfl <| lq (q_lenR Sl_45 rfl rfl ph0_0) rfl <| lq (q_move rfl) rfl <| WL.nil <| WT.block <| WT.loop <| WT.mono (l' := [(1, .pointer (some ⟨b_1, 0, none⟩)), (17, pv0_0), (18, .int .i64 (p0.Pats.length : Int)), (19, .int .i64 0)]) (S' := St w0 Φ [(b_1, .cells #[.string p0.Name, .int .i64 p0.Sal, pv0_0, pv0_1, pv0_2] 49 (0, 0))] []) ⟨rfl, rfl, rfl, rfl, trivial⟩ (fun w1 hw => (hw.sel (js := []) rfl).selO (js := [0]) rfl) ?_
 refine loop_ind (σ := Int) (fun s => [(1, .pointer (some ⟨b_1, 0, none⟩)), (17, pv0_0), (18, .int .i64 (p0.Pats.length : Int)), (19, .int .i64 s)]) (fun s => St w0 Φ [(b_1, .cells #[.string p0.Name, .int .i64 p0.Sal, pv0_0, pv0_1, pv0_2] 49 (0, 0))] []) (fun m s => m_i_patsOk_l1 N p0 m s = some r) (fun s hm => none_ne (show (none : Option (Bool)) = some r from hm)) (fun n1 ih1 s hm => ?_) N (0) h
 revert hm; revert s; intro s1 hm
 have h : m_i_patsOk_l1 N p0 (n1 + 1) s1 = some r := hm
 show WT _ _ [(1, .pointer (some ⟨b_1, 0, none⟩)), (17, pv0_0), (18, .int .i64 (p0.Pats.length : Int)), (19, .int .i64 s1)] (St w0 Φ [(b_1, .cells #[.string p0.Name, .int .i64 p0.Sal, pv0_0, pv0_1, pv0_2] 49 (0, 0))] [])
 unfold m_i_patsOk_l1 at h
 refine WT.seq <| WT.region <| lq (q_lss rfl rfl) rfl <| WL.nil <| WT.seq ?_
 refine WT.cond rfl (fun c3 => ?_) (fun c3 => ?_)
 ·replace h := ite_t h c3
  refine WT.skip <| WT.seq <| WT.block <| WT.seq <| WT.region <| lq (q_move rfl) rfl ?_
  obtain ⟨x4, hx4, h⟩ := bind_some h
  obtain ⟨cs1, F1, -, g1, hb1, hs1, r1⟩ := ph0_0.el (idx_some hx4).2.2
  obtain ⟨v1, G1, rfl, hq1, h1⟩ := r1
  obtain rfl := hq1.symm
  refine lq (q_indexAddr Sl_45 rfl rfl ph0_0 hx4) rfl <| lq (q_loadN Tn_114 rfl (fun w1 hw => (g1.of_eq 0 3 rfl rfl : rg _ _ _ [.string x4.Kind, v1, .bool x4.Not]).rangeAt hw.fro) rfl) rfl ?_
  refine ln (n_alloc (C := #[.string (⟨#[]⟩ : ByteArray), .slice none 0 0, .bool false]) Zr_114 rfl) rfl (fun b_2 => ?_)
  refine lq (q_assign rfl) rfl <| ls (s_store (i := 0) (vs := [.string x4.Kind, v1, .bool x4.Not]) (C' := [.string x4.Kind, v1, .bool x4.Not]) (O' := [(b_2, .cells #[.string x4.Kind, v1, .bool x4.Not] 114 (0, 0)), (b_1, .cells #[.string p0.Name, .int .i64 p0.Sal, pv0_0, pv0_1, pv0_2] 49 (0, 0))]) Sz_114 rfl rfl rfl rfl rfl rfl ⟨rfl, h1.one, rfl, trivial⟩ rfl rfl) rfl <| WL.nil <| WT.seq <| WT.draw mixed (by kernel_rfl) (fun _ h => h.drew) ?_
  refine qq (q_loadN Tn_114 rfl (fun w1 hw => hw.rgO (i := 0) rfl 0 3 [.string x4.Kind, v1, .bool x4.Not] rfl) rfl) rfl ?_
  obtain ⟨x5, hx5, h⟩ := bind_some h
  refine qp (p_call Fun_140 rfl (fun w1 hw => m_i_PatOk_ok hw.fro N x4 h1 hx5)) rfl <| qq (q_not rfl) rfl <| qq (q_move rfl) rfl ?_
  obtain ⟨b2, hb_2, h⟩ := bind_some h
  refine WQ.cutN 8 [(35, .bool b2), (1, .pointer (some ⟨b_1, 0, none⟩)), (17, pv0_0), (18, .int .i64 (p0.Pats.length : Int)), (19, .int .i64 s1)] ?_ (fun K => ?_)
  rotate_left
  ·refine WQ.split (d := 27) rfl (fun c4 => ?_) (fun c4 => ?_)
   ·replace hb_2 := ite_t hb_2 c4
    refine WQ.no rfl rfl rfl rfl <| WQ.no rfl rfl rfl rfl <| WQ.no rfl rfl rfl rfl <| WQ.no rfl rfl rfl rfl <| WQ.no rfl rfl rfl rfl <| WQ.no rfl rfl rfl rfl <| WQ.no rfl rfl rfl rfl <| WQ.q (q_pick1 rfl rfl) rfl rfl rfl ?_
    cases hb_2
    exact WQ.keep (by exact ⟨rfl, rfl, rfl, rfl, rfl, trivial⟩) K
   ·replace hb_2 := ite_f hb_2 c4
    refine WQ.yes rfl rfl <| qq (q_fieldAddr Fld_114_2 rfl) rfl <| WQ.yes rfl rfl <| qq (q_load1 T1_4 rfl (fun w1 hw => hw.rgO (i := 0) rfl 2 1 [.bool x4.Not] rfl)) rfl <| WQ.yes rfl rfl <| qq (q_move rfl) rfl <| WQ.yes rfl rfl <| qq (q_loadN Tn_49 rfl (fun w1 hw => hw.rgO (i := 1) rfl 0 5 [.string p0.Name, .int .i64 p0.Sal, pv0_0, pv0_1, pv0_2] rfl) rfl) rfl <| WQ.yes rfl rfl ?_
    obtain ⟨x6, hx6, hb_2⟩ := bind_some hb_2
    refine qp (p_call Fun_24 rfl (fun w1 hw => m_i_PosCount_ok hw.fro N p0 ph0_0 ph0_1 ph0_2 hx6)) rfl <| WQ.yes rfl rfl <| qq (q_geq rfl rfl) rfl <| WQ.yes rfl rfl <| qq (q_bne Bo_4 rfl rfl) rfl <| WQ.q (q_pick0 rfl rfl) rfl rfl rfl ?_
    cases hb_2
    exact WQ.keep (by exact ⟨rfl, rfl, rfl, rfl, rfl, trivial⟩) K
  refine WQ.nil ?_
  refine WT.cond rfl (fun c5 => ?_) (fun c5 => ?_)
  ·replace h := ite_t h c5
   refine WT.seq <| WT.region <| lq (q_assign rfl) rfl <| WL.nil ?_
   refine WT.ret Tryz.func72 (resOk.one rfl) (fun w1 hw => ?_)
   subst hb0
   cases h
   exact post_of_St hw
  replace h := ite_f h c5
  refine WT.skip <| WT.inBlock <| WT.region <| lq (q_add rfl rfl) rfl <| lq (q_move rfl) rfl <| WL.nil ?_
  refine WT.inLoop (WT.mono (l' := [(1, .pointer (some ⟨b_1, 0, none⟩)), (17, pv0_0), (18, .int .i64 (p0.Pats.length : Int)), (19, .int .i64 (IntKind.i64.wrap (s1 + 1)))]) (S' := St w0 Φ [(b_1, .cells #[.string p0.Name, .int .i64 p0.Sal, pv0_0, pv0_1, pv0_2] 49 (0, 0))] []) ⟨rfl, rfl, rfl, rfl, trivial⟩ (fun w1 hw => (hw.sel (js := []) rfl).selO (js := [1]) rfl) ?_)
  exact ih1 (IntKind.i64.wrap (s1 + 1)) h
 replace h := ite_f h c3
 refine WT.exit rfl <| WT.seq <| WT.region <| lq (q_assign rfl) rfl <| WL.nil ?_
 refine WT.ret Tryz.func72 (resOk.one rfl) (fun w1 hw => ?_)
 subst hb0
 cases h
 exact post_of_St hw
theorem m_i_isTerm_ok {Φ : Hp} {w : World} (hΦ : In Φ w) (N : Nat) (p0 : TArg)   {r : Bool} (h : m_i_isTerm N p0 = some r) :
  Calls Tryz.prog 141 [.agg [.int .i64 p0.K, .string p0.S, .int .i64 p0.V.K, .int .i64 p0.V.N, .string p0.V.S].toArray].toArray w (Post (.bool r) w) := by
 refine enter Tryz.func141 rfl Tryz.ntmps141 rfl (St.start0 hΦ) ?_
 unfold m_i_isTerm at h
 refine WT.seq <| WT.region ?_
 refine ln (n_box (C := #[.int .i64 p0.K, .string p0.S, .int .i64 p0.V.K, .int .i64 p0.V.N, .string p0.V.S]) rfl rfl) rfl (fun b_1 => ?_)
 refine lq (q_assign rfl) rfl <| WL.nil <| WT.seq <| WT.region <| lq (q_fieldAddr Fld_126_0 rfl) rfl <| lq (q_load1 T1_3 rfl (fun w1 hw => hw.rgO (i := 0) rfl 0 1 [.int .i64 p0.K] rfl)) rfl <| lq (q_neq rfl rfl) rfl <| lq (q_move rfl) rfl ?_
 obtain ⟨b1, hb_1, h⟩ := bind_some h
 refine WL.cutN 3 [(9, .bool b1), (2, .bool false)] ?_ (fun K => ?_)
 rotate_left
 ·refine WL.split (d := 6) rfl (fun c1 => ?_) (fun c1 => ?_)
  ·replace hb_1 := ite_t hb_1 c1
   refine WL.yes rfl rfl <| lq (q_loadN Tn_126 rfl (fun w1 hw => hw.rgO (i := 0) rfl 0 5 [.int .i64 p0.K, .string p0.S, .int .i64 p0.V.K, .int .i64 p0.V.N, .string p0.V.S] rfl) rfl) rfl <| WL.yes rfl rfl ?_
   obtain ⟨x1, hx1, hb_1⟩ := bind_some hb_1
   refine lp (p_call Fun_197 rfl (fun w1 hw => m_i_ArgOk_ok hw.fro N p0 hx1)) rfl <| WL.q (q_pick1 rfl rfl) rfl rfl rfl ?_
   cases hb_1
   exact WL.keep (by exact ⟨rfl, rfl, trivial⟩) K
  ·replace hb_1 := ite_f hb_1 c1
   refine WL.no rfl rfl rfl rfl <| WL.no rfl rfl rfl rfl <| WL.q (q_pick0 rfl rfl) rfl rfl rfl ?_
   cases hb_1
   exact WL.keep (by exact ⟨rfl, rfl, trivial⟩) K
 refine lq (q_assign rfl) rfl <| WL.nil ?_
 refine WT.ret Tryz.func141 (resOk.one rfl) (fun w1 hw => ?_)
 cases h
 exact post_of_St hw
theorem m_i_CondOk_ok {Φ : Hp} {w : World} (hΦ : In Φ w) (N : Nat) (p0 : TCond)   {r : Bool} (h : m_i_CondOk N p0 = some r) :
  Calls Tryz.prog 73 [.agg [.int .i64 p0.Op, .int .i64 p0.L.K, .string p0.L.S, .int .i64 p0.L.V.K, .int .i64 p0.L.V.N, .string p0.L.V.S, .int .i64 p0.R.K, .string p0.R.S, .int .i64 p0.R.V.K, .int .i64 p0.R.V.N, .string p0.R.V.S].toArray].toArray w (Post (.bool r) w) := by
 refine enter Tryz.func73 rfl Tryz.ntmps73 rfl (St.start0 hΦ) ?_
 unfold m_i_CondOk at h
 refine WT.seq <| WT.region ?_
 refine ln (n_box (C := #[.int .i64 p0.Op, .int .i64 p0.L.K, .string p0.L.S, .int .i64 p0.L.V.K, .int .i64 p0.L.V.N, .string p0.L.V.S, .int .i64 p0.R.K, .string p0.R.S, .int .i64 p0.R.V.K, .int .i64 p0.R.V.N, .string p0.R.V.S]) rfl rfl) rfl (fun b_1 => ?_)
 refine lq (q_assign rfl) rfl <| WL.nil <| WT.seq <| WT.region <| lq (q_fieldAddr Fld_128_0 rfl) rfl <| lq (q_load1 T1_3 rfl (fun w1 hw => hw.rgO (i := 0) rfl 0 1 [.int .i64 p0.Op] rfl)) rfl ?_
 obtain ⟨x1, hx1, h⟩ := bind_some h
 refine lp (p_call Fun_71 rfl (fun w1 hw => m_i_inRange_ok hw.fro N p0.Op 1 3 hx1)) rfl <| lq (q_move rfl) rfl ?_
 obtain ⟨b1, hb_1, h⟩ := bind_some h
 refine WL.cutN 4 [(10, .bool b1), (1, .pointer (some ⟨b_1, 0, none⟩)), (2, .bool false)] ?_ (fun K => ?_)
 rotate_left
 ·refine WL.split (d := 6) rfl (fun c1 => ?_) (fun c1 => ?_)
  ·replace hb_1 := ite_t hb_1 c1
   refine WL.yes rfl rfl <| lq (q_fieldAddr Fld_128_1 rfl) rfl <| WL.yes rfl rfl <| lq (q_loadN Tn_126 rfl (fun w1 hw => hw.rgO (i := 0) rfl 1 5 [.int .i64 p0.L.K, .string p0.L.S, .int .i64 p0.L.V.K, .int .i64 p0.L.V.N, .string p0.L.V.S] rfl) rfl) rfl <| WL.yes rfl rfl ?_
   obtain ⟨x2, hx2, hb_1⟩ := bind_some hb_1
   refine lp (p_call Fun_141 rfl (fun w1 hw => m_i_isTerm_ok hw.fro N p0.L hx2)) rfl <| WL.q (q_pick1 rfl rfl) rfl rfl rfl ?_
   cases hb_1
   exact WL.keep (by exact ⟨rfl, rfl, rfl, trivial⟩) K
  ·replace hb_1 := ite_f hb_1 c1
   refine WL.no rfl rfl rfl rfl <| WL.no rfl rfl rfl rfl <| WL.no rfl rfl rfl rfl <| WL.q (q_pick0 rfl rfl) rfl rfl rfl ?_
   cases hb_1
   exact WL.keep (by exact ⟨rfl, rfl, rfl, trivial⟩) K
 refine lq (q_move rfl) rfl ?_
 obtain ⟨b2, hb_2, h⟩ := bind_some h
 refine WL.cutN 4 [(15, .bool b2), (2, .bool false)] ?_ (fun K => ?_)
 rotate_left
 ·refine WL.split (d := 11) rfl (fun c2 => ?_) (fun c2 => ?_)
  ·replace hb_2 := ite_t hb_2 c2
   refine WL.yes rfl rfl <| lq (q_fieldAddr Fld_128_2 rfl) rfl <| WL.yes rfl rfl <| lq (q_loadN Tn_126 rfl (fun w1 hw => hw.rgO (i := 0) rfl 6 5 [.int .i64 p0.R.K, .string p0.R.S, .int .i64 p0.R.V.K, .int .i64 p0.R.V.N, .string p0.R.V.S] rfl) rfl) rfl <| WL.yes rfl rfl ?_
   obtain ⟨x3, hx3, hb_2⟩ := bind_some hb_2
   refine lp (p_call Fun_141 rfl (fun w1 hw => m_i_isTerm_ok hw.fro N p0.R hx3)) rfl <| WL.q (q_pick1 rfl rfl) rfl rfl rfl ?_
   cases hb_2
   exact WL.keep (by exact ⟨rfl, rfl, trivial⟩) K
  ·replace hb_2 := ite_f hb_2 c2
   refine WL.no rfl rfl rfl rfl <| WL.no rfl rfl rfl rfl <| WL.no rfl rfl rfl rfl <| WL.q (q_pick0 rfl rfl) rfl rfl rfl ?_
   cases hb_2
   exact WL.keep (by exact ⟨rfl, rfl, trivial⟩) K
 refine lq (q_assign rfl) rfl <| WL.nil ?_
 refine WT.ret Tryz.func73 (resOk.one rfl) (fun w1 hw => ?_)
 cases h
 exact post_of_St hw
theorem m_i_ExprOk_ok {Φ : Hp} {w : World} (hΦ : In Φ w) (N : Nat) (p0 : TExpr)   {r : Bool} (h : m_i_ExprOk N p0 = some r) :
  Calls Tryz.prog 198 [.agg [.string p0.Op, .int .i64 p0.L.K, .string p0.L.S, .int .i64 p0.L.V.K, .int .i64 p0.L.V.N, .string p0.L.V.S, .int .i64 p0.R.K, .string p0.R.S, .int .i64 p0.R.V.K, .int .i64 p0.R.V.N, .string p0.R.V.S].toArray].toArray w (Post (.bool r) w) := by
 refine enter Tryz.func198 rfl Tryz.ntmps198 rfl (St.start0 hΦ) ?_
 generalize hb0 : (⟨w, [], Φ⟩ : Base) = w0
 unfold m_i_ExprOk at h
 refine WT.seq <| WT.region ?_
 refine ln (n_box (C := #[.string p0.Op, .int .i64 p0.L.K, .string p0.L.S, .int .i64 p0.L.V.K, .int .i64 p0.L.V.N, .string p0.L.V.S, .int .i64 p0.R.K, .string p0.R.S, .int .i64 p0.R.V.K, .int .i64 p0.R.V.N, .string p0.R.V.S]) rfl rfl) rfl (fun b_1 => ?_)
 refine lq (q_assign rfl) rfl <| WL.nil <| WT.seq <| WT.seq <| WT.region <| lq (q_fieldAddr Fld_175_0 rfl) rfl <| lq (q_load1 T1_9 rfl (fun w1 hw => hw.rgO (i := 0) rfl 0 1 [.string p0.Op] rfl)) rfl <| WL.nil <| WT.block <| WT.seq <| WT.region <| lq (q_seq rfl rfl) rfl <| lq (q_assign rfl) rfl <| WL.nil ?_
 refine WT.cond rfl (fun c1 => ?_) (fun c1 => ?_)
 ·replace h := ite_t h c1
  refine WT.seq <| WT.region <| lq (q_fieldAddr Fld_175_1 rfl) rfl <| lq (q_loadN Tn_126 rfl (fun w1 hw => hw.rgO (i := 0) rfl 1 5 [.int .i64 p0.L.K, .string p0.L.S, .int .i64 p0.L.V.K, .int .i64 p0.L.V.N, .string p0.L.V.S] rfl) rfl) rfl ?_
  obtain ⟨x1, hx1, h⟩ := bind_some h
  refine lp (p_call Fun_141 rfl (fun w1 hw => m_i_isTerm_ok hw.fro N p0.L hx1)) rfl <| lq (q_move rfl) rfl ?_
  obtain ⟨b1, hb_1, h⟩ := bind_some h
  refine WL.cutN 5 [(15, .bool b1), (2, .bool false)] ?_ (fun K => ?_)
  rotate_left
  ·refine WL.split (d := 10) rfl (fun c2 => ?_) (fun c2 => ?_)
   ·replace hb_1 := ite_t hb_1 c2
    refine WL.yes rfl rfl <| lq (q_fieldAddr Fld_175_2 rfl) rfl <| WL.yes rfl rfl <| lq (q_loadN Tn_126 rfl (fun w1 hw => hw.rgO (i := 0) rfl 6 5 [.int .i64 p0.R.K, .string p0.R.S, .int .i64 p0.R.V.K, .int .i64 p0.R.V.N, .string p0.R.V.S] rfl) rfl) rfl <| WL.yes rfl rfl <| lq (q_build (vs := []) (C := #[.int .i64 0, .string (⟨#[]⟩ : ByteArray), .int .i64 0, .int .i64 0, .string (⟨#[]⟩ : ByteArray)]) Pl_126 Zr_126 rfl (fill_nil)) rfl ?_
    refine WL.yes rfl rfl <| lq (q_eqA EqT_126 rfl rfl rfl (r := eqT_TArg p0.R (⟨0, (⟨#[]⟩ : ByteArray), (⟨0, 0, (⟨#[]⟩ : ByteArray)⟩ : TVal)⟩ : TArg)) rfl) rfl <| WL.q (q_pick1 rfl rfl) rfl rfl rfl ?_
    cases hb_1
    exact WL.keep (by exact ⟨rfl, rfl, trivial⟩) K
   ·replace hb_1 := ite_f hb_1 c2
    refine WL.no rfl rfl rfl rfl <| WL.no rfl rfl rfl rfl <| WL.no rfl rfl rfl rfl <| WL.no rfl rfl rfl rfl <| WL.q (q_pick0 rfl rfl) rfl rfl rfl ?_
    cases hb_1
    exact WL.keep (by exact ⟨rfl, rfl, trivial⟩) K
  refine lq (q_assign rfl) rfl <| WL.nil ?_
  refine WT.ret Tryz.func198 (resOk.one rfl) (fun w1 hw => ?_)
  subst hb0
  cases h
  exact post_of_St hw
 replace h := ite_f h c1
 refine WT.seq <| WT.seq <| WT.region <| lq (q_seq rfl rfl) rfl <| lq (q_assign rfl) rfl <| WL.nil ?_
 refine cut (σ := Bool) (fun s => [(1, .pointer (some ⟨b_1, 0, none⟩)), (16, .bool s)]) (fun s => St w0 Φ [(b_1, .cells #[.string p0.Op, .int .i64 p0.L.K, .string p0.L.S, .int .i64 p0.L.V.K, .int .i64 p0.L.V.N, .string p0.L.V.S, .int .i64 p0.R.K, .string p0.R.S, .int .i64 p0.R.V.K, .int .i64 p0.R.V.N, .string p0.R.V.S] 175 (0, 0))] []) (fun s => m_i_ExprOk_j1 N p0 s = some r) (fun s hm => ?_) (fun K => ?_)
 ·clear h
  revert hm; revert s; intro s1 hm
  have h : m_i_ExprOk_j1 N p0 s1 = some r := hm
  show WT _ _ [(1, .pointer (some ⟨b_1, 0, none⟩)), (16, .bool s1)] (St w0 Φ [(b_1, .cells #[.string p0.Op, .int .i64 p0.L.K, .string p0.L.S, .int .i64 p0.L.V.K, .int .i64 p0.L.V.N, .string p0.L.V.S, .int .i64 p0.R.K, .string p0.R.S, .int .i64 p0.R.V.K, .int .i64 p0.R.V.N, .string p0.R.V.S] 175 (0, 0))] [])
  unfold m_i_ExprOk_j1 at h
  refine WT.cond rfl (fun c3 => ?_) (fun c3 => ?_)
  ·replace h := ite_t h c3
   refine WT.seq <| WT.region <| lq (q_fieldAddr Fld_175_1 rfl) rfl <| lq (q_loadN Tn_126 rfl (fun w1 hw => hw.rgO (i := 0) rfl 1 5 [.int .i64 p0.L.K, .string p0.L.S, .int .i64 p0.L.V.K, .int .i64 p0.L.V.N, .string p0.L.V.S] rfl) rfl) rfl ?_
   obtain ⟨x2, hx2, h⟩ := bind_some h
   refine lp (p_call Fun_141 rfl (fun w1 hw => m_i_isTerm_ok hw.fro N p0.L hx2)) rfl <| lq (q_move rfl) rfl ?_
   obtain ⟨b2, hb_2, h⟩ := bind_some h
   refine WL.cutN 4 [(26, .bool b2)] ?_ (fun K => ?_)
   rotate_left
   ·refine WL.split (d := 22) rfl (fun c4 => ?_) (fun c4 => ?_)
    ·replace hb_2 := ite_t hb_2 c4
     refine WL.yes rfl rfl <| lq (q_fieldAddr Fld_175_2 rfl) rfl <| WL.yes rfl rfl <| lq (q_loadN Tn_126 rfl (fun w1 hw => hw.rgO (i := 0) rfl 6 5 [.int .i64 p0.R.K, .string p0.R.S, .int .i64 p0.R.V.K, .int .i64 p0.R.V.N, .string p0.R.V.S] rfl) rfl) rfl <| WL.yes rfl rfl ?_
     obtain ⟨x3, hx3, hb_2⟩ := bind_some hb_2
     refine lp (p_call Fun_141 rfl (fun w1 hw => m_i_isTerm_ok hw.fro N p0.R hx3)) rfl <| WL.q (q_pick1 rfl rfl) rfl rfl rfl ?_
     cases hb_2
     exact WL.keep (by exact ⟨rfl, trivial⟩) K
    ·replace hb_2 := ite_f hb_2 c4
     refine WL.no rfl rfl rfl rfl <| WL.no rfl rfl rfl rfl <| WL.no rfl rfl rfl rfl <| WL.q (q_pick0 rfl rfl) rfl rfl rfl ?_
     cases hb_2
     exact WL.keep (by exact ⟨rfl, trivial⟩) K
   refine lq (q_assign rfl) rfl <| WL.nil ?_
   refine WT.ret Tryz.func198 (resOk.one rfl) (fun w1 hw => ?_)
   subst hb0
   cases h
   exact post_of_St hw
  replace h := ite_f h c3
  refine WT.skip <| WT.inBlock <| WT.seq <| WT.region <| lq (q_assign rfl) rfl <| WL.nil ?_
  refine WT.ret Tryz.func198 (resOk.one rfl) (fun w1 hw => ?_)
  subst hb0
  cases h
  exact post_of_St hw
 refine WT.cond rfl (fun c5 => ?_) (fun c5 => ?_)
 ·replace h := ite_t h c5
  refine WT.skip <| WT.mono (l' := [(1, .pointer (some ⟨b_1, 0, none⟩)), (16, .bool (seq p0.Op (⟨#[43]⟩ : ByteArray)))]) (S' := St w0 Φ [(b_1, .cells #[.string p0.Op, .int .i64 p0.L.K, .string p0.L.S, .int .i64 p0.L.V.K, .int .i64 p0.L.V.N, .string p0.L.V.S, .int .i64 p0.R.K, .string p0.R.S, .int .i64 p0.R.V.K, .int .i64 p0.R.V.N, .string p0.R.V.S] 175 (0, 0))] []) ⟨rfl, rfl, trivial⟩ (fun w1 hw => (hw.sel (js := []) rfl).selO (js := [0]) rfl) ?_
  exact K (seq p0.Op (⟨#[43]⟩ : ByteArray)) h
 replace h := ite_f h c5
 refine WT.region <| lq (q_seq rfl rfl) rfl <| lq (q_assign rfl) rfl <| WL.nil <| WT.mono (l' := [(1, .pointer (some ⟨b_1, 0, none⟩)), (16, .bool (seq p0.Op (⟨#[45]⟩ : ByteArray)))]) (S' := St w0 Φ [(b_1, .cells #[.string p0.Op, .int .i64 p0.L.K, .string p0.L.S, .int .i64 p0.L.V.K, .int .i64 p0.L.V.N, .string p0.L.V.S, .int .i64 p0.R.K, .string p0.R.S, .int .i64 p0.R.V.K, .int .i64 p0.R.V.N, .string p0.R.V.S] 175 (0, 0))] []) ⟨rfl, rfl, trivial⟩ (fun w1 hw => (hw.sel (js := []) rfl).selO (js := [0]) rfl) ?_
 exact K (seq p0.Op (⟨#[45]⟩ : ByteArray)) h
theorem m_i_argsOk_ok {Φ : Hp} {w : World} (hΦ : In Φ w) (N : Nat) (p0 : TAct) {pv0_0 : Value} {pG0_0 : List Nat} (ph0_0 : RSl RTExpr 11 Φ pG0_0 pv0_0 p0.Args) {r : Bool} (h : m_i_argsOk N p0 = some r) :
  Calls Tryz.prog 142 [.agg [.int .i64 p0.Kind, .string p0.Name, pv0_0, .int .i64 p0.N, .string p0.Undo].toArray].toArray w (Post (.bool r) w) := by
 refine enter Tryz.func142 rfl Tryz.ntmps142 rfl (St.start0 hΦ) ?_
 generalize hb0 : (⟨w, [], Φ⟩ : Base) = w0
 unfold m_i_argsOk at h
 refine WT.seq <| WT.region ?_
 refine ln (n_box (C := #[.int .i64 p0.Kind, .string p0.Name, pv0_0, .int .i64 p0.N, .string p0.Undo]) rfl rfl) rfl (fun b_1 => ?_)
 refine lq (q_assign rfl) rfl <| WL.nil <| WT.seq <| WT.seq <| WT.region <| lq (q_fieldAddr Fld_135_1 rfl) rfl <| lq (q_load1 T1_9 rfl (fun w1 hw => hw.rgO (i := 0) rfl 1 1 [.string p0.Name] rfl)) rfl ?_
 obtain ⟨x1, hx1, h⟩ := bind_some h
 refine lp (p_call Fun_70 rfl (fun w1 hw => m_i_NameOk_ok hw.fro N p0.Name hx1)) rfl <| lq (q_not rfl) rfl <| lq (q_move rfl) rfl ?_
 obtain ⟨b1, hb_1, h⟩ := bind_some h
 refine WL.cutN 5 [(14, .bool b1), (1, .pointer (some ⟨b_1, 0, none⟩))] ?_ (fun K => ?_)
 rotate_left
 ·refine WL.split (d := 9) rfl (fun c1 => ?_) (fun c1 => ?_)
  ·replace hb_1 := ite_t hb_1 c1
   refine WL.no rfl rfl rfl rfl <| WL.no rfl rfl rfl rfl <| WL.no rfl rfl rfl rfl <| WL.no rfl rfl rfl rfl <| WL.q (q_pick1 rfl rfl) rfl rfl rfl ?_
   cases hb_1
   exact WL.keep (by exact ⟨rfl, rfl, trivial⟩) K
  ·replace hb_1 := ite_f hb_1 c1
   refine WL.yes rfl rfl <| lq (q_fieldAddr Fld_135_2 rfl) rfl <| WL.yes rfl rfl <| lq (q_load1 T1_133 rfl (fun w1 hw => hw.rgO (i := 0) rfl 2 1 [pv0_0] rfl)) rfl <| WL.yes rfl rfl <| lq (q_lenR Sl_133 rfl rfl ph0_0) rfl <| WL.yes rfl rfl <| lq (q_gtr rfl rfl) rfl <| WL.q (q_pick0 rfl rfl) rfl rfl rfl ?_
   cases hb_1
   exact WL.keep (by exact ⟨rfl, rfl, trivial⟩) K
 refine WL.nil ?_
 refine WT.cond rfl (fun c2 => ?_) (fun c2 => ?_)
 ·replace h := ite_t h c2
  refine WT.seq <| WT.region <| lq (q_assign rfl) rfl <| WL.nil ?_
  refine WT.ret Tryz.func142 (resOk.one rfl) (fun w1 hw => ?_)
  subst hb0
  cases h
  exact post_of_St hw
 replace h := ite_f h c2
 refine WT.skip <| WT.seq <| WT.seq <| WT.region <| lq (q_fieldAddr Fld_135_2 rfl) rfl <| lq (q_load1 T1_133 rfl (fun w1 hw => hw.rgO (i := 0) rfl 2 1 [pv0_0] rfl)) rfl <| lq (q_lenR Sl_133 rfl rfl ph0_0) rfl <| lq (q_move rfl) rfl <| WL.nil <| WT.block <| WT.loop <| WT.mono (l' := [(16, pv0_0), (17, .int .i64 (p0.Args.length : Int)), (18, .int .i64 0)]) (S' := St w0 Φ [] []) ⟨rfl, rfl, rfl, trivial⟩ (fun w1 hw => (hw.sel (js := []) rfl).selO (js := []) rfl) ?_
 refine loop_ind (σ := Int) (fun s => [(16, pv0_0), (17, .int .i64 (p0.Args.length : Int)), (18, .int .i64 s)]) (fun s => St w0 Φ [] []) (fun m s => m_i_argsOk_l1 N p0 m s = some r) (fun s hm => none_ne (show (none : Option (Bool)) = some r from hm)) (fun n1 ih1 s hm => ?_) N (0) h
 revert hm; revert s; intro s1 hm
 have h : m_i_argsOk_l1 N p0 (n1 + 1) s1 = some r := hm
 show WT _ _ [(16, pv0_0), (17, .int .i64 (p0.Args.length : Int)), (18, .int .i64 s1)] (St w0 Φ [] [])
 unfold m_i_argsOk_l1 at h
 refine WT.seq <| WT.region <| lq (q_lss rfl rfl) rfl <| WL.nil <| WT.seq ?_
 refine WT.cond rfl (fun c3 => ?_) (fun c3 => ?_)
 ·replace h := ite_t h c3
  refine WT.skip <| WT.seq <| WT.block <| WT.seq <| WT.region ?_
  obtain ⟨x2, hx2, h⟩ := bind_some h
  obtain ⟨cs1, F1, -, g1, hb1, hs1, r1⟩ := ph0_0.el (idx_some hx2).2.2
  obtain ⟨rfl, -⟩ := r1
  refine lq (q_indexAddr Sl_133 rfl rfl ph0_0 hx2) rfl <| lq (q_loadN Tn_175 rfl (fun w1 hw => (g1.of_eq 0 11 rfl rfl : rg _ _ _ [.string x2.Op, .int .i64 x2.L.K, .string x2.L.S, .int .i64 x2.L.V.K, .int .i64 x2.L.V.N, .string x2.L.V.S, .int .i64 x2.R.K, .string x2.R.S, .int .i64 x2.R.V.K, .int .i64 x2.R.V.N, .string x2.R.V.S]).rangeAt hw.fro) rfl) rfl ?_
  refine ln (n_alloc (C := #[.string (⟨#[]⟩ : ByteArray), .int .i64 0, .string (⟨#[]⟩ : ByteArray), .int .i64 0, .int .i64 0, .string (⟨#[]⟩ : ByteArray), .int .i64 0, .string (⟨#[]⟩ : ByteArray), .int .i64 0, .int .i64 0, .string (⟨#[]⟩ : ByteArray)]) Zr_175 rfl) rfl (fun b_2 => ?_)
  refine ls (s_store (i := 0) (vs := [.string x2.Op, .int .i64 x2.L.K, .string x2.L.S, .int .i64 x2.L.V.K, .int .i64 x2.L.V.N, .string x2.L.V.S, .int .i64 x2.R.K, .string x2.R.S, .int .i64 x2.R.V.K, .int .i64 x2.R.V.N, .string x2.R.V.S]) (C' := [.string x2.Op, .int .i64 x2.L.K, .string x2.L.S, .int .i64 x2.L.V.K, .int .i64 x2.L.V.N, .string x2.L.V.S, .int .i64 x2.R.K, .string x2.R.S, .int .i64 x2.R.V.K, .int .i64 x2.R.V.N, .string x2.R.V.S]) (O' := [(b_2, .cells #[.string x2.Op, .int .i64 x2.L.K, .string x2.L.S, .int .i64 x2.L.V.K, .int .i64 x2.L.V.N, .string x2.L.V.S, .int .i64 x2.R.K, .string x2.R.S, .int .i64 x2.R.V.K, .int .i64 x2.R.V.N, .string x2.R.V.S] 175 (0, 0))]) Sz_175 rfl rfl rfl rfl rfl rfl ⟨rfl, rfl, rfl, rfl, rfl, rfl, rfl, rfl, rfl, rfl, rfl, trivial⟩ rfl rfl) rfl ?_
  refine WL.nil <| WT.seq <| WT.region <| lq (q_loadN Tn_175 rfl (fun w1 hw => hw.rgO (i := 0) rfl 0 11 [.string x2.Op, .int .i64 x2.L.K, .string x2.L.S, .int .i64 x2.L.V.K, .int .i64 x2.L.V.N, .string x2.L.V.S, .int .i64 x2.R.K, .string x2.R.S, .int .i64 x2.R.V.K, .int .i64 x2.R.V.N, .string x2.R.V.S] rfl) rfl) rfl ?_
  obtain ⟨x3, hx3, h⟩ := bind_some h
  refine lp (p_call Fun_198 rfl (fun w1 hw => m_i_ExprOk_ok hw.fro N x2 hx3)) rfl <| lq (q_not rfl) rfl <| WL.nil ?_
  refine WT.cond rfl (fun c4 => ?_) (fun c4 => ?_)
  ·replace h := ite_t h c4
   refine WT.seq <| WT.region <| lq (q_assign rfl) rfl <| WL.nil ?_
   refine WT.ret Tryz.func142 (resOk.one rfl) (fun w1 hw => ?_)
   subst hb0
   cases h
   exact post_of_St hw
  replace h := ite_f h c4
  refine WT.skip <| WT.inBlock <| WT.region <| lq (q_add rfl rfl) rfl <| lq (q_move rfl) rfl <| WL.nil ?_
  refine WT.inLoop (WT.mono (l' := [(16, pv0_0), (17, .int .i64 (p0.Args.length : Int)), (18, .int .i64 (IntKind.i64.wrap (s1 + 1)))]) (S' := St w0 Φ [] []) ⟨rfl, rfl, rfl, trivial⟩ (fun w1 hw => (hw.sel (js := []) rfl).selO (js := []) rfl) ?_)
  exact ih1 (IntKind.i64.wrap (s1 + 1)) h
 replace h := ite_f h c3
 refine WT.exit rfl <| WT.seq <| WT.region <| lq (q_assign rfl) rfl <| WL.nil ?_
 refine WT.ret Tryz.func142 (resOk.one rfl) (fun w1 hw => ?_)
 subst hb0
 cases h
 exact post_of_St hw
theorem m_i_isUndo_ok {Φ : Hp} {w : World} (hΦ : In Φ w) (N : Nat) (p0 : ByteArray)   {r : Bool} (h : m_i_isUndo N p0 = some r) :
  Calls Tryz.prog 143 [.string p0].toArray w (Post (.bool r) w) := by
 refine enter Tryz.func143 rfl Tryz.ntmps143 rfl (St.start0 hΦ) ?_
 unfold m_i_isUndo at h
 refine WT.seq <| WT.region <| lq (q_assign rfl) rfl <| WL.nil <| WT.seq <| WT.region <| lq (q_move rfl) rfl <| lq (q_seq rfl rfl) rfl <| lq (q_move rfl) rfl ?_
 obtain ⟨b1, hb_1, h⟩ := bind_some h
 refine WL.cutN 3 [(8, .bool b1), (2, .bool false)] ?_ (fun K => ?_)
 rotate_left
 ·refine WL.split (d := 5) rfl (fun c1 => ?_) (fun c1 => ?_)
  ·replace hb_1 := ite_t hb_1 c1
   refine WL.no rfl rfl rfl rfl <| WL.no rfl rfl rfl rfl <| WL.q (q_pick1 rfl rfl) rfl rfl rfl ?_
   cases hb_1
   exact WL.keep (by exact ⟨rfl, rfl, trivial⟩) K
  ·replace hb_1 := ite_f hb_1 c1
   refine WL.yes rfl rfl <| lq (q_move rfl) rfl <| WL.yes rfl rfl ?_
   obtain ⟨x1, hx1, hb_1⟩ := bind_some hb_1
   refine lp (p_call Fun_70 rfl (fun w1 hw => m_i_NameOk_ok hw.fro N p0 hx1)) rfl <| WL.q (q_pick0 rfl rfl) rfl rfl rfl ?_
   cases hb_1
   exact WL.keep (by exact ⟨rfl, rfl, trivial⟩) K
 refine lq (q_assign rfl) rfl <| WL.nil ?_
 refine WT.ret Tryz.func143 (resOk.one rfl) (fun w1 hw => ?_)
 cases h
 exact post_of_St hw
theorem m_i_ActOk_ok {Φ : Hp} {w : World} (hΦ : In Φ w) (N : Nat) (p0 : TAct) {pv0_0 : Value} {pG0_0 : List Nat} (ph0_0 : RSl RTExpr 11 Φ pG0_0 pv0_0 p0.Args) {r : Bool} (h : m_i_ActOk N p0 = some r) :
  Calls Tryz.prog 74 [.agg [.int .i64 p0.Kind, .string p0.Name, pv0_0, .int .i64 p0.N, .string p0.Undo].toArray].toArray w (Post (.bool r) w) := by
 refine enter Tryz.func74 rfl Tryz.ntmps74 rfl (St.start0 hΦ) ?_
 generalize hb0 : (⟨w, [], Φ⟩ : Base) = w0
 unfold m_i_ActOk at h
 refine WT.seq <| WT.region ?_
 refine ln (n_box (C := #[.int .i64 p0.Kind, .string p0.Name, pv0_0, .int .i64 p0.N, .string p0.Undo]) rfl rfl) rfl (fun b_1 => ?_)
 refine lq (q_assign rfl) rfl <| WL.nil <| WT.seq <| WT.region <| lq (q_fieldAddr Fld_135_1 rfl) rfl <| lq (q_load1 T1_9 rfl (fun w1 hw => hw.rgO (i := 0) rfl 1 1 [.string p0.Name] rfl)) rfl <| lq (q_seq rfl rfl) rfl <| lq (q_move rfl) rfl ?_
 obtain ⟨b1, hb_1, h⟩ := bind_some h
 refine WL.cutN 5 [(12, .bool b1), (1, .pointer (some ⟨b_1, 0, none⟩))] ?_ (fun K => ?_)
 rotate_left
 ·refine WL.split (d := 7) rfl (fun c1 => ?_) (fun c1 => ?_)
  ·replace hb_1 := ite_t hb_1 c1
   refine WL.yes rfl rfl <| lq (q_fieldAddr Fld_135_2 rfl) rfl <| WL.yes rfl rfl <| lq (q_load1 T1_133 rfl (fun w1 hw => hw.rgO (i := 0) rfl 2 1 [pv0_0] rfl)) rfl <| WL.yes rfl rfl <| lq (q_lenR Sl_133 rfl rfl ph0_0) rfl <| WL.yes rfl rfl <| lq (q_eql rfl rfl) rfl <| WL.q (q_pick1 rfl rfl) rfl rfl rfl ?_
   cases hb_1
   exact WL.keep (by exact ⟨rfl, rfl, trivial⟩) K
  ·replace hb_1 := ite_f hb_1 c1
   refine WL.no rfl rfl rfl rfl <| WL.no rfl rfl rfl rfl <| WL.no rfl rfl rfl rfl <| WL.no rfl rfl rfl rfl <| WL.q (q_pick0 rfl rfl) rfl rfl rfl ?_
   cases hb_1
   exact WL.keep (by exact ⟨rfl, rfl, trivial⟩) K
 refine lq (q_assign rfl) rfl <| WL.nil <| WT.seq <| WT.seq <| WT.region <| lq (q_fieldAddr Fld_135_0 rfl) rfl <| lq (q_load1 T1_3 rfl (fun w1 hw => hw.rgO (i := 0) rfl 0 1 [.int .i64 p0.Kind] rfl)) rfl <| WL.nil <| WT.block <| WT.seq <| WT.region <| lq (q_eql rfl rfl) rfl <| lq (q_assign rfl) rfl <| WL.nil ?_
 refine WT.cond rfl (fun c2 => ?_) (fun c2 => ?_)
 ·replace h := ite_t h c2
  refine WT.seq <| WT.region <| lq (q_loadN Tn_135 rfl (fun w1 hw => hw.rgO (i := 0) rfl 0 5 [.int .i64 p0.Kind, .string p0.Name, pv0_0, .int .i64 p0.N, .string p0.Undo] rfl) rfl) rfl ?_
  obtain ⟨x1, hx1, h⟩ := bind_some h
  refine lp (p_call Fun_142 rfl (fun w1 hw => m_i_argsOk_ok hw.fro N p0 ph0_0 hx1)) rfl <| lq (q_move rfl) rfl ?_
  obtain ⟨b2, hb_2, h⟩ := bind_some h
  refine WL.cutN 4 [(23, .bool b2), (1, .pointer (some ⟨b_1, 0, none⟩))] ?_ (fun K => ?_)
  rotate_left
  ·refine WL.split (d := 19) rfl (fun c3 => ?_) (fun c3 => ?_)
   ·replace hb_2 := ite_t hb_2 c3
    refine WL.yes rfl rfl <| lq (q_fieldAddr Fld_135_3 rfl) rfl <| WL.yes rfl rfl <| lq (q_load1 T1_3 rfl (fun w1 hw => hw.rgO (i := 0) rfl 3 1 [.int .i64 p0.N] rfl)) rfl <| WL.yes rfl rfl <| lq (q_eql rfl rfl) rfl <| WL.q (q_pick1 rfl rfl) rfl rfl rfl ?_
    cases hb_2
    exact WL.keep (by exact ⟨rfl, rfl, trivial⟩) K
   ·replace hb_2 := ite_f hb_2 c3
    refine WL.no rfl rfl rfl rfl <| WL.no rfl rfl rfl rfl <| WL.no rfl rfl rfl rfl <| WL.q (q_pick0 rfl rfl) rfl rfl rfl ?_
    cases hb_2
    exact WL.keep (by exact ⟨rfl, rfl, trivial⟩) K
  refine lq (q_move rfl) rfl ?_
  obtain ⟨b3, hb_3, h⟩ := bind_some h
  refine WL.cutN 4 [(28, .bool b3)] ?_ (fun K => ?_)
  rotate_left
  ·refine WL.split (d := 24) rfl (fun c4 => ?_) (fun c4 => ?_)
   ·replace hb_3 := ite_t hb_3 c4
    refine WL.yes rfl rfl <| lq (q_fieldAddr Fld_135_4 rfl) rfl <| WL.yes rfl rfl <| lq (q_load1 T1_9 rfl (fun w1 hw => hw.rgO (i := 0) rfl 4 1 [.string p0.Undo] rfl)) rfl <| WL.yes rfl rfl <| lq (q_seq rfl rfl) rfl <| WL.q (q_pick1 rfl rfl) rfl rfl rfl ?_
    cases hb_3
    exact WL.keep (by exact ⟨rfl, trivial⟩) K
   ·replace hb_3 := ite_f hb_3 c4
    refine WL.no rfl rfl rfl rfl <| WL.no rfl rfl rfl rfl <| WL.no rfl rfl rfl rfl <| WL.q (q_pick0 rfl rfl) rfl rfl rfl ?_
    cases hb_3
    exact WL.keep (by exact ⟨rfl, trivial⟩) K
  refine lq (q_assign rfl) rfl <| WL.nil ?_
  refine WT.ret Tryz.func74 (resOk.one rfl) (fun w1 hw => ?_)
  subst hb0
  cases h
  exact post_of_St hw
 replace h := ite_f h c2
 refine WT.seq <| WT.region <| lq (q_eql rfl rfl) rfl <| lq (q_assign rfl) rfl <| WL.nil ?_
 refine WT.cond rfl (fun c5 => ?_) (fun c5 => ?_)
 ·replace h := ite_t h c5
  refine WT.seq <| WT.region <| lq (q_move rfl) rfl <| lq (q_move rfl) rfl ?_
  obtain ⟨b4, hb_4, h⟩ := bind_some h
  refine WL.cutN 4 [(36, .bool b4), (1, .pointer (some ⟨b_1, 0, none⟩))] ?_ (fun K => ?_)
  rotate_left
  ·refine WL.split (d := 32) rfl (fun c6 => ?_) (fun c6 => ?_)
   ·replace hb_4 := ite_t hb_4 c6
    refine WL.yes rfl rfl <| lq (q_fieldAddr Fld_135_3 rfl) rfl <| WL.yes rfl rfl <| lq (q_load1 T1_3 rfl (fun w1 hw => hw.rgO (i := 0) rfl 3 1 [.int .i64 p0.N] rfl)) rfl <| WL.yes rfl rfl ?_
    obtain ⟨x2, hx2, hb_4⟩ := bind_some hb_4
    refine lp (p_call Fun_71 rfl (fun w1 hw => m_i_inRange_ok hw.fro N p0.N 0 7 hx2)) rfl <| WL.q (q_pick1 rfl rfl) rfl rfl rfl ?_
    cases hb_4
    exact WL.keep (by exact ⟨rfl, rfl, trivial⟩) K
   ·replace hb_4 := ite_f hb_4 c6
    refine WL.no rfl rfl rfl rfl <| WL.no rfl rfl rfl rfl <| WL.no rfl rfl rfl rfl <| WL.q (q_pick0 rfl rfl) rfl rfl rfl ?_
    cases hb_4
    exact WL.keep (by exact ⟨rfl, rfl, trivial⟩) K
  refine lq (q_move rfl) rfl ?_
  obtain ⟨b5, hb_5, h⟩ := bind_some h
  refine WL.cutN 4 [(41, .bool b5)] ?_ (fun K => ?_)
  rotate_left
  ·refine WL.split (d := 37) rfl (fun c7 => ?_) (fun c7 => ?_)
   ·replace hb_5 := ite_t hb_5 c7
    refine WL.yes rfl rfl <| lq (q_fieldAddr Fld_135_4 rfl) rfl <| WL.yes rfl rfl <| lq (q_load1 T1_9 rfl (fun w1 hw => hw.rgO (i := 0) rfl 4 1 [.string p0.Undo] rfl)) rfl <| WL.yes rfl rfl <| lq (q_seq rfl rfl) rfl <| WL.q (q_pick1 rfl rfl) rfl rfl rfl ?_
    cases hb_5
    exact WL.keep (by exact ⟨rfl, trivial⟩) K
   ·replace hb_5 := ite_f hb_5 c7
    refine WL.no rfl rfl rfl rfl <| WL.no rfl rfl rfl rfl <| WL.no rfl rfl rfl rfl <| WL.q (q_pick0 rfl rfl) rfl rfl rfl ?_
    cases hb_5
    exact WL.keep (by exact ⟨rfl, trivial⟩) K
  refine lq (q_assign rfl) rfl <| WL.nil ?_
  refine WT.ret Tryz.func74 (resOk.one rfl) (fun w1 hw => ?_)
  subst hb0
  cases h
  exact post_of_St hw
 replace h := ite_f h c5
 refine WT.seq <| WT.region <| lq (q_eql rfl rfl) rfl <| lq (q_assign rfl) rfl <| WL.nil ?_
 refine WT.cond rfl (fun c8 => ?_) (fun c8 => ?_)
 ·replace h := ite_t h c8
  refine WT.seq <| WT.region <| lq (q_loadN Tn_135 rfl (fun w1 hw => hw.rgO (i := 0) rfl 0 5 [.int .i64 p0.Kind, .string p0.Name, pv0_0, .int .i64 p0.N, .string p0.Undo] rfl) rfl) rfl ?_
  obtain ⟨x3, hx3, h⟩ := bind_some h
  refine lp (p_call Fun_142 rfl (fun w1 hw => m_i_argsOk_ok hw.fro N p0 ph0_0 hx3)) rfl <| lq (q_move rfl) rfl ?_
  obtain ⟨b6, hb_6, h⟩ := bind_some h
  refine WL.cutN 4 [(50, .bool b6), (1, .pointer (some ⟨b_1, 0, none⟩))] ?_ (fun K => ?_)
  rotate_left
  ·refine WL.split (d := 46) rfl (fun c9 => ?_) (fun c9 => ?_)
   ·replace hb_6 := ite_t hb_6 c9
    refine WL.yes rfl rfl <| lq (q_fieldAddr Fld_135_3 rfl) rfl <| WL.yes rfl rfl <| lq (q_load1 T1_3 rfl (fun w1 hw => hw.rgO (i := 0) rfl 3 1 [.int .i64 p0.N] rfl)) rfl <| WL.yes rfl rfl <| lq (q_eql rfl rfl) rfl <| WL.q (q_pick1 rfl rfl) rfl rfl rfl ?_
    cases hb_6
    exact WL.keep (by exact ⟨rfl, rfl, trivial⟩) K
   ·replace hb_6 := ite_f hb_6 c9
    refine WL.no rfl rfl rfl rfl <| WL.no rfl rfl rfl rfl <| WL.no rfl rfl rfl rfl <| WL.q (q_pick0 rfl rfl) rfl rfl rfl ?_
    cases hb_6
    exact WL.keep (by exact ⟨rfl, rfl, trivial⟩) K
  refine lq (q_move rfl) rfl ?_
  obtain ⟨b7, hb_7, h⟩ := bind_some h
  refine WL.cutN 4 [(55, .bool b7)] ?_ (fun K => ?_)
  rotate_left
  ·refine WL.split (d := 51) rfl (fun c10 => ?_) (fun c10 => ?_)
   ·replace hb_7 := ite_t hb_7 c10
    refine WL.yes rfl rfl <| lq (q_fieldAddr Fld_135_4 rfl) rfl <| WL.yes rfl rfl <| lq (q_load1 T1_9 rfl (fun w1 hw => hw.rgO (i := 0) rfl 4 1 [.string p0.Undo] rfl)) rfl <| WL.yes rfl rfl ?_
    obtain ⟨x4, hx4, hb_7⟩ := bind_some hb_7
    refine lp (p_call Fun_143 rfl (fun w1 hw => m_i_isUndo_ok hw.fro N p0.Undo hx4)) rfl <| WL.q (q_pick1 rfl rfl) rfl rfl rfl ?_
    cases hb_7
    exact WL.keep (by exact ⟨rfl, trivial⟩) K
   ·replace hb_7 := ite_f hb_7 c10
    refine WL.no rfl rfl rfl rfl <| WL.no rfl rfl rfl rfl <| WL.no rfl rfl rfl rfl <| WL.q (q_pick0 rfl rfl) rfl rfl rfl ?_
    cases hb_7
    exact WL.keep (by exact ⟨rfl, trivial⟩) K
  refine lq (q_assign rfl) rfl <| WL.nil ?_
  refine WT.ret Tryz.func74 (resOk.one rfl) (fun w1 hw => ?_)
  subst hb0
  cases h
  exact post_of_St hw
 replace h := ite_f h c8
 refine WT.seq <| WT.region <| lq (q_eql rfl rfl) rfl <| lq (q_assign rfl) rfl <| WL.nil ?_
 refine WT.cond rfl (fun c11 => ?_) (fun c11 => ?_)
 ·replace h := ite_t h c11
  refine WT.seq <| WT.region <| lq (q_loadN Tn_135 rfl (fun w1 hw => hw.rgO (i := 0) rfl 0 5 [.int .i64 p0.Kind, .string p0.Name, pv0_0, .int .i64 p0.N, .string p0.Undo] rfl) rfl) rfl ?_
  obtain ⟨x5, hx5, h⟩ := bind_some h
  refine lp (p_call Fun_142 rfl (fun w1 hw => m_i_argsOk_ok hw.fro N p0 ph0_0 hx5)) rfl <| lq (q_move rfl) rfl ?_
  obtain ⟨b8, hb_8, h⟩ := bind_some h
  refine WL.cutN 4 [(64, .bool b8), (1, .pointer (some ⟨b_1, 0, none⟩))] ?_ (fun K => ?_)
  rotate_left
  ·refine WL.split (d := 60) rfl (fun c12 => ?_) (fun c12 => ?_)
   ·replace hb_8 := ite_t hb_8 c12
    refine WL.yes rfl rfl <| lq (q_fieldAddr Fld_135_3 rfl) rfl <| WL.yes rfl rfl <| lq (q_load1 T1_3 rfl (fun w1 hw => hw.rgO (i := 0) rfl 3 1 [.int .i64 p0.N] rfl)) rfl <| WL.yes rfl rfl ?_
    obtain ⟨x6, hx6, hb_8⟩ := bind_some hb_8
    refine lp (p_call Fun_71 rfl (fun w1 hw => m_i_inRange_ok hw.fro N p0.N 0 100000 hx6)) rfl <| WL.q (q_pick1 rfl rfl) rfl rfl rfl ?_
    cases hb_8
    exact WL.keep (by exact ⟨rfl, rfl, trivial⟩) K
   ·replace hb_8 := ite_f hb_8 c12
    refine WL.no rfl rfl rfl rfl <| WL.no rfl rfl rfl rfl <| WL.no rfl rfl rfl rfl <| WL.q (q_pick0 rfl rfl) rfl rfl rfl ?_
    cases hb_8
    exact WL.keep (by exact ⟨rfl, rfl, trivial⟩) K
  refine lq (q_move rfl) rfl ?_
  obtain ⟨b9, hb_9, h⟩ := bind_some h
  refine WL.cutN 4 [(69, .bool b9)] ?_ (fun K => ?_)
  rotate_left
  ·refine WL.split (d := 65) rfl (fun c13 => ?_) (fun c13 => ?_)
   ·replace hb_9 := ite_t hb_9 c13
    refine WL.yes rfl rfl <| lq (q_fieldAddr Fld_135_4 rfl) rfl <| WL.yes rfl rfl <| lq (q_load1 T1_9 rfl (fun w1 hw => hw.rgO (i := 0) rfl 4 1 [.string p0.Undo] rfl)) rfl <| WL.yes rfl rfl <| lq (q_seq rfl rfl) rfl <| WL.q (q_pick1 rfl rfl) rfl rfl rfl ?_
    cases hb_9
    exact WL.keep (by exact ⟨rfl, trivial⟩) K
   ·replace hb_9 := ite_f hb_9 c13
    refine WL.no rfl rfl rfl rfl <| WL.no rfl rfl rfl rfl <| WL.no rfl rfl rfl rfl <| WL.q (q_pick0 rfl rfl) rfl rfl rfl ?_
    cases hb_9
    exact WL.keep (by exact ⟨rfl, trivial⟩) K
  refine lq (q_assign rfl) rfl <| WL.nil ?_
  refine WT.ret Tryz.func74 (resOk.one rfl) (fun w1 hw => ?_)
  subst hb0
  cases h
  exact post_of_St hw
 replace h := ite_f h c11
 refine WT.seq <| WT.seq <| WT.region <| lq (q_eql rfl rfl) rfl <| lq (q_assign rfl) rfl <| WL.nil ?_
 refine cut (σ := Bool) (fun s => [(1, .pointer (some ⟨b_1, 0, none⟩)), (3, .bool b1), (70, .bool s)]) (fun s => St w0 Φ [(b_1, .cells #[.int .i64 p0.Kind, .string p0.Name, pv0_0, .int .i64 p0.N, .string p0.Undo] 135 (0, 0))] []) (fun s => m_i_ActOk_j1 N p0 b1 s = some r) (fun s hm => ?_) (fun K => ?_)
 ·clear h
  revert hm; revert s; intro s1 hm
  have h : m_i_ActOk_j1 N p0 b1 s1 = some r := hm
  show WT _ _ [(1, .pointer (some ⟨b_1, 0, none⟩)), (3, .bool b1), (70, .bool s1)] (St w0 Φ [(b_1, .cells #[.int .i64 p0.Kind, .string p0.Name, pv0_0, .int .i64 p0.N, .string p0.Undo] 135 (0, 0))] [])
  unfold m_i_ActOk_j1 at h
  refine WT.cond rfl (fun c14 => ?_) (fun c14 => ?_)
  ·replace h := ite_t h c14
   refine WT.seq <| WT.region <| lq (q_move rfl) rfl <| lq (q_move rfl) rfl ?_
   obtain ⟨b10, hb_10, h⟩ := bind_some h
   refine WL.cutN 4 [(78, .bool b10), (1, .pointer (some ⟨b_1, 0, none⟩))] ?_ (fun K => ?_)
   rotate_left
   ·refine WL.split (d := 74) rfl (fun c15 => ?_) (fun c15 => ?_)
    ·replace hb_10 := ite_t hb_10 c15
     refine WL.yes rfl rfl <| lq (q_fieldAddr Fld_135_3 rfl) rfl <| WL.yes rfl rfl <| lq (q_load1 T1_3 rfl (fun w1 hw => hw.rgO (i := 0) rfl 3 1 [.int .i64 p0.N] rfl)) rfl <| WL.yes rfl rfl <| lq (q_eql rfl rfl) rfl <| WL.q (q_pick1 rfl rfl) rfl rfl rfl ?_
     cases hb_10
     exact WL.keep (by exact ⟨rfl, rfl, trivial⟩) K
    ·replace hb_10 := ite_f hb_10 c15
     refine WL.no rfl rfl rfl rfl <| WL.no rfl rfl rfl rfl <| WL.no rfl rfl rfl rfl <| WL.q (q_pick0 rfl rfl) rfl rfl rfl ?_
     cases hb_10
     exact WL.keep (by exact ⟨rfl, rfl, trivial⟩) K
   refine lq (q_move rfl) rfl ?_
   obtain ⟨b11, hb_11, h⟩ := bind_some h
   refine WL.cutN 4 [(83, .bool b11)] ?_ (fun K => ?_)
   rotate_left
   ·refine WL.split (d := 79) rfl (fun c16 => ?_) (fun c16 => ?_)
    ·replace hb_11 := ite_t hb_11 c16
     refine WL.yes rfl rfl <| lq (q_fieldAddr Fld_135_4 rfl) rfl <| WL.yes rfl rfl <| lq (q_load1 T1_9 rfl (fun w1 hw => hw.rgO (i := 0) rfl 4 1 [.string p0.Undo] rfl)) rfl <| WL.yes rfl rfl <| lq (q_seq rfl rfl) rfl <| WL.q (q_pick1 rfl rfl) rfl rfl rfl ?_
     cases hb_11
     exact WL.keep (by exact ⟨rfl, trivial⟩) K
    ·replace hb_11 := ite_f hb_11 c16
     refine WL.no rfl rfl rfl rfl <| WL.no rfl rfl rfl rfl <| WL.no rfl rfl rfl rfl <| WL.q (q_pick0 rfl rfl) rfl rfl rfl ?_
     cases hb_11
     exact WL.keep (by exact ⟨rfl, trivial⟩) K
   refine lq (q_assign rfl) rfl <| WL.nil ?_
   refine WT.ret Tryz.func74 (resOk.one rfl) (fun w1 hw => ?_)
   subst hb0
   cases h
   exact post_of_St hw
  replace h := ite_f h c14
  refine WT.skip <| WT.inBlock <| WT.seq <| WT.region <| lq (q_assign rfl) rfl <| WL.nil ?_
  refine WT.ret Tryz.func74 (resOk.one rfl) (fun w1 hw => ?_)
  subst hb0
  cases h
  exact post_of_St hw
 refine WT.cond rfl (fun c17 => ?_) (fun c17 => ?_)
 ·replace h := ite_t h c17
  refine WT.skip <| WT.mono (l' := [(1, .pointer (some ⟨b_1, 0, none⟩)), (3, .bool b1), (70, .bool (decide (p0.Kind = 5)))]) (S' := St w0 Φ [(b_1, .cells #[.int .i64 p0.Kind, .string p0.Name, pv0_0, .int .i64 p0.N, .string p0.Undo] 135 (0, 0))] []) ⟨rfl, rfl, rfl, trivial⟩ (fun w1 hw => (hw.sel (js := []) rfl).selO (js := [0]) rfl) ?_
  exact K (decide (p0.Kind = 5)) h
 replace h := ite_f h c17
 refine WT.region <| lq (q_eql rfl rfl) rfl <| lq (q_assign rfl) rfl <| WL.nil <| WT.mono (l' := [(1, .pointer (some ⟨b_1, 0, none⟩)), (3, .bool b1), (70, .bool (decide (p0.Kind = 6)))]) (S' := St w0 Φ [(b_1, .cells #[.int .i64 p0.Kind, .string p0.Name, pv0_0, .int .i64 p0.N, .string p0.Undo] 135 (0, 0))] []) ⟨rfl, rfl, rfl, trivial⟩ (fun w1 hw => (hw.sel (js := []) rfl).selO (js := [0]) rfl) ?_
 exact K (decide (p0.Kind = 6)) h
theorem m_sl_Index_Sstring_string_ok {Φ : Hp} {w : World} (hΦ : In Φ w) (N : Nat) (p0 : (List ByteArray)) (p1 : ByteArray) {pv0 : Value} {pG0 : List Nat} (ph0 : RSl RS 1 Φ pG0 pv0 p0) {r : Int} (h : m_sl_Index_Sstring_string N p0 p1 = some r) :
  Calls Tryz.prog 145 [pv0, .string p1].toArray w (Post (.int .i64 r) w) := by
 refine enter Tryz.func145 rfl Tryz.ntmps145 rfl (St.start0 hΦ) ?_
 generalize hb0 : (⟨w, [], Φ⟩ : Base) = w0
 unfold m_sl_Index_Sstring_string at h
 refine WT.seq <| WT.region <| lq (q_assign rfl) rfl <| WL.nil <| WT.seq <| WT.seq <| WT.region <| lq (q_move rfl) rfl <| lq (q_lenR Sl_137 rfl rfl ph0) rfl <| lq (q_move rfl) rfl <| WL.nil <| WT.block <| WT.loop <| WT.mono (l' := [(0, pv0), (1, .string p1), (7, .int .i64 (p0.length : Int)), (8, .int .i64 0)]) (S' := St w0 Φ [] []) ⟨rfl, rfl, rfl, rfl, trivial⟩ (fun w1 hw => (hw.sel (js := []) rfl).selO (js := []) rfl) ?_
 refine loop_ind (σ := Int) (fun s => [(0, pv0), (1, .string p1), (7, .int .i64 (p0.length : Int)), (8, .int .i64 s)]) (fun s => St w0 Φ [] []) (fun m s => m_sl_Index_Sstring_string_l1 N p0 p1 m s = some r) (fun s hm => none_ne (show (none : Option (Int)) = some r from hm)) (fun n1 ih1 s hm => ?_) N (0) h
 revert hm; revert s; intro s1 hm
 have h : m_sl_Index_Sstring_string_l1 N p0 p1 (n1 + 1) s1 = some r := hm
 show WT _ _ [(0, pv0), (1, .string p1), (7, .int .i64 (p0.length : Int)), (8, .int .i64 s1)] (St w0 Φ [] [])
 unfold m_sl_Index_Sstring_string_l1 at h
 refine WT.seq <| WT.region <| lq (q_lss rfl rfl) rfl <| WL.nil <| WT.seq ?_
 refine WT.cond rfl (fun c1 => ?_) (fun c1 => ?_)
 ·replace h := ite_t h c1
  refine WT.skip <| WT.seq <| WT.block <| WT.seq <| WT.region <| lq (q_move rfl) rfl <| lq (q_assign rfl) rfl <| WL.nil <| WT.seq <| WT.region <| lq (q_move rfl) rfl <| lq (q_move rfl) rfl <| lq (q_move rfl) rfl ?_
  obtain ⟨x1, hx1, h⟩ := bind_some h
  obtain ⟨cs1, F1, -, g1, hb1, hs1, r1⟩ := ph0.el (idx_some hx1).2.2
  obtain ⟨rfl, -⟩ := r1
  refine lq (q_indexAddr Sl_137 rfl rfl ph0 hx1) rfl <| lq (q_load1 T1_9 rfl (fun w1 hw => (g1.of_eq 0 1 rfl rfl : rg _ _ _ [.string x1]).rangeAt hw.fro)) rfl <| lq (q_seq rfl rfl) rfl <| WL.nil ?_
  refine WT.cond rfl (fun c2 => ?_) (fun c2 => ?_)
  ·replace h := ite_t h c2
   refine WT.seq <| WT.region <| lq (q_move rfl) rfl <| lq (q_assign rfl) rfl <| WL.nil ?_
   refine WT.ret Tryz.func145 (resOk.one rfl) (fun w1 hw => ?_)
   subst hb0
   cases h
   exact post_of_St hw
  replace h := ite_f h c2
  refine WT.skip <| WT.inBlock <| WT.region <| lq (q_add rfl rfl) rfl <| lq (q_move rfl) rfl <| WL.nil ?_
  refine WT.inLoop (WT.mono (l' := [(0, pv0), (1, .string p1), (7, .int .i64 (p0.length : Int)), (8, .int .i64 (IntKind.i64.wrap (s1 + 1)))]) (S' := St w0 Φ [] []) ⟨rfl, rfl, rfl, rfl, trivial⟩ (fun w1 hw => (hw.sel (js := []) rfl).selO (js := []) rfl) ?_)
  exact ih1 (IntKind.i64.wrap (s1 + 1)) h
 replace h := ite_f h c1
 refine WT.exit rfl <| WT.seq <| WT.region <| lq (q_assign rfl) rfl <| WL.nil ?_
 refine WT.ret Tryz.func145 (resOk.one rfl) (fun w1 hw => ?_)
 subst hb0
 cases h
 exact post_of_St hw
theorem m_sl_Contains_Sstring_string_ok {Φ : Hp} {w : World} (hΦ : In Φ w) (N : Nat) (p0 : (List ByteArray)) (p1 : ByteArray) {pv0 : Value} {pG0 : List Nat} (ph0 : RSl RS 1 Φ pG0 pv0 p0) {r : Bool} (h : m_sl_Contains_Sstring_string N p0 p1 = some r) :
  Calls Tryz.prog 77 [pv0, .string p1].toArray w (Post (.bool r) w) := by
 refine enter Tryz.func77 rfl Tryz.ntmps77 rfl (St.start0 hΦ) ?_
 unfold m_sl_Contains_Sstring_string at h
 refine WT.seq <| WT.region <| lq (q_assign rfl) rfl <| WL.nil <| WT.seq <| WT.region <| lq (q_move rfl) rfl <| lq (q_move rfl) rfl ?_
 obtain ⟨x1, hx1, h⟩ := bind_some h
 refine lp (p_call Fun_145 rfl (fun w1 hw => m_sl_Index_Sstring_string_ok hw.fro N p0 p1 ph0 hx1)) rfl <| lq (q_geq rfl rfl) rfl <| lq (q_assign rfl) rfl <| WL.nil ?_
 refine WT.ret Tryz.func77 (resOk.one rfl) (fun w1 hw => ?_)
 cases h
 exact post_of_St hw
theorem m_i_addOnce_ok {Φ : Hp} {w : World} (hΦ : In Φ w) (N : Nat) (p0 : (List ByteArray)) (p1 : ByteArray) {pv0 : Value} (ph0 : OSl RS 9 1 Φ [] pv0 p0) (hB : [ob pv0].flatten.Nodup) (hlt : ∀ k ∈ [ob pv0].flatten, k < w.heap.size) {r : (List ByteArray)} (h : m_i_addOnce N p0 p1 = some r) :
  Calls Tryz.prog 199 [pv0, .string p1].toArray w (PostG Φ w [ob pv0].flatten (fun Φ' Fs v => ∃ (sr_0_0 : Value), v = sr_0_0 ∧ Fs = [ob sr_0_0] ∧ OSl RS 9 1 Φ' [] sr_0_0 r)) := by
 refine enter Tryz.func199 rfl Tryz.ntmps199 rfl (St.start hΦ [ob pv0] hB hlt) ?_
 unfold m_i_addOnce at h
 refine WT.seq <| WT.region <| lq (q_assign rfl) rfl <| WL.nil <| WT.seq <| WT.seq <| WT.region <| lq (q_move rfl) rfl <| lq (q_move rfl) rfl ?_
 obtain ⟨x1, hx1, h⟩ := bind_some h
 refine lp (p_call Fun_77 rfl (fun w1 hw => m_sl_Contains_Sstring_string_ok hw.fro N p0 p1 ph0.rsl hx1)) rfl <| WL.nil ?_
 refine WT.cond rfl (fun c1 => ?_) (fun c1 => ?_)
 ·replace h := ite_t h c1
  refine WT.seq <| WT.region <| lq (q_move rfl) rfl <| lq (q_assign rfl) rfl <| WL.nil ?_
  refine WT.ret Tryz.func199 (resOk.one rfl) (fun w1 hw => ?_)
  cases h
  refine postG_of_St (js := [0]) hw rfl ⟨pv0, rfl, rfl, ph0⟩
 replace h := ite_f h c1
 refine WT.skip <| WT.seq <| WT.region <| lq (q_move rfl) rfl <| lq (q_move rfl) rfl ?_
 have rc1 : RC RS 1 Φ ([[]] : List (List Nat)) [.string p1] ([p1] : List ByteArray) := RC.cons (c := [.string p1]) (cells := []) ⟨rfl, rfl⟩ rfl (RC.nil _ _ _)
 refine le' (e_lit (vs := [(0, .string p1)]) (C := #[.string p1]) RS.lasts Sl_137 Zr_9 rfl rfl rfl rfl (fill_made MC_9_1 (fill_cons (cells := [.string ⟨#[]⟩]) (c := [.string p1]) (C' := [.string p1]) rfl rfl rfl rfl rfl (fill_nil))) rfl rc1 rfl (by simpa using Kw.nil)) rfl (fun v1 Φ_1 D1 q1 => ?_)
 obtain ⟨fr1, h1⟩ := q1
 replace h1 : OSl RS 9 1 Φ_1 [] v1 ([p1] : List ByteArray) := by simpa using h1
 replace ph0 := ph0.frame RS.lasts fr1 (Dj.empty _) (Dj.empty _)
 obtain ⟨x2, hx2, h⟩ := bind_some h
 refine le' (e_appF RS.lasts RS.one RS.flat Sl_137 Ei_9 rfl rfl rfl rfl rfl (js := [1]) (Rr := [ob v1]) rfl ph0 h1.rsl hx2) rfl (fun v2 Φ_2 D2 q2 => ?_)
 obtain ⟨⟨ap1, fr2⟩, h2⟩ := q2
 refine lq (q_assign rfl) rfl <| WL.nil ?_
 refine WT.ret Tryz.func199 (resOk.one rfl) (fun w1 hw => ?_)
 cases h
 refine postG_of_St (js := [0]) hw rfl ⟨v2, rfl, rfl, h2⟩
theorem m_i_addVars_ok {Φ : Hp} {w : World} (hΦ : In Φ w) (N : Nat) (p0 : (List ByteArray)) (p1 : (List TArg)) {pv0 : Value} {pv1 : Value} {pG1 : List Nat} (ph0 : OSl RS 9 1 Φ [] pv0 p0) (ph1 : RSl RTArg 5 Φ pG1 pv1 p1) (pd1 : Dj pG1 [ob pv0].flatten) (hB : [ob pv0].flatten.Nodup) (hlt : ∀ k ∈ [ob pv0].flatten, k < w.heap.size) {r : (List ByteArray)} (h : m_i_addVars N p0 p1 = some r) :
  Calls Tryz.prog 144 [pv0, pv1].toArray w (PostG Φ w [ob pv0].flatten (fun Φ' Fs v => ∃ (sr_0_0 : Value), v = sr_0_0 ∧ Fs = [ob sr_0_0] ∧ OSl RS 9 1 Φ' [] sr_0_0 r)) := by
 refine enter Tryz.func144 rfl Tryz.ntmps144 rfl (St.start hΦ [ob pv0] hB hlt) ?_
 have pa1 : Old ⟨w, [ob pv0].flatten, Φ⟩ pG1 := Old.mk hΦ ph1.kn pd1
 revert pa1
 generalize hb0 : (⟨w, [ob pv0].flatten, Φ⟩ : Base) = w0
 intro pa1
 unfold m_i_addVars at h
 refine WT.seq <| WT.region <| lq (q_assign rfl) rfl <| WL.nil <| WT.seq <| WT.seq <| WT.region <| lq (q_move rfl) rfl <| lq (q_lenR Sl_112 rfl rfl ph1) rfl <| lq (q_move rfl) rfl <| WL.nil <| WT.block <| WT.loop <| WT.mono (l' := [(0, pv0), (7, pv1), (8, .int .i64 (p1.length : Int)), (9, .int .i64 0)]) (S' := St w0 Φ [] [ob pv0]) ⟨rfl, rfl, rfl, rfl, trivial⟩ (fun w1 hw => (hw.sel (js := [0]) rfl).selO (js := []) rfl) ?_
 refine loop_ind (σ := Hp × (List ByteArray) × Value × Int) (fun s => [(0, s.2.2.1), (7, pv1), (8, .int .i64 (p1.length : Int)), (9, .int .i64 s.2.2.2)]) (fun s => St w0 s.1 [] [ob s.2.2.1]) (fun m s => m_i_addVars_l1 N p1 m s.2.1 s.2.2.2 = some r ∧ (OSl RS 9 1 s.1 [] s.2.2.1 s.2.1) ∧ (RSl RTArg 5 s.1 pG1 pv1 p1)) (fun s hm => none_ne (show (none : Option ((List ByteArray))) = some r from hm.1)) (fun n1 ih1 s hm => ?_) N (Φ, p0, pv0, 0) ⟨h, ph0, ph1⟩
 obtain ⟨Φ_1, s1, u1, s2⟩ := s
 obtain ⟨h, k1, ph1⟩ := hm
 replace h : m_i_addVars_l1 N p1 (n1 + 1) s1 s2 = some r := h
 replace k1 : OSl RS 9 1 Φ_1 [] u1 s1 := k1
 replace ph1 : RSl RTArg 5 Φ_1 pG1 pv1 p1 := ph1
 show WT _ _ [(0, u1), (7, pv1), (8, .int .i64 (p1.length : Int)), (9, .int .i64 s2)] (St w0 Φ_1 [] [ob u1])
 unfold m_i_addVars_l1 at h
 refine WT.seq <| WT.region <| lq (q_lss rfl rfl) rfl <| WL.nil <| WT.seq ?_
 refine WT.cond rfl (fun c1 => ?_) (fun c1 => ?_)
 ·replace h := ite_t h c1
  refine WT.skip <| WT.seq <| WT.block <| WT.seq <| WT.region ?_
  obtain ⟨x1, hx1, h⟩ := bind_some h
  obtain ⟨cs1, F1, -, g1, hb1, hs1, r1⟩ := ph1.el (idx_some hx1).2.2
  obtain ⟨rfl, -⟩ := r1
  refine lq (q_indexAddr Sl_112 rfl rfl ph1 hx1) rfl <| lq (q_loadN Tn_126 rfl (fun w1 hw => (g1.of_eq 0 5 rfl rfl : rg _ _ _ [.int .i64 x1.K, .string x1.S, .int .i64 x1.V.K, .int .i64 x1.V.N, .string x1.V.S]).rangeAt hw.fro) rfl) rfl ?_
  refine ln (n_alloc (C := #[.int .i64 0, .string (⟨#[]⟩ : ByteArray), .int .i64 0, .int .i64 0, .string (⟨#[]⟩ : ByteArray)]) Zr_126 rfl) rfl (fun b_1 => ?_)
  refine ls (s_store (i := 0) (vs := [.int .i64 x1.K, .string x1.S, .int .i64 x1.V.K, .int .i64 x1.V.N, .string x1.V.S]) (C' := [.int .i64 x1.K, .string x1.S, .int .i64 x1.V.K, .int .i64 x1.V.N, .string x1.V.S]) (O' := [(b_1, .cells #[.int .i64 x1.K, .string x1.S, .int .i64 x1.V.K, .int .i64 x1.V.N, .string x1.V.S] 126 (0, 0))]) Sz_126 rfl rfl rfl rfl rfl rfl ⟨rfl, rfl, rfl, rfl, rfl, trivial⟩ rfl rfl) rfl ?_
  refine WL.nil <| WT.seq <| WT.region <| lq (q_fieldAddr Fld_126_0 rfl) rfl <| lq (q_load1 T1_3 rfl (fun w1 hw => hw.rgO (i := 0) rfl 0 1 [.int .i64 x1.K] rfl)) rfl <| lq (q_eql rfl rfl) rfl <| WL.nil ?_
  refine WT.cond rfl (fun c2 => ?_) (fun c2 => ?_)
  ·replace h := ite_t h c2
   refine WT.region <| lq (q_move rfl) rfl <| lq (q_fieldAddr Fld_126_1 rfl) rfl <| lq (q_load1 T1_9 rfl (fun w1 hw => hw.rgO (i := 0) rfl 1 1 [.string x1.S] rfl)) rfl ?_
   obtain ⟨x2, hx2, h⟩ := bind_some h
   refine lc (k_call (js := [0]) (R := []) Fun_199 rfl rfl (fun w1 hw ap hl => m_i_addOnce_ok hw.fro N s1 x1.S k1 ap.nd hl hx2)) rfl (fun v1 Φ_2 F2 q1 => ?_)
   obtain ⟨ap1, fr1, v2, rfl, rfl, h1⟩ := q1
   replace ph1 := ph1.frame RTArg.lasts fr1 (ap1.o pa1)
   refine lq (q_assign rfl) rfl <| WL.nil <| WT.inBlock <| WT.region <| lq (q_add rfl rfl) rfl <| lq (q_move rfl) rfl <| WL.nil ?_
   refine WT.inLoop (WT.mono (l' := [(0, v1), (7, pv1), (8, .int .i64 (p1.length : Int)), (9, .int .i64 (IntKind.i64.wrap (s2 + 1)))]) (S' := St w0 Φ_2 [] [ob v1]) ⟨rfl, rfl, rfl, rfl, trivial⟩ (fun w1 hw => (hw.sel (js := [0]) rfl).selO (js := []) rfl) ?_)
   exact ih1 (Φ_2, x2, v1, IntKind.i64.wrap (s2 + 1)) ⟨h, h1, ph1⟩
  replace h := ite_f h c2
  refine WT.skip <| WT.inBlock <| WT.region <| lq (q_add rfl rfl) rfl <| lq (q_move rfl) rfl <| WL.nil ?_
  refine WT.inLoop (WT.mono (l' := [(0, u1), (7, pv1), (8, .int .i64 (p1.length : Int)), (9, .int .i64 (IntKind.i64.wrap (s2 + 1)))]) (S' := St w0 Φ_1 [] [ob u1]) ⟨rfl, rfl, rfl, rfl, trivial⟩ (fun w1 hw => (hw.sel (js := [0]) rfl).selO (js := []) rfl) ?_)
  exact ih1 (Φ_1, s1, u1, IntKind.i64.wrap (s2 + 1)) ⟨h, k1, ph1⟩
 replace h := ite_f h c1
 refine WT.exit rfl <| WT.seq <| WT.region <| lq (q_move rfl) rfl <| lq (q_assign rfl) rfl <| WL.nil ?_
 refine WT.ret Tryz.func144 (resOk.one rfl) (fun w1 hw => ?_)
 subst hb0
 cases h
 refine postG_of_St (js := [0]) hw rfl ⟨u1, rfl, rfl, k1⟩
theorem m_i_PosVars_ok {Φ : Hp} {w : World} (hΦ : In Φ w) (N : Nat) (p0 : TRule) {pv0_0 : Value} {pG0_0 : List Nat} {pv0_1 : Value} {pG0_1 : List Nat} {pv0_2 : Value} {pG0_2 : List Nat} (ph0_0 : RSl RTPat 3 Φ pG0_0 pv0_0 p0.Pats) (ph0_1 : RSl RTCond 11 Φ pG0_1 pv0_1 p0.Conds) (ph0_2 : RSl RTAct 5 Φ pG0_2 pv0_2 p0.Acts) {r : (List ByteArray)} (h : m_i_PosVars N p0 = some r) :
  Calls Tryz.prog 75 [.agg [.string p0.Name, .int .i64 p0.Sal, pv0_0, pv0_1, pv0_2].toArray].toArray w (PostG Φ w [] (fun Φ' Fs v => ∃ (sr_0_0 : Value), v = sr_0_0 ∧ Fs = [ob sr_0_0] ∧ OSl RS 9 1 Φ' [] sr_0_0 r)) := by
 refine enter Tryz.func75 rfl Tryz.ntmps75 rfl (St.start0 hΦ) ?_
 have pa0_0 : Old ⟨w, [], Φ⟩ pG0_0 := Old.mk hΦ ph0_0.kn (Dj.empty _)
 revert pa0_0
 generalize hb0 : (⟨w, [], Φ⟩ : Base) = w0
 intro pa0_0
 unfold m_i_PosVars at h
 refine WT.seq <| WT.region ?_
 refine ln (n_box (C := #[.string p0.Name, .int .i64 p0.Sal, pv0_0, pv0_1, pv0_2]) rfl rfl) rfl (fun b_1 => ?_)
 refine lq (q_assign rfl) rfl <| WL.nil <| WT.seq <| WT.region <| lq (q_assign rfl) rfl <| WL.nil <| WT.seq <| WT.seq <| WT.region <| lq (q_fieldAddr Fld_49_2 rfl) rfl <| lq (q_load1 T1_45 rfl (fun w1 hw => hw.rgO (i := 0) rfl 2 1 [pv0_0] rfl)) rfl <| lq (q_lenR Sl_45 rfl rfl ph0_0) rfl <| lq (q_move rfl) rfl <| WL.nil <| WT.block <| WT.loop <| WT.conv (S' := St w0 Φ [(b_1, .cells #[.string p0.Name, .int .i64 p0.Sal, pv0_0, pv0_1, pv0_2] 49 (0, 0))] (ob (.slice none 0 0) :: [])) (fun w1 hw => hw.addNil) ?_
 have k1 := OSl.nil RS 9 1 Φ
 refine WT.mono (l' := [(3, (.slice none 0 0)), (7, pv0_0), (8, .int .i64 (p0.Pats.length : Int)), (9, .int .i64 0)]) (S' := St w0 Φ [] [ob (.slice none 0 0)]) ⟨rfl, rfl, rfl, rfl, trivial⟩ (fun w1 hw => (hw.sel (js := [0]) rfl).selO (js := []) rfl) ?_
 refine loop_ind (σ := Hp × (List ByteArray) × Value × Int) (fun s => [(3, s.2.2.1), (7, pv0_0), (8, .int .i64 (p0.Pats.length : Int)), (9, .int .i64 s.2.2.2)]) (fun s => St w0 s.1 [] [ob s.2.2.1]) (fun m s => m_i_PosVars_l1 N p0 m s.2.1 s.2.2.2 = some r ∧ (OSl RS 9 1 s.1 [] s.2.2.1 s.2.1) ∧ (RSl RTPat 3 s.1 pG0_0 pv0_0 p0.Pats)) (fun s hm => none_ne (show (none : Option ((List ByteArray))) = some r from hm.1)) (fun n1 ih1 s hm => ?_) N (Φ, ([] : List ByteArray), (.slice none 0 0), 0) ⟨h, k1, ph0_0⟩
 obtain ⟨Φ_1, s1, u1, s2⟩ := s
 obtain ⟨h, k2, ph0_0⟩ := hm
 replace h : m_i_PosVars_l1 N p0 (n1 + 1) s1 s2 = some r := h
 replace k2 : OSl RS 9 1 Φ_1 [] u1 s1 := k2
 replace ph0_0 : RSl RTPat 3 Φ_1 pG0_0 pv0_0 p0.Pats := ph0_0
 show WT _ _ [(3, u1), (7, pv0_0), (8, .int .i64 (p0.Pats.length : Int)), (9, .int .i64 s2)] (St w0 Φ_1 [] [ob u1])
 unfold m_i_PosVars_l1 at h
 refine WT.seq <| WT.region <| lq (q_lss rfl rfl) rfl <| WL.nil <| WT.seq ?_
 refine WT.cond rfl (fun c1 => ?_) (fun c1 => ?_)
 ·replace h := ite_t h c1
  refine WT.skip <| WT.seq <| WT.block <| WT.seq <| WT.region ?_
  obtain ⟨x1, hx1, h⟩ := bind_some h
  obtain ⟨cs1, F1, -, g1, hb1, hs1, r1⟩ := ph0_0.el (idx_some hx1).2.2
  obtain ⟨v1, G1, rfl, hq1, h1⟩ := r1
  obtain rfl := hq1.symm
  refine lq (q_indexAddr Sl_45 rfl rfl ph0_0 hx1) rfl <| lq (q_loadN Tn_114 rfl (fun w1 hw => (g1.of_eq 0 3 rfl rfl : rg _ _ _ [.string x1.Kind, v1, .bool x1.Not]).rangeAt hw.fro) rfl) rfl ?_
  refine ln (n_alloc (C := #[.string (⟨#[]⟩ : ByteArray), .slice none 0 0, .bool false]) Zr_114 rfl) rfl (fun b_2 => ?_)
  refine ls (s_store (i := 0) (vs := [.string x1.Kind, v1, .bool x1.Not]) (C' := [.string x1.Kind, v1, .bool x1.Not]) (O' := [(b_2, .cells #[.string x1.Kind, v1, .bool x1.Not] 114 (0, 0))]) Sz_114 rfl rfl rfl rfl rfl rfl ⟨rfl, h1.one, rfl, trivial⟩ rfl rfl) rfl <| WL.nil <| WT.seq <| WT.region <| lq (q_fieldAddr Fld_114_2 rfl) rfl <| lq (q_load1 T1_4 rfl (fun w1 hw => hw.rgO (i := 0) rfl 2 1 [.bool x1.Not] rfl)) rfl <| lq (q_not rfl) rfl ?_
  refine WL.nil ?_
  refine WT.cond rfl (fun c2 => ?_) (fun c2 => ?_)
  ·replace h := ite_t h c2
   refine WT.region <| lq (q_move rfl) rfl <| lq (q_fieldAddr Fld_114_1 rfl) rfl <| lq (q_load1 T1_112 rfl (fun w1 hw => hw.rgO (i := 0) rfl 1 1 [v1] rfl)) rfl ?_
   obtain ⟨x2, hx2, h⟩ := bind_some h
   refine lc (k_call (js := [0]) (R := []) Fun_144 rfl rfl (fun w1 hw ap hl => m_i_addVars_ok hw.fro N s1 x1.Args k2 h1 (Dj.sub (ap.o pa0_0) (fun k h => hs1 k h)) ap.nd hl hx2)) rfl (fun v2 Φ_2 F2 q1 => ?_)
   obtain ⟨ap1, fr1, v3, rfl, rfl, h2⟩ := q1
   replace ph0_0 := ph0_0.frame RTPat.lasts fr1 (ap1.o pa0_0)
   refine lq (q_assign rfl) rfl <| WL.nil <| WT.inBlock <| WT.region <| lq (q_add rfl rfl) rfl <| lq (q_move rfl) rfl <| WL.nil ?_
   refine WT.inLoop (WT.mono (l' := [(3, v2), (7, pv0_0), (8, .int .i64 (p0.Pats.length : Int)), (9, .int .i64 (IntKind.i64.wrap (s2 + 1)))]) (S' := St w0 Φ_2 [] [ob v2]) ⟨rfl, rfl, rfl, rfl, trivial⟩ (fun w1 hw => (hw.sel (js := [0]) rfl).selO (js := []) rfl) ?_)
   exact ih1 (Φ_2, x2, v2, IntKind.i64.wrap (s2 + 1)) ⟨h, h2, ph0_0⟩
  replace h := ite_f h c2
  refine WT.skip <| WT.inBlock <| WT.region <| lq (q_add rfl rfl) rfl <| lq (q_move rfl) rfl <| WL.nil ?_
  refine WT.inLoop (WT.mono (l' := [(3, u1), (7, pv0_0), (8, .int .i64 (p0.Pats.length : Int)), (9, .int .i64 (IntKind.i64.wrap (s2 + 1)))]) (S' := St w0 Φ_1 [] [ob u1]) ⟨rfl, rfl, rfl, rfl, trivial⟩ (fun w1 hw => (hw.sel (js := [0]) rfl).selO (js := []) rfl) ?_)
  exact ih1 (Φ_1, s1, u1, IntKind.i64.wrap (s2 + 1)) ⟨h, k2, ph0_0⟩
 replace h := ite_f h c1
 refine WT.exit rfl <| WT.seq <| WT.region <| lq (q_move rfl) rfl <| lq (q_assign rfl) rfl <| WL.nil ?_
 refine WT.ret Tryz.func75 (resOk.one rfl) (fun w1 hw => ?_)
 subst hb0
 cases h
 refine postG_of_St (js := [0]) hw rfl ⟨u1, rfl, rfl, k2⟩
theorem m_i_usedVars_ok {Φ : Hp} {w : World} (hΦ : In Φ w) (N : Nat) (p0 : TRule) {pv0_0 : Value} {pG0_0 : List Nat} {pv0_1 : Value} {pG0_1 : List Nat} {pv0_2 : Value} {pG0_2 : List Nat} (ph0_0 : RSl RTPat 3 Φ pG0_0 pv0_0 p0.Pats) (ph0_1 : RSl RTCond 11 Φ pG0_1 pv0_1 p0.Conds) (ph0_2 : RSl RTAct 5 Φ pG0_2 pv0_2 p0.Acts) {r : (List ByteArray)} (h : m_i_usedVars N p0 = some r) :
  Calls Tryz.prog 76 [.agg [.string p0.Name, .int .i64 p0.Sal, pv0_0, pv0_1, pv0_2].toArray].toArray w (PostG Φ w [] (fun Φ' Fs v => ∃ (sr_0_0 : Value), v = sr_0_0 ∧ Fs = [ob sr_0_0] ∧ OSl RS 9 1 Φ' [] sr_0_0 r)) := by
 refine enter Tryz.func76 rfl Tryz.ntmps76 rfl (St.start0 hΦ) ?_
 have pa0_0 : Old ⟨w, [], Φ⟩ pG0_0 := Old.mk hΦ ph0_0.kn (Dj.empty _)
 have pa0_1 : Old ⟨w, [], Φ⟩ pG0_1 := Old.mk hΦ ph0_1.kn (Dj.empty _)
 have pa0_2 : Old ⟨w, [], Φ⟩ pG0_2 := Old.mk hΦ ph0_2.kn (Dj.empty _)
 revert pa0_0 pa0_1 pa0_2
 generalize hb0 : (⟨w, [], Φ⟩ : Base) = w0
 intro pa0_0 pa0_1 pa0_2
 unfold m_i_usedVars at h
 refine WT.seq <| WT.region ?_
 refine ln (n_box (C := #[.string p0.Name, .int .i64 p0.Sal, pv0_0, pv0_1, pv0_2]) rfl rfl) rfl (fun b_1 => ?_)
 refine lq (q_assign rfl) rfl <| WL.nil <| WT.seq <| WT.region <| lq (q_assign rfl) rfl <| WL.nil <| WT.seq <| WT.seq <| WT.region <| lq (q_fieldAddr Fld_49_3 rfl) rfl <| lq (q_load1 T1_46 rfl (fun w1 hw => hw.rgO (i := 0) rfl 3 1 [pv0_1] rfl)) rfl <| lq (q_lenR Sl_46 rfl rfl ph0_1) rfl <| lq (q_move rfl) rfl <| WL.nil <| WT.block <| WT.loop <| WT.conv (S' := St w0 Φ [(b_1, .cells #[.string p0.Name, .int .i64 p0.Sal, pv0_0, pv0_1, pv0_2] 49 (0, 0))] (ob (.slice none 0 0) :: [])) (fun w1 hw => hw.addNil) ?_
 have k1 := OSl.nil RS 9 1 Φ
 refine WT.mono (l' := [(1, .pointer (some ⟨b_1, 0, none⟩)), (3, (.slice none 0 0)), (11, pv0_1), (12, .int .i64 (p0.Conds.length : Int)), (13, .int .i64 0)]) (S' := St w0 Φ [(b_1, .cells #[.string p0.Name, .int .i64 p0.Sal, pv0_0, pv0_1, pv0_2] 49 (0, 0))] [ob (.slice none 0 0)]) ⟨rfl, rfl, rfl, rfl, rfl, trivial⟩ (fun w1 hw => (hw.sel (js := [0]) rfl).selO (js := [0]) rfl) ?_
 refine loop_ind (σ := Hp × (List ByteArray) × Value × Int) (fun s => [(1, .pointer (some ⟨b_1, 0, none⟩)), (3, s.2.2.1), (11, pv0_1), (12, .int .i64 (p0.Conds.length : Int)), (13, .int .i64 s.2.2.2)]) (fun s => St w0 s.1 [(b_1, .cells #[.string p0.Name, .int .i64 p0.Sal, pv0_0, pv0_1, pv0_2] 49 (0, 0))] [ob s.2.2.1]) (fun m s => m_i_usedVars_l1 N p0 m s.2.1 s.2.2.2 = some r ∧ (OSl RS 9 1 s.1 [] s.2.2.1 s.2.1) ∧ (RSl RTPat 3 s.1 pG0_0 pv0_0 p0.Pats) ∧ (RSl RTCond 11 s.1 pG0_1 pv0_1 p0.Conds) ∧ (RSl RTAct 5 s.1 pG0_2 pv0_2 p0.Acts)) (fun s hm => none_ne (show (none : Option ((List ByteArray))) = some r from hm.1)) (fun n1 ih1 s hm => ?_) N (Φ, ([] : List ByteArray), (.slice none 0 0), 0) ⟨h, k1, ph0_0, ph0_1, ph0_2⟩
 obtain ⟨Φ_1, s1, u1, s2⟩ := s
 obtain ⟨h, k2, ph0_0, ph0_1, ph0_2⟩ := hm
 replace h : m_i_usedVars_l1 N p0 (n1 + 1) s1 s2 = some r := h
 replace k2 : OSl RS 9 1 Φ_1 [] u1 s1 := k2
 replace ph0_0 : RSl RTPat 3 Φ_1 pG0_0 pv0_0 p0.Pats := ph0_0
 replace ph0_1 : RSl RTCond 11 Φ_1 pG0_1 pv0_1 p0.Conds := ph0_1
 replace ph0_2 : RSl RTAct 5 Φ_1 pG0_2 pv0_2 p0.Acts := ph0_2
 show WT _ _ [(1, .pointer (some ⟨b_1, 0, none⟩)), (3, u1), (11, pv0_1), (12, .int .i64 (p0.Conds.length : Int)), (13, .int .i64 s2)] (St w0 Φ_1 [(b_1, .cells #[.string p0.Name, .int .i64 p0.Sal, pv0_0, pv0_1, pv0_2] 49 (0, 0))] [ob u1])
 unfold m_i_usedVars_l1 at h
 refine WT.seq <| WT.region <| lq (q_lss rfl rfl) rfl <| WL.nil <| WT.seq ?_
 refine WT.cond rfl (fun c1 => ?_) (fun c1 => ?_)
 ·replace h := ite_t h c1
  refine WT.skip <| WT.seq <| WT.block <| WT.seq <| WT.region ?_
  obtain ⟨x1, hx1, h⟩ := bind_some h
  obtain ⟨cs1, F1, -, g1, hb1, hs1, r1⟩ := ph0_1.el (idx_some hx1).2.2
  obtain ⟨rfl, -⟩ := r1
  refine lq (q_indexAddr Sl_46 rfl rfl ph0_1 hx1) rfl <| lq (q_loadN Tn_128 rfl (fun w1 hw => (g1.of_eq 0 11 rfl rfl : rg _ _ _ [.int .i64 x1.Op, .int .i64 x1.L.K, .string x1.L.S, .int .i64 x1.L.V.K, .int .i64 x1.L.V.N, .string x1.L.V.S, .int .i64 x1.R.K, .string x1.R.S, .int .i64 x1.R.V.K, .int .i64 x1.R.V.N, .string x1.R.V.S]).rangeAt hw.fro) rfl) rfl ?_
  refine ln (n_alloc (C := #[.int .i64 0, .int .i64 0, .string (⟨#[]⟩ : ByteArray), .int .i64 0, .int .i64 0, .string (⟨#[]⟩ : ByteArray), .int .i64 0, .string (⟨#[]⟩ : ByteArray), .int .i64 0, .int .i64 0, .string (⟨#[]⟩ : ByteArray)]) Zr_128 rfl) rfl (fun b_2 => ?_)
  refine ls (s_store (i := 0) (vs := [.int .i64 x1.Op, .int .i64 x1.L.K, .string x1.L.S, .int .i64 x1.L.V.K, .int .i64 x1.L.V.N, .string x1.L.V.S, .int .i64 x1.R.K, .string x1.R.S, .int .i64 x1.R.V.K, .int .i64 x1.R.V.N, .string x1.R.V.S]) (C' := [.int .i64 x1.Op, .int .i64 x1.L.K, .string x1.L.S, .int .i64 x1.L.V.K, .int .i64 x1.L.V.N, .string x1.L.V.S, .int .i64 x1.R.K, .string x1.R.S, .int .i64 x1.R.V.K, .int .i64 x1.R.V.N, .string x1.R.V.S]) (O' := [(b_2, .cells #[.int .i64 x1.Op, .int .i64 x1.L.K, .string x1.L.S, .int .i64 x1.L.V.K, .int .i64 x1.L.V.N, .string x1.L.V.S, .int .i64 x1.R.K, .string x1.R.S, .int .i64 x1.R.V.K, .int .i64 x1.R.V.N, .string x1.R.V.S] 128 (0, 0)), (b_1, .cells #[.string p0.Name, .int .i64 p0.Sal, pv0_0, pv0_1, pv0_2] 49 (0, 0))]) Sz_128 rfl rfl rfl rfl rfl rfl ⟨rfl, rfl, rfl, rfl, rfl, rfl, rfl, rfl, rfl, rfl, rfl, trivial⟩ rfl rfl) rfl ?_
  refine WL.nil <| WT.region <| lq (q_move rfl) rfl <| lq (q_fieldAddr Fld_128_1 rfl) rfl <| lq (q_loadN Tn_126 rfl (fun w1 hw => hw.rgO (i := 0) rfl 1 5 [.int .i64 x1.L.K, .string x1.L.S, .int .i64 x1.L.V.K, .int .i64 x1.L.V.N, .string x1.L.V.S] rfl) rfl) rfl <| lq (q_fieldAddr Fld_128_2 rfl) rfl <| lq (q_loadN Tn_126 rfl (fun w1 hw => hw.rgO (i := 0) rfl 6 5 [.int .i64 x1.R.K, .string x1.R.S, .int .i64 x1.R.V.K, .int .i64 x1.R.V.N, .string x1.R.V.S] rfl) rfl) rfl ?_
  have rc1 : RC RTArg 5 Φ_1 ([[], []] : List (List Nat)) [.int .i64 x1.L.K, .string x1.L.S, .int .i64 x1.L.V.K, .int .i64 x1.L.V.N, .string x1.L.V.S, .int .i64 x1.R.K, .string x1.R.S, .int .i64 x1.R.V.K, .int .i64 x1.R.V.N, .string x1.R.V.S] ([x1.L, x1.R] : List TArg) := RC.cons (c := [.int .i64 x1.L.K, .string x1.L.S, .int .i64 x1.L.V.K, .int .i64 x1.L.V.N, .string x1.L.V.S]) (cells := [.int .i64 x1.R.K, .string x1.R.S, .int .i64 x1.R.V.K, .int .i64 x1.R.V.N, .string x1.R.V.S]) ⟨rfl, rfl⟩ rfl (RC.cons (c := [.int .i64 x1.R.K, .string x1.R.S, .int .i64 x1.R.V.K, .int .i64 x1.R.V.N, .string x1.R.V.S]) (cells := []) ⟨rfl, rfl⟩ rfl (RC.nil _ _ _))
  refine le' (e_lit (vs := [(0, .agg [.int .i64 x1.L.K, .string x1.L.S, .int .i64 x1.L.V.K, .int .i64 x1.L.V.N, .string x1.L.V.S].toArray), (1, .agg [.int .i64 x1.R.K, .string x1.R.S, .int .i64 x1.R.V.K, .int .i64 x1.R.V.N, .string x1.R.V.S].toArray)]) (C := #[.int .i64 x1.L.K, .string x1.L.S, .int .i64 x1.L.V.K, .int .i64 x1.L.V.N, .string x1.L.V.S, .int .i64 x1.R.K, .string x1.R.S, .int .i64 x1.R.V.K, .int .i64 x1.R.V.N, .string x1.R.V.S]) RTArg.lasts Sl_112 Zr_126 rfl rfl rfl rfl (fill_made MC_126_2 (fill_cons (cells := [.int .i64 0, .string ⟨#[]⟩, .int .i64 0, .int .i64 0, .string ⟨#[]⟩, .int .i64 0, .string ⟨#[]⟩, .int .i64 0, .int .i64 0, .string ⟨#[]⟩]) (c := [.int .i64 x1.L.K, .string x1.L.S, .int .i64 x1.L.V.K, .int .i64 x1.L.V.N, .string x1.L.V.S]) (C' := [.int .i64 x1.L.K, .string x1.L.S, .int .i64 x1.L.V.K, .int .i64 x1.L.V.N, .string x1.L.V.S, .int .i64 0, .string ⟨#[]⟩, .int .i64 0, .int .i64 0, .string ⟨#[]⟩]) rfl rfl rfl rfl rfl (fill_cons (cells := [.int .i64 x1.L.K, .string x1.L.S, .int .i64 x1.L.V.K, .int .i64 x1.L.V.N, .string x1.L.V.S, .int .i64 0, .string ⟨#[]⟩, .int .i64 0, .int .i64 0, .string ⟨#[]⟩]) (c := [.int .i64 x1.R.K, .string x1.R.S, .int .i64 x1.R.V.K, .int .i64 x1.R.V.N, .string x1.R.V.S]) (C' := [.int .i64 x1.L.K, .string x1.L.S, .int .i64 x1.L.V.K, .int .i64 x1.L.V.N, .string x1.L.V.S, .int .i64 x1.R.K, .string x1.R.S, .int .i64 x1.R.V.K, .int .i64 x1.R.V.N, .string x1.R.V.S]) rfl rfl rfl rfl rfl (fill_nil)))) rfl rc1 rfl (by simpa using Kw.nil)) rfl (fun v1 Φ_2 D1 q1 => ?_)
  obtain ⟨fr1, h1⟩ := q1
  replace h1 : OSl RTArg 126 5 Φ_2 [] v1 ([x1.L, x1.R] : List TArg) := by simpa using h1
  replace ph0_0 := ph0_0.frame RTPat.lasts fr1 (Dj.empty _)
  replace ph0_1 := ph0_1.frame RTCond.lasts fr1 (Dj.empty _)
  replace ph0_2 := ph0_2.frame RTAct.lasts fr1 (Dj.empty _)
  replace k2 := k2.frame RS.lasts fr1 (Dj.empty _) (Dj.empty _)
  obtain ⟨x2, hx2, h⟩ := bind_some h
  refine lc (k_call (js := [1]) (R := [ob v1]) Fun_144 rfl rfl (fun w1 hw ap hl => m_i_addVars_ok hw.fro N s1 ([x1.L, x1.R] : List TArg) k2 h1.rsl (Dj.app (ap.r (i := 0) rfl) (Dj.nil _)) ap.nd hl hx2)) rfl (fun v2 Φ_3 F2 q2 => ?_)
  obtain ⟨ap1, fr2, v3, rfl, rfl, h2⟩ := q2
  replace ph0_0 := ph0_0.frame RTPat.lasts fr2 (ap1.o pa0_0)
  replace ph0_1 := ph0_1.frame RTCond.lasts fr2 (ap1.o pa0_1)
  replace ph0_2 := ph0_2.frame RTAct.lasts fr2 (ap1.o pa0_2)
  refine lq (q_assign rfl) rfl <| WL.nil <| WT.inBlock <| WT.region <| lq (q_add rfl rfl) rfl <| lq (q_move rfl) rfl <| WL.nil ?_
  refine WT.inLoop (WT.mono (l' := [(1, .pointer (some ⟨b_1, 0, none⟩)), (3, v2), (11, pv0_1), (12, .int .i64 (p0.Conds.length : Int)), (13, .int .i64 (IntKind.i64.wrap (s2 + 1)))]) (S' := St w0 Φ_3 [(b_1, .cells #[.string p0.Name, .int .i64 p0.Sal, pv0_0, pv0_1, pv0_2] 49 (0, 0))] [ob v2]) ⟨rfl, rfl, rfl, rfl, rfl, trivial⟩ (fun w1 hw => (hw.sel (js := [0]) rfl).selO (js := [1]) rfl) ?_)
  exact ih1 (Φ_3, x2, v2, IntKind.i64.wrap (s2 + 1)) ⟨h, h2, ph0_0, ph0_1, ph0_2⟩
 replace h := ite_f h c1
 refine WT.exit rfl <| WT.seq <| WT.seq <| WT.region <| lq (q_fieldAddr Fld_49_4 rfl) rfl <| lq (q_load1 T1_47 rfl (fun w1 hw => hw.rgO (i := 0) rfl 4 1 [pv0_2] rfl)) rfl <| lq (q_lenR Sl_47 rfl rfl ph0_2) rfl <| lq (q_move rfl) rfl <| WL.nil <| WT.block <| WT.loop <| WT.mono (l' := [(3, u1), (26, pv0_2), (27, .int .i64 (p0.Acts.length : Int)), (28, .int .i64 0)]) (S' := St w0 Φ_1 [] [ob u1]) ⟨rfl, rfl, rfl, rfl, trivial⟩ (fun w1 hw => (hw.sel (js := [0]) rfl).selO (js := []) rfl) ?_
 refine loop_ind (σ := Hp × (List ByteArray) × Value × Int) (fun s => [(3, s.2.2.1), (26, pv0_2), (27, .int .i64 (p0.Acts.length : Int)), (28, .int .i64 s.2.2.2)]) (fun s => St w0 s.1 [] [ob s.2.2.1]) (fun m s => m_i_usedVars_l2 N p0 m s.2.1 s.2.2.2 = some r ∧ (OSl RS 9 1 s.1 [] s.2.2.1 s.2.1) ∧ (RSl RTAct 5 s.1 pG0_2 pv0_2 p0.Acts)) (fun s hm => none_ne (show (none : Option ((List ByteArray))) = some r from hm.1)) (fun n2 ih2 s hm => ?_) N (Φ_1, s1, u1, 0) ⟨h, k2, ph0_2⟩
 obtain ⟨Φ_4, s3, u2, s4⟩ := s
 obtain ⟨h, k3, ph0_2⟩ := hm
 replace h : m_i_usedVars_l2 N p0 (n2 + 1) s3 s4 = some r := h
 replace k3 : OSl RS 9 1 Φ_4 [] u2 s3 := k3
 replace ph0_2 : RSl RTAct 5 Φ_4 pG0_2 pv0_2 p0.Acts := ph0_2
 show WT _ _ [(3, u2), (26, pv0_2), (27, .int .i64 (p0.Acts.length : Int)), (28, .int .i64 s4)] (St w0 Φ_4 [] [ob u2])
 unfold m_i_usedVars_l2 at h
 refine WT.seq <| WT.region <| lq (q_lss rfl rfl) rfl <| WL.nil <| WT.seq ?_
 refine WT.cond rfl (fun c2 => ?_) (fun c2 => ?_)
 ·replace h := ite_t h c2
  refine WT.skip <| WT.seq <| WT.block <| WT.seq <| WT.region ?_
  obtain ⟨x3, hx3, h⟩ := bind_some h
  obtain ⟨cs2, F3, -, g2, hb2, hs2, r2⟩ := ph0_2.el (idx_some hx3).2.2
  obtain ⟨v4, G1, rfl, hq1, h3⟩ := r2
  obtain rfl := hq1.symm
  refine lq (q_indexAddr Sl_47 rfl rfl ph0_2 hx3) rfl <| lq (q_loadN Tn_135 rfl (fun w1 hw => (g2.of_eq 0 5 rfl rfl : rg _ _ _ [.int .i64 x3.Kind, .string x3.Name, v4, .int .i64 x3.N, .string x3.Undo]).rangeAt hw.fro) rfl) rfl ?_
  refine ln (n_alloc (C := #[.int .i64 0, .string (⟨#[]⟩ : ByteArray), .slice none 0 0, .int .i64 0, .string (⟨#[]⟩ : ByteArray)]) Zr_135 rfl) rfl (fun b_3 => ?_)
  refine ls (s_store (i := 0) (vs := [.int .i64 x3.Kind, .string x3.Name, v4, .int .i64 x3.N, .string x3.Undo]) (C' := [.int .i64 x3.Kind, .string x3.Name, v4, .int .i64 x3.N, .string x3.Undo]) (O' := [(b_3, .cells #[.int .i64 x3.Kind, .string x3.Name, v4, .int .i64 x3.N, .string x3.Undo] 135 (0, 0))]) Sz_135 rfl rfl rfl rfl rfl rfl ⟨rfl, rfl, h3.one, rfl, rfl, trivial⟩ rfl rfl) rfl <| WL.nil <| WT.seq <| WT.region <| lq (q_fieldAddr Fld_135_2 rfl) rfl ?_
  refine lq (q_load1 T1_133 rfl (fun w1 hw => hw.rgO (i := 0) rfl 2 1 [v4] rfl)) rfl <| lq (q_lenR Sl_133 rfl rfl h3) rfl <| lq (q_move rfl) rfl <| WL.nil <| WT.block <| WT.loop <| WT.mono (l' := [(3, u2), (26, pv0_2), (27, .int .i64 (p0.Acts.length : Int)), (28, .int .i64 s4), (33, v4), (34, .int .i64 (x3.Args.length : Int)), (35, .int .i64 0)]) (S' := St w0 Φ_4 [] [ob u2]) ⟨rfl, rfl, rfl, rfl, rfl, rfl, rfl, trivial⟩ (fun w1 hw => (hw.sel (js := [0]) rfl).selO (js := []) rfl) ?_
  refine loop_ind (σ := Hp × (List ByteArray) × Value × Int) (fun s => [(3, s.2.2.1), (26, pv0_2), (27, .int .i64 (p0.Acts.length : Int)), (28, .int .i64 s4), (33, v4), (34, .int .i64 (x3.Args.length : Int)), (35, .int .i64 s.2.2.2)]) (fun s => St w0 s.1 [] [ob s.2.2.1]) (fun m s => m_i_usedVars_l3 N s4 (m_i_usedVars_l2 N p0 n2) x3 m s.2.1 s.2.2.2 = some r ∧ (OSl RS 9 1 s.1 [] s.2.2.1 s.2.1) ∧ (RSl RTAct 5 s.1 pG0_2 pv0_2 p0.Acts) ∧ (RSl RTExpr 11 s.1 G1 v4 x3.Args)) (fun s hm => none_ne (show (none : Option ((List ByteArray))) = some r from hm.1)) (fun n3 ih3 s hm => ?_) N (Φ_4, s3, u2, 0) ⟨h, k3, ph0_2, h3⟩
  obtain ⟨Φ_5, s5, u3, s6⟩ := s
  obtain ⟨h, k4, ph0_2, h3⟩ := hm
  replace h : m_i_usedVars_l3 N s4 (m_i_usedVars_l2 N p0 n2) x3 (n3 + 1) s5 s6 = some r := h
  replace k4 : OSl RS 9 1 Φ_5 [] u3 s5 := k4
  replace ph0_2 : RSl RTAct 5 Φ_5 pG0_2 pv0_2 p0.Acts := ph0_2
  replace h3 : RSl RTExpr 11 Φ_5 G1 v4 x3.Args := h3
  show WT _ _ [(3, u3), (26, pv0_2), (27, .int .i64 (p0.Acts.length : Int)), (28, .int .i64 s4), (33, v4), (34, .int .i64 (x3.Args.length : Int)), (35, .int .i64 s6)] (St w0 Φ_5 [] [ob u3])
  unfold m_i_usedVars_l3 at h
  refine WT.seq <| WT.region <| lq (q_lss rfl rfl) rfl <| WL.nil <| WT.seq ?_
  refine WT.cond rfl (fun c3 => ?_) (fun c3 => ?_)
  ·replace h := ite_t h c3
   refine WT.skip <| WT.seq <| WT.block <| WT.seq <| WT.region ?_
   obtain ⟨x4, hx4, h⟩ := bind_some h
   obtain ⟨cs3, F4, -, g3, hb3, hs3, r3⟩ := h3.el (idx_some hx4).2.2
   obtain ⟨rfl, -⟩ := r3
   refine lq (q_indexAddr Sl_133 rfl rfl h3 hx4) rfl <| lq (q_loadN Tn_175 rfl (fun w1 hw => (g3.of_eq 0 11 rfl rfl : rg _ _ _ [.string x4.Op, .int .i64 x4.L.K, .string x4.L.S, .int .i64 x4.L.V.K, .int .i64 x4.L.V.N, .string x4.L.V.S, .int .i64 x4.R.K, .string x4.R.S, .int .i64 x4.R.V.K, .int .i64 x4.R.V.N, .string x4.R.V.S]).rangeAt hw.fro) rfl) rfl ?_
   refine ln (n_alloc (C := #[.string (⟨#[]⟩ : ByteArray), .int .i64 0, .string (⟨#[]⟩ : ByteArray), .int .i64 0, .int .i64 0, .string (⟨#[]⟩ : ByteArray), .int .i64 0, .string (⟨#[]⟩ : ByteArray), .int .i64 0, .int .i64 0, .string (⟨#[]⟩ : ByteArray)]) Zr_175 rfl) rfl (fun b_4 => ?_)
   refine ls (s_store (i := 0) (vs := [.string x4.Op, .int .i64 x4.L.K, .string x4.L.S, .int .i64 x4.L.V.K, .int .i64 x4.L.V.N, .string x4.L.V.S, .int .i64 x4.R.K, .string x4.R.S, .int .i64 x4.R.V.K, .int .i64 x4.R.V.N, .string x4.R.V.S]) (C' := [.string x4.Op, .int .i64 x4.L.K, .string x4.L.S, .int .i64 x4.L.V.K, .int .i64 x4.L.V.N, .string x4.L.V.S, .int .i64 x4.R.K, .string x4.R.S, .int .i64 x4.R.V.K, .int .i64 x4.R.V.N, .string x4.R.V.S]) (O' := [(b_4, .cells #[.string x4.Op, .int .i64 x4.L.K, .string x4.L.S, .int .i64 x4.L.V.K, .int .i64 x4.L.V.N, .string x4.L.V.S, .int .i64 x4.R.K, .string x4.R.S, .int .i64 x4.R.V.K, .int .i64 x4.R.V.N, .string x4.R.V.S] 175 (0, 0))]) Sz_175 rfl rfl rfl rfl rfl rfl ⟨rfl, rfl, rfl, rfl, rfl, rfl, rfl, rfl, rfl, rfl, rfl, trivial⟩ rfl rfl) rfl ?_
   refine WL.nil <| WT.region <| lq (q_move rfl) rfl <| lq (q_fieldAddr Fld_175_1 rfl) rfl <| lq (q_loadN Tn_126 rfl (fun w1 hw => hw.rgO (i := 0) rfl 1 5 [.int .i64 x4.L.K, .string x4.L.S, .int .i64 x4.L.V.K, .int .i64 x4.L.V.N, .string x4.L.V.S] rfl) rfl) rfl <| lq (q_fieldAddr Fld_175_2 rfl) rfl <| lq (q_loadN Tn_126 rfl (fun w1 hw => hw.rgO (i := 0) rfl 6 5 [.int .i64 x4.R.K, .string x4.R.S, .int .i64 x4.R.V.K, .int .i64 x4.R.V.N, .string x4.R.V.S] rfl) rfl) rfl ?_
   have rc2 : RC RTArg 5 Φ_5 ([[], []] : List (List Nat)) [.int .i64 x4.L.K, .string x4.L.S, .int .i64 x4.L.V.K, .int .i64 x4.L.V.N, .string x4.L.V.S, .int .i64 x4.R.K, .string x4.R.S, .int .i64 x4.R.V.K, .int .i64 x4.R.V.N, .string x4.R.V.S] ([x4.L, x4.R] : List TArg) := RC.cons (c := [.int .i64 x4.L.K, .string x4.L.S, .int .i64 x4.L.V.K, .int .i64 x4.L.V.N, .string x4.L.V.S]) (cells := [.int .i64 x4.R.K, .string x4.R.S, .int .i64 x4.R.V.K, .int .i64 x4.R.V.N, .string x4.R.V.S]) ⟨rfl, rfl⟩ rfl (RC.cons (c := [.int .i64 x4.R.K, .string x4.R.S, .int .i64 x4.R.V.K, .int .i64 x4.R.V.N, .string x4.R.V.S]) (cells := []) ⟨rfl, rfl⟩ rfl (RC.nil _ _ _))
   refine le' (e_lit (vs := [(0, .agg [.int .i64 x4.L.K, .string x4.L.S, .int .i64 x4.L.V.K, .int .i64 x4.L.V.N, .string x4.L.V.S].toArray), (1, .agg [.int .i64 x4.R.K, .string x4.R.S, .int .i64 x4.R.V.K, .int .i64 x4.R.V.N, .string x4.R.V.S].toArray)]) (C := #[.int .i64 x4.L.K, .string x4.L.S, .int .i64 x4.L.V.K, .int .i64 x4.L.V.N, .string x4.L.V.S, .int .i64 x4.R.K, .string x4.R.S, .int .i64 x4.R.V.K, .int .i64 x4.R.V.N, .string x4.R.V.S]) RTArg.lasts Sl_112 Zr_126 rfl rfl rfl rfl (fill_made MC_126_2 (fill_cons (cells := [.int .i64 0, .string ⟨#[]⟩, .int .i64 0, .int .i64 0, .string ⟨#[]⟩, .int .i64 0, .string ⟨#[]⟩, .int .i64 0, .int .i64 0, .string ⟨#[]⟩]) (c := [.int .i64 x4.L.K, .string x4.L.S, .int .i64 x4.L.V.K, .int .i64 x4.L.V.N, .string x4.L.V.S]) (C' := [.int .i64 x4.L.K, .string x4.L.S, .int .i64 x4.L.V.K, .int .i64 x4.L.V.N, .string x4.L.V.S, .int .i64 0, .string ⟨#[]⟩, .int .i64 0, .int .i64 0, .string ⟨#[]⟩]) rfl rfl rfl rfl rfl (fill_cons (cells := [.int .i64 x4.L.K, .string x4.L.S, .int .i64 x4.L.V.K, .int .i64 x4.L.V.N, .string x4.L.V.S, .int .i64 0, .string ⟨#[]⟩, .int .i64 0, .int .i64 0, .string ⟨#[]⟩]) (c := [.int .i64 x4.R.K, .string x4.R.S, .int .i64 x4.R.V.K, .int .i64 x4.R.V.N, .string x4.R.V.S]) (C' := [.int .i64 x4.L.K, .string x4.L.S, .int .i64 x4.L.V.K, .int .i64 x4.L.V.N, .string x4.L.V.S, .int .i64 x4.R.K, .string x4.R.S, .int .i64 x4.R.V.K, .int .i64 x4.R.V.N, .string x4.R.V.S]) rfl rfl rfl rfl rfl (fill_nil)))) rfl rc2 rfl (by simpa using Kw.nil)) rfl (fun v5 Φ_6 D2 q3 => ?_)
   obtain ⟨fr3, h4⟩ := q3
   replace h4 : OSl RTArg 126 5 Φ_6 [] v5 ([x4.L, x4.R] : List TArg) := by simpa using h4
   replace ph0_2 := ph0_2.frame RTAct.lasts fr3 (Dj.empty _)
   replace h3 := h3.frame RTExpr.lasts fr3 (Dj.empty _)
   replace k4 := k4.frame RS.lasts fr3 (Dj.empty _) (Dj.empty _)
   obtain ⟨x5, hx5, h⟩ := bind_some h
   refine lc (k_call (js := [1]) (R := [ob v5]) Fun_144 rfl rfl (fun w1 hw ap hl => m_i_addVars_ok hw.fro N s5 ([x4.L, x4.R] : List TArg) k4 h4.rsl (Dj.app (ap.r (i := 0) rfl) (Dj.nil _)) ap.nd hl hx5)) rfl (fun v6 Φ_7 F5 q4 => ?_)
   obtain ⟨ap2, fr4, v7, rfl, rfl, h5⟩ := q4
   replace ph0_2 := ph0_2.frame RTAct.lasts fr4 (ap2.o pa0_2)
   replace h3 := h3.frame RTExpr.lasts fr4 (Dj.sub (ap2.o pa0_2) (fun k h => hs2 k h))
   refine lq (q_assign rfl) rfl <| WL.nil <| WT.inBlock <| WT.region <| lq (q_add rfl rfl) rfl <| lq (q_move rfl) rfl <| WL.nil ?_
   refine WT.inLoop (WT.mono (l' := [(3, v6), (26, pv0_2), (27, .int .i64 (p0.Acts.length : Int)), (28, .int .i64 s4), (33, v4), (34, .int .i64 (x3.Args.length : Int)), (35, .int .i64 (IntKind.i64.wrap (s6 + 1)))]) (S' := St w0 Φ_7 [] [ob v6]) ⟨rfl, rfl, rfl, rfl, rfl, rfl, rfl, trivial⟩ (fun w1 hw => (hw.sel (js := [0]) rfl).selO (js := []) rfl) ?_)
   exact ih3 (Φ_7, x5, v6, IntKind.i64.wrap (s6 + 1)) ⟨h, h5, ph0_2, h3⟩
  replace h := ite_f h c3
  refine WT.exit rfl <| WT.inBlock <| WT.region <| lq (q_add rfl rfl) rfl <| lq (q_move rfl) rfl <| WL.nil ?_
  refine WT.inLoop (WT.mono (l' := [(3, u3), (26, pv0_2), (27, .int .i64 (p0.Acts.length : Int)), (28, .int .i64 (IntKind.i64.wrap (s4 + 1)))]) (S' := St w0 Φ_5 [] [ob u3]) ⟨rfl, rfl, rfl, rfl, trivial⟩ (fun w1 hw => (hw.sel (js := [0]) rfl).selO (js := []) rfl) ?_)
  exact ih2 (Φ_5, s5, u3, IntKind.i64.wrap (s4 + 1)) ⟨h, k4, ph0_2⟩
 replace h := ite_f h c2
 refine WT.exit rfl <| WT.seq <| WT.region <| lq (q_move rfl) rfl <| lq (q_assign rfl) rfl <| WL.nil ?_
 refine WT.ret Tryz.func76 (resOk.one rfl) (fun w1 hw => ?_)
 subst hb0
 cases h
 refine postG_of_St (js := [0]) hw rfl ⟨u2, rfl, rfl, k3⟩
end Go.Proofs.YtjangilipfjcmaaGreat
