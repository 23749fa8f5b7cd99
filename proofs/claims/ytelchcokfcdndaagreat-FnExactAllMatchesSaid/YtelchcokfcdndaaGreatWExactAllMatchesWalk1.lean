/- Printed by a program of ours: each Go function computes its Lean function. -/
import Derived.Test.YtelchcokfcdndaaGreatProg
import Derived.Test.YtelchcokfcdndaaGreatWExactAllMatchesMod
namespace Go.Proofs.YtelchcokfcdndaaGreat
open Eng
open Go.RowKit (Below)
set_option linter.unusedVariables false
set_option linter.unusedSimpArgs false

set_option maxRecDepth 100000
set_option maxHeartbeats 1000000
theorem mixed : Tryz.prog.follows .mixedOrders = true := by kernel_rfl
theorem Fun_131 : Fun Tryz.prog 131 = true := by kernel_rfl
theorem Fun_200 : Fun Tryz.prog 200 = true := by kernel_rfl
theorem Str_9 : Str Tryz.prog 9 = true := by kernel_rfl
theorem Fun_178 : Fun Tryz.prog 178 = true := by kernel_rfl
theorem Fun_132 : Fun Tryz.prog 132 = true := by kernel_rfl
theorem Fld_40_2 : Fld Tryz.prog 40 2 2 = true := by kernel_rfl
theorem T1_36 : T1 Tryz.prog 36 = true := by kernel_rfl
theorem Sl_36 : Sl Tryz.prog 36 171 3 = true := by kernel_rfl
theorem Tn_171 : Tn Tryz.prog 171 3 = true := by kernel_rfl
theorem Zr_171 : (Tryz.prog.info? 171).map (·.zero) = some (some (.agg #[.string ⟨#[]⟩, .slice none 0 0, .bool false])) := by kernel_rfl
theorem Sz_171 : Sz Tryz.prog 171 3 = true := by kernel_rfl
theorem Fld_171_2 : Fld Tryz.prog 171 2 2 = true := by kernel_rfl
theorem T1_4 : T1 Tryz.prog 4 = true := by kernel_rfl
theorem Fld_85_0 : Fld Tryz.prog 85 0 0 = true := by kernel_rfl
theorem T1_3 : T1 Tryz.prog 3 = true := by kernel_rfl
theorem Fld_85_1 : Fld Tryz.prog 85 1 1 = true := by kernel_rfl
theorem Fun_81 : Fun Tryz.prog 81 = true := by kernel_rfl
theorem Fld_85_2 : Fld Tryz.prog 85 2 2 = true := by kernel_rfl
theorem T1_9 : T1 Tryz.prog 9 = true := by kernel_rfl
theorem Fun_211 : Fun Tryz.prog 211 = true := by kernel_rfl
theorem Fld_137_0 : Fld Tryz.prog 137 0 0 = true := by kernel_rfl
theorem Fld_137_1 : Fld Tryz.prog 137 1 1 = true := by kernel_rfl
theorem Fun_203 : Fun Tryz.prog 203 = true := by kernel_rfl
theorem Fld_137_2 : Fld Tryz.prog 137 2 2 = true := by kernel_rfl
theorem Tn_85 : Tn Tryz.prog 85 3 = true := by kernel_rfl
theorem Pl_85 : Pl Tryz.prog 85 #[(0, 1), (1, 1), (2, 1)] = true := by kernel_rfl
theorem Zr_85 : (Tryz.prog.info? 85).map (·.zero) = some (some (.agg #[.int .i64 0, .int .i64 0, .string ⟨#[]⟩])) := by kernel_rfl
theorem EqT_85 : EqT Tryz.prog 85 [.i .i64, .i .i64, .s] = true := by kernel_rfl
theorem Fun_135 : Fun Tryz.prog 135 = true := by kernel_rfl
theorem Fld_171_0 : Fld Tryz.prog 171 0 0 = true := by kernel_rfl
theorem Fun_80 : Fun Tryz.prog 80 = true := by kernel_rfl
theorem Fld_171_1 : Fld Tryz.prog 171 1 1 = true := by kernel_rfl
theorem T1_169 : T1 Tryz.prog 169 = true := by kernel_rfl
theorem Sl_169 : Sl Tryz.prog 169 137 5 = true := by kernel_rfl
theorem Tn_137 : Tn Tryz.prog 137 5 = true := by kernel_rfl
theorem Zr_137 : (Tryz.prog.info? 137).map (·.zero) = some (some (.agg #[.int .i64 0, .string ⟨#[]⟩, .int .i64 0, .int .i64 0, .string ⟨#[]⟩])) := by kernel_rfl
theorem Sz_137 : Sz Tryz.prog 137 5 = true := by kernel_rfl
theorem Fun_181 : Fun Tryz.prog 181 = true := by kernel_rfl
theorem Tn_40 : Tn Tryz.prog 40 5 = true := by kernel_rfl
theorem Fun_94 : Fun Tryz.prog 94 = true := by kernel_rfl
theorem Fun_143 : Fun Tryz.prog 143 = true := by kernel_rfl
theorem Bo_4 : Bo Tryz.prog 4 = true := by kernel_rfl
theorem Fld_139_0 : Fld Tryz.prog 139 0 0 = true := by kernel_rfl
theorem Fld_139_1 : Fld Tryz.prog 139 1 1 = true := by kernel_rfl
theorem Fun_144 : Fun Tryz.prog 144 = true := by kernel_rfl
theorem Fld_139_2 : Fld Tryz.prog 139 2 6 = true := by kernel_rfl
theorem Fld_191_0 : Fld Tryz.prog 191 0 0 = true := by kernel_rfl
theorem Fld_191_1 : Fld Tryz.prog 191 1 1 = true := by kernel_rfl
theorem Fld_191_2 : Fld Tryz.prog 191 2 6 = true := by kernel_rfl
theorem Pl_137 : Pl Tryz.prog 137 #[(0, 1), (1, 1), (2, 3)] = true := by kernel_rfl
theorem EqT_137 : EqT Tryz.prog 137 [.i .i64, .s, .i .i64, .i .i64, .s] = true := by kernel_rfl
theorem Fld_143_1 : Fld Tryz.prog 143 1 1 = true := by kernel_rfl
theorem Fld_143_2 : Fld Tryz.prog 143 2 2 = true := by kernel_rfl
theorem T1_141 : T1 Tryz.prog 141 = true := by kernel_rfl
theorem Sl_141 : Sl Tryz.prog 141 191 11 = true := by kernel_rfl
theorem Tn_191 : Tn Tryz.prog 191 11 = true := by kernel_rfl
theorem Zr_191 : (Tryz.prog.info? 191).map (·.zero) = some (some (.agg #[.string ⟨#[]⟩, .int .i64 0, .string ⟨#[]⟩, .int .i64 0, .int .i64 0, .string ⟨#[]⟩, .int .i64 0, .string ⟨#[]⟩, .int .i64 0, .int .i64 0, .string ⟨#[]⟩])) := by kernel_rfl
theorem Sz_191 : Sz Tryz.prog 191 11 = true := by kernel_rfl
theorem Fun_182 : Fun Tryz.prog 182 = true := by kernel_rfl
theorem Fld_143_0 : Fld Tryz.prog 143 0 0 = true := by kernel_rfl
theorem Tn_143 : Tn Tryz.prog 143 5 = true := by kernel_rfl
theorem Fun_145 : Fun Tryz.prog 145 = true := by kernel_rfl
theorem Fld_143_3 : Fld Tryz.prog 143 3 3 = true := by kernel_rfl
theorem Fld_143_4 : Fld Tryz.prog 143 4 4 = true := by kernel_rfl
theorem Fun_146 : Fun Tryz.prog 146 = true := by kernel_rfl
theorem Sl_114 : Sl Tryz.prog 114 9 1 = true := by kernel_rfl
theorem Fun_148 : Fun Tryz.prog 148 = true := by kernel_rfl
theorem Fun_97 : Fun Tryz.prog 97 = true := by kernel_rfl
theorem MC_9_1 : madeCells (Value.string ⟨#[]⟩ : Value).cells (1 * 1) = #[.string ⟨#[]⟩] := by kernel_rfl
theorem Zr_9 : (Tryz.prog.info? 9).map (·.zero) = some (some (.string ⟨#[]⟩)) := by kernel_rfl
theorem Ei_9 : (Tryz.prog.info? 9).map (fun i => (i.zero, i.size, i.bytes)) = some (some (.string ⟨#[]⟩), 1, 16) := by kernel_rfl
theorem Fun_183 : Fun Tryz.prog 183 = true := by kernel_rfl
theorem Fun_147 : Fun Tryz.prog 147 = true := by kernel_rfl
theorem Fld_40_3 : Fld Tryz.prog 40 3 3 = true := by kernel_rfl
theorem T1_37 : T1 Tryz.prog 37 = true := by kernel_rfl
theorem Sl_37 : Sl Tryz.prog 37 139 11 = true := by kernel_rfl
theorem Tn_139 : Tn Tryz.prog 139 11 = true := by kernel_rfl
theorem Zr_139 : (Tryz.prog.info? 139).map (·.zero) = some (some (.agg #[.int .i64 0, .int .i64 0, .string ⟨#[]⟩, .int .i64 0, .int .i64 0, .string ⟨#[]⟩, .int .i64 0, .string ⟨#[]⟩, .int .i64 0, .int .i64 0, .string ⟨#[]⟩])) := by kernel_rfl
theorem Sz_139 : Sz Tryz.prog 139 11 = true := by kernel_rfl
theorem MC_137_2 : madeCells (Value.agg #[.int .i64 0, .string ⟨#[]⟩, .int .i64 0, .int .i64 0, .string ⟨#[]⟩] : Value).cells (2 * 5) = #[.int .i64 0, .string ⟨#[]⟩, .int .i64 0, .int .i64 0, .string ⟨#[]⟩, .int .i64 0, .string ⟨#[]⟩, .int .i64 0, .int .i64 0, .string ⟨#[]⟩] := by kernel_rfl
theorem Fld_40_4 : Fld Tryz.prog 40 4 4 = true := by kernel_rfl
theorem T1_38 : T1 Tryz.prog 38 = true := by kernel_rfl
theorem Sl_38 : Sl Tryz.prog 38 143 5 = true := by kernel_rfl
theorem Zr_143 : (Tryz.prog.info? 143).map (·.zero) = some (some (.agg #[.int .i64 0, .string ⟨#[]⟩, .slice none 0 0, .int .i64 0, .string ⟨#[]⟩])) := by kernel_rfl
theorem Sz_143 : Sz Tryz.prog 143 5 = true := by kernel_rfl
theorem Fld_40_0 : Fld Tryz.prog 40 0 0 = true := by kernel_rfl
theorem Fld_40_1 : Fld Tryz.prog 40 1 1 = true := by kernel_rfl
theorem Fun_91 : Fun Tryz.prog 91 = true := by kernel_rfl
theorem Fun_92 : Fun Tryz.prog 92 = true := by kernel_rfl
theorem Fun_93 : Fun Tryz.prog 93 = true := by kernel_rfl
theorem Fun_95 : Fun Tryz.prog 95 = true := by kernel_rfl
theorem Fun_96 : Fun Tryz.prog 96 = true := by kernel_rfl
theorem Sl_24 : Sl Tryz.prog 24 40 5 = true := by kernel_rfl
theorem Fld_26_1 : Fld Tryz.prog 26 1 1 = true := by kernel_rfl
theorem T1_24 : T1 Tryz.prog 24 = true := by kernel_rfl
theorem Fun_134 : Fun Tryz.prog 134 = true := by kernel_rfl
theorem Fun_133 : Fun Tryz.prog 133 = true := by kernel_rfl
theorem Fld_26_0 : Fld Tryz.prog 26 0 0 = true := by kernel_rfl
theorem Zr_40 : (Tryz.prog.info? 40).map (·.zero) = some (some (.agg #[.string ⟨#[]⟩, .int .i64 0, .slice none 0 0, .slice none 0 0, .slice none 0 0])) := by kernel_rfl
theorem Sz_40 : Sz Tryz.prog 40 5 = true := by kernel_rfl
theorem Fun_42 : Fun Tryz.prog 42 = true := by kernel_rfl
theorem Tn_26 : Tn Tryz.prog 26 2 = true := by kernel_rfl
theorem Fun_82 : Fun Tryz.prog 82 = true := by kernel_rfl
theorem Fld_123_0 : Fld Tryz.prog 123 0 0 = true := by kernel_rfl
theorem Fld_123_1 : Fld Tryz.prog 123 1 1 = true := by kernel_rfl
theorem T1_121 : T1 Tryz.prog 121 = true := by kernel_rfl
theorem Sl_121 : Sl Tryz.prog 121 85 3 = true := by kernel_rfl
theorem Sz_85 : Sz Tryz.prog 85 3 = true := by kernel_rfl
theorem Fun_136 : Fun Tryz.prog 136 = true := by kernel_rfl
theorem Fld_29_0 : Fld Tryz.prog 29 0 0 = true := by kernel_rfl
theorem T1_27 : T1 Tryz.prog 27 = true := by kernel_rfl
theorem Sl_27 : Sl Tryz.prog 27 125 3 = true := by kernel_rfl
theorem Fld_29_1 : Fld Tryz.prog 29 1 1 = true := by kernel_rfl
theorem Tn_125 : Tn Tryz.prog 125 3 = true := by kernel_rfl
theorem Zr_125 : (Tryz.prog.info? 125).map (·.zero) = some (some (.agg #[.int .i64 0, .string ⟨#[]⟩, .slice none 0 0])) := by kernel_rfl
theorem Sz_125 : Sz Tryz.prog 125 3 = true := by kernel_rfl
theorem Fld_125_1 : Fld Tryz.prog 125 1 1 = true := by kernel_rfl
theorem Tn_123 : Tn Tryz.prog 123 2 = true := by kernel_rfl
theorem Fun_83 : Fun Tryz.prog 83 = true := by kernel_rfl
theorem Fld_125_0 : Fld Tryz.prog 125 0 0 = true := by kernel_rfl
theorem Fun_84 : Fun Tryz.prog 84 = true := by kernel_rfl
theorem MC_171_1 : madeCells (Value.agg #[.string ⟨#[]⟩, .slice none 0 0, .bool false] : Value).cells (1 * 3) = #[.string ⟨#[]⟩, .slice none 0 0, .bool false] := by kernel_rfl
theorem Ei_171 : (Tryz.prog.info? 171).map (fun i => (i.zero, i.size, i.bytes)) = some (some (.agg #[.string ⟨#[]⟩, .slice none 0 0, .bool false]), 3, 48) := by kernel_rfl
theorem Sl_42 : Sl Tryz.prog 42 87 4 = true := by kernel_rfl
theorem MC_87_0 : madeCells (Value.agg #[.string ⟨#[]⟩, .int .i64 0, .int .i64 0, .string ⟨#[]⟩] : Value).cells (0 * 4) = #[] := by kernel_rfl
theorem Zr_87 : (Tryz.prog.info? 87).map (·.zero) = some (some (.agg #[.string ⟨#[]⟩, .int .i64 0, .int .i64 0, .string ⟨#[]⟩])) := by kernel_rfl
theorem Ei_87 : (Tryz.prog.info? 87).map (fun i => (i.zero, i.size, i.bytes)) = some (some (.agg #[.string ⟨#[]⟩, .int .i64 0, .int .i64 0, .string ⟨#[]⟩]), 4, 48) := by kernel_rfl
theorem Tn_87 : Tn Tryz.prog 87 4 = true := by kernel_rfl
theorem Sz_87 : Sz Tryz.prog 87 4 = true := by kernel_rfl
theorem Fld_87_0 : Fld Tryz.prog 87 0 0 = true := by kernel_rfl
theorem Fld_87_1 : Fld Tryz.prog 87 1 1 = true := by kernel_rfl
theorem Fun_153 : Fun Tryz.prog 153 = true := by kernel_rfl
theorem Fun_186 : Fun Tryz.prog 186 = true := by kernel_rfl
theorem Pl_87 : Pl Tryz.prog 87 #[(0, 1), (1, 3)] = true := by kernel_rfl
theorem MC_87_1 : madeCells (Value.agg #[.string ⟨#[]⟩, .int .i64 0, .int .i64 0, .string ⟨#[]⟩] : Value).cells (1 * 4) = #[.string ⟨#[]⟩, .int .i64 0, .int .i64 0, .string ⟨#[]⟩] := by kernel_rfl
theorem Fun_154 : Fun Tryz.prog 154 = true := by kernel_rfl
theorem Tn_29 : Tn Tryz.prog 29 2 = true := by kernel_rfl
theorem Fun_184 : Fun Tryz.prog 184 = true := by kernel_rfl
theorem Sl_41 : Sl Tryz.prog 41 3 1 = true := by kernel_rfl
theorem Fun_216 : Fun Tryz.prog 216 = true := by kernel_rfl
theorem Fun_217 : Fun Tryz.prog 217 = true := by kernel_rfl
theorem Fun_214 : Fun Tryz.prog 214 = true := by kernel_rfl
theorem Fun_215 : Fun Tryz.prog 215 = true := by kernel_rfl
theorem MC_3_3 : madeCells (Value.int .i64 0 : Value).cells (3 * 1) = #[.int .i64 0, .int .i64 0, .int .i64 0] := by kernel_rfl
theorem Zr_3 : (Tryz.prog.info? 3).map (·.zero) = some (some (.int .i64 0)) := by kernel_rfl
theorem Fun_213 : Fun Tryz.prog 213 = true := by kernel_rfl
theorem Fun_212 : Fun Tryz.prog 212 = true := by kernel_rfl
theorem Fun_204 : Fun Tryz.prog 204 = true := by kernel_rfl
theorem Fun_205 : Fun Tryz.prog 205 = true := by kernel_rfl
theorem Fun_185 : Fun Tryz.prog 185 = true := by kernel_rfl
theorem MC_3_0 : madeCells (Value.int .i64 0 : Value).cells (0 * 1) = #[] := by kernel_rfl
theorem Ei_3 : (Tryz.prog.info? 3).map (fun i => (i.zero, i.size, i.bytes)) = some (some (.int .i64 0), 1, 8) := by kernel_rfl
theorem Fun_149 : Fun Tryz.prog 149 = true := by kernel_rfl
theorem Fun_150 : Fun Tryz.prog 150 = true := by kernel_rfl
theorem Fun_151 : Fun Tryz.prog 151 = true := by kernel_rfl
theorem T1_32 : T1 Tryz.prog 32 = true := by kernel_rfl
theorem Fun_152 : Fun Tryz.prog 152 = true := by kernel_rfl
theorem Pl_44 : Pl Tryz.prog 44 #[(0, 1), (1, 1), (2, 1)] = true := by kernel_rfl
theorem Zr_44 : (Tryz.prog.info? 44).map (·.zero) = some (some (.agg #[.int .i64 0, .slice none 0 0, .slice none 0 0])) := by kernel_rfl
theorem MC_44_1 : madeCells (Value.agg #[.int .i64 0, .slice none 0 0, .slice none 0 0] : Value).cells (1 * 3) = #[.int .i64 0, .slice none 0 0, .slice none 0 0] := by kernel_rfl
theorem Sl_32 : Sl Tryz.prog 32 44 3 = true := by kernel_rfl
theorem Ei_44 : (Tryz.prog.info? 44).map (fun i => (i.zero, i.size, i.bytes)) = some (some (.agg #[.int .i64 0, .slice none 0 0, .slice none 0 0]), 3, 56) := by kernel_rfl
theorem Sz_32 : Sz Tryz.prog 32 1 = true := by kernel_rfl
theorem MC_3_1 : madeCells (Value.int .i64 0 : Value).cells (1 * 1) = #[.int .i64 0] := by kernel_rfl
theorem Fun_98 : Fun Tryz.prog 98 = true := by kernel_rfl
theorem Zr_32 : (Tryz.prog.info? 32).map (·.zero) = some (some (.slice none 0 0)) := by kernel_rfl
theorem Fun_43 : Fun Tryz.prog 43 = true := by kernel_rfl
theorem Tn_44 : Tn Tryz.prog 44 3 = true := by kernel_rfl
theorem Sz_44 : Sz Tryz.prog 44 3 = true := by kernel_rfl
theorem Fld_44_0 : Fld Tryz.prog 44 0 0 = true := by kernel_rfl
theorem Sz_3 : Sz Tryz.prog 3 1 = true := by kernel_rfl
theorem Fun_35 : Fun Tryz.prog 35 = true := by kernel_rfl
theorem Fun_36 : Fun Tryz.prog 36 = true := by kernel_rfl
theorem Fun_37 : Fun Tryz.prog 37 = true := by kernel_rfl
theorem Ik_5 : Ik Tryz.prog 5 .u8 = true := by kernel_rfl
theorem Ik_3 : Ik Tryz.prog 3 .i64 = true := by kernel_rfl
theorem Fun_41 : Fun Tryz.prog 41 = true := by kernel_rfl
theorem Fun_90 : Fun Tryz.prog 90 = true := by kernel_rfl
theorem MC_9_0 : madeCells (Value.string ⟨#[]⟩ : Value).cells (0 * 1) = #[] := by kernel_rfl
theorem Fun_138 : Fun Tryz.prog 138 = true := by kernel_rfl
theorem Fun_137 : Fun Tryz.prog 137 = true := by kernel_rfl
theorem Fun_206 : Fun Tryz.prog 206 = true := by kernel_rfl
theorem Fun_209 : Fun Tryz.prog 209 = true := by kernel_rfl
theorem Fun_201 : Fun Tryz.prog 201 = true := by kernel_rfl
theorem Fun_187 : Fun Tryz.prog 187 = true := by kernel_rfl
theorem Fun_179 : Fun Tryz.prog 179 = true := by kernel_rfl
theorem Fun_40 : Fun Tryz.prog 40 = true := by kernel_rfl
theorem Fun_139 : Fun Tryz.prog 139 = true := by kernel_rfl
theorem Fun_140 : Fun Tryz.prog 140 = true := by kernel_rfl
theorem Fun_141 : Fun Tryz.prog 141 = true := by kernel_rfl
theorem Fun_210 : Fun Tryz.prog 210 = true := by kernel_rfl
theorem Fun_202 : Fun Tryz.prog 202 = true := by kernel_rfl
theorem Fun_180 : Fun Tryz.prog 180 = true := by kernel_rfl
theorem Fun_142 : Fun Tryz.prog 142 = true := by kernel_rfl
theorem Fun_85 : Fun Tryz.prog 85 = true := by kernel_rfl
theorem Fun_86 : Fun Tryz.prog 86 = true := by kernel_rfl
theorem Fun_87 : Fun Tryz.prog 87 = true := by kernel_rfl
theorem Fun_89 : Fun Tryz.prog 89 = true := by kernel_rfl
theorem Fun_88 : Fun Tryz.prog 88 = true := by kernel_rfl
theorem Fun_38 : Fun Tryz.prog 38 = true := by kernel_rfl
theorem Fun_39 : Fun Tryz.prog 39 = true := by kernel_rfl
theorem Fun_155 : Fun Tryz.prog 155 = true := by kernel_rfl
theorem Fun_188 : Fun Tryz.prog 188 = true := by kernel_rfl
theorem Fun_156 : Fun Tryz.prog 156 = true := by kernel_rfl
theorem Fun_99 : Fun Tryz.prog 99 = true := by kernel_rfl
theorem Fun_100 : Fun Tryz.prog 100 = true := by kernel_rfl
theorem Fun_193 : Fun Tryz.prog 193 = true := by kernel_rfl
theorem Fun_163 : Fun Tryz.prog 163 = true := by kernel_rfl
theorem Fun_207 : Fun Tryz.prog 207 = true := by kernel_rfl
theorem Fun_208 : Fun Tryz.prog 208 = true := by kernel_rfl
theorem Fun_192 : Fun Tryz.prog 192 = true := by kernel_rfl
theorem Fun_161 : Fun Tryz.prog 161 = true := by kernel_rfl
theorem Fun_162 : Fun Tryz.prog 162 = true := by kernel_rfl
theorem Fun_105 : Fun Tryz.prog 105 = true := by kernel_rfl
theorem MC_44_0 : madeCells (Value.agg #[.int .i64 0, .slice none 0 0, .slice none 0 0] : Value).cells (0 * 3) = #[] := by kernel_rfl
theorem Fun_50 : Fun Tryz.prog 50 = true := by kernel_rfl
theorem Fun_9 : Fun Tryz.prog 9 = true := by kernel_rfl
theorem Fun_44 : Fun Tryz.prog 44 = true := by kernel_rfl
theorem Fun_45 : Fun Tryz.prog 45 = true := by kernel_rfl
theorem Fld_154_2 : Fld Tryz.prog 154 2 2 = true := by kernel_rfl
theorem Sl_164 : Sl Tryz.prog 164 154 3 = true := by kernel_rfl
theorem Tn_154 : Tn Tryz.prog 154 3 = true := by kernel_rfl
theorem Fun_189 : Fun Tryz.prog 189 = true := by kernel_rfl
theorem Fld_166_0 : Fld Tryz.prog 166 0 0 = true := by kernel_rfl
theorem Fld_166_1 : Fld Tryz.prog 166 1 1 = true := by kernel_rfl
theorem T1_164 : T1 Tryz.prog 164 = true := by kernel_rfl
theorem Fun_191 : Fun Tryz.prog 191 = true := by kernel_rfl
theorem Fld_168_1 : Fld Tryz.prog 168 1 1 = true := by kernel_rfl
theorem Tn_166 : Tn Tryz.prog 166 2 = true := by kernel_rfl
theorem Fun_160 : Fun Tryz.prog 160 = true := by kernel_rfl
theorem Sl_52 : Sl Tryz.prog 52 168 3 = true := by kernel_rfl
theorem Tn_168 : Tn Tryz.prog 168 3 = true := by kernel_rfl
theorem Fun_104 : Fun Tryz.prog 104 = true := by kernel_rfl
theorem Fld_54_0 : Fld Tryz.prog 54 0 0 = true := by kernel_rfl
theorem T1_52 : T1 Tryz.prog 52 = true := by kernel_rfl
theorem Fun_49 : Fun Tryz.prog 49 = true := by kernel_rfl
theorem Fld_154_0 : Fld Tryz.prog 154 0 0 = true := by kernel_rfl
theorem Fld_154_1 : Fld Tryz.prog 154 1 1 = true := by kernel_rfl
theorem Sz_9 : Sz Tryz.prog 9 1 = true := by kernel_rfl
theorem By_85 : By Tryz.prog 85 32 = true := by kernel_rfl
theorem Fun_194 : Fun Tryz.prog 194 = true := by kernel_rfl
theorem Zr_123 : (Tryz.prog.info? 123).map (·.zero) = some (some (.agg #[.string ⟨#[]⟩, .slice none 0 0])) := by kernel_rfl
theorem Fun_196 : Fun Tryz.prog 196 = true := by kernel_rfl
theorem Sz_121 : Sz Tryz.prog 121 1 = true := by kernel_rfl
theorem Sz_123 : Sz Tryz.prog 123 2 = true := by kernel_rfl
theorem Fld_168_0 : Fld Tryz.prog 168 0 0 = true := by kernel_rfl
theorem Fun_167 : Fun Tryz.prog 167 = true := by kernel_rfl
theorem By_125 : By Tryz.prog 125 48 = true := by kernel_rfl
theorem Fun_109 : Fun Tryz.prog 109 = true := by kernel_rfl
theorem Zr_29 : (Tryz.prog.info? 29).map (·.zero) = some (some (.agg #[.slice none 0 0, .int .i64 0])) := by kernel_rfl
theorem Fun_54 : Fun Tryz.prog 54 = true := by kernel_rfl
theorem Sz_27 : Sz Tryz.prog 27 1 = true := by kernel_rfl
theorem Fld_54_1 : Fld Tryz.prog 54 1 1 = true := by kernel_rfl
theorem Sz_29 : Sz Tryz.prog 29 2 = true := by kernel_rfl
theorem Fun_197 : Fun Tryz.prog 197 = true := by kernel_rfl
theorem Fun_168 : Fun Tryz.prog 168 = true := by kernel_rfl
theorem Fld_44_1 : Fld Tryz.prog 44 1 1 = true := by kernel_rfl
theorem T1_41 : T1 Tryz.prog 41 = true := by kernel_rfl
theorem Fun_110 : Fun Tryz.prog 110 = true := by kernel_rfl
theorem Fld_44_2 : Fld Tryz.prog 44 2 2 = true := by kernel_rfl
theorem T1_42 : T1 Tryz.prog 42 = true := by kernel_rfl
theorem Fun_111 : Fun Tryz.prog 111 = true := by kernel_rfl
theorem Fun_55 : Fun Tryz.prog 55 = true := by kernel_rfl
theorem Fun_199 : Fun Tryz.prog 199 = true := by kernel_rfl
theorem Fun_172 : Fun Tryz.prog 172 = true := by kernel_rfl
theorem Fun_115 : Fun Tryz.prog 115 = true := by kernel_rfl
theorem Fun_59 : Fun Tryz.prog 59 = true := by kernel_rfl
theorem MC_5_1 : madeCells (Value.int .u8 0 : Value).cells (1 * 1) = #[.int .u8 0] := by kernel_rfl
theorem Sl_22 : Sl Tryz.prog 22 5 1 = true := by kernel_rfl
theorem Zr_5 : (Tryz.prog.info? 5).map (·.zero) = some (some (.int .u8 0)) := by kernel_rfl
theorem Fun_116 : Fun Tryz.prog 116 = true := by kernel_rfl
theorem Fun_119 : Fun Tryz.prog 119 = true := by kernel_rfl
theorem Fun_63 : Fun Tryz.prog 63 = true := by kernel_rfl
theorem Fun_64 : Fun Tryz.prog 64 = true := by kernel_rfl
theorem Fun_65 : Fun Tryz.prog 65 = true := by kernel_rfl
theorem Fun_66 : Fun Tryz.prog 66 = true := by kernel_rfl
theorem Fun_67 : Fun Tryz.prog 67 = true := by kernel_rfl
theorem Fld_156_1 : Fld Tryz.prog 156 1 1 = true := by kernel_rfl
theorem Fld_156_2 : Fld Tryz.prog 156 2 2 = true := by kernel_rfl
theorem Sl_150 : Sl Tryz.prog 150 156 5 = true := by kernel_rfl
theorem Tn_156 : Tn Tryz.prog 156 5 = true := by kernel_rfl
theorem Fun_158 : Fun Tryz.prog 158 = true := by kernel_rfl
theorem Fld_152_0 : Fld Tryz.prog 152 0 0 = true := by kernel_rfl
theorem Fld_152_1 : Fld Tryz.prog 152 1 1 = true := by kernel_rfl
theorem T1_150 : T1 Tryz.prog 150 = true := by kernel_rfl
theorem Fun_157 : Fun Tryz.prog 157 = true := by kernel_rfl
theorem Sl_47 : Sl Tryz.prog 47 152 3 = true := by kernel_rfl
theorem Tn_152 : Tn Tryz.prog 152 3 = true := by kernel_rfl
theorem Fun_101 : Fun Tryz.prog 101 = true := by kernel_rfl
theorem Fld_158_1 : Fld Tryz.prog 158 1 1 = true := by kernel_rfl
theorem Fld_158_2 : Fld Tryz.prog 158 2 6 = true := by kernel_rfl
theorem Sl_48 : Sl Tryz.prog 48 158 11 = true := by kernel_rfl
theorem Tn_158 : Tn Tryz.prog 158 11 = true := by kernel_rfl
theorem Fun_102 : Fun Tryz.prog 102 = true := by kernel_rfl
theorem Fld_241_0 : Fld Tryz.prog 241 0 0 = true := by kernel_rfl
theorem Fld_241_1 : Fld Tryz.prog 241 1 1 = true := by kernel_rfl
theorem Fld_241_2 : Fld Tryz.prog 241 2 6 = true := by kernel_rfl
theorem Sl_160 : Sl Tryz.prog 160 241 11 = true := by kernel_rfl
theorem Tn_241 : Tn Tryz.prog 241 11 = true := by kernel_rfl
theorem Fun_190 : Fun Tryz.prog 190 = true := by kernel_rfl
theorem Fld_162_1 : Fld Tryz.prog 162 1 1 = true := by kernel_rfl
theorem Fld_162_2 : Fld Tryz.prog 162 2 2 = true := by kernel_rfl
theorem T1_160 : T1 Tryz.prog 160 = true := by kernel_rfl
theorem Fun_159 : Fun Tryz.prog 159 = true := by kernel_rfl
theorem Fld_162_4 : Fld Tryz.prog 162 4 4 = true := by kernel_rfl
theorem Sl_49 : Sl Tryz.prog 49 162 5 = true := by kernel_rfl
theorem Tn_162 : Tn Tryz.prog 162 5 = true := by kernel_rfl
theorem Fun_103 : Fun Tryz.prog 103 = true := by kernel_rfl
theorem Fld_51_0 : Fld Tryz.prog 51 0 0 = true := by kernel_rfl
theorem Fld_51_2 : Fld Tryz.prog 51 2 2 = true := by kernel_rfl
theorem T1_47 : T1 Tryz.prog 47 = true := by kernel_rfl
theorem Fun_46 : Fun Tryz.prog 46 = true := by kernel_rfl
theorem Fld_51_3 : Fld Tryz.prog 51 3 3 = true := by kernel_rfl
theorem T1_48 : T1 Tryz.prog 48 = true := by kernel_rfl
theorem Fun_47 : Fun Tryz.prog 47 = true := by kernel_rfl
theorem Fld_51_4 : Fld Tryz.prog 51 4 4 = true := by kernel_rfl
theorem T1_49 : T1 Tryz.prog 49 = true := by kernel_rfl
theorem Fun_48 : Fun Tryz.prog 48 = true := by kernel_rfl
theorem Sl_66 : Sl Tryz.prog 66 51 5 = true := by kernel_rfl
theorem Tn_51 : Tn Tryz.prog 51 5 = true := by kernel_rfl
theorem Fun_14 : Fun Tryz.prog 14 = true := by kernel_rfl
theorem Fld_68_0 : Fld Tryz.prog 68 0 0 = true := by kernel_rfl
theorem Fld_68_1 : Fld Tryz.prog 68 1 1 = true := by kernel_rfl
theorem T1_66 : T1 Tryz.prog 66 = true := by kernel_rfl
theorem Fun_68 : Fun Tryz.prog 68 = true := by kernel_rfl
theorem Fld_156_0 : Fld Tryz.prog 156 0 0 = true := by kernel_rfl
theorem By_137 : By Tryz.prog 137 56 = true := by kernel_rfl
theorem Fun_165 : Fun Tryz.prog 165 = true := by kernel_rfl
theorem Fun_164 : Fun Tryz.prog 164 = true := by kernel_rfl
theorem Sz_169 : Sz Tryz.prog 169 1 = true := by kernel_rfl
theorem Fld_152_2 : Fld Tryz.prog 152 2 2 = true := by kernel_rfl
theorem Sz_4 : Sz Tryz.prog 4 1 = true := by kernel_rfl
theorem By_171 : By Tryz.prog 171 48 = true := by kernel_rfl
theorem Fun_106 : Fun Tryz.prog 106 = true := by kernel_rfl
theorem Fld_158_0 : Fld Tryz.prog 158 0 0 = true := by kernel_rfl
theorem By_139 : By Tryz.prog 139 120 = true := by kernel_rfl
theorem Fun_107 : Fun Tryz.prog 107 = true := by kernel_rfl
theorem By_191 : By Tryz.prog 191 128 = true := by kernel_rfl
theorem Fun_195 : Fun Tryz.prog 195 = true := by kernel_rfl
theorem Fld_162_0 : Fld Tryz.prog 162 0 0 = true := by kernel_rfl
theorem Fun_166 : Fun Tryz.prog 166 = true := by kernel_rfl
theorem Sz_141 : Sz Tryz.prog 141 1 = true := by kernel_rfl
theorem Fld_162_3 : Fld Tryz.prog 162 3 3 = true := by kernel_rfl
theorem By_143 : By Tryz.prog 143 72 = true := by kernel_rfl
theorem Fun_108 : Fun Tryz.prog 108 = true := by kernel_rfl
theorem Fld_51_1 : Fld Tryz.prog 51 1 1 = true := by kernel_rfl
theorem Fun_51 : Fun Tryz.prog 51 = true := by kernel_rfl
theorem Sz_36 : Sz Tryz.prog 36 1 = true := by kernel_rfl
theorem Fun_52 : Fun Tryz.prog 52 = true := by kernel_rfl
theorem Sz_37 : Sz Tryz.prog 37 1 = true := by kernel_rfl
theorem Fun_53 : Fun Tryz.prog 53 = true := by kernel_rfl
theorem Sz_38 : Sz Tryz.prog 38 1 = true := by kernel_rfl
theorem By_40 : By Tryz.prog 40 96 = true := by kernel_rfl
theorem Fun_17 : Fun Tryz.prog 17 = true := by kernel_rfl
theorem Zr_26 : (Tryz.prog.info? 26).map (·.zero) = some (some (.agg #[.string ⟨#[]⟩, .slice none 0 0])) := by kernel_rfl
theorem Fun_69 : Fun Tryz.prog 69 = true := by kernel_rfl
theorem Sz_24 : Sz Tryz.prog 24 1 = true := by kernel_rfl
theorem Sz_26 : Sz Tryz.prog 26 2 = true := by kernel_rfl
theorem Fun_170 : Fun Tryz.prog 170 = true := by kernel_rfl
theorem Fun_169 : Fun Tryz.prog 169 = true := by kernel_rfl
theorem Fun_112 : Fun Tryz.prog 112 = true := by kernel_rfl
theorem Fun_113 : Fun Tryz.prog 113 = true := by kernel_rfl
theorem Fun_198 : Fun Tryz.prog 198 = true := by kernel_rfl
theorem Fun_171 : Fun Tryz.prog 171 = true := by kernel_rfl
theorem Fun_114 : Fun Tryz.prog 114 = true := by kernel_rfl
theorem Fun_56 : Fun Tryz.prog 56 = true := by kernel_rfl
theorem Fun_57 : Fun Tryz.prog 57 = true := by kernel_rfl
theorem Fun_58 : Fun Tryz.prog 58 = true := by kernel_rfl
theorem Fun_20 : Fun Tryz.prog 20 = true := by kernel_rfl
theorem Fun_70 : Fun Tryz.prog 70 = true := by kernel_rfl
theorem Fun_117 : Fun Tryz.prog 117 = true := by kernel_rfl
theorem Fun_118 : Fun Tryz.prog 118 = true := by kernel_rfl
theorem Fun_60 : Fun Tryz.prog 60 = true := by kernel_rfl
theorem Fun_61 : Fun Tryz.prog 61 = true := by kernel_rfl
theorem Fun_62 : Fun Tryz.prog 62 = true := by kernel_rfl
theorem Fun_71 : Fun Tryz.prog 71 = true := by kernel_rfl
theorem Tn_68 : Tn Tryz.prog 68 2 = true := by kernel_rfl
theorem Fun_26 : Fun Tryz.prog 26 = true := by kernel_rfl
theorem Tn_54 : Tn Tryz.prog 54 2 = true := by kernel_rfl
theorem Fun_15 : Fun Tryz.prog 15 = true := by kernel_rfl
theorem Fun_27 : Fun Tryz.prog 27 = true := by kernel_rfl
theorem Fun_18 : Fun Tryz.prog 18 = true := by kernel_rfl
theorem Fun_13 : Fun Tryz.prog 13 = true := by kernel_rfl
theorem Fun_8 : Fun Tryz.prog 8 = true := by kernel_rfl
theorem Fun_19 : Fun Tryz.prog 19 = true := by kernel_rfl
theorem Fun_28 : Fun Tryz.prog 28 = true := by kernel_rfl
theorem Fun_21 : Fun Tryz.prog 21 = true := by kernel_rfl
theorem Fun_29 : Fun Tryz.prog 29 = true := by kernel_rfl
theorem Fun_23 : Fun Tryz.prog 23 = true := by kernel_rfl
theorem Fun_24 : Fun Tryz.prog 24 = true := by kernel_rfl
theorem Fun_25 : Fun Tryz.prog 25 = true := by kernel_rfl
theorem m_i_isSmall_ok {Φ : Hp} {w : World} (hΦ : In Φ w) (N : Nat) (p0 : Int)   {r : Bool} (h : m_i_isSmall N p0 = some r) :
  Calls Tryz.prog 131 [.int .u8 p0].toArray w (Post (.bool r) w) := by
 refine enter Tryz.func131 rfl Tryz.ntmps131 rfl (St.start0 hΦ) ?_
 unfold m_i_isSmall at h
 refine sr <| la rfl <| en <| sr <| la rfl <| la rfl <| la rfl ?_
 obtain ⟨b1, hb_1, h⟩ := bs h
 refine WL.cutN 3 [(8, .bool b1), (2, .bool false)] ?_ (fun K => ?_)
 rotate_left
 ·refine spl 5 rfl hb_1 (fun c1 hb_1 => ?_) (fun c1 hb_1 => ?_)
  ·refine ly rfl rfl <| la rfl <| ly rfl rfl <| la rfl <| la rfl ?_
   cases hb_1
   exact kk K ⟨rfl, rfl, trivial⟩
  ·refine la rfl <| la rfl <| la rfl ?_
   cases hb_1
   exact kk K ⟨rfl, rfl, trivial⟩
 refine la rfl <| en ?_
 refine WT.ret Tryz.func131 (resOk.one rfl) (fun w1 hw => ?_)
 cases h
 exact post_of_St hw
theorem m_i_isDigit_ok {Φ : Hp} {w : World} (hΦ : In Φ w) (N : Nat) (p0 : Int)   {r : Bool} (h : m_i_isDigit N p0 = some r) :
  Calls Tryz.prog 200 [.int .u8 p0].toArray w (Post (.bool r) w) := by
 refine enter Tryz.func200 rfl Tryz.ntmps200 rfl (St.start0 hΦ) ?_
 unfold m_i_isDigit at h
 refine sr <| la rfl <| en <| sr <| la rfl <| la rfl <| la rfl ?_
 obtain ⟨b1, hb_1, h⟩ := bs h
 refine WL.cutN 3 [(8, .bool b1), (2, .bool false)] ?_ (fun K => ?_)
 rotate_left
 ·refine spl 5 rfl hb_1 (fun c1 hb_1 => ?_) (fun c1 hb_1 => ?_)
  ·refine ly rfl rfl <| la rfl <| ly rfl rfl <| la rfl <| la rfl ?_
   cases hb_1
   exact kk K ⟨rfl, rfl, trivial⟩
  ·refine la rfl <| la rfl <| la rfl ?_
   cases hb_1
   exact kk K ⟨rfl, rfl, trivial⟩
 refine la rfl <| en ?_
 refine WT.ret Tryz.func200 (resOk.one rfl) (fun w1 hw => ?_)
 cases h
 exact post_of_St hw
theorem m_i_isWordByte_ok {Φ : Hp} {w : World} (hΦ : In Φ w) (N : Nat) (p0 : Int)   {r : Bool} (h : m_i_isWordByte N p0 = some r) :
  Calls Tryz.prog 178 [.int .u8 p0].toArray w (Post (.bool r) w) := by
 refine enter Tryz.func178 rfl Tryz.ntmps178 rfl (St.start0 hΦ) ?_
 unfold m_i_isWordByte at h
 refine sr <| la rfl <| en <| sr <| la rfl ?_
 obtain ⟨x1, hx1, h⟩ := bs h
 refine lp (p_call Fun_131 rfl (fun w1 hw => m_i_isSmall_ok hw.fro N p0 hx1)) rfl <| la rfl ?_
 obtain ⟨b1, hb_1, h⟩ := bs h
 refine WL.cutN 3 [(8, .bool b1), (0, .int .u8 p0), (2, .bool false)] ?_ (fun K => ?_)
 rotate_left
 ·refine spl 5 rfl hb_1 (fun c1 hb_1 => ?_) (fun c1 hb_1 => ?_)
  ·refine la rfl <| la rfl <| la rfl ?_
   cases hb_1
   exact kk K ⟨rfl, rfl, rfl, trivial⟩
  ·refine ly rfl rfl <| la rfl <| ly rfl rfl ?_
   obtain ⟨x2, hx2, hb_1⟩ := bs hb_1
   refine lp (p_call Fun_200 rfl (fun w1 hw => m_i_isDigit_ok hw.fro N p0 hx2)) rfl <| la rfl ?_
   cases hb_1
   exact kk K ⟨rfl, rfl, rfl, trivial⟩
 refine la rfl ?_
 obtain ⟨b2, hb_2, h⟩ := bs h
 refine WL.cutN 3 [(12, .bool b2), (2, .bool false)] ?_ (fun K => ?_)
 rotate_left
 ·refine spl 9 rfl hb_2 (fun c2 hb_2 => ?_) (fun c2 hb_2 => ?_)
  ·refine la rfl <| la rfl <| la rfl ?_
   cases hb_2
   exact kk K ⟨rfl, rfl, trivial⟩
  ·refine ly rfl rfl <| la rfl <| ly rfl rfl <| la rfl <| la rfl ?_
   cases hb_2
   exact kk K ⟨rfl, rfl, trivial⟩
 refine la rfl <| en ?_
 refine WT.ret Tryz.func178 (resOk.one rfl) (fun w1 hw => ?_)
 cases h
 exact post_of_St hw
theorem m_i_isWord_ok {Φ : Hp} {w : World} (hΦ : In Φ w) (N : Nat) (p0 : ByteArray) (p1 : Int)   {r : Bool} (h : m_i_isWord N p0 p1 = some r) :
  Calls Tryz.prog 132 [.string p0, .int .i64 p1].toArray w (Post (.bool r) w) := by
 refine enter Tryz.func132 rfl Tryz.ntmps132 rfl (St.start0 hΦ) ?_
 generalize hb0 : (⟨w, [], Φ⟩ : Base) = w0
 unfold m_i_isWord at h
 refine sr <| la rfl <| en <| sq <| sr <| la rfl <| lq (q_lenS Str_9 rfl rfl) rfl <| la rfl <| la rfl <| en ?_
 refine cdh rfl h (fun c1 h => ?_) (fun c1 h => ?_)
 ·refine sr <| la rfl <| en ?_
  refine WT.ret Tryz.func132 (resOk.one rfl) (fun w1 hw => ?_)
  subst hb0
  cases h
  exact post_of_St hw
 refine WT.skip <| sq <| sr <| la rfl <| en <| blk ?_
 refine loop_in (σ := Int) (fun s => [(0, .string p0), (5, .int .i64 s)]) (fun s => St w0 Φ [] []) (fun m s => m_i_isWord_l1 N p0 m s = some r) (0) N h ⟨rfl, rfl, trivial⟩ (fun w1 hw => (hw.sel (js := []) rfl).selO (js := []) rfl) (fun s hm => none_ne hm) (fun n1 ih1 s hm => ?_)
 revert hm; revert s; intro s1 hm
 have h : m_i_isWord_l1 N p0 (n1 + 1) s1 = some r := hm
 show WT _ _ [(0, .string p0), (5, .int .i64 s1)] (St w0 Φ [] [])
 unfold m_i_isWord_l1 at h
 refine sq <| sr <| la rfl <| la rfl <| lq (q_lenS Str_9 rfl rfl) rfl <| la rfl <| en ?_
 refine cdh rfl h (fun c2 h => ?_) (fun c2 h => ?_)
 ·refine WT.skip <| sq <| blk <| sr <| la rfl <| la rfl ?_
  obtain ⟨y1, hy1, h⟩ := bs h
  refine lq (q_indexS Str_9 rfl rfl hy1) rfl ?_
  obtain ⟨x1, hx1, h⟩ := bs h
  refine lp (p_call Fun_178 rfl (fun w1 hw => m_i_isWordByte_ok hw.fro N (y1.toNat : Int) hx1)) rfl <| la rfl <| en ?_
  refine cdh rfl h (fun c3 h => ?_) (fun c3 h => ?_)
  ·refine sr <| la rfl <| en ?_
   refine WT.ret Tryz.func132 (resOk.one rfl) (fun w1 hw => ?_)
   subst hb0
   cases h
   exact post_of_St hw
  refine WT.skip <| ib <| rgn <| la rfl <| la rfl <| la rfl <| en ?_
  exact lback (ih1 (IntKind.i64.wrap (s1 + 1)) h) ⟨rfl, rfl, trivial⟩ (fun w1 hw => (hw.sel (js := []) rfl).selO (js := []) rfl)
 refine xt rfl <| sr <| la rfl <| en ?_
 refine WT.ret Tryz.func132 (resOk.one rfl) (fun w1 hw => ?_)
 subst hb0
 cases h
 exact post_of_St hw
theorem m_i_NameOk_ok {Φ : Hp} {w : World} (hΦ : In Φ w) (N : Nat) (p0 : ByteArray)   {r : Bool} (h : m_i_NameOk N p0 = some r) :
  Calls Tryz.prog 80 [.string p0].toArray w (Post (.bool r) w) := by
 refine enter Tryz.func80 rfl Tryz.ntmps80 rfl (St.start0 hΦ) ?_
 unfold m_i_NameOk at h
 refine sr <| la rfl <| en <| sr <| la rfl <| lq (q_lenS Str_9 rfl rfl) rfl <| la rfl <| la rfl ?_
 obtain ⟨b1, hb_1, h⟩ := bs h
 refine WL.cutN 4 [(10, .bool b1), (0, .string p0), (2, .bool false)] ?_ (fun K => ?_)
 rotate_left
 ·refine spl 6 rfl hb_1 (fun c1 hb_1 => ?_) (fun c1 hb_1 => ?_)
  ·refine ly rfl rfl <| la rfl <| ly rfl rfl ?_
   obtain ⟨y1, hy1, hb_1⟩ := bs hb_1
   refine lq (q_indexS Str_9 rfl rfl hy1) rfl <| ly rfl rfl ?_
   obtain ⟨x1, hx1, hb_1⟩ := bs hb_1
   refine lp (p_call Fun_131 rfl (fun w1 hw => m_i_isSmall_ok hw.fro N (y1.toNat : Int) hx1)) rfl <| la rfl ?_
   cases hb_1
   exact kk K ⟨rfl, rfl, rfl, trivial⟩
  ·refine la rfl <| la rfl <| la rfl <| la rfl ?_
   cases hb_1
   exact kk K ⟨rfl, rfl, rfl, trivial⟩
 refine la rfl ?_
 obtain ⟨b2, hb_2, h⟩ := bs h
 refine WL.cutN 3 [(14, .bool b2), (2, .bool false)] ?_ (fun K => ?_)
 rotate_left
 ·refine spl 11 rfl hb_2 (fun c2 hb_2 => ?_) (fun c2 hb_2 => ?_)
  ·refine ly rfl rfl <| la rfl <| ly rfl rfl ?_
   obtain ⟨x2, hx2, hb_2⟩ := bs hb_2
   refine lp (p_call Fun_132 rfl (fun w1 hw => m_i_isWord_ok hw.fro N p0 12 hx2)) rfl <| la rfl ?_
   cases hb_2
   exact kk K ⟨rfl, rfl, trivial⟩
  ·refine la rfl <| la rfl <| la rfl ?_
   cases hb_2
   exact kk K ⟨rfl, rfl, trivial⟩
 refine la rfl <| en ?_
 refine WT.ret Tryz.func80 (resOk.one rfl) (fun w1 hw => ?_)
 cases h
 exact post_of_St hw
theorem m_i_inRange_ok {Φ : Hp} {w : World} (hΦ : In Φ w) (N : Nat) (p0 : Int) (p1 : Int) (p2 : Int)   {r : Bool} (h : m_i_inRange N p0 p1 p2 = some r) :
  Calls Tryz.prog 81 [.int .i64 p0, .int .i64 p1, .int .i64 p2].toArray w (Post (.bool r) w) := by
 refine enter Tryz.func81 rfl Tryz.ntmps81 rfl (St.start0 hΦ) ?_
 unfold m_i_inRange at h
 refine sr <| la rfl <| en <| sr <| la rfl <| la rfl <| la rfl <| la rfl ?_
 obtain ⟨b1, hb_1, h⟩ := bs h
 refine WL.cutN 4 [(14, .bool b1), (6, .bool false)] ?_ (fun K => ?_)
 rotate_left
 ·refine spl 10 rfl hb_1 (fun c1 hb_1 => ?_) (fun c1 hb_1 => ?_)
  ·refine ly rfl rfl <| la rfl <| ly rfl rfl <| la rfl <| ly rfl rfl <| la rfl <| la rfl ?_
   cases hb_1
   exact kk K ⟨rfl, rfl, trivial⟩
  ·refine la rfl <| la rfl <| la rfl <| la rfl ?_
   cases hb_1
   exact kk K ⟨rfl, rfl, trivial⟩
 refine la rfl <| en ?_
 refine WT.ret Tryz.func81 (resOk.one rfl) (fun w1 hw => ?_)
 cases h
 exact post_of_St hw
theorem m_i_PosCount_ok {Φ : Hp} {w : World} (hΦ : In Φ w) (N : Nat) (p0 : TRule) {pv0_0 pv0_1 pv0_2 : Value} {pG0_0 pG0_1 pG0_2 : List Nat} (ph0_0 : RSl RTPat 3 Φ pG0_0 pv0_0 p0.Pats) (ph0_1 : RSl RTCond 11 Φ pG0_1 pv0_1 p0.Conds) (ph0_2 : RSl RTAct 5 Φ pG0_2 pv0_2 p0.Acts) {r : Int} (h : m_i_PosCount N p0 = some r) :
  Calls Tryz.prog 94 [.agg [.string p0.Name, .int .i64 p0.Sal, pv0_0, pv0_1, pv0_2].toArray].toArray w (Post (.int .i64 r) w) := by
 refine enter Tryz.func94 rfl Tryz.ntmps94 rfl (St.start0 hΦ) ?_
 generalize hb0 : (⟨w, [], Φ⟩ : Base) = w0
 unfold m_i_PosCount at h
 refine sr ?_
 refine ln (nb rfl) rfl (fun b_1 => ?_)
 refine la rfl <| en <| sr <| la rfl <| en <| sq <| sr <| lf Fld_40_2 rfl rfl rfl <| lo T1_36 0 rfl <| lq (q_lenR Sl_36 rfl rfl ph0_0) rfl <| la rfl <| en <| blk ?_
 refine loop_in (σ := Int × Int) (fun s => [(3, .int .i64 s.1), (7, pv0_0), (8, .int .i64 (p0.Pats.length : Int)), (9, .int .i64 s.2)]) (fun s => St w0 Φ [] []) (fun m s => m_i_PosCount_l1 N p0 m s.1 s.2 = some r) (0, 0) N h ⟨rfl, rfl, rfl, rfl, trivial⟩ (fun w1 hw => (hw.sel (js := []) rfl).selO (js := []) rfl) (fun s hm => none_ne hm) (fun n1 ih1 s hm => ?_)
 obtain ⟨s1, s2⟩ := s
 have h : m_i_PosCount_l1 N p0 (n1 + 1) s1 s2 = some r := hm
 show WT _ _ [(3, .int .i64 s1), (7, pv0_0), (8, .int .i64 (p0.Pats.length : Int)), (9, .int .i64 s2)] (St w0 Φ [] [])
 unfold m_i_PosCount_l1 at h
 refine sr <| la rfl <| en <| sq ?_
 refine cdh rfl h (fun c1 h => ?_) (fun c1 h => ?_)
 ·refine WT.skip <| sq <| blk <| sr ?_
  obtain ⟨x1, hx1, h⟩ := bs h
  obtain ⟨cs1, F1, -, g1, hb1, hs1, r1⟩ := ph0_0.el (idx_some hx1).2.2
  obtain ⟨v1, G1, rfl, hq1, h1⟩ := r1
  obtain rfl := hq1.symm
  refine lq (q_indexAddr Sl_36 rfl rfl ph0_0 hx1) rfl <| lg3 0 Tn_171 g1 rfl rfl ?_
  refine ln (nz Zr_171) rfl (fun b_2 => ?_)
  refine soN 0 Sz_171 rfl ⟨rfl, h1.one, rfl, trivial⟩ rfl ?_
  refine en <| sr <| lf Fld_171_2 rfl rfl rfl <| lo T1_4 0 rfl <| la rfl <| en ?_
  refine cdh rfl h (fun c2 h => ?_) (fun c2 h => ?_)
  ·refine rgn <| la rfl <| la rfl <| la rfl <| en <| ib <| rgn <| la rfl <| la rfl <| en ?_
   exact lback (ih1 (IntKind.i64.wrap (s1 + 1), IntKind.i64.wrap (s2 + 1)) h) ⟨rfl, rfl, rfl, rfl, trivial⟩ (fun w1 hw => (hw.sel (js := []) rfl).selO (js := []) rfl)
  refine WT.skip <| ib <| rgn <| la rfl <| la rfl <| en ?_
  exact lback (ih1 (s1, IntKind.i64.wrap (s2 + 1)) h) ⟨rfl, rfl, rfl, rfl, trivial⟩ (fun w1 hw => (hw.sel (js := []) rfl).selO (js := []) rfl)
 refine xt rfl <| sr <| la rfl <| la rfl <| en ?_
 refine WT.ret Tryz.func94 (resOk.one rfl) (fun w1 hw => ?_)
 subst hb0
 cases h
 exact post_of_St hw
theorem m_i_ValOk_ok {Φ : Hp} {w : World} (hΦ : In Φ w) (N : Nat) (p0 : TVal)   {r : Bool} (h : m_i_ValOk N p0 = some r) :
  Calls Tryz.prog 135 [.agg [.int .i64 p0.K, .int .i64 p0.N, .string p0.S].toArray].toArray w (Post (.bool r) w) := by
 refine enter Tryz.func135 rfl Tryz.ntmps135 rfl (St.start0 hΦ) ?_
 unfold m_i_ValOk at h
 refine sr ?_
 refine ln (nb rfl) rfl (fun b_1 => ?_)
 refine la rfl <| en <| sq <| sr <| lf Fld_85_0 rfl rfl rfl <| lo T1_3 0 rfl <| en <| blk <| sr <| la rfl <| la rfl <| en ?_
 refine cdh rfl h (fun c1 h => ?_) (fun c1 h => ?_)
 ·refine sr <| lf Fld_85_1 rfl rfl rfl <| lo T1_3 0 rfl ?_
  obtain ⟨x1, hx1, h⟩ := bs h
  refine lp (p_call Fun_81 rfl (fun w1 hw => m_i_inRange_ok hw.fro N p0.N (-1000000000) 1000000000 hx1)) rfl <| la rfl ?_
  obtain ⟨b1, hb_1, h⟩ := bs h
  refine WL.cutN 4 [(14, .bool b1), (2, .bool false)] ?_ (fun K => ?_)
  rotate_left
  ·refine spl 10 rfl hb_1 (fun c2 hb_1 => ?_) (fun c2 hb_1 => ?_)
   ·refine ly rfl rfl <| lf Fld_85_2 rfl rfl rfl <| ly rfl rfl <| lo T1_9 0 rfl <| ly rfl rfl <| la rfl <| la rfl ?_
    cases hb_1
    exact kk K ⟨rfl, rfl, trivial⟩
   ·refine la rfl <| la rfl <| la rfl <| la rfl ?_
    cases hb_1
    exact kk K ⟨rfl, rfl, trivial⟩
  refine la rfl <| en ?_
  refine WT.ret Tryz.func135 (resOk.one rfl) (fun w1 hw => ?_)
  cases h
  exact post_of_St hw
 refine sr <| la rfl <| la rfl <| en ?_
 refine cdh rfl h (fun c3 h => ?_) (fun c3 h => ?_)
 ·refine sr <| lf Fld_85_1 rfl rfl rfl <| lo T1_3 0 rfl <| la rfl <| la rfl ?_
  obtain ⟨b2, hb_2, h⟩ := bs h
  refine WL.cutN 4 [(24, .bool b2), (2, .bool false)] ?_ (fun K => ?_)
  rotate_left
  ·refine spl 20 rfl hb_2 (fun c4 hb_2 => ?_) (fun c4 hb_2 => ?_)
   ·refine ly rfl rfl <| lf Fld_85_2 rfl rfl rfl <| ly rfl rfl <| lo T1_9 0 rfl <| ly rfl rfl ?_
    obtain ⟨x2, hx2, hb_2⟩ := bs hb_2
    refine lp (p_call Fun_132 rfl (fun w1 hw => m_i_isWord_ok hw.fro N p0.S 20 hx2)) rfl <| la rfl ?_
    cases hb_2
    exact kk K ⟨rfl, rfl, trivial⟩
   ·refine la rfl <| la rfl <| la rfl <| la rfl ?_
    cases hb_2
    exact kk K ⟨rfl, rfl, trivial⟩
  refine la rfl <| en ?_
  refine WT.ret Tryz.func135 (resOk.one rfl) (fun w1 hw => ?_)
  cases h
  exact post_of_St hw
 refine WT.skip <| ib <| sr <| la rfl <| en ?_
 refine WT.ret Tryz.func135 (resOk.one rfl) (fun w1 hw => ?_)
 cases h
 exact post_of_St hw
theorem m_i_isLarge_ok {Φ : Hp} {w : World} (hΦ : In Φ w) (N : Nat) (p0 : Int)   {r : Bool} (h : m_i_isLarge N p0 = some r) :
  Calls Tryz.prog 211 [.int .u8 p0].toArray w (Post (.bool r) w) := by
 refine enter Tryz.func211 rfl Tryz.ntmps211 rfl (St.start0 hΦ) ?_
 unfold m_i_isLarge at h
 refine sr <| la rfl <| en <| sr <| la rfl <| la rfl <| la rfl ?_
 obtain ⟨b1, hb_1, h⟩ := bs h
 refine WL.cutN 3 [(8, .bool b1), (2, .bool false)] ?_ (fun K => ?_)
 rotate_left
 ·refine spl 5 rfl hb_1 (fun c1 hb_1 => ?_) (fun c1 hb_1 => ?_)
  ·refine ly rfl rfl <| la rfl <| ly rfl rfl <| la rfl <| la rfl ?_
   cases hb_1
   exact kk K ⟨rfl, rfl, trivial⟩
  ·refine la rfl <| la rfl <| la rfl ?_
   cases hb_1
   exact kk K ⟨rfl, rfl, trivial⟩
 refine la rfl <| en ?_
 refine WT.ret Tryz.func211 (resOk.one rfl) (fun w1 hw => ?_)
 cases h
 exact post_of_St hw
theorem m_i_isVar_ok {Φ : Hp} {w : World} (hΦ : In Φ w) (N : Nat) (p0 : ByteArray)   {r : Bool} (h : m_i_isVar N p0 = some r) :
  Calls Tryz.prog 203 [.string p0].toArray w (Post (.bool r) w) := by
 refine enter Tryz.func203 rfl Tryz.ntmps203 rfl (St.start0 hΦ) ?_
 generalize hb0 : (⟨w, [], Φ⟩ : Base) = w0
 unfold m_i_isVar at h
 refine sr <| la rfl <| en <| sq <| sr <| la rfl <| lq (q_lenS Str_9 rfl rfl) rfl <| la rfl <| la rfl ?_
 obtain ⟨b1, hb_1, h⟩ := bs h
 refine WL.cutN 4 [(11, .bool b1), (0, .string p0)] ?_ (fun K => ?_)
 rotate_left
 ·refine spl 7 rfl hb_1 (fun c1 hb_1 => ?_) (fun c1 hb_1 => ?_)
  ·refine la rfl <| la rfl <| la rfl <| la rfl ?_
   cases hb_1
   exact kk K ⟨rfl, rfl, trivial⟩
  ·refine ly rfl rfl <| la rfl <| ly rfl rfl <| lq (q_lenS Str_9 rfl rfl) rfl <| ly rfl rfl <| la rfl <| la rfl ?_
   cases hb_1
   exact kk K ⟨rfl, rfl, trivial⟩
 refine la rfl ?_
 obtain ⟨b2, hb_2, h⟩ := bs h
 refine WL.cutN 5 [(17, .bool b2), (0, .string p0)] ?_ (fun K => ?_)
 rotate_left
 ·refine spl 12 rfl hb_2 (fun c2 hb_2 => ?_) (fun c2 hb_2 => ?_)
  ·refine la rfl <| la rfl <| la rfl <| la rfl <| la rfl ?_
   cases hb_2
   exact kk K ⟨rfl, rfl, trivial⟩
  ·refine ly rfl rfl <| la rfl <| ly rfl rfl ?_
   obtain ⟨y1, hy1, hb_2⟩ := bs hb_2
   refine lq (q_indexS Str_9 rfl rfl hy1) rfl <| ly rfl rfl ?_
   obtain ⟨x1, hx1, hb_2⟩ := bs hb_2
   refine lp (p_call Fun_211 rfl (fun w1 hw => m_i_isLarge_ok hw.fro N (y1.toNat : Int) hx1)) rfl <| ly rfl rfl <| la rfl <| la rfl ?_
   cases hb_2
   exact kk K ⟨rfl, rfl, trivial⟩
 refine en ?_
 refine cdh rfl h (fun c3 h => ?_) (fun c3 h => ?_)
 ·refine sr <| la rfl <| en ?_
  refine WT.ret Tryz.func203 (resOk.one rfl) (fun w1 hw => ?_)
  subst hb0
  cases h
  exact post_of_St hw
 refine WT.skip <| sq <| sr <| la rfl <| en <| blk ?_
 refine loop_in (σ := Int) (fun s => [(0, .string p0), (3, .int .i64 s)]) (fun s => St w0 Φ [] []) (fun m s => m_i_isVar_l1 N p0 m s = some r) (0) N h ⟨rfl, rfl, trivial⟩ (fun w1 hw => (hw.sel (js := []) rfl).selO (js := []) rfl) (fun s hm => none_ne hm) (fun n1 ih1 s hm => ?_)
 revert hm; revert s; intro s1 hm
 have h : m_i_isVar_l1 N p0 (n1 + 1) s1 = some r := hm
 show WT _ _ [(0, .string p0), (3, .int .i64 s1)] (St w0 Φ [] [])
 unfold m_i_isVar_l1 at h
 refine sq <| sr <| la rfl <| la rfl <| lq (q_lenS Str_9 rfl rfl) rfl <| la rfl <| en ?_
 refine cdh rfl h (fun c4 h => ?_) (fun c4 h => ?_)
 ·refine WT.skip <| sq <| blk <| sr <| la rfl <| la rfl ?_
  obtain ⟨y2, hy2, h⟩ := bs h
  refine lq (q_indexS Str_9 rfl rfl hy2) rfl ?_
  obtain ⟨x2, hx2, h⟩ := bs h
  refine lp (p_call Fun_178 rfl (fun w1 hw => m_i_isWordByte_ok hw.fro N (y2.toNat : Int) hx2)) rfl <| la rfl <| la rfl ?_
  obtain ⟨b3, hb_3, h⟩ := bs h
  refine WL.cutN 6 [(35, .bool b3), (0, .string p0), (3, .int .i64 s1)] ?_ (fun K => ?_)
  rotate_left
  ·refine spl 29 rfl hb_3 (fun c5 hb_3 => ?_) (fun c5 hb_3 => ?_)
   ·refine ly rfl rfl <| la rfl <| ly rfl rfl <| la rfl <| ly rfl rfl ?_
    obtain ⟨y3, hy3, hb_3⟩ := bs hb_3
    refine lq (q_indexS Str_9 rfl rfl hy3) rfl <| ly rfl rfl ?_
    obtain ⟨x3, hx3, hb_3⟩ := bs hb_3
    refine lp (p_call Fun_211 rfl (fun w1 hw => m_i_isLarge_ok hw.fro N (y3.toNat : Int) hx3)) rfl <| ly rfl rfl <| la rfl <| la rfl ?_
    cases hb_3
    exact kk K ⟨rfl, rfl, rfl, trivial⟩
   ·refine la rfl <| la rfl <| la rfl <| la rfl <| la rfl <| la rfl ?_
    cases hb_3
    exact kk K ⟨rfl, rfl, rfl, trivial⟩
  refine en ?_
  refine cdh rfl h (fun c6 h => ?_) (fun c6 h => ?_)
  ·refine sr <| la rfl <| en ?_
   refine WT.ret Tryz.func203 (resOk.one rfl) (fun w1 hw => ?_)
   subst hb0
   cases h
   exact post_of_St hw
  refine WT.skip <| ib <| rgn <| la rfl <| la rfl <| la rfl <| en ?_
  exact lback (ih1 (IntKind.i64.wrap (s1 + 1)) h) ⟨rfl, rfl, trivial⟩ (fun w1 hw => (hw.sel (js := []) rfl).selO (js := []) rfl)
 refine xt rfl <| sr <| la rfl <| en ?_
 refine WT.ret Tryz.func203 (resOk.one rfl) (fun w1 hw => ?_)
 subst hb0
 cases h
 exact post_of_St hw
theorem m_i_ArgOk_ok {Φ : Hp} {w : World} (hΦ : In Φ w) (N : Nat) (p0 : TArg)   {r : Bool} (h : m_i_ArgOk N p0 = some r) :
  Calls Tryz.prog 181 [.agg [.int .i64 p0.K, .string p0.S, .int .i64 p0.V.K, .int .i64 p0.V.N, .string p0.V.S].toArray].toArray w (Post (.bool r) w) := by
 refine enter Tryz.func181 rfl Tryz.ntmps181 rfl (St.start0 hΦ) ?_
 unfold m_i_ArgOk at h
 refine sr ?_
 refine ln (nb rfl) rfl (fun b_1 => ?_)
 refine la rfl <| en <| sq <| sr <| lf Fld_137_0 rfl rfl rfl <| lo T1_3 0 rfl <| en <| blk <| sr <| la rfl <| la rfl <| en ?_
 refine cdh rfl h (fun c1 h => ?_) (fun c1 h => ?_)
 ·refine sr <| lf Fld_137_1 rfl rfl rfl <| lo T1_9 0 rfl ?_
  obtain ⟨x1, hx1, h⟩ := bs h
  refine lp (p_call Fun_203 rfl (fun w1 hw => m_i_isVar_ok hw.fro N p0.S hx1)) rfl <| la rfl ?_
  obtain ⟨b1, hb_1, h⟩ := bs h
  refine WL.cutN 5 [(15, .bool b1), (2, .bool false)] ?_ (fun K => ?_)
  rotate_left
  ·refine spl 10 rfl hb_1 (fun c2 hb_1 => ?_) (fun c2 hb_1 => ?_)
   ·refine ly rfl rfl <| lf Fld_137_2 rfl rfl rfl <| ly rfl rfl <| ld3 Tn_85 0 rfl <| ly rfl rfl <| lq (q_build (vs := []) (C := #[.int .i64 0, .int .i64 0, .string (⟨#[]⟩ : ByteArray)]) Pl_85 Zr_85 rfl (fill_nil)) rfl <| ly rfl rfl <| lq (q_eqA EqT_85 rfl rfl rfl (r := eqT_TVal p0.V (⟨0, 0, (⟨#[]⟩ : ByteArray)⟩ : TVal)) rfl) rfl <| la rfl ?_
    cases hb_1
    exact kk K ⟨rfl, rfl, trivial⟩
   ·refine la rfl <| la rfl <| la rfl <| la rfl <| la rfl ?_
    cases hb_1
    exact kk K ⟨rfl, rfl, trivial⟩
  refine la rfl <| en ?_
  refine WT.ret Tryz.func181 (resOk.one rfl) (fun w1 hw => ?_)
  cases h
  exact post_of_St hw
 refine sr <| la rfl <| la rfl <| en ?_
 refine cdh rfl h (fun c3 h => ?_) (fun c3 h => ?_)
 ·refine sr <| lf Fld_137_1 rfl rfl rfl <| lo T1_9 0 rfl <| la rfl <| la rfl ?_
  obtain ⟨b2, hb_2, h⟩ := bs h
  refine WL.cutN 4 [(25, .bool b2), (2, .bool false)] ?_ (fun K => ?_)
  rotate_left
  ·refine spl 21 rfl hb_2 (fun c4 hb_2 => ?_) (fun c4 hb_2 => ?_)
   ·refine ly rfl rfl <| lf Fld_137_2 rfl rfl rfl <| ly rfl rfl <| ld3 Tn_85 0 rfl <| ly rfl rfl ?_
    obtain ⟨x2, hx2, hb_2⟩ := bs hb_2
    refine lp (p_call Fun_135 rfl (fun w1 hw => m_i_ValOk_ok hw.fro N p0.V hx2)) rfl <| la rfl ?_
    cases hb_2
    exact kk K ⟨rfl, rfl, trivial⟩
   ·refine la rfl <| la rfl <| la rfl <| la rfl ?_
    cases hb_2
    exact kk K ⟨rfl, rfl, trivial⟩
  refine la rfl <| en ?_
  refine WT.ret Tryz.func181 (resOk.one rfl) (fun w1 hw => ?_)
  cases h
  exact post_of_St hw
 refine sr <| la rfl <| la rfl <| en ?_
 refine cdh rfl h (fun c5 h => ?_) (fun c5 h => ?_)
 ·refine sr <| lf Fld_137_1 rfl rfl rfl <| lo T1_9 0 rfl <| la rfl <| la rfl ?_
  obtain ⟨b3, hb_3, h⟩ := bs h
  refine WL.cutN 5 [(36, .bool b3), (2, .bool false)] ?_ (fun K => ?_)
  rotate_left
  ·refine spl 31 rfl hb_3 (fun c6 hb_3 => ?_) (fun c6 hb_3 => ?_)
   ·refine ly rfl rfl <| lf Fld_137_2 rfl rfl rfl <| ly rfl rfl <| ld3 Tn_85 0 rfl <| ly rfl rfl <| lq (q_build (vs := []) (C := #[.int .i64 0, .int .i64 0, .string (⟨#[]⟩ : ByteArray)]) Pl_85 Zr_85 rfl (fill_nil)) rfl <| ly rfl rfl <| lq (q_eqA EqT_85 rfl rfl rfl (r := eqT_TVal p0.V (⟨0, 0, (⟨#[]⟩ : ByteArray)⟩ : TVal)) rfl) rfl <| la rfl ?_
    cases hb_3
    exact kk K ⟨rfl, rfl, trivial⟩
   ·refine la rfl <| la rfl <| la rfl <| la rfl <| la rfl ?_
    cases hb_3
    exact kk K ⟨rfl, rfl, trivial⟩
  refine la rfl <| en ?_
  refine WT.ret Tryz.func181 (resOk.one rfl) (fun w1 hw => ?_)
  cases h
  exact post_of_St hw
 refine WT.skip <| ib <| sr <| la rfl <| en ?_
 refine WT.ret Tryz.func181 (resOk.one rfl) (fun w1 hw => ?_)
 cases h
 exact post_of_St hw
theorem m_i_PatOk_ok {Φ : Hp} {w : World} (hΦ : In Φ w) (N : Nat) (p0 : TPat) {pv0_0 : Value} {pG0_0 : List Nat} (ph0_0 : RSl RTArg 5 Φ pG0_0 pv0_0 p0.Args) {r : Bool} (h : m_i_PatOk N p0 = some r) :
  Calls Tryz.prog 143 [.agg [.string p0.Kind, pv0_0, .bool p0.Not].toArray].toArray w (Post (.bool r) w) := by
 refine enter Tryz.func143 rfl Tryz.ntmps143 rfl (St.start0 hΦ) ?_
 generalize hb0 : (⟨w, [], Φ⟩ : Base) = w0
 unfold m_i_PatOk at h
 refine sr ?_
 refine ln (nb rfl) rfl (fun b_1 => ?_)
 refine la rfl <| en <| sq <| sr <| lf Fld_171_0 rfl rfl rfl <| lo T1_9 0 rfl ?_
 obtain ⟨x1, hx1, h⟩ := bs h
 refine lp (p_call Fun_80 rfl (fun w1 hw => m_i_NameOk_ok hw.fro N p0.Kind hx1)) rfl <| la rfl <| la rfl ?_
 obtain ⟨b1, hb_1, h⟩ := bs h
 refine WL.cutN 5 [(14, .bool b1), (1, .pointer (some ⟨b_1, 0, none⟩))] ?_ (fun K => ?_)
 rotate_left
 ·refine spl 9 rfl hb_1 (fun c1 hb_1 => ?_) (fun c1 hb_1 => ?_)
  ·refine la rfl <| la rfl <| la rfl <| la rfl <| la rfl ?_
   cases hb_1
   exact kk K ⟨rfl, rfl, trivial⟩
  ·refine ly rfl rfl <| lf Fld_171_1 rfl rfl rfl <| ly rfl rfl <| lo T1_169 0 rfl <| ly rfl rfl <| lq (q_lenR Sl_169 rfl rfl ph0_0) rfl <| ly rfl rfl <| la rfl <| la rfl ?_
   cases hb_1
   exact kk K ⟨rfl, rfl, trivial⟩
 refine en ?_
 refine cdh rfl h (fun c2 h => ?_) (fun c2 h => ?_)
 ·refine sr <| la rfl <| en ?_
  refine WT.ret Tryz.func143 (resOk.one rfl) (fun w1 hw => ?_)
  subst hb0
  cases h
  exact post_of_St hw
 refine WT.skip <| sq <| sr <| lf Fld_171_1 rfl rfl rfl <| lo T1_169 0 rfl <| lq (q_lenR Sl_169 rfl rfl ph0_0) rfl <| la rfl <| en <| blk ?_
 refine loop_in (σ := Int) (fun s => [(16, pv0_0), (17, .int .i64 (p0.Args.length : Int)), (18, .int .i64 s)]) (fun s => St w0 Φ [] []) (fun m s => m_i_PatOk_l1 N p0 m s = some r) (0) N h ⟨rfl, rfl, rfl, trivial⟩ (fun w1 hw => (hw.sel (js := []) rfl).selO (js := []) rfl) (fun s hm => none_ne hm) (fun n1 ih1 s hm => ?_)
 revert hm; revert s; intro s1 hm
 have h : m_i_PatOk_l1 N p0 (n1 + 1) s1 = some r := hm
 show WT _ _ [(16, pv0_0), (17, .int .i64 (p0.Args.length : Int)), (18, .int .i64 s1)] (St w0 Φ [] [])
 unfold m_i_PatOk_l1 at h
 refine sr <| la rfl <| en <| sq ?_
 refine cdh rfl h (fun c3 h => ?_) (fun c3 h => ?_)
 ·refine WT.skip <| sq <| blk <| sr ?_
  obtain ⟨x2, hx2, h⟩ := bs h
  obtain ⟨cs1, F1, -, g1, hb1, hs1, r1⟩ := ph0_0.el (idx_some hx2).2.2
  obtain ⟨rfl, -⟩ := r1
  refine lq (q_indexAddr Sl_169 rfl rfl ph0_0 hx2) rfl <| lg5 0 Tn_137 g1 rfl rfl ?_
  refine ln (nz Zr_137) rfl (fun b_2 => ?_)
  refine soN 0 Sz_137 rfl ⟨rfl, rfl, rfl, rfl, rfl, trivial⟩ rfl ?_
  refine en <| sr <| ld5 Tn_137 0 rfl ?_
  obtain ⟨x3, hx3, h⟩ := bs h
  refine lp (p_call Fun_181 rfl (fun w1 hw => m_i_ArgOk_ok hw.fro N x2 hx3)) rfl <| la rfl <| en ?_
  refine cdh rfl h (fun c4 h => ?_) (fun c4 h => ?_)
  ·refine sr <| la rfl <| en ?_
   refine WT.ret Tryz.func143 (resOk.one rfl) (fun w1 hw => ?_)
   subst hb0
   cases h
   exact post_of_St hw
  refine WT.skip <| ib <| rgn <| la rfl <| la rfl <| en ?_
  exact lback (ih1 (IntKind.i64.wrap (s1 + 1)) h) ⟨rfl, rfl, rfl, trivial⟩ (fun w1 hw => (hw.sel (js := []) rfl).selO (js := []) rfl)
 refine xt rfl <| sr <| la rfl <| en ?_
 refine WT.ret Tryz.func143 (resOk.one rfl) (fun w1 hw => ?_)
 subst hb0
 cases h
 exact post_of_St hw
theorem m_i_patsOk_ok {Φ : Hp} {w : World} (hΦ : In Φ w) (N : Nat) (p0 : TRule) {pv0_0 pv0_1 pv0_2 : Value} {pG0_0 pG0_1 pG0_2 : List Nat} (ph0_0 : RSl RTPat 3 Φ pG0_0 pv0_0 p0.Pats) (ph0_1 : RSl RTCond 11 Φ pG0_1 pv0_1 p0.Conds) (ph0_2 : RSl RTAct 5 Φ pG0_2 pv0_2 p0.Acts) {r : Bool} (h : m_i_patsOk N p0 = some r) :
  Calls Tryz.prog 91 [.agg [.string p0.Name, .int .i64 p0.Sal, pv0_0, pv0_1, pv0_2].toArray].toArray w (Post (.bool r) w) := by
 refine enter Tryz.func91 rfl Tryz.ntmps91 rfl (St.start0 hΦ) ?_
 generalize hb0 : (⟨w, [], Φ⟩ : Base) = w0
 unfold m_i_patsOk at h
 refine sr ?_
 refine ln (nb rfl) rfl (fun b_1 => ?_)
 refine la rfl <| en <| sq <| sr <| lf Fld_40_2 rfl rfl rfl <| lo T1_36 0 rfl <| lq (q_lenR Sl_36 rfl rfl ph0_0) rfl ?_
 obtain ⟨x1, hx1, h⟩ := bs h
 refine lp (p_call Fun_81 rfl (fun w1 hw => m_i_inRange_ok hw.fro N (p0.Pats.length : Int) 1 6 hx1)) rfl <| la rfl <| la rfl ?_
 obtain ⟨b1, hb_1, h⟩ := bs h
 refine WL.cutN 5 [(15, .bool b1), (1, .pointer (some ⟨b_1, 0, none⟩))] ?_ (fun K => ?_)
 rotate_left
 ·refine spl 10 rfl hb_1 (fun c1 hb_1 => ?_) (fun c1 hb_1 => ?_)
  ·refine la rfl <| la rfl <| la rfl <| la rfl <| la rfl ?_
   cases hb_1
   exact kk K ⟨rfl, rfl, trivial⟩
  ·refine ly rfl rfl <| ld5 Tn_40 0 rfl <| ly rfl rfl ?_
   obtain ⟨x2, hx2, hb_1⟩ := bs hb_1
   refine lp (p_call Fun_94 rfl (fun w1 hw => m_i_PosCount_ok hw.fro N p0 ph0_0 ph0_1 ph0_2 hx2)) rfl <| ly rfl rfl ?_
   obtain ⟨x3, hx3, hb_1⟩ := bs hb_1
   refine lp (p_call Fun_81 rfl (fun w1 hw => m_i_inRange_ok hw.fro N x2 1 3 hx3)) rfl <| ly rfl rfl <| la rfl <| la rfl ?_
   cases hb_1
   exact kk K ⟨rfl, rfl, trivial⟩
 refine en ?_
 refine cdh rfl h (fun c2 h => ?_) (fun c2 h => ?_)
 ·refine sr <| la rfl <| en ?_
  refine WT.ret Tryz.func91 (resOk.one rfl) (fun w1 hw => ?_)
  subst hb0
  cases h
  exact post_of_St hw
 refine WT.skip <| sq <| sr <| lf Fld_40_2 rfl rfl rfl <| lo T1_36 0 rfl <| lq (q_lenR Sl_36 rfl rfl ph0_0) rfl <| la rfl <| en <| blk ?_
 refine loop_in (σ := Int) (fun s => [(1, .pointer (some ⟨b_1, 0, none⟩)), (17, pv0_0), (18, .int .i64 (p0.Pats.length : Int)), (19, .int .i64 s)]) (fun s => St w0 Φ [(b_1, .cells #[.string p0.Name, .int .i64 p0.Sal, pv0_0, pv0_1, pv0_2] 40 (0, 0))] []) (fun m s => m_i_patsOk_l1 N p0 m s = some r) (0) N h ⟨rfl, rfl, rfl, rfl, trivial⟩ (fun w1 hw => (hw.sel (js := []) rfl).selO (js := [0]) rfl) (fun s hm => none_ne hm) (fun n1 ih1 s hm => ?_)
 revert hm; revert s; intro s1 hm
 have h : m_i_patsOk_l1 N p0 (n1 + 1) s1 = some r := hm
 show WT _ _ [(1, .pointer (some ⟨b_1, 0, none⟩)), (17, pv0_0), (18, .int .i64 (p0.Pats.length : Int)), (19, .int .i64 s1)] (St w0 Φ [(b_1, .cells #[.string p0.Name, .int .i64 p0.Sal, pv0_0, pv0_1, pv0_2] 40 (0, 0))] [])
 unfold m_i_patsOk_l1 at h
 refine sr <| la rfl <| en <| sq ?_
 refine cdh rfl h (fun c3 h => ?_) (fun c3 h => ?_)
 ·refine WT.skip <| sq <| blk <| sr <| la rfl ?_
  obtain ⟨x4, hx4, h⟩ := bs h
  obtain ⟨cs1, F1, -, g1, hb1, hs1, r1⟩ := ph0_0.el (idx_some hx4).2.2
  obtain ⟨v1, G1, rfl, hq1, h1⟩ := r1
  obtain rfl := hq1.symm
  refine lq (q_indexAddr Sl_36 rfl rfl ph0_0 hx4) rfl <| lg3 0 Tn_171 g1 rfl rfl ?_
  refine ln (nz Zr_171) rfl (fun b_2 => ?_)
  refine la rfl <| soN 0 Sz_171 rfl ⟨rfl, h1.one, rfl, trivial⟩ rfl ?_
  refine en <| sq <| WT.draw mixed (by kernel_rfl) (fun _ h => h.drew) <| qq (q_loadN Tn_171 rfl (fun w1 hw => hw.rgO (i := 0) rfl 0 3 [.string x4.Kind, v1, .bool x4.Not] rfl) rfl) rfl ?_
  obtain ⟨x5, hx5, h⟩ := bs h
  refine qp (p_call Fun_143 rfl (fun w1 hw => m_i_PatOk_ok hw.fro N x4 h1 hx5)) rfl <| qq (q_not rfl) rfl <| qq (q_move rfl) rfl ?_
  obtain ⟨b2, hb_2, h⟩ := bs h
  refine WQ.cutN 8 [(35, .bool b2), (1, .pointer (some ⟨b_1, 0, none⟩)), (17, pv0_0), (18, .int .i64 (p0.Pats.length : Int)), (19, .int .i64 s1)] ?_ (fun K => ?_)
  rotate_left
  ·refine WQ.split (d := 27) rfl (fun c4 => ?_) (fun c4 => ?_)
   ·replace hb_2 := ite_t hb_2 c4
    refine WQ.no rfl rfl rfl rfl <| WQ.no rfl rfl rfl rfl <| WQ.no rfl rfl rfl rfl <| WQ.no rfl rfl rfl rfl <| WQ.no rfl rfl rfl rfl <| WQ.no rfl rfl rfl rfl <| WQ.no rfl rfl rfl rfl <| WQ.q (q_pick1 rfl rfl) rfl rfl rfl ?_
    cases hb_2
    exact WQ.keep (by exact ⟨rfl, rfl, rfl, rfl, rfl, trivial⟩) K
   ·replace hb_2 := ite_f hb_2 c4
    refine WQ.yes rfl rfl <| qq (q_fieldAddr Fld_171_2 rfl) rfl <| WQ.yes rfl rfl <| qq (q_load1 T1_4 rfl (fun w1 hw => hw.rgO (i := 0) rfl 2 1 [.bool x4.Not] rfl)) rfl <| WQ.yes rfl rfl <| qq (q_move rfl) rfl <| WQ.yes rfl rfl <| qq (q_loadN Tn_40 rfl (fun w1 hw => hw.rgO (i := 1) rfl 0 5 [.string p0.Name, .int .i64 p0.Sal, pv0_0, pv0_1, pv0_2] rfl) rfl) rfl <| WQ.yes rfl rfl ?_
    obtain ⟨x6, hx6, hb_2⟩ := bs hb_2
    refine qp (p_call Fun_94 rfl (fun w1 hw => m_i_PosCount_ok hw.fro N p0 ph0_0 ph0_1 ph0_2 hx6)) rfl <| WQ.yes rfl rfl <| qq (q_geq rfl rfl) rfl <| WQ.yes rfl rfl <| qq (q_bne Bo_4 rfl rfl) rfl <| WQ.q (q_pick0 rfl rfl) rfl rfl rfl ?_
    cases hb_2
    exact WQ.keep (by exact ⟨rfl, rfl, rfl, rfl, rfl, trivial⟩) K
  refine WQ.nil ?_
  refine cdh rfl h (fun c5 h => ?_) (fun c5 h => ?_)
  ·refine sr <| la rfl <| en ?_
   refine WT.ret Tryz.func91 (resOk.one rfl) (fun w1 hw => ?_)
   subst hb0
   cases h
   exact post_of_St hw
  refine WT.skip <| ib <| rgn <| la rfl <| la rfl <| en ?_
  exact lback (ih1 (IntKind.i64.wrap (s1 + 1)) h) ⟨rfl, rfl, rfl, rfl, trivial⟩ (fun w1 hw => (hw.sel (js := []) rfl).selO (js := [1]) rfl)
 refine xt rfl <| sr <| la rfl <| en ?_
 refine WT.ret Tryz.func91 (resOk.one rfl) (fun w1 hw => ?_)
 subst hb0
 cases h
 exact post_of_St hw
theorem m_i_isTerm_ok {Φ : Hp} {w : World} (hΦ : In Φ w) (N : Nat) (p0 : TArg)   {r : Bool} (h : m_i_isTerm N p0 = some r) :
  Calls Tryz.prog 144 [.agg [.int .i64 p0.K, .string p0.S, .int .i64 p0.V.K, .int .i64 p0.V.N, .string p0.V.S].toArray].toArray w (Post (.bool r) w) := by
 refine enter Tryz.func144 rfl Tryz.ntmps144 rfl (St.start0 hΦ) ?_
 unfold m_i_isTerm at h
 refine sr ?_
 refine ln (nb rfl) rfl (fun b_1 => ?_)
 refine la rfl <| en <| sr <| lf Fld_137_0 rfl rfl rfl <| lo T1_3 0 rfl <| la rfl <| la rfl ?_
 obtain ⟨b1, hb_1, h⟩ := bs h
 refine WL.cutN 3 [(9, .bool b1), (2, .bool false)] ?_ (fun K => ?_)
 rotate_left
 ·refine spl 6 rfl hb_1 (fun c1 hb_1 => ?_) (fun c1 hb_1 => ?_)
  ·refine ly rfl rfl <| ld5 Tn_137 0 rfl <| ly rfl rfl ?_
   obtain ⟨x1, hx1, hb_1⟩ := bs hb_1
   refine lp (p_call Fun_181 rfl (fun w1 hw => m_i_ArgOk_ok hw.fro N p0 hx1)) rfl <| la rfl ?_
   cases hb_1
   exact kk K ⟨rfl, rfl, trivial⟩
  ·refine la rfl <| la rfl <| la rfl ?_
   cases hb_1
   exact kk K ⟨rfl, rfl, trivial⟩
 refine la rfl <| en ?_
 refine WT.ret Tryz.func144 (resOk.one rfl) (fun w1 hw => ?_)
 cases h
 exact post_of_St hw
theorem m_i_CondOk_ok {Φ : Hp} {w : World} (hΦ : In Φ w) (N : Nat) (p0 : TCond)   {r : Bool} (h : m_i_CondOk N p0 = some r) :
  Calls Tryz.prog 92 [.agg [.int .i64 p0.Op, .int .i64 p0.L.K, .string p0.L.S, .int .i64 p0.L.V.K, .int .i64 p0.L.V.N, .string p0.L.V.S, .int .i64 p0.R.K, .string p0.R.S, .int .i64 p0.R.V.K, .int .i64 p0.R.V.N, .string p0.R.V.S].toArray].toArray w (Post (.bool r) w) := by
 refine enter Tryz.func92 rfl Tryz.ntmps92 rfl (St.start0 hΦ) ?_
 unfold m_i_CondOk at h
 refine sr ?_
 refine ln (nb rfl) rfl (fun b_1 => ?_)
 refine la rfl <| en <| sr <| lf Fld_139_0 rfl rfl rfl <| lo T1_3 0 rfl ?_
 obtain ⟨x1, hx1, h⟩ := bs h
 refine lp (p_call Fun_81 rfl (fun w1 hw => m_i_inRange_ok hw.fro N p0.Op 1 3 hx1)) rfl <| la rfl ?_
 obtain ⟨b1, hb_1, h⟩ := bs h
 refine WL.cutN 4 [(10, .bool b1), (1, .pointer (some ⟨b_1, 0, none⟩)), (2, .bool false)] ?_ (fun K => ?_)
 rotate_left
 ·refine spl 6 rfl hb_1 (fun c1 hb_1 => ?_) (fun c1 hb_1 => ?_)
  ·refine ly rfl rfl <| lf Fld_139_1 rfl rfl rfl <| ly rfl rfl <| ld5 Tn_137 0 rfl <| ly rfl rfl ?_
   obtain ⟨x2, hx2, hb_1⟩ := bs hb_1
   refine lp (p_call Fun_144 rfl (fun w1 hw => m_i_isTerm_ok hw.fro N p0.L hx2)) rfl <| la rfl ?_
   cases hb_1
   exact kk K ⟨rfl, rfl, rfl, trivial⟩
  ·refine la rfl <| la rfl <| la rfl <| la rfl ?_
   cases hb_1
   exact kk K ⟨rfl, rfl, rfl, trivial⟩
 refine la rfl ?_
 obtain ⟨b2, hb_2, h⟩ := bs h
 refine WL.cutN 4 [(15, .bool b2), (2, .bool false)] ?_ (fun K => ?_)
 rotate_left
 ·refine spl 11 rfl hb_2 (fun c2 hb_2 => ?_) (fun c2 hb_2 => ?_)
  ·refine ly rfl rfl <| lf Fld_139_2 rfl rfl rfl <| ly rfl rfl <| ld5 Tn_137 0 rfl <| ly rfl rfl ?_
   obtain ⟨x3, hx3, hb_2⟩ := bs hb_2
   refine lp (p_call Fun_144 rfl (fun w1 hw => m_i_isTerm_ok hw.fro N p0.R hx3)) rfl <| la rfl ?_
   cases hb_2
   exact kk K ⟨rfl, rfl, trivial⟩
  ·refine la rfl <| la rfl <| la rfl <| la rfl ?_
   cases hb_2
   exact kk K ⟨rfl, rfl, trivial⟩
 refine la rfl <| en ?_
 refine WT.ret Tryz.func92 (resOk.one rfl) (fun w1 hw => ?_)
 cases h
 exact post_of_St hw
theorem m_i_ExprOk_ok {Φ : Hp} {w : World} (hΦ : In Φ w) (N : Nat) (p0 : TExpr)   {r : Bool} (h : m_i_ExprOk N p0 = some r) :
  Calls Tryz.prog 182 [.agg [.string p0.Op, .int .i64 p0.L.K, .string p0.L.S, .int .i64 p0.L.V.K, .int .i64 p0.L.V.N, .string p0.L.V.S, .int .i64 p0.R.K, .string p0.R.S, .int .i64 p0.R.V.K, .int .i64 p0.R.V.N, .string p0.R.V.S].toArray].toArray w (Post (.bool r) w) := by
 refine enter Tryz.func182 rfl Tryz.ntmps182 rfl (St.start0 hΦ) ?_
 generalize hb0 : (⟨w, [], Φ⟩ : Base) = w0
 unfold m_i_ExprOk at h
 refine sr ?_
 refine ln (nb rfl) rfl (fun b_1 => ?_)
 refine la rfl <| en <| sq <| sr <| lf Fld_191_0 rfl rfl rfl <| lo T1_9 0 rfl <| en <| blk <| sr <| la rfl <| la rfl <| en ?_
 refine cdh rfl h (fun c1 h => ?_) (fun c1 h => ?_)
 ·refine sr <| lf Fld_191_1 rfl rfl rfl <| ld5 Tn_137 0 rfl ?_
  obtain ⟨x1, hx1, h⟩ := bs h
  refine lp (p_call Fun_144 rfl (fun w1 hw => m_i_isTerm_ok hw.fro N p0.L hx1)) rfl <| la rfl ?_
  obtain ⟨b1, hb_1, h⟩ := bs h
  refine WL.cutN 5 [(15, .bool b1), (2, .bool false)] ?_ (fun K => ?_)
  rotate_left
  ·refine spl 10 rfl hb_1 (fun c2 hb_1 => ?_) (fun c2 hb_1 => ?_)
   ·refine ly rfl rfl <| lf Fld_191_2 rfl rfl rfl <| ly rfl rfl <| ld5 Tn_137 0 rfl <| ly rfl rfl <| lq (q_build (vs := []) (C := #[.int .i64 0, .string (⟨#[]⟩ : ByteArray), .int .i64 0, .int .i64 0, .string (⟨#[]⟩ : ByteArray)]) Pl_137 Zr_137 rfl (fill_nil)) rfl <| ly rfl rfl <| lq (q_eqA EqT_137 rfl rfl rfl (r := eqT_TArg p0.R (⟨0, (⟨#[]⟩ : ByteArray), (⟨0, 0, (⟨#[]⟩ : ByteArray)⟩ : TVal)⟩ : TArg)) rfl) rfl <| la rfl ?_
    cases hb_1
    exact kk K ⟨rfl, rfl, trivial⟩
   ·refine la rfl <| la rfl <| la rfl <| la rfl <| la rfl ?_
    cases hb_1
    exact kk K ⟨rfl, rfl, trivial⟩
  refine la rfl <| en ?_
  refine WT.ret Tryz.func182 (resOk.one rfl) (fun w1 hw => ?_)
  subst hb0
  cases h
  exact post_of_St hw
 refine sq <| sr <| la rfl <| la rfl <| en ?_
 refine cut (σ := Bool) (fun s => [(1, .pointer (some ⟨b_1, 0, none⟩)), (16, .bool s)]) (fun s => St w0 Φ [(b_1, .cells #[.string p0.Op, .int .i64 p0.L.K, .string p0.L.S, .int .i64 p0.L.V.K, .int .i64 p0.L.V.N, .string p0.L.V.S, .int .i64 p0.R.K, .string p0.R.S, .int .i64 p0.R.V.K, .int .i64 p0.R.V.N, .string p0.R.V.S] 191 (0, 0))] []) (fun s => m_i_ExprOk_j1 N p0 s = some r) (fun s hm => ?_) (fun K => ?_)
 ·clear h
  revert hm; revert s; intro s1 hm
  have h : m_i_ExprOk_j1 N p0 s1 = some r := hm
  show WT _ _ [(1, .pointer (some ⟨b_1, 0, none⟩)), (16, .bool s1)] (St w0 Φ [(b_1, .cells #[.string p0.Op, .int .i64 p0.L.K, .string p0.L.S, .int .i64 p0.L.V.K, .int .i64 p0.L.V.N, .string p0.L.V.S, .int .i64 p0.R.K, .string p0.R.S, .int .i64 p0.R.V.K, .int .i64 p0.R.V.N, .string p0.R.V.S] 191 (0, 0))] [])
  unfold m_i_ExprOk_j1 at h
  refine cdh rfl h (fun c3 h => ?_) (fun c3 h => ?_)
  ·refine sr <| lf Fld_191_1 rfl rfl rfl <| ld5 Tn_137 0 rfl ?_
   obtain ⟨x2, hx2, h⟩ := bs h
   refine lp (p_call Fun_144 rfl (fun w1 hw => m_i_isTerm_ok hw.fro N p0.L hx2)) rfl <| la rfl ?_
   obtain ⟨b2, hb_2, h⟩ := bs h
   refine WL.cutN 4 [(26, .bool b2)] ?_ (fun K => ?_)
   rotate_left
   ·refine spl 22 rfl hb_2 (fun c4 hb_2 => ?_) (fun c4 hb_2 => ?_)
    ·refine ly rfl rfl <| lf Fld_191_2 rfl rfl rfl <| ly rfl rfl <| ld5 Tn_137 0 rfl <| ly rfl rfl ?_
     obtain ⟨x3, hx3, hb_2⟩ := bs hb_2
     refine lp (p_call Fun_144 rfl (fun w1 hw => m_i_isTerm_ok hw.fro N p0.R hx3)) rfl <| la rfl ?_
     cases hb_2
     exact kk K ⟨rfl, trivial⟩
    ·refine la rfl <| la rfl <| la rfl <| la rfl ?_
     cases hb_2
     exact kk K ⟨rfl, trivial⟩
   refine la rfl <| en ?_
   refine WT.ret Tryz.func182 (resOk.one rfl) (fun w1 hw => ?_)
   subst hb0
   cases h
   exact post_of_St hw
  refine WT.skip <| ib <| sr <| la rfl <| en ?_
  refine WT.ret Tryz.func182 (resOk.one rfl) (fun w1 hw => ?_)
  subst hb0
  cases h
  exact post_of_St hw
 refine cdh rfl h (fun c5 h => ?_) (fun c5 h => ?_)
 ·refine WT.skip ?_
  exact wto (K (seq p0.Op (⟨#[43]⟩ : ByteArray)) h) ⟨rfl, rfl, trivial⟩ (fun w1 hw => (hw.sel (js := []) rfl).selO (js := [0]) rfl)
 refine rgn <| la rfl <| la rfl <| en ?_
 exact wto (K (seq p0.Op (⟨#[45]⟩ : ByteArray)) h) ⟨rfl, rfl, trivial⟩ (fun w1 hw => (hw.sel (js := []) rfl).selO (js := [0]) rfl)
theorem m_i_argsOk_ok {Φ : Hp} {w : World} (hΦ : In Φ w) (N : Nat) (p0 : TAct) {pv0_0 : Value} {pG0_0 : List Nat} (ph0_0 : RSl RTExpr 11 Φ pG0_0 pv0_0 p0.Args) {r : Bool} (h : m_i_argsOk N p0 = some r) :
  Calls Tryz.prog 145 [.agg [.int .i64 p0.Kind, .string p0.Name, pv0_0, .int .i64 p0.N, .string p0.Undo].toArray].toArray w (Post (.bool r) w) := by
 refine enter Tryz.func145 rfl Tryz.ntmps145 rfl (St.start0 hΦ) ?_
 generalize hb0 : (⟨w, [], Φ⟩ : Base) = w0
 unfold m_i_argsOk at h
 refine sr ?_
 refine ln (nb rfl) rfl (fun b_1 => ?_)
 refine la rfl <| en <| sq <| sr <| lf Fld_143_1 rfl rfl rfl <| lo T1_9 0 rfl ?_
 obtain ⟨x1, hx1, h⟩ := bs h
 refine lp (p_call Fun_80 rfl (fun w1 hw => m_i_NameOk_ok hw.fro N p0.Name hx1)) rfl <| la rfl <| la rfl ?_
 obtain ⟨b1, hb_1, h⟩ := bs h
 refine WL.cutN 5 [(14, .bool b1), (1, .pointer (some ⟨b_1, 0, none⟩))] ?_ (fun K => ?_)
 rotate_left
 ·refine spl 9 rfl hb_1 (fun c1 hb_1 => ?_) (fun c1 hb_1 => ?_)
  ·refine la rfl <| la rfl <| la rfl <| la rfl <| la rfl ?_
   cases hb_1
   exact kk K ⟨rfl, rfl, trivial⟩
  ·refine ly rfl rfl <| lf Fld_143_2 rfl rfl rfl <| ly rfl rfl <| lo T1_141 0 rfl <| ly rfl rfl <| lq (q_lenR Sl_141 rfl rfl ph0_0) rfl <| ly rfl rfl <| la rfl <| la rfl ?_
   cases hb_1
   exact kk K ⟨rfl, rfl, trivial⟩
 refine en ?_
 refine cdh rfl h (fun c2 h => ?_) (fun c2 h => ?_)
 ·refine sr <| la rfl <| en ?_
  refine WT.ret Tryz.func145 (resOk.one rfl) (fun w1 hw => ?_)
  subst hb0
  cases h
  exact post_of_St hw
 refine WT.skip <| sq <| sr <| lf Fld_143_2 rfl rfl rfl <| lo T1_141 0 rfl <| lq (q_lenR Sl_141 rfl rfl ph0_0) rfl <| la rfl <| en <| blk ?_
 refine loop_in (σ := Int) (fun s => [(16, pv0_0), (17, .int .i64 (p0.Args.length : Int)), (18, .int .i64 s)]) (fun s => St w0 Φ [] []) (fun m s => m_i_argsOk_l1 N p0 m s = some r) (0) N h ⟨rfl, rfl, rfl, trivial⟩ (fun w1 hw => (hw.sel (js := []) rfl).selO (js := []) rfl) (fun s hm => none_ne hm) (fun n1 ih1 s hm => ?_)
 revert hm; revert s; intro s1 hm
 have h : m_i_argsOk_l1 N p0 (n1 + 1) s1 = some r := hm
 show WT _ _ [(16, pv0_0), (17, .int .i64 (p0.Args.length : Int)), (18, .int .i64 s1)] (St w0 Φ [] [])
 unfold m_i_argsOk_l1 at h
 refine sr <| la rfl <| en <| sq ?_
 refine cdh rfl h (fun c3 h => ?_) (fun c3 h => ?_)
 ·refine WT.skip <| sq <| blk <| sr ?_
  obtain ⟨x2, hx2, h⟩ := bs h
  obtain ⟨cs1, F1, -, g1, hb1, hs1, r1⟩ := ph0_0.el (idx_some hx2).2.2
  obtain ⟨rfl, -⟩ := r1
  refine lq (q_indexAddr Sl_141 rfl rfl ph0_0 hx2) rfl <| lg11 0 Tn_191 g1 rfl rfl ?_
  refine ln (nz Zr_191) rfl (fun b_2 => ?_)
  refine soN 0 Sz_191 rfl ⟨rfl, rfl, rfl, rfl, rfl, rfl, rfl, rfl, rfl, rfl, rfl, trivial⟩ rfl ?_
  refine en <| sr <| ld11 Tn_191 0 rfl ?_
  obtain ⟨x3, hx3, h⟩ := bs h
  refine lp (p_call Fun_182 rfl (fun w1 hw => m_i_ExprOk_ok hw.fro N x2 hx3)) rfl <| la rfl <| en ?_
  refine cdh rfl h (fun c4 h => ?_) (fun c4 h => ?_)
  ·refine sr <| la rfl <| en ?_
   refine WT.ret Tryz.func145 (resOk.one rfl) (fun w1 hw => ?_)
   subst hb0
   cases h
   exact post_of_St hw
  refine WT.skip <| ib <| rgn <| la rfl <| la rfl <| en ?_
  exact lback (ih1 (IntKind.i64.wrap (s1 + 1)) h) ⟨rfl, rfl, rfl, trivial⟩ (fun w1 hw => (hw.sel (js := []) rfl).selO (js := []) rfl)
 refine xt rfl <| sr <| la rfl <| en ?_
 refine WT.ret Tryz.func145 (resOk.one rfl) (fun w1 hw => ?_)
 subst hb0
 cases h
 exact post_of_St hw
theorem m_i_isUndo_ok {Φ : Hp} {w : World} (hΦ : In Φ w) (N : Nat) (p0 : ByteArray)   {r : Bool} (h : m_i_isUndo N p0 = some r) :
  Calls Tryz.prog 146 [.string p0].toArray w (Post (.bool r) w) := by
 refine enter Tryz.func146 rfl Tryz.ntmps146 rfl (St.start0 hΦ) ?_
 unfold m_i_isUndo at h
 refine sr <| la rfl <| en <| sr <| la rfl <| la rfl <| la rfl ?_
 obtain ⟨b1, hb_1, h⟩ := bs h
 refine WL.cutN 3 [(8, .bool b1), (2, .bool false)] ?_ (fun K => ?_)
 rotate_left
 ·refine spl 5 rfl hb_1 (fun c1 hb_1 => ?_) (fun c1 hb_1 => ?_)
  ·refine la rfl <| la rfl <| la rfl ?_
   cases hb_1
   exact kk K ⟨rfl, rfl, trivial⟩
  ·refine ly rfl rfl <| la rfl <| ly rfl rfl ?_
   obtain ⟨x1, hx1, hb_1⟩ := bs hb_1
   refine lp (p_call Fun_80 rfl (fun w1 hw => m_i_NameOk_ok hw.fro N p0 hx1)) rfl <| la rfl ?_
   cases hb_1
   exact kk K ⟨rfl, rfl, trivial⟩
 refine la rfl <| en ?_
 refine WT.ret Tryz.func146 (resOk.one rfl) (fun w1 hw => ?_)
 cases h
 exact post_of_St hw
theorem m_i_ActOk_ok {Φ : Hp} {w : World} (hΦ : In Φ w) (N : Nat) (p0 : TAct) {pv0_0 : Value} {pG0_0 : List Nat} (ph0_0 : RSl RTExpr 11 Φ pG0_0 pv0_0 p0.Args) {r : Bool} (h : m_i_ActOk N p0 = some r) :
  Calls Tryz.prog 93 [.agg [.int .i64 p0.Kind, .string p0.Name, pv0_0, .int .i64 p0.N, .string p0.Undo].toArray].toArray w (Post (.bool r) w) := by
 refine enter Tryz.func93 rfl Tryz.ntmps93 rfl (St.start0 hΦ) ?_
 generalize hb0 : (⟨w, [], Φ⟩ : Base) = w0
 unfold m_i_ActOk at h
 refine sr ?_
 refine ln (nb rfl) rfl (fun b_1 => ?_)
 refine la rfl <| en <| sr <| lf Fld_143_1 rfl rfl rfl <| lo T1_9 0 rfl <| la rfl <| la rfl ?_
 obtain ⟨b1, hb_1, h⟩ := bs h
 refine WL.cutN 5 [(12, .bool b1), (1, .pointer (some ⟨b_1, 0, none⟩))] ?_ (fun K => ?_)
 rotate_left
 ·refine spl 7 rfl hb_1 (fun c1 hb_1 => ?_) (fun c1 hb_1 => ?_)
  ·refine ly rfl rfl <| lf Fld_143_2 rfl rfl rfl <| ly rfl rfl <| lo T1_141 0 rfl <| ly rfl rfl <| lq (q_lenR Sl_141 rfl rfl ph0_0) rfl <| ly rfl rfl <| la rfl <| la rfl ?_
   cases hb_1
   exact kk K ⟨rfl, rfl, trivial⟩
  ·refine la rfl <| la rfl <| la rfl <| la rfl <| la rfl ?_
   cases hb_1
   exact kk K ⟨rfl, rfl, trivial⟩
 refine la rfl <| en <| sq <| sr <| lf Fld_143_0 rfl rfl rfl <| lo T1_3 0 rfl <| en <| blk <| sr <| la rfl <| la rfl <| en ?_
 refine cdh rfl h (fun c2 h => ?_) (fun c2 h => ?_)
 ·refine sr <| ld5 Tn_143 0 rfl ?_
  obtain ⟨x1, hx1, h⟩ := bs h
  refine lp (p_call Fun_145 rfl (fun w1 hw => m_i_argsOk_ok hw.fro N p0 ph0_0 hx1)) rfl <| la rfl ?_
  obtain ⟨b2, hb_2, h⟩ := bs h
  refine WL.cutN 4 [(23, .bool b2), (1, .pointer (some ⟨b_1, 0, none⟩))] ?_ (fun K => ?_)
  rotate_left
  ·refine spl 19 rfl hb_2 (fun c3 hb_2 => ?_) (fun c3 hb_2 => ?_)
   ·refine ly rfl rfl <| lf Fld_143_3 rfl rfl rfl <| ly rfl rfl <| lo T1_3 0 rfl <| ly rfl rfl <| la rfl <| la rfl ?_
    cases hb_2
    exact kk K ⟨rfl, rfl, trivial⟩
   ·refine la rfl <| la rfl <| la rfl <| la rfl ?_
    cases hb_2
    exact kk K ⟨rfl, rfl, trivial⟩
  refine la rfl ?_
  obtain ⟨b3, hb_3, h⟩ := bs h
  refine WL.cutN 4 [(28, .bool b3)] ?_ (fun K => ?_)
  rotate_left
  ·refine spl 24 rfl hb_3 (fun c4 hb_3 => ?_) (fun c4 hb_3 => ?_)
   ·refine ly rfl rfl <| lf Fld_143_4 rfl rfl rfl <| ly rfl rfl <| lo T1_9 0 rfl <| ly rfl rfl <| la rfl <| la rfl ?_
    cases hb_3
    exact kk K ⟨rfl, trivial⟩
   ·refine la rfl <| la rfl <| la rfl <| la rfl ?_
    cases hb_3
    exact kk K ⟨rfl, trivial⟩
  refine la rfl <| en ?_
  refine WT.ret Tryz.func93 (resOk.one rfl) (fun w1 hw => ?_)
  subst hb0
  cases h
  exact post_of_St hw
 refine sr <| la rfl <| la rfl <| en ?_
 refine cdh rfl h (fun c5 h => ?_) (fun c5 h => ?_)
 ·refine sr <| la rfl <| la rfl ?_
  obtain ⟨b4, hb_4, h⟩ := bs h
  refine WL.cutN 4 [(36, .bool b4), (1, .pointer (some ⟨b_1, 0, none⟩))] ?_ (fun K => ?_)
  rotate_left
  ·refine spl 32 rfl hb_4 (fun c6 hb_4 => ?_) (fun c6 hb_4 => ?_)
   ·refine ly rfl rfl <| lf Fld_143_3 rfl rfl rfl <| ly rfl rfl <| lo T1_3 0 rfl <| ly rfl rfl ?_
    obtain ⟨x2, hx2, hb_4⟩ := bs hb_4
    refine lp (p_call Fun_81 rfl (fun w1 hw => m_i_inRange_ok hw.fro N p0.N 0 7 hx2)) rfl <| la rfl ?_
    cases hb_4
    exact kk K ⟨rfl, rfl, trivial⟩
   ·refine la rfl <| la rfl <| la rfl <| la rfl ?_
    cases hb_4
    exact kk K ⟨rfl, rfl, trivial⟩
  refine la rfl ?_
  obtain ⟨b5, hb_5, h⟩ := bs h
  refine WL.cutN 4 [(41, .bool b5)] ?_ (fun K => ?_)
  rotate_left
  ·refine spl 37 rfl hb_5 (fun c7 hb_5 => ?_) (fun c7 hb_5 => ?_)
   ·refine ly rfl rfl <| lf Fld_143_4 rfl rfl rfl <| ly rfl rfl <| lo T1_9 0 rfl <| ly rfl rfl <| la rfl <| la rfl ?_
    cases hb_5
    exact kk K ⟨rfl, trivial⟩
   ·refine la rfl <| la rfl <| la rfl <| la rfl ?_
    cases hb_5
    exact kk K ⟨rfl, trivial⟩
  refine la rfl <| en ?_
  refine WT.ret Tryz.func93 (resOk.one rfl) (fun w1 hw => ?_)
  subst hb0
  cases h
  exact post_of_St hw
 refine sr <| la rfl <| la rfl <| en ?_
 refine cdh rfl h (fun c8 h => ?_) (fun c8 h => ?_)
 ·refine sr <| ld5 Tn_143 0 rfl ?_
  obtain ⟨x3, hx3, h⟩ := bs h
  refine lp (p_call Fun_145 rfl (fun w1 hw => m_i_argsOk_ok hw.fro N p0 ph0_0 hx3)) rfl <| la rfl ?_
  obtain ⟨b6, hb_6, h⟩ := bs h
  refine WL.cutN 4 [(50, .bool b6), (1, .pointer (some ⟨b_1, 0, none⟩))] ?_ (fun K => ?_)
  rotate_left
  ·refine spl 46 rfl hb_6 (fun c9 hb_6 => ?_) (fun c9 hb_6 => ?_)
   ·refine ly rfl rfl <| lf Fld_143_3 rfl rfl rfl <| ly rfl rfl <| lo T1_3 0 rfl <| ly rfl rfl <| la rfl <| la rfl ?_
    cases hb_6
    exact kk K ⟨rfl, rfl, trivial⟩
   ·refine la rfl <| la rfl <| la rfl <| la rfl ?_
    cases hb_6
    exact kk K ⟨rfl, rfl, trivial⟩
  refine la rfl ?_
  obtain ⟨b7, hb_7, h⟩ := bs h
  refine WL.cutN 4 [(55, .bool b7)] ?_ (fun K => ?_)
  rotate_left
  ·refine spl 51 rfl hb_7 (fun c10 hb_7 => ?_) (fun c10 hb_7 => ?_)
   ·refine ly rfl rfl <| lf Fld_143_4 rfl rfl rfl <| ly rfl rfl <| lo T1_9 0 rfl <| ly rfl rfl ?_
    obtain ⟨x4, hx4, hb_7⟩ := bs hb_7
    refine lp (p_call Fun_146 rfl (fun w1 hw => m_i_isUndo_ok hw.fro N p0.Undo hx4)) rfl <| la rfl ?_
    cases hb_7
    exact kk K ⟨rfl, trivial⟩
   ·refine la rfl <| la rfl <| la rfl <| la rfl ?_
    cases hb_7
    exact kk K ⟨rfl, trivial⟩
  refine la rfl <| en ?_
  refine WT.ret Tryz.func93 (resOk.one rfl) (fun w1 hw => ?_)
  subst hb0
  cases h
  exact post_of_St hw
 refine sr <| la rfl <| la rfl <| en ?_
 refine cdh rfl h (fun c11 h => ?_) (fun c11 h => ?_)
 ·refine sr <| ld5 Tn_143 0 rfl ?_
  obtain ⟨x5, hx5, h⟩ := bs h
  refine lp (p_call Fun_145 rfl (fun w1 hw => m_i_argsOk_ok hw.fro N p0 ph0_0 hx5)) rfl <| la rfl ?_
  obtain ⟨b8, hb_8, h⟩ := bs h
  refine WL.cutN 4 [(64, .bool b8), (1, .pointer (some ⟨b_1, 0, none⟩))] ?_ (fun K => ?_)
  rotate_left
  ·refine spl 60 rfl hb_8 (fun c12 hb_8 => ?_) (fun c12 hb_8 => ?_)
   ·refine ly rfl rfl <| lf Fld_143_3 rfl rfl rfl <| ly rfl rfl <| lo T1_3 0 rfl <| ly rfl rfl ?_
    obtain ⟨x6, hx6, hb_8⟩ := bs hb_8
    refine lp (p_call Fun_81 rfl (fun w1 hw => m_i_inRange_ok hw.fro N p0.N 0 100000 hx6)) rfl <| la rfl ?_
    cases hb_8
    exact kk K ⟨rfl, rfl, trivial⟩
   ·refine la rfl <| la rfl <| la rfl <| la rfl ?_
    cases hb_8
    exact kk K ⟨rfl, rfl, trivial⟩
  refine la rfl ?_
  obtain ⟨b9, hb_9, h⟩ := bs h
  refine WL.cutN 4 [(69, .bool b9)] ?_ (fun K => ?_)
  rotate_left
  ·refine spl 65 rfl hb_9 (fun c13 hb_9 => ?_) (fun c13 hb_9 => ?_)
   ·refine ly rfl rfl <| lf Fld_143_4 rfl rfl rfl <| ly rfl rfl <| lo T1_9 0 rfl <| ly rfl rfl <| la rfl <| la rfl ?_
    cases hb_9
    exact kk K ⟨rfl, trivial⟩
   ·refine la rfl <| la rfl <| la rfl <| la rfl ?_
    cases hb_9
    exact kk K ⟨rfl, trivial⟩
  refine la rfl <| en ?_
  refine WT.ret Tryz.func93 (resOk.one rfl) (fun w1 hw => ?_)
  subst hb0
  cases h
  exact post_of_St hw
 refine sq <| sr <| la rfl <| la rfl <| en ?_
 refine cut (σ := Bool) (fun s => [(1, .pointer (some ⟨b_1, 0, none⟩)), (3, .bool b1), (70, .bool s)]) (fun s => St w0 Φ [(b_1, .cells #[.int .i64 p0.Kind, .string p0.Name, pv0_0, .int .i64 p0.N, .string p0.Undo] 143 (0, 0))] []) (fun s => m_i_ActOk_j1 N p0 b1 s = some r) (fun s hm => ?_) (fun K => ?_)
 ·clear h
  revert hm; revert s; intro s1 hm
  have h : m_i_ActOk_j1 N p0 b1 s1 = some r := hm
  show WT _ _ [(1, .pointer (some ⟨b_1, 0, none⟩)), (3, .bool b1), (70, .bool s1)] (St w0 Φ [(b_1, .cells #[.int .i64 p0.Kind, .string p0.Name, pv0_0, .int .i64 p0.N, .string p0.Undo] 143 (0, 0))] [])
  unfold m_i_ActOk_j1 at h
  refine cdh rfl h (fun c14 h => ?_) (fun c14 h => ?_)
  ·refine sr <| la rfl <| la rfl ?_
   obtain ⟨b10, hb_10, h⟩ := bs h
   refine WL.cutN 4 [(78, .bool b10), (1, .pointer (some ⟨b_1, 0, none⟩))] ?_ (fun K => ?_)
   rotate_left
   ·refine spl 74 rfl hb_10 (fun c15 hb_10 => ?_) (fun c15 hb_10 => ?_)
    ·refine ly rfl rfl <| lf Fld_143_3 rfl rfl rfl <| ly rfl rfl <| lo T1_3 0 rfl <| ly rfl rfl <| la rfl <| la rfl ?_
     cases hb_10
     exact kk K ⟨rfl, rfl, trivial⟩
    ·refine la rfl <| la rfl <| la rfl <| la rfl ?_
     cases hb_10
     exact kk K ⟨rfl, rfl, trivial⟩
   refine la rfl ?_
   obtain ⟨b11, hb_11, h⟩ := bs h
   refine WL.cutN 4 [(83, .bool b11)] ?_ (fun K => ?_)
   rotate_left
   ·refine spl 79 rfl hb_11 (fun c16 hb_11 => ?_) (fun c16 hb_11 => ?_)
    ·refine ly rfl rfl <| lf Fld_143_4 rfl rfl rfl <| ly rfl rfl <| lo T1_9 0 rfl <| ly rfl rfl <| la rfl <| la rfl ?_
     cases hb_11
     exact kk K ⟨rfl, trivial⟩
    ·refine la rfl <| la rfl <| la rfl <| la rfl ?_
     cases hb_11
     exact kk K ⟨rfl, trivial⟩
   refine la rfl <| en ?_
   refine WT.ret Tryz.func93 (resOk.one rfl) (fun w1 hw => ?_)
   subst hb0
   cases h
   exact post_of_St hw
  refine WT.skip <| ib <| sr <| la rfl <| en ?_
  refine WT.ret Tryz.func93 (resOk.one rfl) (fun w1 hw => ?_)
  subst hb0
  cases h
  exact post_of_St hw
 refine cdh rfl h (fun c17 h => ?_) (fun c17 h => ?_)
 ·refine WT.skip ?_
  exact wto (K (decide (p0.Kind = 5)) h) ⟨rfl, rfl, rfl, trivial⟩ (fun w1 hw => (hw.sel (js := []) rfl).selO (js := [0]) rfl)
 refine rgn <| la rfl <| la rfl <| en ?_
 exact wto (K (decide (p0.Kind = 6)) h) ⟨rfl, rfl, rfl, trivial⟩ (fun w1 hw => (hw.sel (js := []) rfl).selO (js := [0]) rfl)
theorem m_sl_Index_Sstring_string_ok {Φ : Hp} {w : World} (hΦ : In Φ w) (N : Nat) (p0 : (List ByteArray)) (p1 : ByteArray) {pv0 : Value} {pG0 : List Nat} (ph0 : RSl RS 1 Φ pG0 pv0 p0) {r : Int} (h : m_sl_Index_Sstring_string N p0 p1 = some r) :
  Calls Tryz.prog 148 [pv0, .string p1].toArray w (Post (.int .i64 r) w) := by
 refine enter Tryz.func148 rfl Tryz.ntmps148 rfl (St.start0 hΦ) ?_
 generalize hb0 : (⟨w, [], Φ⟩ : Base) = w0
 unfold m_sl_Index_Sstring_string at h
 refine sr <| la rfl <| en <| sq <| sr <| la rfl <| lq (q_lenR Sl_114 rfl rfl ph0) rfl <| la rfl <| en <| blk ?_
 refine loop_in (σ := Int) (fun s => [(0, pv0), (1, .string p1), (7, .int .i64 (p0.length : Int)), (8, .int .i64 s)]) (fun s => St w0 Φ [] []) (fun m s => m_sl_Index_Sstring_string_l1 N p0 p1 m s = some r) (0) N h ⟨rfl, rfl, rfl, rfl, trivial⟩ (fun w1 hw => (hw.sel (js := []) rfl).selO (js := []) rfl) (fun s hm => none_ne hm) (fun n1 ih1 s hm => ?_)
 revert hm; revert s; intro s1 hm
 have h : m_sl_Index_Sstring_string_l1 N p0 p1 (n1 + 1) s1 = some r := hm
 show WT _ _ [(0, pv0), (1, .string p1), (7, .int .i64 (p0.length : Int)), (8, .int .i64 s1)] (St w0 Φ [] [])
 unfold m_sl_Index_Sstring_string_l1 at h
 refine sr <| la rfl <| en <| sq ?_
 refine cdh rfl h (fun c1 h => ?_) (fun c1 h => ?_)
 ·refine WT.skip <| sq <| blk <| sr <| la rfl <| la rfl <| en <| sr <| la rfl <| la rfl <| la rfl ?_
  obtain ⟨x1, hx1, h⟩ := bs h
  obtain ⟨cs1, F1, -, g1, hb1, hs1, r1⟩ := ph0.el (idx_some hx1).2.2
  obtain ⟨rfl, -⟩ := r1
  refine lq (q_indexAddr Sl_114 rfl rfl ph0 hx1) rfl <| lg 0 T1_9 g1 rfl rfl <| la rfl <| en ?_
  refine cdh rfl h (fun c2 h => ?_) (fun c2 h => ?_)
  ·refine sr <| la rfl <| la rfl <| en ?_
   refine WT.ret Tryz.func148 (resOk.one rfl) (fun w1 hw => ?_)
   subst hb0
   cases h
   exact post_of_St hw
  refine WT.skip <| ib <| rgn <| la rfl <| la rfl <| en ?_
  exact lback (ih1 (IntKind.i64.wrap (s1 + 1)) h) ⟨rfl, rfl, rfl, rfl, trivial⟩ (fun w1 hw => (hw.sel (js := []) rfl).selO (js := []) rfl)
 refine xt rfl <| sr <| la rfl <| en ?_
 refine WT.ret Tryz.func148 (resOk.one rfl) (fun w1 hw => ?_)
 subst hb0
 cases h
 exact post_of_St hw
theorem m_sl_Contains_Sstring_string_ok {Φ : Hp} {w : World} (hΦ : In Φ w) (N : Nat) (p0 : (List ByteArray)) (p1 : ByteArray) {pv0 : Value} {pG0 : List Nat} (ph0 : RSl RS 1 Φ pG0 pv0 p0) {r : Bool} (h : m_sl_Contains_Sstring_string N p0 p1 = some r) :
  Calls Tryz.prog 97 [pv0, .string p1].toArray w (Post (.bool r) w) := by
 refine enter Tryz.func97 rfl Tryz.ntmps97 rfl (St.start0 hΦ) ?_
 unfold m_sl_Contains_Sstring_string at h
 refine sr <| la rfl <| en <| sr <| la rfl <| la rfl ?_
 obtain ⟨x1, hx1, h⟩ := bs h
 refine lp (p_call Fun_148 rfl (fun w1 hw => m_sl_Index_Sstring_string_ok hw.fro N p0 p1 ph0 hx1)) rfl <| la rfl <| la rfl <| en ?_
 refine WT.ret Tryz.func97 (resOk.one rfl) (fun w1 hw => ?_)
 cases h
 exact post_of_St hw
theorem m_i_addOnce_ok {Φ : Hp} {w : World} (hΦ : In Φ w) (N : Nat) (p0 : (List ByteArray)) (p1 : ByteArray) {pv0 : Value} (ph0 : OSl RS 9 1 Φ [] pv0 p0) (hB : [ob pv0].flatten.Nodup) (hlt : ∀ k ∈ [ob pv0].flatten, k < w.heap.size) {r : (List ByteArray)} (h : m_i_addOnce N p0 p1 = some r) :
  Calls Tryz.prog 183 [pv0, .string p1].toArray w (PostG Φ w [ob pv0].flatten (fun Φ' Fs v => ∃ (sr_0_0 : Value), v = sr_0_0 ∧ Fs = [ob sr_0_0] ∧ OSl RS 9 1 Φ' [] sr_0_0 r)) := by
 refine enter Tryz.func183 rfl Tryz.ntmps183 rfl (St.start hΦ [ob pv0] hB hlt) ?_
 unfold m_i_addOnce at h
 refine sr <| la rfl <| en <| sq <| sr <| la rfl <| la rfl ?_
 obtain ⟨x1, hx1, h⟩ := bs h
 refine lp (p_call Fun_97 rfl (fun w1 hw => m_sl_Contains_Sstring_string_ok hw.fro N p0 p1 ph0.rsl hx1)) rfl <| en ?_
 refine cdh rfl h (fun c1 h => ?_) (fun c1 h => ?_)
 ·refine sr <| la rfl <| la rfl <| en ?_
  refine WT.ret Tryz.func183 (resOk.one rfl) (fun w1 hw => ?_)
  cases h
  refine postG_of_St (js := [0]) hw rfl ⟨pv0, rfl, rfl, ph0⟩
 refine WT.skip <| sr <| la rfl <| la rfl ?_
 have rc1 : RC RS 1 Φ ([[]] : List (List Nat)) [.string p1] ([p1] : List ByteArray) := RC.cons (c := [.string p1]) (cells := []) ⟨rfl, rfl⟩ rfl (RC.nil _ _ _)
 refine le' (e_lit (vs := [(0, .string p1)]) (C := #[.string p1]) RS.lasts Sl_114 Zr_9 rfl rfl rfl rfl (fill_made MC_9_1 (fill_cons (C' := [.string p1]) rfl rfl rfl rfl rfl (fill_nil))) rfl rc1 rfl (by simpa using Kw.nil)) rfl (fun v1 Φ_1 D1 q1 => ?_)
 obtain ⟨fr1, h1⟩ := q1
 replace h1 : OSl RS 9 1 Φ_1 [] v1 ([p1] : List ByteArray) := by simpa using h1
 replace ph0 := ph0.frame RS.lasts fr1 (Dj.empty _) (Dj.empty _)
 obtain ⟨x2, hx2, h⟩ := bs h
 refine le' (e_appF RS.lasts RS.one RS.flat Sl_114 Ei_9 rfl rfl rfl rfl rfl (js := [1]) (Rr := [ob v1]) rfl ph0 h1.rsl hx2) rfl (fun v2 Φ_2 D2 q2 => ?_)
 obtain ⟨⟨ap1, fr2⟩, h2⟩ := q2
 refine la rfl <| en ?_
 refine WT.ret Tryz.func183 (resOk.one rfl) (fun w1 hw => ?_)
 cases h
 refine postG_of_St (js := [0]) hw rfl ⟨v2, rfl, rfl, h2⟩
theorem m_i_addVars_ok {Φ : Hp} {w : World} (hΦ : In Φ w) (N : Nat) (p0 : (List ByteArray)) (p1 : (List TArg)) {pv0 pv1 : Value} {pG1 : List Nat} (ph0 : OSl RS 9 1 Φ [] pv0 p0) (ph1 : RSl RTArg 5 Φ pG1 pv1 p1) (pd1 : Dj pG1 [ob pv0].flatten) (hB : [ob pv0].flatten.Nodup) (hlt : ∀ k ∈ [ob pv0].flatten, k < w.heap.size) {r : (List ByteArray)} (h : m_i_addVars N p0 p1 = some r) :
  Calls Tryz.prog 147 [pv0, pv1].toArray w (PostG Φ w [ob pv0].flatten (fun Φ' Fs v => ∃ (sr_0_0 : Value), v = sr_0_0 ∧ Fs = [ob sr_0_0] ∧ OSl RS 9 1 Φ' [] sr_0_0 r)) := by
 refine enter Tryz.func147 rfl Tryz.ntmps147 rfl (St.start hΦ [ob pv0] hB hlt) ?_
 have pa1 := Old.mk hΦ ph1.kn pd1
 revert pa1
 generalize hb0 : (⟨w, [ob pv0].flatten, Φ⟩ : Base) = w0
 intro pa1
 unfold m_i_addVars at h
 refine sr <| la rfl <| en <| sq <| sr <| la rfl <| lq (q_lenR Sl_169 rfl rfl ph1) rfl <| la rfl <| en <| blk ?_
 refine loop_in (σ := Hp × (List ByteArray) × Value × Int) (fun s => [(0, s.2.2.1), (7, pv1), (8, .int .i64 (p1.length : Int)), (9, .int .i64 s.2.2.2)]) (fun s => St w0 s.1 [] [ob s.2.2.1]) (fun m s => m_i_addVars_l1 N p1 m s.2.1 s.2.2.2 = some r ∧ (OSl RS 9 1 s.1 [] s.2.2.1 s.2.1) ∧ (RSl RTArg 5 s.1 pG1 pv1 p1)) (Φ, p0, pv0, 0) N ⟨h, ph0, ph1⟩ ⟨rfl, rfl, rfl, rfl, trivial⟩ (fun w1 hw => (hw.sel (js := [0]) rfl).selO (js := []) rfl) (fun s hm => none_ne hm.1) (fun n1 ih1 s hm => ?_)
 obtain ⟨Φ_1, s1, u1, s2⟩ := s
 obtain ⟨h, k1, ph1⟩ := hm
 dsimp only at h k1 ph1 ⊢
 unfold m_i_addVars_l1 at h
 refine sr <| la rfl <| en <| sq ?_
 refine cdh rfl h (fun c1 h => ?_) (fun c1 h => ?_)
 ·refine WT.skip <| sq <| blk <| sr ?_
  obtain ⟨x1, hx1, h⟩ := bs h
  obtain ⟨cs1, F1, -, g1, hb1, hs1, r1⟩ := ph1.el (idx_some hx1).2.2
  obtain ⟨rfl, -⟩ := r1
  refine lq (q_indexAddr Sl_169 rfl rfl ph1 hx1) rfl <| lg5 0 Tn_137 g1 rfl rfl ?_
  refine ln (nz Zr_137) rfl (fun b_1 => ?_)
  refine soN 0 Sz_137 rfl ⟨rfl, rfl, rfl, rfl, rfl, trivial⟩ rfl ?_
  refine en <| sr <| lf Fld_137_0 rfl rfl rfl <| lo T1_3 0 rfl <| la rfl <| en ?_
  refine cdh rfl h (fun c2 h => ?_) (fun c2 h => ?_)
  ·refine rgn <| la rfl <| lf Fld_137_1 rfl rfl rfl <| lo T1_9 0 rfl ?_
   obtain ⟨x2, hx2, h⟩ := bs h
   refine lc (k_call (js := [0]) (R := []) Fun_183 rfl rfl (fun w1 hw ap hl => m_i_addOnce_ok hw.fro N s1 x1.S k1 ap.nd hl hx2)) rfl (fun v1 Φ_2 F2 q1 => ?_)
   obtain ⟨ap1, fr1, v2, rfl, rfl, h1⟩ := q1
   replace ph1 := ph1.frame RTArg.lasts fr1 (ap1.o pa1)
   refine la rfl <| en <| ib <| rgn <| la rfl <| la rfl <| en ?_
   exact lback (ih1 (Φ_2, x2, v1, IntKind.i64.wrap (s2 + 1)) ⟨h, h1, ph1⟩) ⟨rfl, rfl, rfl, rfl, trivial⟩ (fun w1 hw => (hw.sel (js := [0]) rfl).selO (js := []) rfl)
  refine WT.skip <| ib <| rgn <| la rfl <| la rfl <| en ?_
  exact lback (ih1 (Φ_1, s1, u1, IntKind.i64.wrap (s2 + 1)) ⟨h, k1, ph1⟩) ⟨rfl, rfl, rfl, rfl, trivial⟩ (fun w1 hw => (hw.sel (js := [0]) rfl).selO (js := []) rfl)
 refine xt rfl <| sr <| la rfl <| la rfl <| en ?_
 refine WT.ret Tryz.func147 (resOk.one rfl) (fun w1 hw => ?_)
 subst hb0
 cases h
 refine postG_of_St (js := [0]) hw rfl ⟨u1, rfl, rfl, k1⟩
theorem m_i_PosVars_ok {Φ : Hp} {w : World} (hΦ : In Φ w) (N : Nat) (p0 : TRule) {pv0_0 pv0_1 pv0_2 : Value} {pG0_0 pG0_1 pG0_2 : List Nat} (ph0_0 : RSl RTPat 3 Φ pG0_0 pv0_0 p0.Pats) (ph0_1 : RSl RTCond 11 Φ pG0_1 pv0_1 p0.Conds) (ph0_2 : RSl RTAct 5 Φ pG0_2 pv0_2 p0.Acts) {r : (List ByteArray)} (h : m_i_PosVars N p0 = some r) :
  Calls Tryz.prog 95 [.agg [.string p0.Name, .int .i64 p0.Sal, pv0_0, pv0_1, pv0_2].toArray].toArray w (PostG Φ w [] (fun Φ' Fs v => ∃ (sr_0_0 : Value), v = sr_0_0 ∧ Fs = [ob sr_0_0] ∧ OSl RS 9 1 Φ' [] sr_0_0 r)) := by
 refine enter Tryz.func95 rfl Tryz.ntmps95 rfl (St.start0 hΦ) ?_
 have pa0_0 := Old.mk hΦ ph0_0.kn (Dj.empty _)
 revert pa0_0
 generalize hb0 : (⟨w, [], Φ⟩ : Base) = w0
 intro pa0_0
 unfold m_i_PosVars at h
 refine sr ?_
 refine ln (nb rfl) rfl (fun b_1 => ?_)
 refine la rfl <| en <| sr <| la rfl <| en <| sq <| sr <| lf Fld_40_2 rfl rfl rfl <| lo T1_36 0 rfl <| lq (q_lenR Sl_36 rfl rfl ph0_0) rfl <| la rfl <| en <| blk <| WT.loop <| WT.conv (S' := St w0 Φ [(b_1, .cells #[.string p0.Name, .int .i64 p0.Sal, pv0_0, pv0_1, pv0_2] 40 (0, 0))] (ob (.slice none 0 0) :: [])) (fun w1 hw => hw.addNil) ?_
 have k1 := OSl.nil RS 9 1 Φ
 refine WT.mono (l' := [(3, (.slice none 0 0)), (7, pv0_0), (8, .int .i64 (p0.Pats.length : Int)), (9, .int .i64 0)]) (S' := St w0 Φ [] [ob (.slice none 0 0)]) ⟨rfl, rfl, rfl, rfl, trivial⟩ (fun w1 hw => (hw.sel (js := [0]) rfl).selO (js := []) rfl) ?_
 refine loop_ind (σ := Hp × (List ByteArray) × Value × Int) (fun s => [(3, s.2.2.1), (7, pv0_0), (8, .int .i64 (p0.Pats.length : Int)), (9, .int .i64 s.2.2.2)]) (fun s => St w0 s.1 [] [ob s.2.2.1]) (fun m s => m_i_PosVars_l1 N p0 m s.2.1 s.2.2.2 = some r ∧ (OSl RS 9 1 s.1 [] s.2.2.1 s.2.1) ∧ (RSl RTPat 3 s.1 pG0_0 pv0_0 p0.Pats)) (fun s hm => none_ne (show (none : Option ((List ByteArray))) = some r from hm.1)) (fun n1 ih1 s hm => ?_) N (Φ, ([] : List ByteArray), (.slice none 0 0), 0) ⟨h, k1, ph0_0⟩
 obtain ⟨Φ_1, s1, u1, s2⟩ := s
 obtain ⟨h, k2, ph0_0⟩ := hm
 dsimp only at h k2 ph0_0 ⊢
 unfold m_i_PosVars_l1 at h
 refine sr <| la rfl <| en <| sq ?_
 refine cdh rfl h (fun c1 h => ?_) (fun c1 h => ?_)
 ·refine WT.skip <| sq <| blk <| sr ?_
  obtain ⟨x1, hx1, h⟩ := bs h
  obtain ⟨cs1, F1, -, g1, hb1, hs1, r1⟩ := ph0_0.el (idx_some hx1).2.2
  obtain ⟨v1, G1, rfl, hq1, h1⟩ := r1
  obtain rfl := hq1.symm
  refine lq (q_indexAddr Sl_36 rfl rfl ph0_0 hx1) rfl <| lg3 0 Tn_171 g1 rfl rfl ?_
  refine ln (nz Zr_171) rfl (fun b_2 => ?_)
  refine soN 0 Sz_171 rfl ⟨rfl, h1.one, rfl, trivial⟩ rfl ?_
  refine en <| sr <| lf Fld_171_2 rfl rfl rfl <| lo T1_4 0 rfl <| la rfl <| en ?_
  refine cdh rfl h (fun c2 h => ?_) (fun c2 h => ?_)
  ·refine rgn <| la rfl <| lf Fld_171_1 rfl rfl rfl <| lo T1_169 0 rfl ?_
   obtain ⟨x2, hx2, h⟩ := bs h
   refine lc (k_call (js := [0]) (R := []) Fun_147 rfl rfl (fun w1 hw ap hl => m_i_addVars_ok hw.fro N s1 x1.Args k2 h1 (Dj.sub (ap.o pa0_0) (fun k h => hs1 k h)) ap.nd hl hx2)) rfl (fun v2 Φ_2 F2 q1 => ?_)
   obtain ⟨ap1, fr1, v3, rfl, rfl, h2⟩ := q1
   replace ph0_0 := ph0_0.frame RTPat.lasts fr1 (ap1.o pa0_0)
   refine la rfl <| en <| ib <| rgn <| la rfl <| la rfl <| en ?_
   exact lback (ih1 (Φ_2, x2, v2, IntKind.i64.wrap (s2 + 1)) ⟨h, h2, ph0_0⟩) ⟨rfl, rfl, rfl, rfl, trivial⟩ (fun w1 hw => (hw.sel (js := [0]) rfl).selO (js := []) rfl)
  refine WT.skip <| ib <| rgn <| la rfl <| la rfl <| en ?_
  exact lback (ih1 (Φ_1, s1, u1, IntKind.i64.wrap (s2 + 1)) ⟨h, k2, ph0_0⟩) ⟨rfl, rfl, rfl, rfl, trivial⟩ (fun w1 hw => (hw.sel (js := [0]) rfl).selO (js := []) rfl)
 refine xt rfl <| sr <| la rfl <| la rfl <| en ?_
 refine WT.ret Tryz.func95 (resOk.one rfl) (fun w1 hw => ?_)
 subst hb0
 cases h
 refine postG_of_St (js := [0]) hw rfl ⟨u1, rfl, rfl, k2⟩
theorem m_i_usedVars_ok {Φ : Hp} {w : World} (hΦ : In Φ w) (N : Nat) (p0 : TRule) {pv0_0 pv0_1 pv0_2 : Value} {pG0_0 pG0_1 pG0_2 : List Nat} (ph0_0 : RSl RTPat 3 Φ pG0_0 pv0_0 p0.Pats) (ph0_1 : RSl RTCond 11 Φ pG0_1 pv0_1 p0.Conds) (ph0_2 : RSl RTAct 5 Φ pG0_2 pv0_2 p0.Acts) {r : (List ByteArray)} (h : m_i_usedVars N p0 = some r) :
  Calls Tryz.prog 96 [.agg [.string p0.Name, .int .i64 p0.Sal, pv0_0, pv0_1, pv0_2].toArray].toArray w (PostG Φ w [] (fun Φ' Fs v => ∃ (sr_0_0 : Value), v = sr_0_0 ∧ Fs = [ob sr_0_0] ∧ OSl RS 9 1 Φ' [] sr_0_0 r)) := by
 refine enter Tryz.func96 rfl Tryz.ntmps96 rfl (St.start0 hΦ) ?_
 have pa0_0 := Old.mk hΦ ph0_0.kn (Dj.empty _)
 have pa0_1 := Old.mk hΦ ph0_1.kn (Dj.empty _)
 have pa0_2 := Old.mk hΦ ph0_2.kn (Dj.empty _)
 revert pa0_0 pa0_1 pa0_2
 generalize hb0 : (⟨w, [], Φ⟩ : Base) = w0
 intro pa0_0 pa0_1 pa0_2
 unfold m_i_usedVars at h
 refine sr ?_
 refine ln (nb rfl) rfl (fun b_1 => ?_)
 refine la rfl <| en <| sr <| la rfl <| en <| sq <| sr <| lf Fld_40_3 rfl rfl rfl <| lo T1_37 0 rfl <| lq (q_lenR Sl_37 rfl rfl ph0_1) rfl <| la rfl <| en <| blk <| WT.loop <| WT.conv (S' := St w0 Φ [(b_1, .cells #[.string p0.Name, .int .i64 p0.Sal, pv0_0, pv0_1, pv0_2] 40 (0, 0))] (ob (.slice none 0 0) :: [])) (fun w1 hw => hw.addNil) ?_
 have k1 := OSl.nil RS 9 1 Φ
 refine WT.mono (l' := [(1, .pointer (some ⟨b_1, 0, none⟩)), (3, (.slice none 0 0)), (11, pv0_1), (12, .int .i64 (p0.Conds.length : Int)), (13, .int .i64 0)]) (S' := St w0 Φ [(b_1, .cells #[.string p0.Name, .int .i64 p0.Sal, pv0_0, pv0_1, pv0_2] 40 (0, 0))] [ob (.slice none 0 0)]) ⟨rfl, rfl, rfl, rfl, rfl, trivial⟩ (fun w1 hw => (hw.sel (js := [0]) rfl).selO (js := [0]) rfl) ?_
 refine loop_ind (σ := Hp × (List ByteArray) × Value × Int) (fun s => [(1, .pointer (some ⟨b_1, 0, none⟩)), (3, s.2.2.1), (11, pv0_1), (12, .int .i64 (p0.Conds.length : Int)), (13, .int .i64 s.2.2.2)]) (fun s => St w0 s.1 [(b_1, .cells #[.string p0.Name, .int .i64 p0.Sal, pv0_0, pv0_1, pv0_2] 40 (0, 0))] [ob s.2.2.1]) (fun m s => m_i_usedVars_l1 N p0 m s.2.1 s.2.2.2 = some r ∧ (OSl RS 9 1 s.1 [] s.2.2.1 s.2.1) ∧ (RSl RTPat 3 s.1 pG0_0 pv0_0 p0.Pats) ∧ (RSl RTCond 11 s.1 pG0_1 pv0_1 p0.Conds) ∧ (RSl RTAct 5 s.1 pG0_2 pv0_2 p0.Acts)) (fun s hm => none_ne (show (none : Option ((List ByteArray))) = some r from hm.1)) (fun n1 ih1 s hm => ?_) N (Φ, ([] : List ByteArray), (.slice none 0 0), 0) ⟨h, k1, ph0_0, ph0_1, ph0_2⟩
 obtain ⟨Φ_1, s1, u1, s2⟩ := s
 obtain ⟨h, k2, ph0_0, ph0_1, ph0_2⟩ := hm
 dsimp only at h k2 ph0_0 ph0_1 ph0_2 ⊢
 unfold m_i_usedVars_l1 at h
 refine sr <| la rfl <| en <| sq ?_
 refine cdh rfl h (fun c1 h => ?_) (fun c1 h => ?_)
 ·refine WT.skip <| sq <| blk <| sr ?_
  obtain ⟨x1, hx1, h⟩ := bs h
  obtain ⟨cs1, F1, -, g1, hb1, hs1, r1⟩ := ph0_1.el (idx_some hx1).2.2
  obtain ⟨rfl, -⟩ := r1
  refine lq (q_indexAddr Sl_37 rfl rfl ph0_1 hx1) rfl <| lg11 0 Tn_139 g1 rfl rfl ?_
  refine ln (nz Zr_139) rfl (fun b_2 => ?_)
  refine soN 0 Sz_139 rfl ⟨rfl, rfl, rfl, rfl, rfl, rfl, rfl, rfl, rfl, rfl, rfl, trivial⟩ rfl ?_
  refine en <| rgn <| la rfl <| lf Fld_139_1 rfl rfl rfl <| ld5 Tn_137 0 rfl <| lf Fld_139_2 rfl rfl rfl <| ld5 Tn_137 0 rfl ?_
  have rc1 : RC RTArg 5 Φ_1 ([[], []] : List (List Nat)) [.int .i64 x1.L.K, .string x1.L.S, .int .i64 x1.L.V.K, .int .i64 x1.L.V.N, .string x1.L.V.S, .int .i64 x1.R.K, .string x1.R.S, .int .i64 x1.R.V.K, .int .i64 x1.R.V.N, .string x1.R.V.S] ([x1.L, x1.R] : List TArg) := RC.cons (c := [.int .i64 x1.L.K, .string x1.L.S, .int .i64 x1.L.V.K, .int .i64 x1.L.V.N, .string x1.L.V.S]) (cells := [.int .i64 x1.R.K, .string x1.R.S, .int .i64 x1.R.V.K, .int .i64 x1.R.V.N, .string x1.R.V.S]) ⟨rfl, rfl⟩ rfl (RC.cons (c := [.int .i64 x1.R.K, .string x1.R.S, .int .i64 x1.R.V.K, .int .i64 x1.R.V.N, .string x1.R.V.S]) (cells := []) ⟨rfl, rfl⟩ rfl (RC.nil _ _ _))
  refine le' (e_lit (vs := [(0, .agg [.int .i64 x1.L.K, .string x1.L.S, .int .i64 x1.L.V.K, .int .i64 x1.L.V.N, .string x1.L.V.S].toArray), (1, .agg [.int .i64 x1.R.K, .string x1.R.S, .int .i64 x1.R.V.K, .int .i64 x1.R.V.N, .string x1.R.V.S].toArray)]) (C := #[.int .i64 x1.L.K, .string x1.L.S, .int .i64 x1.L.V.K, .int .i64 x1.L.V.N, .string x1.L.V.S, .int .i64 x1.R.K, .string x1.R.S, .int .i64 x1.R.V.K, .int .i64 x1.R.V.N, .string x1.R.V.S]) RTArg.lasts Sl_169 Zr_137 rfl rfl rfl rfl (fill_made MC_137_2 (fill_cons (C' := [.int .i64 x1.L.K, .string x1.L.S, .int .i64 x1.L.V.K, .int .i64 x1.L.V.N, .string x1.L.V.S, .int .i64 0, .string ⟨#[]⟩, .int .i64 0, .int .i64 0, .string ⟨#[]⟩]) rfl rfl rfl rfl rfl (fill_cons (C' := [.int .i64 x1.L.K, .string x1.L.S, .int .i64 x1.L.V.K, .int .i64 x1.L.V.N, .string x1.L.V.S, .int .i64 x1.R.K, .string x1.R.S, .int .i64 x1.R.V.K, .int .i64 x1.R.V.N, .string x1.R.V.S]) rfl rfl rfl rfl rfl (fill_nil)))) rfl rc1 rfl (by simpa using Kw.nil)) rfl (fun v1 Φ_2 D1 q1 => ?_)
  obtain ⟨fr1, h1⟩ := q1
  replace h1 : OSl RTArg 137 5 Φ_2 [] v1 ([x1.L, x1.R] : List TArg) := by simpa using h1
  replace ph0_0 := ph0_0.frame RTPat.lasts fr1 (Dj.empty _)
  replace ph0_1 := ph0_1.frame RTCond.lasts fr1 (Dj.empty _)
  replace ph0_2 := ph0_2.frame RTAct.lasts fr1 (Dj.empty _)
  replace k2 := k2.frame RS.lasts fr1 (Dj.empty _) (Dj.empty _)
  obtain ⟨x2, hx2, h⟩ := bs h
  refine lc (k_call (js := [1]) (R := [ob v1]) Fun_147 rfl rfl (fun w1 hw ap hl => m_i_addVars_ok hw.fro N s1 ([x1.L, x1.R] : List TArg) k2 h1.rsl (Dj.app (ap.r (i := 0) rfl) (Dj.nil _)) ap.nd hl hx2)) rfl (fun v2 Φ_3 F2 q2 => ?_)
  obtain ⟨ap1, fr2, v3, rfl, rfl, h2⟩ := q2
  replace ph0_0 := ph0_0.frame RTPat.lasts fr2 (ap1.o pa0_0)
  replace ph0_1 := ph0_1.frame RTCond.lasts fr2 (ap1.o pa0_1)
  replace ph0_2 := ph0_2.frame RTAct.lasts fr2 (ap1.o pa0_2)
  refine la rfl <| en <| ib <| rgn <| la rfl <| la rfl <| en ?_
  exact lback (ih1 (Φ_3, x2, v2, IntKind.i64.wrap (s2 + 1)) ⟨h, h2, ph0_0, ph0_1, ph0_2⟩) ⟨rfl, rfl, rfl, rfl, rfl, trivial⟩ (fun w1 hw => (hw.sel (js := [0]) rfl).selO (js := [1]) rfl)
 refine xt rfl <| sq <| sr <| lf Fld_40_4 rfl rfl rfl <| lo T1_38 0 rfl <| lq (q_lenR Sl_38 rfl rfl ph0_2) rfl <| la rfl <| en <| blk ?_
 refine loop_in (σ := Hp × (List ByteArray) × Value × Int) (fun s => [(3, s.2.2.1), (26, pv0_2), (27, .int .i64 (p0.Acts.length : Int)), (28, .int .i64 s.2.2.2)]) (fun s => St w0 s.1 [] [ob s.2.2.1]) (fun m s => m_i_usedVars_l2 N p0 m s.2.1 s.2.2.2 = some r ∧ (OSl RS 9 1 s.1 [] s.2.2.1 s.2.1) ∧ (RSl RTAct 5 s.1 pG0_2 pv0_2 p0.Acts)) (Φ_1, s1, u1, 0) N ⟨h, k2, ph0_2⟩ ⟨rfl, rfl, rfl, rfl, trivial⟩ (fun w1 hw => (hw.sel (js := [0]) rfl).selO (js := []) rfl) (fun s hm => none_ne hm.1) (fun n2 ih2 s hm => ?_)
 obtain ⟨Φ_4, s3, u2, s4⟩ := s
 obtain ⟨h, k3, ph0_2⟩ := hm
 dsimp only at h k3 ph0_2 ⊢
 unfold m_i_usedVars_l2 at h
 refine sr <| la rfl <| en <| sq ?_
 refine cdh rfl h (fun c2 h => ?_) (fun c2 h => ?_)
 ·refine WT.skip <| sq <| blk <| sr ?_
  obtain ⟨x3, hx3, h⟩ := bs h
  obtain ⟨cs2, F3, -, g2, hb2, hs2, r2⟩ := ph0_2.el (idx_some hx3).2.2
  obtain ⟨v4, G1, rfl, hq1, h3⟩ := r2
  obtain rfl := hq1.symm
  refine lq (q_indexAddr Sl_38 rfl rfl ph0_2 hx3) rfl <| lg5 0 Tn_143 g2 rfl rfl ?_
  refine ln (nz Zr_143) rfl (fun b_3 => ?_)
  refine soN 0 Sz_143 rfl ⟨rfl, rfl, h3.one, rfl, rfl, trivial⟩ rfl ?_
  refine en <| sr <| lf Fld_143_2 rfl rfl rfl <| lo T1_141 0 rfl <| lq (q_lenR Sl_141 rfl rfl h3) rfl <| la rfl <| en <| blk ?_
  refine loop_in (σ := Hp × (List ByteArray) × Value × Int) (fun s => [(3, s.2.2.1), (26, pv0_2), (27, .int .i64 (p0.Acts.length : Int)), (28, .int .i64 s4), (33, v4), (34, .int .i64 (x3.Args.length : Int)), (35, .int .i64 s.2.2.2)]) (fun s => St w0 s.1 [] [ob s.2.2.1]) (fun m s => m_i_usedVars_l3 N s4 (m_i_usedVars_l2 N p0 n2) x3 m s.2.1 s.2.2.2 = some r ∧ (OSl RS 9 1 s.1 [] s.2.2.1 s.2.1) ∧ (RSl RTAct 5 s.1 pG0_2 pv0_2 p0.Acts) ∧ (RSl RTExpr 11 s.1 G1 v4 x3.Args)) (Φ_4, s3, u2, 0) N ⟨h, k3, ph0_2, h3⟩ ⟨rfl, rfl, rfl, rfl, rfl, rfl, rfl, trivial⟩ (fun w1 hw => (hw.sel (js := [0]) rfl).selO (js := []) rfl) (fun s hm => none_ne hm.1) (fun n3 ih3 s hm => ?_)
  obtain ⟨Φ_5, s5, u3, s6⟩ := s
  obtain ⟨h, k4, ph0_2, h3⟩ := hm
  dsimp only at h k4 ph0_2 h3 ⊢
  unfold m_i_usedVars_l3 at h
  refine sr <| la rfl <| en <| sq ?_
  refine cdh rfl h (fun c3 h => ?_) (fun c3 h => ?_)
  ·refine WT.skip <| sq <| blk <| sr ?_
   obtain ⟨x4, hx4, h⟩ := bs h
   obtain ⟨cs3, F4, -, g3, hb3, hs3, r3⟩ := h3.el (idx_some hx4).2.2
   obtain ⟨rfl, -⟩ := r3
   refine lq (q_indexAddr Sl_141 rfl rfl h3 hx4) rfl <| lg11 0 Tn_191 g3 rfl rfl ?_
   refine ln (nz Zr_191) rfl (fun b_4 => ?_)
   refine soN 0 Sz_191 rfl ⟨rfl, rfl, rfl, rfl, rfl, rfl, rfl, rfl, rfl, rfl, rfl, trivial⟩ rfl ?_
   refine en <| rgn <| la rfl <| lf Fld_191_1 rfl rfl rfl <| ld5 Tn_137 0 rfl <| lf Fld_191_2 rfl rfl rfl <| ld5 Tn_137 0 rfl ?_
   have rc2 : RC RTArg 5 Φ_5 ([[], []] : List (List Nat)) [.int .i64 x4.L.K, .string x4.L.S, .int .i64 x4.L.V.K, .int .i64 x4.L.V.N, .string x4.L.V.S, .int .i64 x4.R.K, .string x4.R.S, .int .i64 x4.R.V.K, .int .i64 x4.R.V.N, .string x4.R.V.S] ([x4.L, x4.R] : List TArg) := RC.cons (c := [.int .i64 x4.L.K, .string x4.L.S, .int .i64 x4.L.V.K, .int .i64 x4.L.V.N, .string x4.L.V.S]) (cells := [.int .i64 x4.R.K, .string x4.R.S, .int .i64 x4.R.V.K, .int .i64 x4.R.V.N, .string x4.R.V.S]) ⟨rfl, rfl⟩ rfl (RC.cons (c := [.int .i64 x4.R.K, .string x4.R.S, .int .i64 x4.R.V.K, .int .i64 x4.R.V.N, .string x4.R.V.S]) (cells := []) ⟨rfl, rfl⟩ rfl (RC.nil _ _ _))
   refine le' (e_lit (vs := [(0, .agg [.int .i64 x4.L.K, .string x4.L.S, .int .i64 x4.L.V.K, .int .i64 x4.L.V.N, .string x4.L.V.S].toArray), (1, .agg [.int .i64 x4.R.K, .string x4.R.S, .int .i64 x4.R.V.K, .int .i64 x4.R.V.N, .string x4.R.V.S].toArray)]) (C := #[.int .i64 x4.L.K, .string x4.L.S, .int .i64 x4.L.V.K, .int .i64 x4.L.V.N, .string x4.L.V.S, .int .i64 x4.R.K, .string x4.R.S, .int .i64 x4.R.V.K, .int .i64 x4.R.V.N, .string x4.R.V.S]) RTArg.lasts Sl_169 Zr_137 rfl rfl rfl rfl (fill_made MC_137_2 (fill_cons (C' := [.int .i64 x4.L.K, .string x4.L.S, .int .i64 x4.L.V.K, .int .i64 x4.L.V.N, .string x4.L.V.S, .int .i64 0, .string ⟨#[]⟩, .int .i64 0, .int .i64 0, .string ⟨#[]⟩]) rfl rfl rfl rfl rfl (fill_cons (C' := [.int .i64 x4.L.K, .string x4.L.S, .int .i64 x4.L.V.K, .int .i64 x4.L.V.N, .string x4.L.V.S, .int .i64 x4.R.K, .string x4.R.S, .int .i64 x4.R.V.K, .int .i64 x4.R.V.N, .string x4.R.V.S]) rfl rfl rfl rfl rfl (fill_nil)))) rfl rc2 rfl (by simpa using Kw.nil)) rfl (fun v5 Φ_6 D2 q3 => ?_)
   obtain ⟨fr3, h4⟩ := q3
   replace h4 : OSl RTArg 137 5 Φ_6 [] v5 ([x4.L, x4.R] : List TArg) := by simpa using h4
   replace ph0_2 := ph0_2.frame RTAct.lasts fr3 (Dj.empty _)
   replace h3 := h3.frame RTExpr.lasts fr3 (Dj.empty _)
   replace k4 := k4.frame RS.lasts fr3 (Dj.empty _) (Dj.empty _)
   obtain ⟨x5, hx5, h⟩ := bs h
   refine lc (k_call (js := [1]) (R := [ob v5]) Fun_147 rfl rfl (fun w1 hw ap hl => m_i_addVars_ok hw.fro N s5 ([x4.L, x4.R] : List TArg) k4 h4.rsl (Dj.app (ap.r (i := 0) rfl) (Dj.nil _)) ap.nd hl hx5)) rfl (fun v6 Φ_7 F5 q4 => ?_)
   obtain ⟨ap2, fr4, v7, rfl, rfl, h5⟩ := q4
   replace ph0_2 := ph0_2.frame RTAct.lasts fr4 (ap2.o pa0_2)
   replace h3 := h3.frame RTExpr.lasts fr4 (Dj.sub (ap2.o pa0_2) (fun k h => hs2 k h))
   refine la rfl <| en <| ib <| rgn <| la rfl <| la rfl <| en ?_
   exact lback (ih3 (Φ_7, x5, v6, IntKind.i64.wrap (s6 + 1)) ⟨h, h5, ph0_2, h3⟩) ⟨rfl, rfl, rfl, rfl, rfl, rfl, rfl, trivial⟩ (fun w1 hw => (hw.sel (js := [0]) rfl).selO (js := []) rfl)
  refine xt rfl <| ib <| rgn <| la rfl <| la rfl <| en ?_
  exact lback (ih2 (Φ_5, s5, u3, IntKind.i64.wrap (s4 + 1)) ⟨h, k4, ph0_2⟩) ⟨rfl, rfl, rfl, rfl, trivial⟩ (fun w1 hw => (hw.sel (js := [0]) rfl).selO (js := []) rfl)
 refine xt rfl <| sr <| la rfl <| la rfl <| en ?_
 refine WT.ret Tryz.func96 (resOk.one rfl) (fun w1 hw => ?_)
 subst hb0
 cases h
 refine postG_of_St (js := [0]) hw rfl ⟨u2, rfl, rfl, k3⟩
theorem m_i_RuleOk_ok {Φ : Hp} {w : World} (hΦ : In Φ w) (N : Nat) (p0 : TRule) {pv0_0 pv0_1 pv0_2 : Value} {pG0_0 pG0_1 pG0_2 : List Nat} (ph0_0 : RSl RTPat 3 Φ pG0_0 pv0_0 p0.Pats) (ph0_1 : RSl RTCond 11 Φ pG0_1 pv0_1 p0.Conds) (ph0_2 : RSl RTAct 5 Φ pG0_2 pv0_2 p0.Acts) {r : Bool} (h : m_i_RuleOk N p0 = some r) :
  Calls Tryz.prog 42 [.agg [.string p0.Name, .int .i64 p0.Sal, pv0_0, pv0_1, pv0_2].toArray].toArray w (Post (.bool r) w) := by
 refine enter Tryz.func42 rfl Tryz.ntmps42 rfl (St.start0 hΦ) ?_
 have pa0_0 := Old.mk hΦ ph0_0.kn (Dj.empty _)
 have pa0_1 := Old.mk hΦ ph0_1.kn (Dj.empty _)
 have pa0_2 := Old.mk hΦ ph0_2.kn (Dj.empty _)
 revert pa0_0 pa0_1 pa0_2
 generalize hb0 : (⟨w, [], Φ⟩ : Base) = w0
 intro pa0_0 pa0_1 pa0_2
 unfold m_i_RuleOk at h
 refine sr ?_
 refine ln (nb rfl) rfl (fun b_1 => ?_)
 refine la rfl <| en <| sq <| sr <| lf Fld_40_0 rfl rfl rfl <| lo T1_9 0 rfl ?_
 obtain ⟨x1, hx1, h⟩ := bs h
 refine lp (p_call Fun_80 rfl (fun w1 hw => m_i_NameOk_ok hw.fro N p0.Name hx1)) rfl <| la rfl <| la rfl ?_
 obtain ⟨b1, hb_1, h⟩ := bs h
 refine WL.cutN 5 [(19, .bool b1), (1, .pointer (some ⟨b_1, 0, none⟩))] ?_ (fun K => ?_)
 rotate_left
 ·refine spl 14 rfl hb_1 (fun c1 hb_1 => ?_) (fun c1 hb_1 => ?_)
  ·refine la rfl <| la rfl <| la rfl <| la rfl <| la rfl ?_
   cases hb_1
   exact kk K ⟨rfl, rfl, trivial⟩
  ·refine ly rfl rfl <| lf Fld_40_1 rfl rfl rfl <| ly rfl rfl <| lo T1_3 0 rfl <| ly rfl rfl ?_
   obtain ⟨x2, hx2, hb_1⟩ := bs hb_1
   refine lp (p_call Fun_81 rfl (fun w1 hw => m_i_inRange_ok hw.fro N p0.Sal (-100) 100 hx2)) rfl <| ly rfl rfl <| la rfl <| la rfl ?_
   cases hb_1
   exact kk K ⟨rfl, rfl, trivial⟩
 refine la rfl ?_
 obtain ⟨b2, hb_2, h⟩ := bs h
 refine WL.cutN 4 [(24, .bool b2), (1, .pointer (some ⟨b_1, 0, none⟩))] ?_ (fun K => ?_)
 rotate_left
 ·refine spl 20 rfl hb_2 (fun c2 hb_2 => ?_) (fun c2 hb_2 => ?_)
  ·refine la rfl <| la rfl <| la rfl <| la rfl ?_
   cases hb_2
   exact kk K ⟨rfl, rfl, trivial⟩
  ·refine ly rfl rfl <| ld5 Tn_40 0 rfl <| ly rfl rfl ?_
   obtain ⟨x3, hx3, hb_2⟩ := bs hb_2
   refine lp (p_call Fun_91 rfl (fun w1 hw => m_i_patsOk_ok hw.fro N p0 ph0_0 ph0_1 ph0_2 hx3)) rfl <| ly rfl rfl <| la rfl <| la rfl ?_
   cases hb_2
   exact kk K ⟨rfl, rfl, trivial⟩
 refine en ?_
 refine cdh rfl h (fun c3 h => ?_) (fun c3 h => ?_)
 ·refine sr <| la rfl <| en ?_
  refine WT.ret Tryz.func42 (resOk.one rfl) (fun w1 hw => ?_)
  subst hb0
  cases h
  exact post_of_St hw
 refine WT.skip <| sq <| sr <| lf Fld_40_3 rfl rfl rfl <| lo T1_37 0 rfl <| lq (q_lenR Sl_37 rfl rfl ph0_1) rfl <| la rfl <| la rfl ?_
 obtain ⟨b3, hb_3, h⟩ := bs h
 refine WL.cutN 6 [(35, .bool b3), (1, .pointer (some ⟨b_1, 0, none⟩))] ?_ (fun K => ?_)
 rotate_left
 ·refine spl 29 rfl hb_3 (fun c4 hb_3 => ?_) (fun c4 hb_3 => ?_)
  ·refine la rfl <| la rfl <| la rfl <| la rfl <| la rfl <| la rfl ?_
   cases hb_3
   exact kk K ⟨rfl, rfl, trivial⟩
  ·refine ly rfl rfl <| lf Fld_40_4 rfl rfl rfl <| ly rfl rfl <| lo T1_38 0 rfl <| ly rfl rfl <| lq (q_lenR Sl_38 rfl rfl ph0_2) rfl <| ly rfl rfl ?_
   obtain ⟨x4, hx4, hb_3⟩ := bs hb_3
   refine lp (p_call Fun_81 rfl (fun w1 hw => m_i_inRange_ok hw.fro N (p0.Acts.length : Int) 1 6 hx4)) rfl <| ly rfl rfl <| la rfl <| la rfl ?_
   cases hb_3
   exact kk K ⟨rfl, rfl, trivial⟩
 refine en ?_
 refine cdh rfl h (fun c5 h => ?_) (fun c5 h => ?_)
 ·refine sr <| la rfl <| en ?_
  refine WT.ret Tryz.func42 (resOk.one rfl) (fun w1 hw => ?_)
  subst hb0
  cases h
  exact post_of_St hw
 refine WT.skip <| sq <| sr <| lf Fld_40_3 rfl rfl rfl <| lo T1_37 0 rfl <| lq (q_lenR Sl_37 rfl rfl ph0_1) rfl <| la rfl <| en <| blk ?_
 refine loop_in (σ := Int) (fun s => [(1, .pointer (some ⟨b_1, 0, none⟩)), (37, pv0_1), (38, .int .i64 (p0.Conds.length : Int)), (39, .int .i64 s)]) (fun s => St w0 Φ [(b_1, .cells #[.string p0.Name, .int .i64 p0.Sal, pv0_0, pv0_1, pv0_2] 40 (0, 0))] []) (fun m s => m_i_RuleOk_l1 N p0 m s = some r) (0) N h ⟨rfl, rfl, rfl, rfl, trivial⟩ (fun w1 hw => (hw.sel (js := []) rfl).selO (js := [0]) rfl) (fun s hm => none_ne hm) (fun n1 ih1 s hm => ?_)
 revert hm; revert s; intro s1 hm
 have h : m_i_RuleOk_l1 N p0 (n1 + 1) s1 = some r := hm
 show WT _ _ [(1, .pointer (some ⟨b_1, 0, none⟩)), (37, pv0_1), (38, .int .i64 (p0.Conds.length : Int)), (39, .int .i64 s1)] (St w0 Φ [(b_1, .cells #[.string p0.Name, .int .i64 p0.Sal, pv0_0, pv0_1, pv0_2] 40 (0, 0))] [])
 unfold m_i_RuleOk_l1 at h
 refine sr <| la rfl <| en <| sq ?_
 refine cdh rfl h (fun c6 h => ?_) (fun c6 h => ?_)
 ·refine WT.skip <| sq <| blk <| sr ?_
  obtain ⟨x5, hx5, h⟩ := bs h
  obtain ⟨cs1, F1, -, g1, hb1, hs1, r1⟩ := ph0_1.el (idx_some hx5).2.2
  obtain ⟨rfl, -⟩ := r1
  refine lq (q_indexAddr Sl_37 rfl rfl ph0_1 hx5) rfl <| lg11 0 Tn_139 g1 rfl rfl ?_
  refine ln (nz Zr_139) rfl (fun b_2 => ?_)
  refine soN 0 Sz_139 rfl ⟨rfl, rfl, rfl, rfl, rfl, rfl, rfl, rfl, rfl, rfl, rfl, trivial⟩ rfl ?_
  refine en <| sr <| ld11 Tn_139 0 rfl ?_
  obtain ⟨x6, hx6, h⟩ := bs h
  refine lp (p_call Fun_92 rfl (fun w1 hw => m_i_CondOk_ok hw.fro N x5 hx6)) rfl <| la rfl <| en ?_
  refine cdh rfl h (fun c7 h => ?_) (fun c7 h => ?_)
  ·refine sr <| la rfl <| en ?_
   refine WT.ret Tryz.func42 (resOk.one rfl) (fun w1 hw => ?_)
   subst hb0
   cases h
   exact post_of_St hw
  refine WT.skip <| ib <| rgn <| la rfl <| la rfl <| en ?_
  exact lback (ih1 (IntKind.i64.wrap (s1 + 1)) h) ⟨rfl, rfl, rfl, rfl, trivial⟩ (fun w1 hw => (hw.sel (js := []) rfl).selO (js := [1]) rfl)
 refine xt rfl <| sq <| sr <| lf Fld_40_4 rfl rfl rfl <| lo T1_38 0 rfl <| lq (q_lenR Sl_38 rfl rfl ph0_2) rfl <| la rfl <| en <| blk ?_
 refine loop_in (σ := Int) (fun s => [(1, .pointer (some ⟨b_1, 0, none⟩)), (48, pv0_2), (49, .int .i64 (p0.Acts.length : Int)), (50, .int .i64 s)]) (fun s => St w0 Φ [(b_1, .cells #[.string p0.Name, .int .i64 p0.Sal, pv0_0, pv0_1, pv0_2] 40 (0, 0))] []) (fun m s => m_i_RuleOk_l2 N p0 m s = some r) (0) N h ⟨rfl, rfl, rfl, rfl, trivial⟩ (fun w1 hw => (hw.sel (js := []) rfl).selO (js := [0]) rfl) (fun s hm => none_ne hm) (fun n2 ih2 s hm => ?_)
 revert hm; revert s; intro s2 hm
 have h : m_i_RuleOk_l2 N p0 (n2 + 1) s2 = some r := hm
 show WT _ _ [(1, .pointer (some ⟨b_1, 0, none⟩)), (48, pv0_2), (49, .int .i64 (p0.Acts.length : Int)), (50, .int .i64 s2)] (St w0 Φ [(b_1, .cells #[.string p0.Name, .int .i64 p0.Sal, pv0_0, pv0_1, pv0_2] 40 (0, 0))] [])
 unfold m_i_RuleOk_l2 at h
 refine sr <| la rfl <| en <| sq ?_
 refine cdh rfl h (fun c8 h => ?_) (fun c8 h => ?_)
 ·refine WT.skip <| sq <| blk <| sr ?_
  obtain ⟨x7, hx7, h⟩ := bs h
  obtain ⟨cs2, F2, -, g2, hb2, hs2, r2⟩ := ph0_2.el (idx_some hx7).2.2
  obtain ⟨v1, G1, rfl, hq1, h1⟩ := r2
  obtain rfl := hq1.symm
  refine lq (q_indexAddr Sl_38 rfl rfl ph0_2 hx7) rfl <| lg5 0 Tn_143 g2 rfl rfl ?_
  refine ln (nz Zr_143) rfl (fun b_3 => ?_)
  refine soN 0 Sz_143 rfl ⟨rfl, rfl, h1.one, rfl, rfl, trivial⟩ rfl ?_
  refine en <| sq <| WT.draw mixed (by kernel_rfl) (fun _ h => h.drew) <| qq (q_loadN Tn_143 rfl (fun w1 hw => hw.rgO (i := 0) rfl 0 5 [.int .i64 x7.Kind, .string x7.Name, v1, .int .i64 x7.N, .string x7.Undo] rfl) rfl) rfl ?_
  obtain ⟨x8, hx8, h⟩ := bs h
  refine qp (p_call Fun_93 rfl (fun w1 hw => m_i_ActOk_ok hw.fro N x7 h1 hx8)) rfl <| qq (q_not rfl) rfl <| qq (q_move rfl) rfl ?_
  obtain ⟨b4, hb_4, h⟩ := bs h
  refine WQ.cutN 11 [(68, .bool b4), (1, .pointer (some ⟨b_1, 0, none⟩)), (48, pv0_2), (49, .int .i64 (p0.Acts.length : Int)), (50, .int .i64 s2)] ?_ (fun K => ?_)
  rotate_left
  ·refine WQ.split (d := 57) rfl (fun c9 => ?_) (fun c9 => ?_)
   ·replace hb_4 := ite_t hb_4 c9
    refine WQ.no rfl rfl rfl rfl <| WQ.no rfl rfl rfl rfl <| WQ.no rfl rfl rfl rfl <| WQ.no rfl rfl rfl rfl <| WQ.nox rfl rfl rfl rfl <| WQ.nox rfl rfl rfl rfl <| WQ.nox rfl rfl rfl rfl <| WQ.nox rfl rfl rfl rfl <| WQ.nox rfl rfl rfl rfl <| WQ.no rfl rfl rfl rfl <| WQ.q (q_pick1 rfl rfl) rfl rfl rfl ?_
    cases hb_4
    exact WQ.keep (by exact ⟨rfl, rfl, rfl, rfl, rfl, trivial⟩) K
   ·replace hb_4 := ite_f hb_4 c9
    refine WQ.yes rfl rfl <| qq (q_fieldAddr Fld_143_0 rfl) rfl <| WQ.yes rfl rfl <| qq (q_load1 T1_3 rfl (fun w1 hw => hw.rgO (i := 0) rfl 0 1 [.int .i64 x7.Kind] rfl)) rfl <| WQ.yes rfl rfl <| qq (q_eql rfl rfl) rfl <| WQ.yes rfl rfl <| qq (q_move rfl) rfl ?_
    obtain ⟨b5, hb_5, hb_4⟩ := bs hb_4
    refine WQ.cutN 6 [(67, .bool b5), (1, .pointer (some ⟨b_1, 0, none⟩)), (48, pv0_2), (49, .int .i64 (p0.Acts.length : Int)), (50, .int .i64 s2), (57, .bool false)] ?_ (fun K => ?_)
    rotate_left
    ·refine WQ.split (d := 61) rfl (fun c10 => ?_) (fun c10 => ?_)
     ·replace hb_5 := ite_t hb_5 c10
      refine WQ.yes rfl rfl <| qq (q_fieldAddr Fld_143_3 rfl) rfl <| WQ.yes rfl rfl <| qq (q_load1 T1_3 rfl (fun w1 hw => hw.rgO (i := 0) rfl 3 1 [.int .i64 x7.N] rfl)) rfl <| WQ.yes rfl rfl <| qq (q_loadN Tn_40 rfl (fun w1 hw => hw.rgO (i := 1) rfl 0 5 [.string p0.Name, .int .i64 p0.Sal, pv0_0, pv0_1, pv0_2] rfl) rfl) rfl <| WQ.yes rfl rfl ?_
      obtain ⟨x9, hx9, hb_5⟩ := bs hb_5
      refine qp (p_call Fun_94 rfl (fun w1 hw => m_i_PosCount_ok hw.fro N p0 ph0_0 ph0_1 ph0_2 hx9)) rfl <| WQ.yes rfl rfl <| qq (q_geq rfl rfl) rfl <| WQ.yes rfl rfl <| WQ.q (q_pick1 rfl rfl) rfl rfl rfl ?_
      cases hb_5
      exact WQ.keep (by exact ⟨rfl, rfl, rfl, rfl, rfl, rfl, trivial⟩) K
     ·replace hb_5 := ite_f hb_5 c10
      refine WQ.no rfl rfl rfl rfl <| WQ.no rfl rfl rfl rfl <| WQ.no rfl rfl rfl rfl <| WQ.no rfl rfl rfl rfl <| WQ.no rfl rfl rfl rfl <| WQ.yes rfl rfl <| WQ.q (q_pick0 rfl rfl) rfl rfl rfl ?_
      cases hb_5
      exact WQ.keep (by exact ⟨rfl, rfl, rfl, rfl, rfl, rfl, trivial⟩) K
    refine WQ.q (q_pick0 rfl rfl) rfl rfl rfl ?_
    cases hb_4
    exact WQ.keep (by exact ⟨rfl, rfl, rfl, rfl, rfl, trivial⟩) K
  refine WQ.nil ?_
  refine cdh rfl h (fun c11 h => ?_) (fun c11 h => ?_)
  ·refine sr <| la rfl <| en ?_
   refine WT.ret Tryz.func42 (resOk.one rfl) (fun w1 hw => ?_)
   subst hb0
   cases h
   exact post_of_St hw
  refine WT.skip <| ib <| rgn <| la rfl <| la rfl <| en ?_
  exact lback (ih2 (IntKind.i64.wrap (s2 + 1)) h) ⟨rfl, rfl, rfl, rfl, trivial⟩ (fun w1 hw => (hw.sel (js := []) rfl).selO (js := [1]) rfl)
 refine xt rfl <| sr <| ld5 Tn_40 0 rfl ?_
 obtain ⟨x10, hx10, h⟩ := bs h
 refine lc (k_call (js := []) (R := []) Fun_95 rfl rfl (fun w1 hw ap hl => m_i_PosVars_ok hw.fro N p0 ph0_0 ph0_1 ph0_2  hx10)) rfl (fun v2 Φ_1 F3 q1 => ?_)
 obtain ⟨ap1, fr1, v3, rfl, rfl, h2⟩ := q1
 replace ph0_0 := ph0_0.frame RTPat.lasts fr1 (ap1.o pa0_0)
 replace ph0_1 := ph0_1.frame RTCond.lasts fr1 (ap1.o pa0_1)
 replace ph0_2 := ph0_2.frame RTAct.lasts fr1 (ap1.o pa0_2)
 refine la rfl <| en <| sq <| sr <| ld5 Tn_40 0 rfl ?_
 obtain ⟨x11, hx11, h⟩ := bs h
 refine lc (k_call (js := []) (R := [ob v2]) Fun_96 rfl rfl (fun w1 hw ap hl => m_i_usedVars_ok hw.fro N p0 ph0_0 ph0_1 ph0_2  hx11)) rfl (fun v4 Φ_2 F4 q2 => ?_)
 obtain ⟨ap2, fr2, v5, rfl, rfl, h3⟩ := q2
 replace h2 := h2.frame RS.lasts fr2 (ap2.r (i := 0) rfl) (Dj.nil _)
 refine lq (q_lenR Sl_114 rfl rfl h3.rsl) rfl <| la rfl <| en <| blk ?_
 refine loop_in (σ := Int) (fun s => [(7, v2), (73, v4), (74, .int .i64 (x11.length : Int)), (75, .int .i64 s)]) (fun s => St w0 Φ_2 [] [ob v4, ob v2]) (fun m s => m_i_RuleOk_l3 N x10 x11 m s = some r) (0) N h ⟨rfl, rfl, rfl, rfl, trivial⟩ (fun w1 hw => (hw.sel (js := [0, 0]) rfl).selO (js := []) rfl) (fun s hm => none_ne hm) (fun n3 ih3 s hm => ?_)
 revert hm; revert s; intro s3 hm
 have h : m_i_RuleOk_l3 N x10 x11 (n3 + 1) s3 = some r := hm
 show WT _ _ [(7, v2), (73, v4), (74, .int .i64 (x11.length : Int)), (75, .int .i64 s3)] (St w0 Φ_2 [] [ob v4, ob v2])
 unfold m_i_RuleOk_l3 at h
 refine sr <| la rfl <| en <| sq ?_
 refine cdh rfl h (fun c12 h => ?_) (fun c12 h => ?_)
 ·refine WT.skip <| sq <| blk <| sr ?_
  obtain ⟨x12, hx12, h⟩ := bs h
  obtain ⟨cs3, F5, -, g3, hb3, hs3, r3⟩ := h3.elS (idx_some hx12).2.2
  obtain ⟨rfl, -⟩ := r3
  refine lq (q_indexAddr Sl_114 rfl rfl h3.rsl hx12) rfl <| lg 0 T1_9 g3 rfl rfl <| la rfl <| en <| sr <| la rfl <| la rfl ?_
  obtain ⟨x13, hx13, h⟩ := bs h
  refine lp (p_call Fun_97 rfl (fun w1 hw => m_sl_Contains_Sstring_string_ok hw.fro N x10 x12 h2.rsl hx13)) rfl <| la rfl <| en ?_
  refine cdh rfl h (fun c13 h => ?_) (fun c13 h => ?_)
  ·refine sr <| la rfl <| en ?_
   refine WT.ret Tryz.func42 (resOk.one rfl) (fun w1 hw => ?_)
   subst hb0
   cases h
   exact post_of_St hw
  refine WT.skip <| ib <| rgn <| la rfl <| la rfl <| en ?_
  exact lback (ih3 (IntKind.i64.wrap (s3 + 1)) h) ⟨rfl, rfl, rfl, rfl, trivial⟩ (fun w1 hw => (hw.sel (js := [0, 0]) rfl).selO (js := []) rfl)
 refine xt rfl <| sr <| la rfl <| en ?_
 refine WT.ret Tryz.func42 (resOk.one rfl) (fun w1 hw => ?_)
 subst hb0
 cases h
 exact post_of_St hw
theorem m_sl_IndexFunc_Si_Rule_i_Rule_ok {Φ : Hp} {w : World} (hΦ : In Φ w) (N : Nat) (p0 : (List TRule)) (p1 : TRule → Option (Bool)) {pv0 : Value} {pG0 : List Nat} {p1f : Nat} {p1fr : List Value} (ph0 : RSl RTRule 5 Φ pG0 pv0 p0) (p1hF : Fun Tryz.prog p1f = true) (p1h : ∀ {Φ' : Hp} {w' : World}, FrH [] Φ Φ' → In Φ' w' → ∀ (p1a0 : TRule) {p1v0_0 : Value} {p1G0_0 : List Nat} {p1v0_1 : Value} {p1G0_1 : List Nat} {p1v0_2 : Value} {p1G0_2 : List Nat} (_ : RSl RTPat 3 Φ' p1G0_0 p1v0_0 p1a0.Pats) (_ : RSl RTCond 11 Φ' p1G0_1 p1v0_1 p1a0.Conds) (_ : RSl RTAct 5 Φ' p1G0_2 p1v0_2 p1a0.Acts) {r : Bool}, p1 p1a0 = some r → Calls Tryz.prog p1f (([.agg [.string p1a0.Name, .int .i64 p1a0.Sal, p1v0_0, p1v0_1, p1v0_2].toArray] : List Value) ++ p1fr).toArray w' (Post (.bool r) w')) {r : Int} (h : m_sl_IndexFunc_Si_Rule_i_Rule N p0 p1 = some r) :
  Calls Tryz.prog 133 [pv0, .func (.func p1f) #[] p1fr.toArray].toArray w (Post (.int .i64 r) w) := by
 refine enter Tryz.func133 rfl Tryz.ntmps133 rfl (St.start0 hΦ) ?_
 generalize hb0 : (⟨w, [], Φ⟩ : Base) = w0
 unfold m_sl_IndexFunc_Si_Rule_i_Rule at h
 refine sr <| la rfl <| en <| sq <| sr <| la rfl <| lq (q_lenR Sl_24 rfl rfl ph0) rfl <| la rfl <| en <| blk ?_
 refine loop_in (σ := Int) (fun s => [(0, pv0), (1, .func (.func p1f) #[] p1fr.toArray), (7, .int .i64 (p0.length : Int)), (8, .int .i64 s)]) (fun s => St w0 Φ [] []) (fun m s => m_sl_IndexFunc_Si_Rule_i_Rule_l1 N p0 p1 m s = some r) (0) N h ⟨rfl, rfl, rfl, rfl, trivial⟩ (fun w1 hw => (hw.sel (js := []) rfl).selO (js := []) rfl) (fun s hm => none_ne hm) (fun n1 ih1 s hm => ?_)
 revert hm; revert s; intro s1 hm
 have h : m_sl_IndexFunc_Si_Rule_i_Rule_l1 N p0 p1 (n1 + 1) s1 = some r := hm
 show WT _ _ [(0, pv0), (1, .func (.func p1f) #[] p1fr.toArray), (7, .int .i64 (p0.length : Int)), (8, .int .i64 s1)] (St w0 Φ [] [])
 unfold m_sl_IndexFunc_Si_Rule_i_Rule_l1 at h
 refine sr <| la rfl <| en <| sq ?_
 refine cdh rfl h (fun c1 h => ?_) (fun c1 h => ?_)
 ·refine WT.skip <| sq <| blk <| sr <| la rfl <| la rfl <| en <| sr <| la rfl <| la rfl <| la rfl ?_
  obtain ⟨x1, hx1, h⟩ := bs h
  obtain ⟨cs1, F1, -, g1, hb1, hs1, r1⟩ := ph0.el (idx_some hx1).2.2
  obtain ⟨v1, G1, v2, G2, v3, G3, rfl, rfl, h1, h2, h3⟩ := r1
  refine lq (q_indexAddr Sl_24 rfl rfl ph0 hx1) rfl <| lg5 0 Tn_40 g1 rfl rfl ?_
  obtain ⟨x2, hx2, h⟩ := bs h
  refine lp (p_callV p1hF rfl rfl (fun w1 hw => p1h (by subst hb0; exact hw.frB hΦ) hw.fro x1 h1 h2 h3 hx2)) rfl <| en ?_
  refine cdh rfl h (fun c2 h => ?_) (fun c2 h => ?_)
  ·refine sr <| la rfl <| la rfl <| en ?_
   refine WT.ret Tryz.func133 (resOk.one rfl) (fun w1 hw => ?_)
   subst hb0
   cases h
   exact post_of_St hw
  refine WT.skip <| ib <| rgn <| la rfl <| la rfl <| en ?_
  exact lback (ih1 (IntKind.i64.wrap (s1 + 1)) h) ⟨rfl, rfl, rfl, rfl, trivial⟩ (fun w1 hw => (hw.sel (js := []) rfl).selO (js := []) rfl)
 refine xt rfl <| sr <| la rfl <| en ?_
 refine WT.ret Tryz.func133 (resOk.one rfl) (fun w1 hw => ?_)
 subst hb0
 cases h
 exact post_of_St hw
theorem m_i_RuleAt_c1_ok {Φ : Hp} {w : World} (hΦ : In Φ w) (N : Nat) (p0 : TRule) (c0 : ByteArray) {pv0_0 pv0_1 pv0_2 : Value} {pG0_0 pG0_1 pG0_2 : List Nat} {pbc0 : Nat} (ph0_0 : RSl RTPat 3 Φ pG0_0 pv0_0 p0.Pats) (ph0_1 : RSl RTCond 11 Φ pG0_1 pv0_1 p0.Conds) (ph0_2 : RSl RTAct 5 Φ pG0_2 pv0_2 p0.Acts) (ppc0 : Φ pbc0 = some (.cells #[.string c0] 9 (0, 0))) {r : Bool} (h : m_i_RuleAt_c1 N p0 c0 = some r) :
  Calls Tryz.prog 134 [.agg [.string p0.Name, .int .i64 p0.Sal, pv0_0, pv0_1, pv0_2].toArray, .pointer (some ⟨pbc0, 0, none⟩)].toArray w (Post (.bool r) w) := by
 refine enter Tryz.func134 rfl Tryz.ntmps134 rfl (St.start0 hΦ) ?_
 unfold m_i_RuleAt_c1 at h
 refine sr ?_
 refine ln (nb rfl) rfl (fun b_1 => ?_)
 refine la rfl <| en <| sr <| lf Fld_40_0 rfl rfl rfl <| lo T1_9 0 rfl <| lq (q_load1 T1_9 rfl (fun w1 hw => ((rg_cells ppc0).of_eq 0 1 rfl rfl : rg _ _ _ [.string c0]).rangeAt hw.fro)) rfl <| la rfl <| la rfl <| en ?_
 refine WT.ret Tryz.func134 (resOk.one rfl) (fun w1 hw => ?_)
 cases h
 exact post_of_St hw
theorem m_i_RuleAt_ok {Φ : Hp} {w : World} (hΦ : In Φ w) (N : Nat) (p0 : TDef) (p1 : ByteArray) {pv0_0 : Value} {pG0_0 : List Nat} (ph0_0 : RSl RTRule 5 Φ pG0_0 pv0_0 p0.Rules) {r : Int} (h : m_i_RuleAt N p0 p1 = some r) :
  Calls Tryz.prog 82 [.agg [.string p0.Name, pv0_0].toArray, .string p1].toArray w (Post (.int .i64 r) w) := by
 refine enter Tryz.func82 rfl Tryz.ntmps82 rfl (St.start0 hΦ) ?_
 unfold m_i_RuleAt at h
 refine sr ?_
 refine ln (nb rfl) rfl (fun b_1 => ?_)
 refine ln (n_box (C := #[.string p1]) rfl rfl) rfl (fun b_2 => ?_)
 refine la rfl <| en <| sr <| lf Fld_26_1 rfl rfl rfl <| lo T1_24 1 rfl ?_
 refine WL.frz (js := [0]) (R := [(b_1, .cells #[.string p0.Name, pv0_0] 26 (0, 0))]) rfl (fun Φ_1 fr1 k1 => ?_)
 replace ph0_0 := ph0_0.frame RTRule.lasts fr1 (Dj.empty _)
 refine lq (q_makeFunc rfl) rfl ?_
 obtain ⟨x1, hx1, h⟩ := bs h
 refine lp (p_call Fun_133 rfl (fun w1 hw => m_sl_IndexFunc_Si_Rule_i_Rule_ok hw.fro N p0.Rules (fun a0 => m_i_RuleAt_c1 N a0 p1) ph0_0 Fun_134 (fun hle' hin a0 => fun f0 f1 f2 => fun hr => m_i_RuleAt_c1_ok hin N a0 p1 f0 f1 f2 (hle' _ _ (by simp) k1) hr) hx1)) rfl <| la rfl <| en ?_
 refine WT.ret Tryz.func82 (resOk.one rfl) (fun w1 hw => ?_)
 cases h
 exact post_of_St hw
theorem m_i_DefOk_ok {Φ : Hp} {w : World} (hΦ : In Φ w) (N : Nat) (p0 : TDef) {pv0_0 : Value} {pG0_0 : List Nat} (ph0_0 : RSl RTRule 5 Φ pG0_0 pv0_0 p0.Rules) {r : Bool} (h : m_i_DefOk N p0 = some r) :
  Calls Tryz.prog 35 [.agg [.string p0.Name, pv0_0].toArray].toArray w (Post (.bool r) w) := by
 refine enter Tryz.func35 rfl Tryz.ntmps35 rfl (St.start0 hΦ) ?_
 generalize hb0 : (⟨w, [], Φ⟩ : Base) = w0
 unfold m_i_DefOk at h
 refine sr ?_
 refine ln (nb rfl) rfl (fun b_1 => ?_)
 refine la rfl <| en <| sq <| sr <| lf Fld_26_0 rfl rfl rfl <| lo T1_9 0 rfl ?_
 obtain ⟨x1, hx1, h⟩ := bs h
 refine lp (p_call Fun_80 rfl (fun w1 hw => m_i_NameOk_ok hw.fro N p0.Name hx1)) rfl <| la rfl <| la rfl ?_
 obtain ⟨b1, hb_1, h⟩ := bs h
 refine WL.cutN 6 [(15, .bool b1), (1, .pointer (some ⟨b_1, 0, none⟩))] ?_ (fun K => ?_)
 rotate_left
 ·refine spl 9 rfl hb_1 (fun c1 hb_1 => ?_) (fun c1 hb_1 => ?_)
  ·refine la rfl <| la rfl <| la rfl <| la rfl <| la rfl <| la rfl ?_
   cases hb_1
   exact kk K ⟨rfl, rfl, trivial⟩
  ·refine ly rfl rfl <| lf Fld_26_1 rfl rfl rfl <| ly rfl rfl <| lo T1_24 0 rfl <| ly rfl rfl <| lq (q_lenR Sl_24 rfl rfl ph0_0) rfl <| ly rfl rfl ?_
   obtain ⟨x2, hx2, hb_1⟩ := bs hb_1
   refine lp (p_call Fun_81 rfl (fun w1 hw => m_i_inRange_ok hw.fro N (p0.Rules.length : Int) 1 12 hx2)) rfl <| ly rfl rfl <| la rfl <| la rfl ?_
   cases hb_1
   exact kk K ⟨rfl, rfl, trivial⟩
 refine en ?_
 refine cdh rfl h (fun c2 h => ?_) (fun c2 h => ?_)
 ·refine sr <| la rfl <| en ?_
  refine WT.ret Tryz.func35 (resOk.one rfl) (fun w1 hw => ?_)
  subst hb0
  cases h
  exact post_of_St hw
 refine WT.skip <| sq <| sr <| lf Fld_26_1 rfl rfl rfl <| lo T1_24 0 rfl <| lq (q_lenR Sl_24 rfl rfl ph0_0) rfl <| la rfl <| en <| blk ?_
 refine loop_in (σ := Int) (fun s => [(1, .pointer (some ⟨b_1, 0, none⟩)), (17, pv0_0), (18, .int .i64 (p0.Rules.length : Int)), (19, .int .i64 s)]) (fun s => St w0 Φ [(b_1, .cells #[.string p0.Name, pv0_0] 26 (0, 0))] []) (fun m s => m_i_DefOk_l1 N p0 m s = some r) (0) N h ⟨rfl, rfl, rfl, rfl, trivial⟩ (fun w1 hw => (hw.sel (js := []) rfl).selO (js := [0]) rfl) (fun s hm => none_ne hm) (fun n1 ih1 s hm => ?_)
 revert hm; revert s; intro s1 hm
 have h : m_i_DefOk_l1 N p0 (n1 + 1) s1 = some r := hm
 show WT _ _ [(1, .pointer (some ⟨b_1, 0, none⟩)), (17, pv0_0), (18, .int .i64 (p0.Rules.length : Int)), (19, .int .i64 s1)] (St w0 Φ [(b_1, .cells #[.string p0.Name, pv0_0] 26 (0, 0))] [])
 unfold m_i_DefOk_l1 at h
 refine sr <| la rfl <| en <| sq ?_
 refine cdh rfl h (fun c3 h => ?_) (fun c3 h => ?_)
 ·refine WT.skip <| sq <| blk <| sr <| la rfl ?_
  obtain ⟨x3, hx3, h⟩ := bs h
  obtain ⟨cs1, F1, -, g1, hb1, hs1, r1⟩ := ph0_0.el (idx_some hx3).2.2
  obtain ⟨v1, G1, v2, G2, v3, G3, rfl, rfl, h1, h2, h3⟩ := r1
  refine lq (q_indexAddr Sl_24 rfl rfl ph0_0 hx3) rfl <| lg5 0 Tn_40 g1 rfl rfl ?_
  refine ln (nz Zr_40) rfl (fun b_2 => ?_)
  refine la rfl <| soN 0 Sz_40 rfl ⟨rfl, rfl, h1.one, h2.one, h3.one, trivial⟩ rfl ?_
  refine en <| sr <| ld5 Tn_40 0 rfl ?_
  obtain ⟨x4, hx4, h⟩ := bs h
  refine lp (p_call Fun_42 rfl (fun w1 hw => m_i_RuleOk_ok hw.fro N x3 h1 h2 h3 hx4)) rfl <| la rfl <| la rfl ?_
  obtain ⟨b2, hb_2, h⟩ := bs h
  refine WL.cutN 7 [(34, .bool b2), (1, .pointer (some ⟨b_1, 0, none⟩)), (17, pv0_0), (18, .int .i64 (p0.Rules.length : Int)), (19, .int .i64 s1)] ?_ (fun K => ?_)
  rotate_left
  ·refine spl 27 rfl hb_2 (fun c4 hb_2 => ?_) (fun c4 hb_2 => ?_)
   ·refine la rfl <| la rfl <| la rfl <| la rfl <| la rfl <| la rfl <| la rfl ?_
    cases hb_2
    exact kk K ⟨rfl, rfl, rfl, rfl, rfl, trivial⟩
   ·refine ly rfl rfl <| ld2 Tn_26 1 rfl <| ly rfl rfl <| lf Fld_40_0 rfl rfl rfl <| ly rfl rfl <| lo T1_9 0 rfl <| ly rfl rfl ?_
    obtain ⟨x5, hx5, hb_2⟩ := bs hb_2
    refine lp (p_call Fun_82 rfl (fun w1 hw => m_i_RuleAt_ok hw.fro N p0 x3.Name ph0_0 hx5)) rfl <| ly rfl rfl <| la rfl <| ly rfl rfl <| la rfl <| la rfl ?_
    cases hb_2
    exact kk K ⟨rfl, rfl, rfl, rfl, rfl, trivial⟩
  refine en ?_
  refine cdh rfl h (fun c5 h => ?_) (fun c5 h => ?_)
  ·refine sr <| la rfl <| en ?_
   refine WT.ret Tryz.func35 (resOk.one rfl) (fun w1 hw => ?_)
   subst hb0
   cases h
   exact post_of_St hw
  refine WT.skip <| ib <| rgn <| la rfl <| la rfl <| en ?_
  exact lback (ih1 (IntKind.i64.wrap (s1 + 1)) h) ⟨rfl, rfl, rfl, rfl, trivial⟩ (fun w1 hw => (hw.sel (js := []) rfl).selO (js := [1]) rfl)
 refine xt rfl <| sr <| la rfl <| en ?_
 refine WT.ret Tryz.func35 (resOk.one rfl) (fun w1 hw => ?_)
 subst hb0
 cases h
 exact post_of_St hw
theorem m_i_FactOk_ok {Φ : Hp} {w : World} (hΦ : In Φ w) (N : Nat) (p0 : TFact) {pv0_0 : Value} {pG0_0 : List Nat} (ph0_0 : RSl RTVal 3 Φ pG0_0 pv0_0 p0.Fields) {r : Bool} (h : m_i_FactOk N p0 = some r) :
  Calls Tryz.prog 83 [.agg [.string p0.Kind, pv0_0].toArray].toArray w (Post (.bool r) w) := by
 refine enter Tryz.func83 rfl Tryz.ntmps83 rfl (St.start0 hΦ) ?_
 generalize hb0 : (⟨w, [], Φ⟩ : Base) = w0
 unfold m_i_FactOk at h
 refine sr ?_
 refine ln (nb rfl) rfl (fun b_1 => ?_)
 refine la rfl <| en <| sq <| sr <| lf Fld_123_0 rfl rfl rfl <| lo T1_9 0 rfl ?_
 obtain ⟨x1, hx1, h⟩ := bs h
 refine lp (p_call Fun_80 rfl (fun w1 hw => m_i_NameOk_ok hw.fro N p0.Kind hx1)) rfl <| la rfl <| la rfl ?_
 obtain ⟨b1, hb_1, h⟩ := bs h
 refine WL.cutN 5 [(14, .bool b1), (1, .pointer (some ⟨b_1, 0, none⟩))] ?_ (fun K => ?_)
 rotate_left
 ·refine spl 9 rfl hb_1 (fun c1 hb_1 => ?_) (fun c1 hb_1 => ?_)
  ·refine la rfl <| la rfl <| la rfl <| la rfl <| la rfl ?_
   cases hb_1
   exact kk K ⟨rfl, rfl, trivial⟩
  ·refine ly rfl rfl <| lf Fld_123_1 rfl rfl rfl <| ly rfl rfl <| lo T1_121 0 rfl <| ly rfl rfl <| lq (q_lenR Sl_121 rfl rfl ph0_0) rfl <| ly rfl rfl <| la rfl <| la rfl ?_
   cases hb_1
   exact kk K ⟨rfl, rfl, trivial⟩
 refine en ?_
 refine cdh rfl h (fun c2 h => ?_) (fun c2 h => ?_)
 ·refine sr <| la rfl <| en ?_
  refine WT.ret Tryz.func83 (resOk.one rfl) (fun w1 hw => ?_)
  subst hb0
  cases h
  exact post_of_St hw
 refine WT.skip <| sq <| sr <| lf Fld_123_1 rfl rfl rfl <| lo T1_121 0 rfl <| lq (q_lenR Sl_121 rfl rfl ph0_0) rfl <| la rfl <| en <| blk ?_
 refine loop_in (σ := Int) (fun s => [(16, pv0_0), (17, .int .i64 (p0.Fields.length : Int)), (18, .int .i64 s)]) (fun s => St w0 Φ [] []) (fun m s => m_i_FactOk_l1 N p0 m s = some r) (0) N h ⟨rfl, rfl, rfl, trivial⟩ (fun w1 hw => (hw.sel (js := []) rfl).selO (js := []) rfl) (fun s hm => none_ne hm) (fun n1 ih1 s hm => ?_)
 revert hm; revert s; intro s1 hm
 have h : m_i_FactOk_l1 N p0 (n1 + 1) s1 = some r := hm
 show WT _ _ [(16, pv0_0), (17, .int .i64 (p0.Fields.length : Int)), (18, .int .i64 s1)] (St w0 Φ [] [])
 unfold m_i_FactOk_l1 at h
 refine sr <| la rfl <| en <| sq ?_
 refine cdh rfl h (fun c3 h => ?_) (fun c3 h => ?_)
 ·refine WT.skip <| sq <| blk <| sr ?_
  obtain ⟨x2, hx2, h⟩ := bs h
  obtain ⟨cs1, F1, -, g1, hb1, hs1, r1⟩ := ph0_0.el (idx_some hx2).2.2
  obtain ⟨rfl, -⟩ := r1
  refine lq (q_indexAddr Sl_121 rfl rfl ph0_0 hx2) rfl <| lg3 0 Tn_85 g1 rfl rfl ?_
  refine ln (nz Zr_85) rfl (fun b_2 => ?_)
  refine soN 0 Sz_85 rfl ⟨rfl, rfl, rfl, trivial⟩ rfl ?_
  refine en <| sr <| ld3 Tn_85 0 rfl ?_
  obtain ⟨x3, hx3, h⟩ := bs h
  refine lp (p_call Fun_135 rfl (fun w1 hw => m_i_ValOk_ok hw.fro N x2 hx3)) rfl <| la rfl <| en ?_
  refine cdh rfl h (fun c4 h => ?_) (fun c4 h => ?_)
  ·refine sr <| la rfl <| en ?_
   refine WT.ret Tryz.func83 (resOk.one rfl) (fun w1 hw => ?_)
   subst hb0
   cases h
   exact post_of_St hw
  refine WT.skip <| ib <| rgn <| la rfl <| la rfl <| en ?_
  exact lback (ih1 (IntKind.i64.wrap (s1 + 1)) h) ⟨rfl, rfl, rfl, trivial⟩ (fun w1 hw => (hw.sel (js := []) rfl).selO (js := []) rfl)
 refine xt rfl <| sr <| la rfl <| en ?_
 refine WT.ret Tryz.func83 (resOk.one rfl) (fun w1 hw => ?_)
 subst hb0
 cases h
 exact post_of_St hw
theorem m_sl_Equal_Si_Val_i_Val_ok {Φ : Hp} {w : World} (hΦ : In Φ w) (N : Nat) (p0 : (List TVal)) (p1 : (List TVal)) {pv0 pv1 : Value} {pG0 pG1 : List Nat} (ph0 : RSl RTVal 3 Φ pG0 pv0 p0) (ph1 : RSl RTVal 3 Φ pG1 pv1 p1) {r : Bool} (h : m_sl_Equal_Si_Val_i_Val N p0 p1 = some r) :
  Calls Tryz.prog 136 [pv0, pv1].toArray w (Post (.bool r) w) := by
 refine enter Tryz.func136 rfl Tryz.ntmps136 rfl (St.start0 hΦ) ?_
 generalize hb0 : (⟨w, [], Φ⟩ : Base) = w0
 unfold m_sl_Equal_Si_Val_i_Val at h
 refine sr <| la rfl <| en <| sq <| sr <| la rfl <| lq (q_lenR Sl_121 rfl rfl ph0) rfl <| la rfl <| lq (q_lenR Sl_121 rfl rfl ph1) rfl <| la rfl <| en ?_
 refine cdh rfl h (fun c1 h => ?_) (fun c1 h => ?_)
 ·refine sr <| la rfl <| en ?_
  refine WT.ret Tryz.func136 (resOk.one rfl) (fun w1 hw => ?_)
  subst hb0
  cases h
  exact post_of_St hw
 refine WT.skip <| sq <| sr <| la rfl <| lq (q_lenR Sl_121 rfl rfl ph0) rfl <| la rfl <| en <| blk ?_
 refine loop_in (σ := Int) (fun s => [(0, pv0), (1, pv1), (12, .int .i64 (p0.length : Int)), (13, .int .i64 s)]) (fun s => St w0 Φ [] []) (fun m s => m_sl_Equal_Si_Val_i_Val_l1 N p0 p1 m s = some r) (0) N h ⟨rfl, rfl, rfl, rfl, trivial⟩ (fun w1 hw => (hw.sel (js := []) rfl).selO (js := []) rfl) (fun s hm => none_ne hm) (fun n1 ih1 s hm => ?_)
 revert hm; revert s; intro s1 hm
 have h : m_sl_Equal_Si_Val_i_Val_l1 N p0 p1 (n1 + 1) s1 = some r := hm
 show WT _ _ [(0, pv0), (1, pv1), (12, .int .i64 (p0.length : Int)), (13, .int .i64 s1)] (St w0 Φ [] [])
 unfold m_sl_Equal_Si_Val_i_Val_l1 at h
 refine sr <| la rfl <| en <| sq ?_
 refine cdh rfl h (fun c2 h => ?_) (fun c2 h => ?_)
 ·refine WT.skip <| sq <| blk <| sr <| la rfl <| la rfl <| en <| sq <| WT.draw mixed (by kernel_rfl) (fun _ h => h.drew) <| qq (q_move rfl) rfl <| qq (q_move rfl) rfl ?_
  obtain ⟨x1, hx1, h⟩ := bs h
  obtain ⟨cs1, F1, -, g1, hb1, hs1, r1⟩ := ph0.el (idx_some hx1).2.2
  obtain ⟨rfl, -⟩ := r1
  refine qq (q_indexAddr Sl_121 rfl rfl ph0 hx1) rfl <| qq (q_loadN Tn_85 rfl (fun w1 hw => (g1.of_eq 0 3 rfl rfl : rg _ _ _ [.int .i64 x1.K, .int .i64 x1.N, .string x1.S]).rangeAt hw.fro) rfl) rfl <| qq (q_move rfl) rfl <| qq (q_move rfl) rfl ?_
  obtain ⟨x2, hx2, h⟩ := bs h
  obtain ⟨cs2, F2, -, g2, hb2, hs2, r2⟩ := ph1.el (idx_some hx2).2.2
  obtain ⟨rfl, -⟩ := r2
  refine qq (q_indexAddr Sl_121 rfl rfl ph1 hx2) rfl <| qq (q_loadN Tn_85 rfl (fun w1 hw => (g2.of_eq 0 3 rfl rfl : rg _ _ _ [.int .i64 x2.K, .int .i64 x2.N, .string x2.S]).rangeAt hw.fro) rfl) rfl <| qq (q_neA EqT_85 rfl rfl rfl (r := eqT_TVal x1 x2) rfl) rfl <| WQ.nil ?_
  refine cdh rfl h (fun c3 h => ?_) (fun c3 h => ?_)
  ·refine sr <| la rfl <| en ?_
   refine WT.ret Tryz.func136 (resOk.one rfl) (fun w1 hw => ?_)
   subst hb0
   cases h
   exact post_of_St hw
  refine WT.skip <| ib <| rgn <| la rfl <| la rfl <| en ?_
  exact lback (ih1 (IntKind.i64.wrap (s1 + 1)) h) ⟨rfl, rfl, rfl, rfl, trivial⟩ (fun w1 hw => (hw.sel (js := []) rfl).selO (js := []) rfl)
 refine xt rfl <| sr <| la rfl <| en ?_
 refine WT.ret Tryz.func136 (resOk.one rfl) (fun w1 hw => ?_)
 subst hb0
 cases h
 exact post_of_St hw
theorem m_i_SameFact_ok {Φ : Hp} {w : World} (hΦ : In Φ w) (N : Nat) (p0 : TFact) (p1 : TFact) {pv0_0 pv1_0 : Value} {pG0_0 pG1_0 : List Nat} (ph0_0 : RSl RTVal 3 Φ pG0_0 pv0_0 p0.Fields) (ph1_0 : RSl RTVal 3 Φ pG1_0 pv1_0 p1.Fields) {r : Bool} (h : m_i_SameFact N p0 p1 = some r) :
  Calls Tryz.prog 84 [.agg [.string p0.Kind, pv0_0].toArray, .agg [.string p1.Kind, pv1_0].toArray].toArray w (Post (.bool r) w) := by
 refine enter Tryz.func84 rfl Tryz.ntmps84 rfl (St.start0 hΦ) ?_
 unfold m_i_SameFact at h
 refine sr ?_
 refine ln (nb rfl) rfl (fun b_1 => ?_)
 refine ln (nb rfl) rfl (fun b_2 => ?_)
 refine la rfl <| en <| sr <| lf Fld_123_0 rfl rfl rfl <| lo T1_9 1 rfl <| lf Fld_123_0 rfl rfl rfl <| lo T1_9 0 rfl <| la rfl <| la rfl ?_
 obtain ⟨b1, hb_1, h⟩ := bs h
 refine WL.cutN 6 [(16, .bool b1), (4, .bool false)] ?_ (fun K => ?_)
 rotate_left
 ·refine spl 10 rfl hb_1 (fun c1 hb_1 => ?_) (fun c1 hb_1 => ?_)
  ·refine ly rfl rfl <| lf Fld_123_1 rfl rfl rfl <| ly rfl rfl <| lo T1_121 1 rfl <| ly rfl rfl <| lf Fld_123_1 rfl rfl rfl <| ly rfl rfl <| lo T1_121 0 rfl <| ly rfl rfl ?_
   obtain ⟨x1, hx1, hb_1⟩ := bs hb_1
   refine lp (p_call Fun_136 rfl (fun w1 hw => m_sl_Equal_Si_Val_i_Val_ok hw.fro N p0.Fields p1.Fields ph0_0 ph1_0 hx1)) rfl <| la rfl ?_
   cases hb_1
   exact kk K ⟨rfl, rfl, trivial⟩
  ·refine la rfl <| la rfl <| la rfl <| la rfl <| la rfl <| la rfl ?_
   cases hb_1
   exact kk K ⟨rfl, rfl, trivial⟩
 refine la rfl <| en ?_
 refine WT.ret Tryz.func84 (resOk.one rfl) (fun w1 hw => ?_)
 cases h
 exact post_of_St hw
end Go.Proofs.YtelchcokfcdndaaGreat
