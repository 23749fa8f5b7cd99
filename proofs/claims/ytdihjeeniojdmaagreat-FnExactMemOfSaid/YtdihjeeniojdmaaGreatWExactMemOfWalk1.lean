/- Printed by a program of ours: each Go function computes its Lean function. -/
import Derived.Test.YtdihjeeniojdmaaGreatProg
import Derived.Test.YtdihjeeniojdmaaGreatWExactMemOfMod
import Derived.Test.YtdihjeeniojdmaaGreatEP
namespace Go.Proofs.YtdihjeeniojdmaaGreat
open Eng Tryz
open Go.RowKit (Below)
set_option linter.unusedVariables false
set_option linter.unusedSimpArgs false

set_option maxRecDepth 100000
set_option maxHeartbeats 1000000
theorem mixed : prog.follows .mixedOrders = true := by kernel_rfl
theorem T1_9 : T1 prog 9 = true := by kernel_rfl
theorem Str_9 : Str prog 9 = true := by kernel_rfl
theorem Zr_204 : (prog.info? 204).map (·.zero) = some (some (.agg #[iV 0, iV 0, .string ⟨#[]⟩])) := by kernel_rfl
theorem T1_3 : T1 prog 3 = true := by kernel_rfl
theorem Fld_204_0 : Fld prog 204 0 0 = true := by kernel_rfl
theorem Sz_3 : Sz prog 3 1 = true := by kernel_rfl
theorem Fld_204_1 : Fld prog 204 1 1 = true := by kernel_rfl
theorem Fld_204_2 : Fld prog 204 2 2 = true := by kernel_rfl
theorem Sz_9 : Sz prog 9 1 = true := by kernel_rfl
theorem Tn_204 : Tn prog 204 3 = true := by kernel_rfl
theorem Sz_204 : Sz prog 204 3 = true := by kernel_rfl
theorem Zr_294 : (prog.info? 294).map (·.zero) = some (some (.agg #[iV 0, .string ⟨#[]⟩, iV 0, iV 0, .string ⟨#[]⟩])) := by kernel_rfl
theorem Fld_294_0 : Fld prog 294 0 0 = true := by kernel_rfl
theorem Fld_294_1 : Fld prog 294 1 1 = true := by kernel_rfl
theorem Fld_294_2 : Fld prog 294 2 2 = true := by kernel_rfl
theorem Tn_294 : Tn prog 294 5 = true := by kernel_rfl
theorem Sz_294 : Sz prog 294 5 = true := by kernel_rfl
theorem Sl_263 : Sl prog 263 294 5 = true := by kernel_rfl
theorem By_294 : By prog 294 56 = true := by kernel_rfl
theorem Zr_265 : (prog.info? 265).map (·.zero) = some (some (.agg #[.string ⟨#[]⟩, .slice none 0 0, .bool false])) := by kernel_rfl
theorem Fld_265_0 : Fld prog 265 0 0 = true := by kernel_rfl
theorem Fld_265_1 : Fld prog 265 1 1 = true := by kernel_rfl
theorem Sz_263 : Sz prog 263 1 = true := by kernel_rfl
theorem Fld_265_2 : Fld prog 265 2 2 = true := by kernel_rfl
theorem Sz_4 : Sz prog 4 1 = true := by kernel_rfl
theorem Tn_265 : Tn prog 265 3 = true := by kernel_rfl
theorem Sz_265 : Sz prog 265 3 = true := by kernel_rfl
theorem Sl_179 : Sl prog 179 265 3 = true := by kernel_rfl
theorem By_265 : By prog 265 48 = true := by kernel_rfl
theorem Zr_296 : (prog.info? 296).map (·.zero) = some (some (.agg #[iV 0, iV 0, .string ⟨#[]⟩, iV 0, iV 0, .string ⟨#[]⟩, iV 0, .string ⟨#[]⟩, iV 0, iV 0, .string ⟨#[]⟩])) := by kernel_rfl
theorem Fld_296_0 : Fld prog 296 0 0 = true := by kernel_rfl
theorem Fld_296_1 : Fld prog 296 1 1 = true := by kernel_rfl
theorem Fld_296_2 : Fld prog 296 2 6 = true := by kernel_rfl
theorem Tn_296 : Tn prog 296 11 = true := by kernel_rfl
theorem Sz_296 : Sz prog 296 11 = true := by kernel_rfl
theorem Sl_180 : Sl prog 180 296 11 = true := by kernel_rfl
theorem By_296 : By prog 296 120 = true := by kernel_rfl
theorem Zr_367 : (prog.info? 367).map (·.zero) = some (some (.agg #[.string ⟨#[]⟩, iV 0, .string ⟨#[]⟩, iV 0, iV 0, .string ⟨#[]⟩, iV 0, .string ⟨#[]⟩, iV 0, iV 0, .string ⟨#[]⟩])) := by kernel_rfl
theorem Fld_367_0 : Fld prog 367 0 0 = true := by kernel_rfl
theorem Fld_367_1 : Fld prog 367 1 1 = true := by kernel_rfl
theorem Fld_367_2 : Fld prog 367 2 6 = true := by kernel_rfl
theorem Tn_367 : Tn prog 367 11 = true := by kernel_rfl
theorem Sz_367 : Sz prog 367 11 = true := by kernel_rfl
theorem Sl_337 : Sl prog 337 367 11 = true := by kernel_rfl
theorem By_367 : By prog 367 128 = true := by kernel_rfl
theorem Zr_339 : (prog.info? 339).map (·.zero) = some (some (.agg #[iV 0, .string ⟨#[]⟩, .slice none 0 0, iV 0, .string ⟨#[]⟩])) := by kernel_rfl
theorem Fld_339_0 : Fld prog 339 0 0 = true := by kernel_rfl
theorem Fld_339_1 : Fld prog 339 1 1 = true := by kernel_rfl
theorem Fld_339_2 : Fld prog 339 2 2 = true := by kernel_rfl
theorem Sz_337 : Sz prog 337 1 = true := by kernel_rfl
theorem Fld_339_3 : Fld prog 339 3 3 = true := by kernel_rfl
theorem Fld_339_4 : Fld prog 339 4 4 = true := by kernel_rfl
theorem Tn_339 : Tn prog 339 5 = true := by kernel_rfl
theorem Sz_339 : Sz prog 339 5 = true := by kernel_rfl
theorem Sl_181 : Sl prog 181 339 5 = true := by kernel_rfl
theorem By_339 : By prog 339 72 = true := by kernel_rfl
theorem Zr_183 : (prog.info? 183).map (·.zero) = some (some (.agg #[.string ⟨#[]⟩, iV 0, .slice none 0 0, .slice none 0 0, .slice none 0 0])) := by kernel_rfl
theorem Fld_183_0 : Fld prog 183 0 0 = true := by kernel_rfl
theorem Fld_183_1 : Fld prog 183 1 1 = true := by kernel_rfl
theorem Fld_183_2 : Fld prog 183 2 2 = true := by kernel_rfl
theorem Sz_179 : Sz prog 179 1 = true := by kernel_rfl
theorem Fld_183_3 : Fld prog 183 3 3 = true := by kernel_rfl
theorem Sz_180 : Sz prog 180 1 = true := by kernel_rfl
theorem Fld_183_4 : Fld prog 183 4 4 = true := by kernel_rfl
theorem Sz_181 : Sz prog 181 1 = true := by kernel_rfl
theorem Tn_183 : Tn prog 183 5 = true := by kernel_rfl
theorem Sz_183 : Sz prog 183 5 = true := by kernel_rfl
theorem Sl_45 : Sl prog 45 183 5 = true := by kernel_rfl
theorem By_183 : By prog 183 96 = true := by kernel_rfl
theorem Zr_47 : (prog.info? 47).map (·.zero) = some (some (.agg #[.string ⟨#[]⟩, .slice none 0 0])) := by kernel_rfl
theorem Fld_47_1 : Fld prog 47 1 1 = true := by kernel_rfl
theorem Sz_45 : Sz prog 45 1 = true := by kernel_rfl
theorem Tn_47 : Tn prog 47 2 = true := by kernel_rfl
theorem Sz_47 : Sz prog 47 2 = true := by kernel_rfl
theorem Sl_78 : Sl prog 78 204 3 = true := by kernel_rfl
theorem By_204 : By prog 204 32 = true := by kernel_rfl
theorem Zr_80 : (prog.info? 80).map (·.zero) = some (some (.agg #[.string ⟨#[]⟩, .slice none 0 0])) := by kernel_rfl
theorem Fld_80_1 : Fld prog 80 1 1 = true := by kernel_rfl
theorem Sz_78 : Sz prog 78 1 = true := by kernel_rfl
theorem Tn_80 : Tn prog 80 2 = true := by kernel_rfl
theorem Sz_80 : Sz prog 80 2 = true := by kernel_rfl
theorem Zr_107 : (prog.info? 107).map (·.zero) = some (some (.agg #[iV 0, .string ⟨#[]⟩, .slice none 0 0])) := by kernel_rfl
theorem Fld_107_0 : Fld prog 107 0 0 = true := by kernel_rfl
theorem Fld_107_1 : Fld prog 107 1 1 = true := by kernel_rfl
theorem Tn_107 : Tn prog 107 3 = true := by kernel_rfl
theorem Sz_107 : Sz prog 107 3 = true := by kernel_rfl
theorem Sl_55 : Sl prog 55 107 3 = true := by kernel_rfl
theorem By_107 : By prog 107 48 = true := by kernel_rfl
theorem Zr_57 : (prog.info? 57).map (·.zero) = some (some (.agg #[.slice none 0 0, iV 0])) := by kernel_rfl
theorem Fld_57_0 : Fld prog 57 0 0 = true := by kernel_rfl
theorem Sz_55 : Sz prog 55 1 = true := by kernel_rfl
theorem Tn_57 : Tn prog 57 2 = true := by kernel_rfl
theorem Sz_57 : Sz prog 57 2 = true := by kernel_rfl
theorem Sl_75 : Sl prog 75 3 1 = true := by kernel_rfl
theorem Fld_77_0 : Fld prog 77 0 0 = true := by kernel_rfl
theorem T1_75 : T1 prog 75 = true := by kernel_rfl
theorem Sl_40 : Sl prog 40 77 1 = true := by kernel_rfl
theorem Tn_77 : Tn prog 77 1 = true := by kernel_rfl
theorem Fun_189 : Fun prog 189 = true := by kernel_rfl
theorem Fld_185_0 : Fld prog 185 0 0 = true := by kernel_rfl
theorem Fld_185_1 : Fld prog 185 1 1 = true := by kernel_rfl
theorem Sl_154 : Sl prog 154 185 2 = true := by kernel_rfl
theorem Tn_185 : Tn prog 185 2 = true := by kernel_rfl
theorem Fun_414 : Fun prog 414 = true := by kernel_rfl
theorem Fld_156_0 : Fld prog 156 0 0 = true := by kernel_rfl
theorem T1_154 : T1 prog 154 = true := by kernel_rfl
theorem Sl_150 : Sl prog 150 156 1 = true := by kernel_rfl
theorem Tn_156 : Tn prog 156 1 = true := by kernel_rfl
theorem Fun_353 : Fun prog 353 = true := by kernel_rfl
theorem Fld_152_0 : Fld prog 152 0 0 = true := by kernel_rfl
theorem T1_150 : T1 prog 150 = true := by kernel_rfl
theorem Sl_41 : Sl prog 41 152 1 = true := by kernel_rfl
theorem Tn_152 : Tn prog 152 1 = true := by kernel_rfl
theorem Fun_190 : Fun prog 190 = true := by kernel_rfl
theorem Fld_43_0 : Fld prog 43 0 0 = true := by kernel_rfl
theorem T1_40 : T1 prog 40 = true := by kernel_rfl
theorem Fld_43_1 : Fld prog 43 1 1 = true := by kernel_rfl
theorem Fun_357 : Fun prog 357 = true := by kernel_rfl
theorem Fun_390 : Fun prog 390 = true := by kernel_rfl
theorem Bo_4 : Bo prog 4 = true := by kernel_rfl
theorem Fun_354 : Fun prog 354 = true := by kernel_rfl
theorem Fun_355 : Fun prog 355 = true := by kernel_rfl
theorem Fun_415 : Fun prog 415 = true := by kernel_rfl
theorem Fun_356 : Fun prog 356 = true := by kernel_rfl
theorem Fun_191 : Fun prog 191 = true := by kernel_rfl
theorem T1_78 : T1 prog 78 = true := by kernel_rfl
theorem Fun_194 : Fun prog 194 = true := by kernel_rfl
theorem Ik_3 : Ik prog 3 .i64 = true := by kernel_rfl
theorem Ik_5 : Ik prog 5 .u8 = true := by kernel_rfl
theorem MC_5_1 : madeCells (Value.int .u8 0 : Value).cells (1 * 1) = #[.int .u8 0] := by kernel_rfl
theorem Sl_70 : Sl prog 70 5 1 = true := by kernel_rfl
theorem Zr_5 : (prog.info? 5).map (·.zero) = some (some (.int .u8 0)) := by kernel_rfl
theorem Fun_208 : Fun prog 208 = true := by kernel_rfl
theorem Pl_204 : Pl prog 204 #[(0, 1), (1, 1), (2, 1)] = true := by kernel_rfl
theorem EqT_204 : EqT prog 204 [.i .i64, .i .i64, .s] = true := by kernel_rfl
theorem Fun_298 : Fun prog 298 = true := by kernel_rfl
theorem Fun_359 : Fun prog 359 = true := by kernel_rfl
theorem Pl_294 : Pl prog 294 #[(0, 1), (1, 1), (2, 3)] = true := by kernel_rfl
theorem EqT_294 : EqT prog 294 [.i .i64, .s, .i .i64, .i .i64, .s] = true := by kernel_rfl
theorem Sl_284 : Sl prog 284 9 1 = true := by kernel_rfl
theorem MC_9_1 : madeCells (Value.string ⟨#[]⟩ : Value).cells (1 * 1) = #[.string ⟨#[]⟩] := by kernel_rfl
theorem Zr_9 : (prog.info? 9).map (·.zero) = some (some (.string ⟨#[]⟩)) := by kernel_rfl
theorem Ei_9 : (prog.info? 9).map (fun i => (i.zero, i.size, i.bytes)) = some (some (.string ⟨#[]⟩), 1, 16) := by kernel_rfl
theorem MC_294_2 : madeCells (Value.agg #[iV 0, .string ⟨#[]⟩, iV 0, iV 0, .string ⟨#[]⟩] : Value).cells (2 * 5) = #[iV 0, .string ⟨#[]⟩, iV 0, iV 0, .string ⟨#[]⟩, iV 0, .string ⟨#[]⟩, iV 0, iV 0, .string ⟨#[]⟩] := by kernel_rfl
theorem Fun_297 : Fun prog 297 = true := by kernel_rfl
theorem Fun_303 : Fun prog 303 = true := by kernel_rfl
theorem Fun_155 : Fun prog 155 = true := by kernel_rfl
theorem Ei_204 : (prog.info? 204).map (fun i => (i.zero, i.size, i.bytes)) = some (some (.agg #[iV 0, iV 0, .string ⟨#[]⟩]), 3, 32) := by kernel_rfl
theorem Fun_229 : Fun prog 229 = true := by kernel_rfl
theorem Pl_80 : Pl prog 80 #[(0, 1), (1, 1)] = true := by kernel_rfl
theorem MC_265_1 : madeCells (Value.agg #[.string ⟨#[]⟩, .slice none 0 0, .bool false] : Value).cells (1 * 3) = #[.string ⟨#[]⟩, .slice none 0 0, .bool false] := by kernel_rfl
theorem Ei_265 : (prog.info? 265).map (fun i => (i.zero, i.size, i.bytes)) = some (some (.agg #[.string ⟨#[]⟩, .slice none 0 0, .bool false]), 3, 48) := by kernel_rfl
theorem Zr_250 : (prog.info? 250).map (·.zero) = some (some (.agg #[.slice none 0 0, .slice none 0 0, .slice none 0 0, .slice none 0 0, .slice none 0 0, .slice none 0 0, iV 0, iV 0])) := by kernel_rfl
theorem Fld_52_1 : Fld prog 52 1 1 = true := by kernel_rfl
theorem Sl_50 : Sl prog 50 175 2 = true := by kernel_rfl
theorem Tn_175 : Tn prog 175 2 = true := by kernel_rfl
theorem Fun_235 : Fun prog 235 = true := by kernel_rfl
theorem Pl_250 : Pl prog 250 #[(0, 1), (1, 1), (2, 2), (4, 1), (5, 2), (7, 1)] = true := by kernel_rfl
theorem Sz_250 : Sz prog 250 8 = true := by kernel_rfl
theorem Tn_250 : Tn prog 250 8 = true := by kernel_rfl
theorem Sl_102 : Sl prog 102 206 4 = true := by kernel_rfl
theorem Zr_206 : (prog.info? 206).map (·.zero) = some (some (.agg #[.string ⟨#[]⟩, iV 0, iV 0, .string ⟨#[]⟩])) := by kernel_rfl
theorem Ei_206 : (prog.info? 206).map (fun i => (i.zero, i.size, i.bytes)) = some (some (.agg #[.string ⟨#[]⟩, iV 0, iV 0, .string ⟨#[]⟩]), 4, 48) := by kernel_rfl
theorem Sz_206 : Sz prog 206 4 = true := by kernel_rfl
theorem Fld_206_0 : Fld prog 206 0 0 = true := by kernel_rfl
theorem Fld_206_1 : Fld prog 206 1 1 = true := by kernel_rfl
theorem Pl_206 : Pl prog 206 #[(0, 1), (1, 3)] = true := by kernel_rfl
theorem MC_206_1 : madeCells (Value.agg #[.string ⟨#[]⟩, iV 0, iV 0, .string ⟨#[]⟩] : Value).cells (1 * 4) = #[.string ⟨#[]⟩, iV 0, iV 0, .string ⟨#[]⟩] := by kernel_rfl
theorem Fun_281 : Fun prog 281 = true := by kernel_rfl
theorem Zr_185 : (prog.info? 185).map (·.zero) = some (some (.agg #[.slice none 0 0, .slice none 0 0])) := by kernel_rfl
theorem Sz_185 : Sz prog 185 2 = true := by kernel_rfl
theorem Fld_171_3 : Fld prog 171 3 3 = true := by kernel_rfl
theorem Fld_171_2 : Fld prog 171 2 2 = true := by kernel_rfl
theorem MC_185_0 : madeCells (Value.agg #[.slice none 0 0, .slice none 0 0] : Value).cells (0 * 2) = #[] := by kernel_rfl
theorem Ei_185 : (prog.info? 185).map (fun i => (i.zero, i.size, i.bytes)) = some (some (.agg #[.slice none 0 0, .slice none 0 0]), 2, 48) := by kernel_rfl
theorem Zr_3 : (prog.info? 3).map (·.zero) = some (some (iV 0)) := by kernel_rfl
theorem Ei_3 : (prog.info? 3).map (fun i => (i.zero, i.size, i.bytes)) = some (some (iV 0), 1, 8) := by kernel_rfl
theorem MC_3_1 : madeCells (Value.int .i64 0 : Value).cells (1 * 1) = #[iV 0] := by kernel_rfl
theorem Pl_185 : Pl prog 185 #[(0, 1), (1, 1)] = true := by kernel_rfl
theorem MC_185_1 : madeCells (Value.agg #[.slice none 0 0, .slice none 0 0] : Value).cells (1 * 2) = #[.slice none 0 0, .slice none 0 0] := by kernel_rfl
theorem Sz_75 : Sz prog 75 1 = true := by kernel_rfl
theorem Sz_154 : Sz prog 154 1 = true := by kernel_rfl
theorem Fun_311 : Fun prog 311 = true := by kernel_rfl
theorem Fld_175_0 : Fld prog 175 0 0 = true := by kernel_rfl
theorem Fld_52_0 : Fld prog 52 0 0 = true := by kernel_rfl
theorem T1_49 : T1 prog 49 = true := by kernel_rfl
theorem Sl_49 : Sl prog 49 171 4 = true := by kernel_rfl
theorem Tn_171 : Tn prog 171 4 = true := by kernel_rfl
theorem Zr_171 : (prog.info? 171).map (·.zero) = some (some (.agg #[.string ⟨#[]⟩, iV 0, .slice none 0 0, .slice none 0 0])) := by kernel_rfl
theorem Sz_171 : Sz prog 171 4 = true := by kernel_rfl
theorem Zr_152 : (prog.info? 152).map (·.zero) = some (some (.agg #[.slice none 0 0])) := by kernel_rfl
theorem Sz_152 : Sz prog 152 1 = true := by kernel_rfl
theorem Tn_52 : Tn prog 52 2 = true := by kernel_rfl
theorem Tn_43 : Tn prog 43 2 = true := by kernel_rfl
theorem Fun_188 : Fun prog 188 = true := by kernel_rfl
theorem Pl_171 : Pl prog 171 #[(0, 1), (1, 1), (2, 1), (3, 1)] = true := by kernel_rfl
theorem MC_204_1 : madeCells (Value.agg #[iV 0, iV 0, .string ⟨#[]⟩] : Value).cells (1 * 3) = #[iV 0, iV 0, .string ⟨#[]⟩] := by kernel_rfl
theorem MC_171_1 : madeCells (Value.agg #[.string ⟨#[]⟩, iV 0, .slice none 0 0, .slice none 0 0] : Value).cells (1 * 4) = #[.string ⟨#[]⟩, iV 0, .slice none 0 0, .slice none 0 0] := by kernel_rfl
theorem Ei_171 : (prog.info? 171).map (fun i => (i.zero, i.size, i.bytes)) = some (some (.agg #[.string ⟨#[]⟩, iV 0, .slice none 0 0, .slice none 0 0]), 4, 72) := by kernel_rfl
theorem Sz_49 : Sz prog 49 1 = true := by kernel_rfl
theorem Zr_52 : (prog.info? 52).map (·.zero) = some (some (.agg #[.slice none 0 0, .slice none 0 0])) := by kernel_rfl
theorem Zr_175 : (prog.info? 175).map (·.zero) = some (some (.agg #[.slice none 0 0, .slice none 0 0])) := by kernel_rfl
theorem Fld_175_1 : Fld prog 175 1 1 = true := by kernel_rfl
theorem MC_175_1 : madeCells (Value.agg #[.slice none 0 0, .slice none 0 0] : Value).cells (1 * 2) = #[.slice none 0 0, .slice none 0 0] := by kernel_rfl
theorem Ei_175 : (prog.info? 175).map (fun i => (i.zero, i.size, i.bytes)) = some (some (.agg #[.slice none 0 0, .slice none 0 0]), 2, 48) := by kernel_rfl
theorem Sz_50 : Sz prog 50 1 = true := by kernel_rfl
theorem Sz_52 : Sz prog 52 2 = true := by kernel_rfl
theorem Zr_43 : (prog.info? 43).map (·.zero) = some (some (.agg #[.slice none 0 0, .slice none 0 0])) := by kernel_rfl
theorem Zr_77 : (prog.info? 77).map (·.zero) = some (some (.agg #[.slice none 0 0])) := by kernel_rfl
theorem By_77 : By prog 77 24 = true := by kernel_rfl
theorem Pl_43 : Pl prog 43 #[(0, 1), (1, 1)] = true := by kernel_rfl
theorem Sz_43 : Sz prog 43 2 = true := by kernel_rfl
theorem Sz_175 : Sz prog 175 2 = true := by kernel_rfl
theorem Zr_156 : (prog.info? 156).map (·.zero) = some (some (.agg #[.slice none 0 0])) := by kernel_rfl
theorem By_156 : By prog 156 24 = true := by kernel_rfl
theorem Pl_152 : Pl prog 152 #[(0, 1)] = true := by kernel_rfl
theorem MC_152_1 : madeCells (Value.agg #[.slice none 0 0] : Value).cells (1 * 1) = #[.slice none 0 0] := by kernel_rfl
theorem Ei_152 : (prog.info? 152).map (fun i => (i.zero, i.size, i.bytes)) = some (some (.agg #[.slice none 0 0]), 1, 24) := by kernel_rfl
theorem Sz_41 : Sz prog 41 1 = true := by kernel_rfl
theorem Pl_57 : Pl prog 57 #[(0, 1), (1, 1)] = true := by kernel_rfl
theorem Fun_109 : Fun prog 109 = true := by kernel_rfl
theorem Fun_148 : Fun prog 148 = true := by kernel_rfl
theorem Fun_147 : Fun prog 147 = true := by kernel_rfl
theorem Fun_250 : Fun prog 250 = true := by kernel_rfl
theorem Fun_251 : Fun prog 251 = true := by kernel_rfl
theorem Fun_253 : Fun prog 253 = true := by kernel_rfl
theorem Fun_252 : Fun prog 252 = true := by kernel_rfl
theorem Fun_145 : Fun prog 145 = true := by kernel_rfl
theorem Fun_146 : Fun prog 146 = true := by kernel_rfl
theorem Fun_225 : Fun prog 225 = true := by kernel_rfl
theorem Fun_149 : Fun prog 149 = true := by kernel_rfl
theorem Fun_114 : Fun prog 114 = true := by kernel_rfl
theorem Fun_292 : Fun prog 292 = true := by kernel_rfl
theorem Pl_52 : Pl prog 52 #[(0, 1), (1, 1)] = true := by kernel_rfl
theorem Pl_175 : Pl prog 175 #[(0, 1), (1, 1)] = true := by kernel_rfl
theorem Fun_171 : Fun prog 171 = true := by kernel_rfl
theorem Fun_232 : Fun prog 232 = true := by kernel_rfl
theorem Fun_269 : Fun prog 269 = true := by kernel_rfl
theorem Fun_270 : Fun prog 270 = true := by kernel_rfl
theorem By_3 : By prog 3 8 = true := by kernel_rfl
theorem Fun_174 : Fun prog 174 = true := by kernel_rfl
theorem Sl_276 : Sl prog 276 4 1 = true := by kernel_rfl
theorem Fun_309 : Fun prog 309 = true := by kernel_rfl
theorem Fun_310 : Fun prog 310 = true := by kernel_rfl
theorem Zr_4 : (prog.info? 4).map (·.zero) = some (some (.bool false)) := by kernel_rfl
theorem Fun_218 : Fun prog 218 = true := by kernel_rfl
theorem MC_4_1 : madeCells (Value.bool false : Value).cells (1 * 1) = #[.bool false] := by kernel_rfl
theorem Ei_4 : (prog.info? 4).map (fun i => (i.zero, i.size, i.bytes)) = some (some (.bool false), 1, 1) := by kernel_rfl
theorem Fun_219 : Fun prog 219 = true := by kernel_rfl
theorem Pl_77 : Pl prog 77 #[(0, 1)] = true := by kernel_rfl
theorem MC_77_1 : madeCells (Value.agg #[.slice none 0 0] : Value).cells (1 * 1) = #[.slice none 0 0] := by kernel_rfl
theorem Ei_77 : (prog.info? 77).map (fun i => (i.zero, i.size, i.bytes)) = some (some (.agg #[.slice none 0 0]), 1, 24) := by kernel_rfl
theorem Sz_40 : Sz prog 40 1 = true := by kernel_rfl
theorem Pl_156 : Pl prog 156 #[(0, 1)] = true := by kernel_rfl
theorem MC_156_1 : madeCells (Value.agg #[.slice none 0 0] : Value).cells (1 * 1) = #[.slice none 0 0] := by kernel_rfl
theorem Ei_156 : (prog.info? 156).map (fun i => (i.zero, i.size, i.bytes)) = some (some (.agg #[.slice none 0 0]), 1, 24) := by kernel_rfl
theorem Sz_150 : Sz prog 150 1 = true := by kernel_rfl
theorem Fun_108 : Fun prog 108 = true := by kernel_rfl
theorem Fun_99 : Fun prog 99 = true := by kernel_rfl
theorem Fun_100 : Fun prog 100 = true := by kernel_rfl
theorem Fun_19 : Fun prog 19 = true := by kernel_rfl
theorem Fun_22 : Fun prog 22 = true := by kernel_rfl
theorem Fun_61 : Fun prog 61 = true := by kernel_rfl
theorem Fun_48 : Fun prog 48 = true := by kernel_rfl
variable {Ψ Φ : Hp} {pv0 pv0_0 pv0_1 pv0_2 pv1 pv1_0 pv1_1 : Value} {pG0 pG0_0 pG0_1 pG0_2 pG1 pG1_0 pG1_1 : List Nat} (N : Nat)
theorem m_l_szVal_ok  (w0 : Base Ψ Φ []) (p0 : TVal) (p1 : Int)  {r : Int} (h : m_l_szVal N p0 p1 = some r) :
  CB w0 prog 344 [.agg [iV p0.K, iV p0.N, .string p0.S].toArray, iV p1] (iV r) := by
 refine eN func344 rfl ntmps344 rfl w0 fun hF => ?_
 unfold m_l_szVal at h
 refine sr <| lbx rfl fun b_1 => arr 7 [2, 0] rfl <| lq (q_lenS Str_9 rfl rfl) rfl <| art 9 [] rfl ?_
 refine ch h rfl ?_ ?_ <;> intro h
 ·refine att 4 [] rfl ?_
  exact rt hF h
 refine att 6 [] rfl ?_
 exact rt hF h
theorem m_l_szArg_ok  (w0 : Base Ψ Φ []) (p0 : TArg) (p1 : Int)  {r : Int} (h : m_l_szArg N p0 p1 = some r) :
  CB w0 prog 381 [.agg [iV p0.K, .string p0.S, iV p0.V.K, iV p0.V.N, .string p0.V.S].toArray, iV p1] (iV r) := by
 refine eN func381 rfl ntmps381 rfl w0 fun hF => ?_
 unfold m_l_szArg at h
 refine sr <| lbx rfl fun b_1 => arr 7 [1, 0] rfl <| lq (q_lenS Str_9 rfl rfl) rfl <| art 9 [] rfl ?_
 refine ch h rfl ?_ ?_ <;> intro h
 ·refine att 4 [] rfl ?_
  exact rt hF h
 refine atr 6 [2, 3] rfl <| qc h (m_l_szVal_ok N · p0.V (wz (p1 - (p0.S.size : Int))) ·) rfl rfl rfl fun x1 h => art 8 [] rfl ?_
 refine ch h rfl ?_ ?_ <;> intro h
 ·refine att 4 [] rfl ?_
  exact rt hF h
 refine att 6 [] rfl ?_
 exact rt hF h
theorem m_l_szArgS_ok (w0 : Base Ψ Φ []) (p0 : (List TArg)) (p1 : Int) (ph0 : RSl RTArg 5 Ψ pG0 pv0 p0) {r : Int} (h : m_l_szArgS N p0 p1 = some r) :
  CB w0 prog 380 [pv0, iV p1] (iV r) := by
 refine eN func380 rfl ntmps380 rfl w0 fun hF => ?_
 unfold m_l_szArgS at h
 refine atr 8 [] rfl <| lnr ph0 rfl <| art 9 [] rfl ?_
 refine ch h rfl ?_ ?_ <;> intro h
 ·refine att 4 [] rfl ?_
  exact rt hF h
 refine att 7 [] rfl ?_
 refine lin (σ := Int × Int) (fun s => [(0, pv0), (1, iV s.1), (5, iV s.2)]) (fun s => St w0 Φ [] []) (fun m s => m_l_szArgS_l1 N p0 m s.1 s.2 = some r) (wz (p1 - (p0.length : Int)), 0) N h (sx [] []) (fun n1 ih1 s hm => ?_)
 obtain ⟨s1, s2⟩ := s
 have h : m_l_szArgS_l1 N p0 (n1 + 1) s1 s2 = some r := hm
 show WT _ _ [(0, pv0), (1, iV s1), (5, iV s2)] (St w0 Φ [] [])
 unfold m_l_szArgS_l1 at h
 refine atr 5 [] rfl <| lnr ph0 rfl <| la rfl <| en ?_
 refine ch h rfl ?_ ?_ <;> intro h
 ·refine atr 7 [] rfl ?_
  obtain ⟨x1, hx1, h⟩ := bs h
  obtain ⟨cs1, F1, -, g1, hb1, hs1, r1⟩ := ph0.el (idx_some hx1).2.2
  obtain ⟨rfl, -⟩ := r1
  refine lia ph0 hx1 rfl <| lhx 0 5 g1 rfl <| la rfl <| qc h (m_l_szArg_ok N · x1 s1 ·) rfl rfl rfl fun x2 h => art 7 [] rfl ?_
  refine ch h rfl ?_ ?_ <;> intro h
  ·refine att 4 [] rfl ?_
   exact rt hF h
  refine att 7 [] rfl ?_
  exact lb [] [] (ih1 (_, _) h)
 refine att 6 [] rfl ?_
 exact rt hF h
theorem m_l_szPat_ok (w0 : Base Ψ Φ []) (p0 : TPat) (p1 : Int) (ph0_0 : RSl RTArg 5 Ψ pG0_0 pv0_0 p0.Args) {r : Int} (h : m_l_szPat N p0 p1 = some r) :
  CB w0 prog 341 [.agg [.string p0.Kind, pv0_0, .bool p0.Not].toArray, iV p1] (iV r) := by
 refine eN func341 rfl ntmps341 rfl w0 fun hF => ?_
 unfold m_l_szPat at h
 refine sr <| lbx rfl fun b_1 => arr 7 [0, 0] rfl <| lq (q_lenS Str_9 rfl rfl) rfl <| art 9 [] rfl ?_
 refine ch h rfl ?_ ?_ <;> intro h
 ·refine att 4 [] rfl ?_
  exact rt hF h
 refine atr 6 [1, 0] rfl <| qd h (m_l_szArgS_ok N · p0.Args (wz (p1 - (p0.Kind.size : Int))) ph0_0 ·) rfl rfl rfl fun x1 h => art 8 [] rfl ?_
 refine ch h rfl ?_ ?_ <;> intro h
 ·refine att 4 [] rfl ?_
  exact rt hF h
 refine att 6 [] rfl ?_
 exact rt hF h
theorem m_l_szPatS_ok (w0 : Base Ψ Φ []) (p0 : (List TPat)) (p1 : Int) (ph0 : RSl RTPat 3 Ψ pG0 pv0 p0) {r : Int} (h : m_l_szPatS N p0 p1 = some r) :
  CB w0 prog 260 [pv0, iV p1] (iV r) := by
 refine eN func260 rfl ntmps260 rfl w0 fun hF => ?_
 unfold m_l_szPatS at h
 refine atr 8 [] rfl <| lnr ph0 rfl <| art 9 [] rfl ?_
 refine ch h rfl ?_ ?_ <;> intro h
 ·refine att 4 [] rfl ?_
  exact rt hF h
 refine att 7 [] rfl ?_
 refine lin (σ := Int × Int) (fun s => [(0, pv0), (1, iV s.1), (5, iV s.2)]) (fun s => St w0 Φ [] []) (fun m s => m_l_szPatS_l1 N p0 m s.1 s.2 = some r) (wz (p1 - (p0.length : Int)), 0) N h (sx [] []) (fun n1 ih1 s hm => ?_)
 obtain ⟨s1, s2⟩ := s
 have h : m_l_szPatS_l1 N p0 (n1 + 1) s1 s2 = some r := hm
 show WT _ _ [(0, pv0), (1, iV s1), (5, iV s2)] (St w0 Φ [] [])
 unfold m_l_szPatS_l1 at h
 refine atr 5 [] rfl <| lnr ph0 rfl <| la rfl <| en ?_
 refine ch h rfl ?_ ?_ <;> intro h
 ·refine atr 7 [] rfl ?_
  obtain ⟨x1, hx1, h⟩ := bs h
  obtain ⟨cs1, F1, -, g1, hb1, hs1, r1⟩ := ph0.el (idx_some hx1).2.2
  obtain ⟨v1, G1, rfl, hq1, h1⟩ := r1
  obtain rfl := hq1.symm
  refine lia ph0 hx1 rfl <| lhx 0 3 g1 rfl <| la rfl <| qd h (m_l_szPat_ok N · x1 s1 h1 ·) rfl rfl rfl fun x2 h => art 7 [] rfl ?_
  refine ch h rfl ?_ ?_ <;> intro h
  ·refine att 4 [] rfl ?_
   exact rt hF h
  refine att 7 [] rfl ?_
  exact lb [] [] (ih1 (_, _) h)
 refine att 6 [] rfl ?_
 exact rt hF h
theorem m_l_szCond_ok  (w0 : Base Ψ Φ []) (p0 : TCond) (p1 : Int)  {r : Int} (h : m_l_szCond N p0 p1 = some r) :
  CB w0 prog 342 [.agg [iV p0.Op, iV p0.L.K, .string p0.L.S, iV p0.L.V.K, iV p0.L.V.N, .string p0.L.V.S, iV p0.R.K, .string p0.R.S, iV p0.R.V.K, iV p0.R.V.N, .string p0.R.V.S].toArray, iV p1] (iV r) := by
 refine eN func342 rfl ntmps342 rfl w0 fun hF => ?_
 unfold m_l_szCond at h
 refine sr <| lbx rfl fun b_1 => arr 7 [1, 5] rfl <| qc h (m_l_szArg_ok N · p0.L p1 ·) rfl rfl rfl fun x1 h => art 8 [] rfl ?_
 refine ch h rfl ?_ ?_ <;> intro h
 ·refine att 4 [] rfl ?_
  exact rt hF h
 refine atr 6 [6, 5] rfl <| qc h (m_l_szArg_ok N · p0.R x1 ·) rfl rfl rfl fun x2 h => art 8 [] rfl ?_
 refine ch h rfl ?_ ?_ <;> intro h
 ·refine att 4 [] rfl ?_
  exact rt hF h
 refine att 6 [] rfl ?_
 exact rt hF h
theorem m_l_szCondS_ok (w0 : Base Ψ Φ []) (p0 : (List TCond)) (p1 : Int) (ph0 : RSl RTCond 11 Ψ pG0 pv0 p0) {r : Int} (h : m_l_szCondS N p0 p1 = some r) :
  CB w0 prog 261 [pv0, iV p1] (iV r) := by
 refine eN func261 rfl ntmps261 rfl w0 fun hF => ?_
 unfold m_l_szCondS at h
 refine atr 8 [] rfl <| lnr ph0 rfl <| art 9 [] rfl ?_
 refine ch h rfl ?_ ?_ <;> intro h
 ·refine att 4 [] rfl ?_
  exact rt hF h
 refine att 7 [] rfl ?_
 refine lin (σ := Int × Int) (fun s => [(0, pv0), (1, iV s.1), (5, iV s.2)]) (fun s => St w0 Φ [] []) (fun m s => m_l_szCondS_l1 N p0 m s.1 s.2 = some r) (wz (p1 - (p0.length : Int)), 0) N h (sx [] []) (fun n1 ih1 s hm => ?_)
 obtain ⟨s1, s2⟩ := s
 have h : m_l_szCondS_l1 N p0 (n1 + 1) s1 s2 = some r := hm
 show WT _ _ [(0, pv0), (1, iV s1), (5, iV s2)] (St w0 Φ [] [])
 unfold m_l_szCondS_l1 at h
 refine atr 5 [] rfl <| lnr ph0 rfl <| la rfl <| en ?_
 refine ch h rfl ?_ ?_ <;> intro h
 ·refine atr 7 [] rfl ?_
  obtain ⟨x1, hx1, h⟩ := bs h
  obtain ⟨cs1, F1, -, g1, hb1, hs1, r1⟩ := ph0.el (idx_some hx1).2.2
  obtain ⟨rfl, -⟩ := r1
  refine lia ph0 hx1 rfl <| lhx 0 11 g1 rfl <| la rfl <| qc h (m_l_szCond_ok N · x1 s1 ·) rfl rfl rfl fun x2 h => art 7 [] rfl ?_
  refine ch h rfl ?_ ?_ <;> intro h
  ·refine att 4 [] rfl ?_
   exact rt hF h
  refine att 7 [] rfl ?_
  exact lb [] [] (ih1 (_, _) h)
 refine att 6 [] rfl ?_
 exact rt hF h
theorem m_l_szExpr_ok  (w0 : Base Ψ Φ []) (p0 : TExpr) (p1 : Int)  {r : Int} (h : m_l_szExpr N p0 p1 = some r) :
  CB w0 prog 410 [.agg [.string p0.Op, iV p0.L.K, .string p0.L.S, iV p0.L.V.K, iV p0.L.V.N, .string p0.L.V.S, iV p0.R.K, .string p0.R.S, iV p0.R.V.K, iV p0.R.V.N, .string p0.R.V.S].toArray, iV p1] (iV r) := by
 refine eN func410 rfl ntmps410 rfl w0 fun hF => ?_
 unfold m_l_szExpr at h
 refine sr <| lbx rfl fun b_1 => arr 7 [0, 0] rfl <| lq (q_lenS Str_9 rfl rfl) rfl <| art 9 [] rfl ?_
 refine ch h rfl ?_ ?_ <;> intro h
 ·refine att 4 [] rfl ?_
  exact rt hF h
 refine atr 6 [1, 5] rfl <| qc h (m_l_szArg_ok N · p0.L (wz (p1 - (p0.Op.size : Int))) ·) rfl rfl rfl fun x1 h => art 8 [] rfl ?_
 refine ch h rfl ?_ ?_ <;> intro h
 ·refine att 4 [] rfl ?_
  exact rt hF h
 refine atr 6 [6, 5] rfl <| qc h (m_l_szArg_ok N · p0.R x1 ·) rfl rfl rfl fun x2 h => art 8 [] rfl ?_
 refine ch h rfl ?_ ?_ <;> intro h
 ·refine att 4 [] rfl ?_
  exact rt hF h
 refine att 6 [] rfl ?_
 exact rt hF h
theorem m_l_szExprS_ok (w0 : Base Ψ Φ []) (p0 : (List TExpr)) (p1 : Int) (ph0 : RSl RTExpr 11 Ψ pG0 pv0 p0) {r : Int} (h : m_l_szExprS N p0 p1 = some r) :
  CB w0 prog 382 [pv0, iV p1] (iV r) := by
 refine eN func382 rfl ntmps382 rfl w0 fun hF => ?_
 unfold m_l_szExprS at h
 refine atr 8 [] rfl <| lnr ph0 rfl <| art 9 [] rfl ?_
 refine ch h rfl ?_ ?_ <;> intro h
 ·refine att 4 [] rfl ?_
  exact rt hF h
 refine att 7 [] rfl ?_
 refine lin (σ := Int × Int) (fun s => [(0, pv0), (1, iV s.1), (5, iV s.2)]) (fun s => St w0 Φ [] []) (fun m s => m_l_szExprS_l1 N p0 m s.1 s.2 = some r) (wz (p1 - (p0.length : Int)), 0) N h (sx [] []) (fun n1 ih1 s hm => ?_)
 obtain ⟨s1, s2⟩ := s
 have h : m_l_szExprS_l1 N p0 (n1 + 1) s1 s2 = some r := hm
 show WT _ _ [(0, pv0), (1, iV s1), (5, iV s2)] (St w0 Φ [] [])
 unfold m_l_szExprS_l1 at h
 refine atr 5 [] rfl <| lnr ph0 rfl <| la rfl <| en ?_
 refine ch h rfl ?_ ?_ <;> intro h
 ·refine atr 7 [] rfl ?_
  obtain ⟨x1, hx1, h⟩ := bs h
  obtain ⟨cs1, F1, -, g1, hb1, hs1, r1⟩ := ph0.el (idx_some hx1).2.2
  obtain ⟨rfl, -⟩ := r1
  refine lia ph0 hx1 rfl <| lhx 0 11 g1 rfl <| la rfl <| qc h (m_l_szExpr_ok N · x1 s1 ·) rfl rfl rfl fun x2 h => art 7 [] rfl ?_
  refine ch h rfl ?_ ?_ <;> intro h
  ·refine att 4 [] rfl ?_
   exact rt hF h
  refine att 7 [] rfl ?_
  exact lb [] [] (ih1 (_, _) h)
 refine att 6 [] rfl ?_
 exact rt hF h
theorem m_l_szAct_ok (w0 : Base Ψ Φ []) (p0 : TAct) (p1 : Int) (ph0_0 : RSl RTExpr 11 Ψ pG0_0 pv0_0 p0.Args) {r : Int} (h : m_l_szAct N p0 p1 = some r) :
  CB w0 prog 343 [.agg [iV p0.Kind, .string p0.Name, pv0_0, iV p0.N, .string p0.Undo].toArray, iV p1] (iV r) := by
 refine eN func343 rfl ntmps343 rfl w0 fun hF => ?_
 unfold m_l_szAct at h
 refine sr <| lbx rfl fun b_1 => arr 7 [1, 0] rfl <| lq (q_lenS Str_9 rfl rfl) rfl <| art 9 [] rfl ?_
 refine ch h rfl ?_ ?_ <;> intro h
 ·refine att 4 [] rfl ?_
  exact rt hF h
 refine atr 6 [2, 0] rfl <| qd h (m_l_szExprS_ok N · p0.Args (wz (p1 - (p0.Name.size : Int))) ph0_0 ·) rfl rfl rfl fun x1 h => art 8 [] rfl ?_
 refine ch h rfl ?_ ?_ <;> intro h
 ·refine att 4 [] rfl ?_
  exact rt hF h
 refine atr 6 [4, 0] rfl <| lq (q_lenS Str_9 rfl rfl) rfl <| art 9 [] rfl ?_
 refine ch h rfl ?_ ?_ <;> intro h
 ·refine att 4 [] rfl ?_
  exact rt hF h
 refine att 6 [] rfl ?_
 exact rt hF h
theorem m_l_szActS_ok (w0 : Base Ψ Φ []) (p0 : (List TAct)) (p1 : Int) (ph0 : RSl RTAct 5 Ψ pG0 pv0 p0) {r : Int} (h : m_l_szActS N p0 p1 = some r) :
  CB w0 prog 262 [pv0, iV p1] (iV r) := by
 refine eN func262 rfl ntmps262 rfl w0 fun hF => ?_
 unfold m_l_szActS at h
 refine atr 8 [] rfl <| lnr ph0 rfl <| art 9 [] rfl ?_
 refine ch h rfl ?_ ?_ <;> intro h
 ·refine att 4 [] rfl ?_
  exact rt hF h
 refine att 7 [] rfl ?_
 refine lin (σ := Int × Int) (fun s => [(0, pv0), (1, iV s.1), (5, iV s.2)]) (fun s => St w0 Φ [] []) (fun m s => m_l_szActS_l1 N p0 m s.1 s.2 = some r) (wz (p1 - (p0.length : Int)), 0) N h (sx [] []) (fun n1 ih1 s hm => ?_)
 obtain ⟨s1, s2⟩ := s
 have h : m_l_szActS_l1 N p0 (n1 + 1) s1 s2 = some r := hm
 show WT _ _ [(0, pv0), (1, iV s1), (5, iV s2)] (St w0 Φ [] [])
 unfold m_l_szActS_l1 at h
 refine atr 5 [] rfl <| lnr ph0 rfl <| la rfl <| en ?_
 refine ch h rfl ?_ ?_ <;> intro h
 ·refine atr 7 [] rfl ?_
  obtain ⟨x1, hx1, h⟩ := bs h
  obtain ⟨cs1, F1, -, g1, hb1, hs1, r1⟩ := ph0.el (idx_some hx1).2.2
  obtain ⟨v1, G1, rfl, hq1, h1⟩ := r1
  obtain rfl := hq1.symm
  refine lia ph0 hx1 rfl <| lhx 0 5 g1 rfl <| la rfl <| qd h (m_l_szAct_ok N · x1 s1 h1 ·) rfl rfl rfl fun x2 h => art 7 [] rfl ?_
  refine ch h rfl ?_ ?_ <;> intro h
  ·refine att 4 [] rfl ?_
   exact rt hF h
  refine att 7 [] rfl ?_
  exact lb [] [] (ih1 (_, _) h)
 refine att 6 [] rfl ?_
 exact rt hF h
theorem m_l_szRule_ok (w0 : Base Ψ Φ []) (p0 : TRule) (p1 : Int) (ph0_0 : RSl RTPat 3 Ψ pG0_0 pv0_0 p0.Pats) (ph0_1 : RSl RTCond 11 Ψ pG0_1 pv0_1 p0.Conds) (ph0_2 : RSl RTAct 5 Ψ pG0_2 pv0_2 p0.Acts) {r : Int} (h : m_l_szRule N p0 p1 = some r) :
  CB w0 prog 164 [.agg [.string p0.Name, iV p0.Sal, pv0_0, pv0_1, pv0_2].toArray, iV p1] (iV r) := by
 refine eN func164 rfl ntmps164 rfl w0 fun hF => ?_
 unfold m_l_szRule at h
 refine sr <| lbx rfl fun b_1 => arr 7 [0, 0] rfl <| lq (q_lenS Str_9 rfl rfl) rfl <| art 9 [] rfl ?_
 refine ch h rfl ?_ ?_ <;> intro h
 ·refine att 4 [] rfl ?_
  exact rt hF h
 refine atr 6 [2, 0] rfl <| qd h (m_l_szPatS_ok N · p0.Pats (wz (p1 - (p0.Name.size : Int))) ph0_0 ·) rfl rfl rfl fun x1 h => art 8 [] rfl ?_
 refine ch h rfl ?_ ?_ <;> intro h
 ·refine att 4 [] rfl ?_
  exact rt hF h
 refine atr 6 [3, 0] rfl <| qd h (m_l_szCondS_ok N · p0.Conds x1 ph0_1 ·) rfl rfl rfl fun x2 h => art 8 [] rfl ?_
 refine ch h rfl ?_ ?_ <;> intro h
 ·refine att 4 [] rfl ?_
  exact rt hF h
 refine atr 6 [4, 0] rfl <| qd h (m_l_szActS_ok N · p0.Acts x2 ph0_2 ·) rfl rfl rfl fun x3 h => art 8 [] rfl ?_
 refine ch h rfl ?_ ?_ <;> intro h
 ·refine att 4 [] rfl ?_
  exact rt hF h
 refine att 6 [] rfl ?_
 exact rt hF h
theorem m_l_szRuleS_ok (w0 : Base Ψ Φ []) (p0 : (List TRule)) (p1 : Int) (ph0 : RSl RTRule 5 Ψ pG0 pv0 p0) {r : Int} (h : m_l_szRuleS N p0 p1 = some r) :
  CB w0 prog 67 [pv0, iV p1] (iV r) := by
 refine eN func67 rfl ntmps67 rfl w0 fun hF => ?_
 unfold m_l_szRuleS at h
 refine atr 8 [] rfl <| lnr ph0 rfl <| art 9 [] rfl ?_
 refine ch h rfl ?_ ?_ <;> intro h
 ·refine att 4 [] rfl ?_
  exact rt hF h
 refine att 7 [] rfl ?_
 refine lin (σ := Int × Int) (fun s => [(0, pv0), (1, iV s.1), (5, iV s.2)]) (fun s => St w0 Φ [] []) (fun m s => m_l_szRuleS_l1 N p0 m s.1 s.2 = some r) (wz (p1 - (p0.length : Int)), 0) N h (sx [] []) (fun n1 ih1 s hm => ?_)
 obtain ⟨s1, s2⟩ := s
 have h : m_l_szRuleS_l1 N p0 (n1 + 1) s1 s2 = some r := hm
 show WT _ _ [(0, pv0), (1, iV s1), (5, iV s2)] (St w0 Φ [] [])
 unfold m_l_szRuleS_l1 at h
 refine atr 5 [] rfl <| lnr ph0 rfl <| la rfl <| en ?_
 refine ch h rfl ?_ ?_ <;> intro h
 ·refine atr 7 [] rfl ?_
  obtain ⟨x1, hx1, h⟩ := bs h
  obtain ⟨cs1, F1, -, g1, hb1, hs1, r1⟩ := ph0.el (idx_some hx1).2.2
  obtain ⟨v1, G1, v2, G2, v3, G3, rfl, rfl, h1, h2, h3⟩ := r1
  refine lia ph0 hx1 rfl <| lhx 0 5 g1 rfl <| la rfl <| qd h (m_l_szRule_ok N · x1 s1 h1 h2 h3 ·) rfl rfl rfl fun x2 h => art 7 [] rfl ?_
  refine ch h rfl ?_ ?_ <;> intro h
  ·refine att 4 [] rfl ?_
   exact rt hF h
  refine att 7 [] rfl ?_
  exact lb [] [] (ih1 (_, _) h)
 refine att 6 [] rfl ?_
 exact rt hF h
theorem m_l_szDef_ok (w0 : Base Ψ Φ []) (p0 : TDef) (p1 : Int) (ph0_0 : RSl RTRule 5 Ψ pG0_0 pv0_0 p0.Rules) {r : Int} (h : m_l_szDef N p0 p1 = some r) :
  CB w0 prog 14 [.agg [.string p0.Name, pv0_0].toArray, iV p1] (iV r) := by
 refine eN func14 rfl ntmps14 rfl w0 fun hF => ?_
 unfold m_l_szDef at h
 refine sr <| lbx rfl fun b_1 => arr 7 [0, 0] rfl <| lq (q_lenS Str_9 rfl rfl) rfl <| art 9 [] rfl ?_
 refine ch h rfl ?_ ?_ <;> intro h
 ·refine att 4 [] rfl ?_
  exact rt hF h
 refine atr 6 [1, 0] rfl <| qd h (m_l_szRuleS_ok N · p0.Rules (wz (p1 - (p0.Name.size : Int))) ph0_0 ·) rfl rfl rfl fun x1 h => art 8 [] rfl ?_
 refine ch h rfl ?_ ?_ <;> intro h
 ·refine att 4 [] rfl ?_
  exact rt hF h
 refine att 6 [] rfl ?_
 exact rt hF h
theorem m_l_szValS_ok (w0 : Base Ψ Φ []) (p0 : (List TVal)) (p1 : Int) (ph0 : RSl RTVal 3 Ψ pG0 pv0 p0) {r : Int} (h : m_l_szValS N p0 p1 = some r) :
  CB w0 prog 263 [pv0, iV p1] (iV r) := by
 refine eN func263 rfl ntmps263 rfl w0 fun hF => ?_
 unfold m_l_szValS at h
 refine atr 8 [] rfl <| lnr ph0 rfl <| art 9 [] rfl ?_
 refine ch h rfl ?_ ?_ <;> intro h
 ·refine att 4 [] rfl ?_
  exact rt hF h
 refine att 7 [] rfl ?_
 refine lin (σ := Int × Int) (fun s => [(0, pv0), (1, iV s.1), (5, iV s.2)]) (fun s => St w0 Φ [] []) (fun m s => m_l_szValS_l1 N p0 m s.1 s.2 = some r) (wz (p1 - (p0.length : Int)), 0) N h (sx [] []) (fun n1 ih1 s hm => ?_)
 obtain ⟨s1, s2⟩ := s
 have h : m_l_szValS_l1 N p0 (n1 + 1) s1 s2 = some r := hm
 show WT _ _ [(0, pv0), (1, iV s1), (5, iV s2)] (St w0 Φ [] [])
 unfold m_l_szValS_l1 at h
 refine atr 5 [] rfl <| lnr ph0 rfl <| la rfl <| en ?_
 refine ch h rfl ?_ ?_ <;> intro h
 ·refine atr 7 [] rfl ?_
  obtain ⟨x1, hx1, h⟩ := bs h
  obtain ⟨cs1, F1, -, g1, hb1, hs1, r1⟩ := ph0.el (idx_some hx1).2.2
  obtain ⟨rfl, -⟩ := r1
  refine lia ph0 hx1 rfl <| lhx 0 3 g1 rfl <| la rfl <| qc h (m_l_szVal_ok N · x1 s1 ·) rfl rfl rfl fun x2 h => art 7 [] rfl ?_
  refine ch h rfl ?_ ?_ <;> intro h
  ·refine att 4 [] rfl ?_
   exact rt hF h
  refine att 7 [] rfl ?_
  exact lb [] [] (ih1 (_, _) h)
 refine att 6 [] rfl ?_
 exact rt hF h
theorem m_l_szFact_ok (w0 : Base Ψ Φ []) (p0 : TFact) (p1 : Int) (ph0_0 : RSl RTVal 3 Ψ pG0_0 pv0_0 p0.Fields) {r : Int} (h : m_l_szFact N p0 p1 = some r) :
  CB w0 prog 266 [.agg [.string p0.Kind, pv0_0].toArray, iV p1] (iV r) := by
 refine eN func266 rfl ntmps266 rfl w0 fun hF => ?_
 unfold m_l_szFact at h
 refine sr <| lbx rfl fun b_1 => arr 7 [0, 0] rfl <| lq (q_lenS Str_9 rfl rfl) rfl <| art 9 [] rfl ?_
 refine ch h rfl ?_ ?_ <;> intro h
 ·refine att 4 [] rfl ?_
  exact rt hF h
 refine atr 6 [1, 0] rfl <| qd h (m_l_szValS_ok N · p0.Fields (wz (p1 - (p0.Kind.size : Int))) ph0_0 ·) rfl rfl rfl fun x1 h => art 8 [] rfl ?_
 refine ch h rfl ?_ ?_ <;> intro h
 ·refine att 4 [] rfl ?_
  exact rt hF h
 refine att 6 [] rfl ?_
 exact rt hF h
theorem m_l_szItem_ok (w0 : Base Ψ Φ []) (p0 : TItem) (p1 : Int) (ph0_0 : RSl RTVal 3 Ψ pG0_0 pv0_0 p0.F.Fields) {r : Int} (h : m_l_szItem N p0 p1 = some r) :
  CB w0 prog 169 [.agg [iV p0.Id, .string p0.F.Kind, pv0_0].toArray, iV p1] (iV r) := by
 refine eN func169 rfl ntmps169 rfl w0 fun hF => ?_
 unfold m_l_szItem at h
 refine sr <| lbx rfl fun b_1 => arr 7 [1, 2] rfl <| qd h (m_l_szFact_ok N · p0.F p1 ph0_0 ·) rfl rfl rfl fun x1 h => art 8 [] rfl ?_
 refine ch h rfl ?_ ?_ <;> intro h
 ·refine att 4 [] rfl ?_
  exact rt hF h
 refine att 6 [] rfl ?_
 exact rt hF h
theorem m_l_szItemS_ok (w0 : Base Ψ Φ []) (p0 : (List TItem)) (p1 : Int) (ph0 : RSl RTItem 3 Ψ pG0 pv0 p0) {r : Int} (h : m_l_szItemS N p0 p1 = some r) :
  CB w0 prog 72 [pv0, iV p1] (iV r) := by
 refine eN func72 rfl ntmps72 rfl w0 fun hF => ?_
 unfold m_l_szItemS at h
 refine atr 8 [] rfl <| lnr ph0 rfl <| art 9 [] rfl ?_
 refine ch h rfl ?_ ?_ <;> intro h
 ·refine att 4 [] rfl ?_
  exact rt hF h
 refine att 7 [] rfl ?_
 refine lin (σ := Int × Int) (fun s => [(0, pv0), (1, iV s.1), (5, iV s.2)]) (fun s => St w0 Φ [] []) (fun m s => m_l_szItemS_l1 N p0 m s.1 s.2 = some r) (wz (p1 - (p0.length : Int)), 0) N h (sx [] []) (fun n1 ih1 s hm => ?_)
 obtain ⟨s1, s2⟩ := s
 have h : m_l_szItemS_l1 N p0 (n1 + 1) s1 s2 = some r := hm
 show WT _ _ [(0, pv0), (1, iV s1), (5, iV s2)] (St w0 Φ [] [])
 unfold m_l_szItemS_l1 at h
 refine atr 5 [] rfl <| lnr ph0 rfl <| la rfl <| en ?_
 refine ch h rfl ?_ ?_ <;> intro h
 ·refine atr 7 [] rfl ?_
  obtain ⟨x1, hx1, h⟩ := bs h
  obtain ⟨cs1, F1, -, g1, hb1, hs1, r1⟩ := ph0.el (idx_some hx1).2.2
  obtain ⟨v1, G1, rfl, hq1, h1⟩ := r1
  obtain rfl := hq1.symm
  refine lia ph0 hx1 rfl <| lhx 0 3 g1 rfl <| la rfl <| qd h (m_l_szItem_ok N · x1 s1 h1 ·) rfl rfl rfl fun x2 h => art 7 [] rfl ?_
  refine ch h rfl ?_ ?_ <;> intro h
  ·refine att 4 [] rfl ?_
   exact rt hF h
  refine att 7 [] rfl ?_
  exact lb [] [] (ih1 (_, _) h)
 refine att 6 [] rfl ?_
 exact rt hF h
theorem m_l_szStore_ok (w0 : Base Ψ Φ []) (p0 : TStore) (p1 : Int) (ph0_0 : RSl RTItem 3 Ψ pG0_0 pv0_0 p0.Items) {r : Int} (h : m_l_szStore N p0 p1 = some r) :
  CB w0 prog 17 [.agg [pv0_0, iV p0.Next].toArray, iV p1] (iV r) := by
 refine eN func17 rfl ntmps17 rfl w0 fun hF => ?_
 unfold m_l_szStore at h
 refine sr <| lbx rfl fun b_1 => arr 7 [0, 0] rfl <| qd h (m_l_szItemS_ok N · p0.Items p1 ph0_0 ·) rfl rfl rfl fun x1 h => art 8 [] rfl ?_
 refine ch h rfl ?_ ?_ <;> intro h
 ·refine att 4 [] rfl ?_
  exact rt hF h
 refine att 6 [] rfl ?_
 exact rt hF h
theorem m_l_toVal_ok  (w0 : Base Ψ Φ []) (p0 : TVal)  {r : TVal} (h : m_l_toVal N p0 = some r) :
  CB w0 prog 349 [.agg [iV p0.K, iV p0.N, .string p0.S].toArray] (.agg [iV r.K, iV r.N, .string r.S].toArray) := by
 refine eN func349 rfl ntmps349 rfl w0 fun hF => ?_
 unfold m_l_toVal at h
 refine sr <| lbx rfl fun b_1 => lnz Zr_204 rfl fun b_2 => en <| sr <| lnz Zr_204 rfl fun b_3 => arr 6 [0, 64, 0] rfl <| so1 0 Sz_3 rfl rfl ?_
 refine arr 6 [1, 64, 1] rfl <| so1 0 Sz_3 rfl rfl ?_
 refine arr 6 [2, 64, 2] rfl <| so1 0 Sz_9 rfl rfl ?_
 refine arr 4 [3] rfl <| soN 1 Sz_204 rfl ⟨rfl, rfl, rfl, trivial⟩ rfl ?_
 refine en ?_
 refine WT.ret hF (resOk.one (rv_cell Tn_204 rfl (fun w1 hw => hw.rgO (i := 1) rfl 0 3 [iV p0.K, iV p0.N, .string p0.S] rfl) rfl)) (fun w1 hw => ?_)
 cases h
 exact post_of_St hw
theorem m_l_toArg_ok  (w0 : Base Ψ Φ []) (p0 : TArg)  {r : TArg} (h : m_l_toArg N p0 = some r) :
  CB w0 prog 385 [.agg [iV p0.K, .string p0.S, iV p0.V.K, iV p0.V.N, .string p0.V.S].toArray] (.agg [iV r.K, .string r.S, iV r.V.K, iV r.V.N, .string r.V.S].toArray) := by
 refine eN func385 rfl ntmps385 rfl w0 fun hF => ?_
 unfold m_l_toArg at h
 refine sr <| lbx rfl fun b_1 => lnz Zr_294 rfl fun b_2 => en <| sr <| lnz Zr_294 rfl fun b_3 => arr 6 [0, 64, 0] rfl <| so1 0 Sz_3 rfl rfl ?_
 refine arr 6 [1, 64, 1] rfl <| so1 0 Sz_9 rfl rfl ?_
 refine arr 5 [2, 67] rfl <| qc h (m_l_toVal_ok N · p0.V ·) rfl rfl rfl fun x1 h => lf Fld_294_2 rfl rfl rfl <| soN 0 Sz_204 rfl ⟨rfl, rfl, rfl, trivial⟩ rfl ?_
 refine arr 4 [5] rfl <| soN 1 Sz_294 rfl ⟨rfl, rfl, rfl, rfl, rfl, trivial⟩ rfl ?_
 refine en ?_
 refine WT.ret hF (resOk.one (rv_cell Tn_294 rfl (fun w1 hw => hw.rgO (i := 1) rfl 0 5 [iV p0.K, .string p0.S, iV x1.K, iV x1.N, .string x1.S] rfl) rfl)) (fun w1 hw => ?_)
 cases h
 exact post_of_St hw
theorem m_l_toArgS_ok (w0 : Base Ψ Φ []) (p0 : (List TArg)) (ph0 : RSl RTArg 5 Ψ pG0 pv0 p0) {r : (List TArg)} (h : m_l_toArgS N p0 = some r) :
  Calls prog 384 [pv0].toArray w0.w (PostG Φ w0.w [] (fun Φ' Fs v => ∃ (sr_0_0 : Value), v = sr_0_0 ∧ Fs = [ob sr_0_0] ∧ OSl RTArg 294 5 Φ' [] sr_0_0 r)) := by
 refine eN func384 rfl ntmps384 rfl w0 fun hF => ?_
 unfold m_l_toArgS at h
 refine atr 7 [] rfl <| lnr ph0 rfl ?_
 obtain ⟨x1, hx1, h⟩ := bs h
 refine le' (e_make (R := RTArg) Sl_263 Zr_294 By_294 rfl rfl rfl (fun _ => ⟨rfl, rfl⟩) rfl rfl (Int.le_refl _) hx1 (mk_le hx1)) rfl ?_
 rintro v1 Φ_1 D1 ⟨fr1, h1⟩
 refine art 8 [] rfl ?_
 refine lin (σ := Hp × (List TArg) × Int) (fun s => [(0, pv0), (3, v1), (4, iV s.2.2)]) (fun s => St w0 s.1 [] [ob v1]) (fun m s => m_l_toArgS_l1 N p0 m s.2.1 s.2.2 = some r ∧ (OSl RTArg 294 5 s.1 [] v1 s.2.1)) (Φ_1, x1, 0) N ⟨h, h1⟩ (sx [0] []) (fun n1 ih1 s hm => ?_)
 obtain ⟨Φ_2, s1, s2⟩ := s
 obtain ⟨h, k1⟩ := hm
 dsimp only at h k1 ⊢
 unfold m_l_toArgS_l1 at h
 refine atr 5 [] rfl <| lnr ph0 rfl <| la rfl <| en ?_
 refine ch h rfl ?_ ?_ <;> intro h
 ·refine atr 8 [] rfl ?_
  obtain ⟨x2, hx2, h⟩ := bs h
  obtain ⟨cs1, F1, -, g1, hb1, hs1, r1⟩ := ph0.el (idx_some hx2).2.2
  obtain ⟨rfl, -⟩ := r1
  refine lia ph0 hx2 rfl <| lhx 0 5 g1 rfl <| qc h (m_l_toArg_ok N · x2 ·) rfl rfl rfl fun x3 h => ?_
  obtain ⟨x4, hx4, h⟩ := bs h
  obtain ⟨cs2, F2, -, g2, hb2, hs2, r2⟩ := k1.elS (idx_some hx4).2.2
  obtain ⟨rfl, -⟩ := r2
  refine lio k1 hx4 rfl <| lu (u_setF (js := [0]) (Rr := []) (vs := [iV x3.K, .string x3.S, iV x3.V.K, iV x3.V.N, .string x3.V.S]) (x' := x3) RTArg.lasts RTArg.flat Sz_294 rfl rfl rfl rfl ⟨rfl, rfl, rfl, rfl, rfl, trivial⟩ rfl k1 (idx_lt hx4) ⟨rfl, rfl⟩) rfl ?_
  rintro Φ_3 D2 ⟨⟨ap1, fr2⟩, h2⟩
  refine art 7 [] rfl ?_
  exact lb [0] [] (ih1 (_, _, _) ⟨h, h2⟩)
 refine att 6 [] rfl ?_
 exact rtg [0] hF (resOk.one rfl) rfl (by cases h; exact fun w1 hw => ⟨v1, rfl, rfl, k1⟩)
theorem m_l_toPat_ok (w0 : Base Ψ Φ []) (p0 : TPat) (ph0_0 : RSl RTArg 5 Ψ pG0_0 pv0_0 p0.Args) {r : TPat} (h : m_l_toPat N p0 = some r) :
  Calls prog 346 [.agg [.string p0.Kind, pv0_0, .bool p0.Not].toArray].toArray w0.w (PostG Φ w0.w [] (fun Φ' Fs v => ∃ (sr_0_0 : Value), v = .agg [.string r.Kind, sr_0_0, .bool r.Not].toArray ∧ Fs = [ob sr_0_0] ∧ OSl RTArg 294 5 Φ' [] sr_0_0 r.Args)) := by
 refine eN func346 rfl ntmps346 rfl w0 fun hF => ?_
 unfold m_l_toPat at h
 refine sr <| lbx rfl fun b_1 => lnz Zr_265 rfl fun b_2 => en <| sr <| lnz Zr_265 rfl fun b_3 => arr 6 [0, 64, 0] rfl <| so1 0 Sz_9 rfl rfl ?_
 refine arr 5 [1, 64] rfl <| kab h rfl rfl rfl (fun b z q => m_l_toArgS_ok N b p0.Args (ph0_0.y z) q) ?_
 rintro x1 h v1 Φ_1 F1 ⟨ap1, fr1, v2, rfl, rfl, h1⟩
 refine lf Fld_265_1 rfl rfl rfl <| so1 0 Sz_263 rfl h1.one ?_
 refine arr 6 [2, 64, 2] rfl <| so1 0 Sz_4 rfl rfl ?_
 refine arr 4 [3] rfl <| soN 1 Sz_265 rfl ⟨rfl, h1.one, rfl, trivial⟩ rfl ?_
 refine en ?_
 exact rtg [0] hF (resOk.one (rv_cell Tn_265 rfl (fun w1 hw => hw.rgO (i := 1) rfl 0 3 [.string p0.Kind, v1, .bool p0.Not] rfl) rfl)) rfl (by cases h; exact fun w1 hw => ⟨v1, rfl, rfl, h1⟩)
theorem m_l_toPatS_ok (w0 : Base Ψ Φ []) (p0 : (List TPat)) (ph0 : RSl RTPat 3 Ψ pG0 pv0 p0) {r : (List TPat)} (h : m_l_toPatS N p0 = some r) :
  Calls prog 271 [pv0].toArray w0.w (PostG Φ w0.w [] (fun Φ' Fs v => ∃ (sr_0_0 : Value) (Dr_0_0 : List Nat), v = sr_0_0 ∧ Fs = [ob sr_0_0, Dr_0_0] ∧ OSl OTPat 265 3 Φ' Dr_0_0 sr_0_0 r)) := by
 refine eN func271 rfl ntmps271 rfl w0 fun hF => ?_
 unfold m_l_toPatS at h
 refine atr 7 [] rfl <| lnr ph0 rfl ?_
 obtain ⟨x1, hx1, h⟩ := bs h
 refine le' (e_make (R := OTPat) Sl_179 Zr_265 By_265 rfl rfl rfl (fun _ => ⟨.slice none 0 0, rfl, rfl, OSl.nil _ _ _ _⟩) rfl rfl (Int.le_refl _) hx1 (mk_le hx1)) rfl ?_
 rintro v1 Φ_1 D1 ⟨fr1, h1⟩
 refine wl0 <| art 8 [] rfl ?_
 refine lin (σ := Hp × (List TPat) × List Nat × Int) (fun s => [(0, pv0), (3, v1), (4, iV s.2.2.2)]) (fun s => St w0 s.1 [] [s.2.2.1, ob v1]) (fun m s => m_l_toPatS_l1 N p0 m s.2.1 s.2.2.2 = some r ∧ (OSl OTPat 265 3 s.1 s.2.2.1 v1 s.2.1)) (Φ_1, x1, [], 0) N ⟨h, h1⟩ (sx [0, 0] []) (fun n1 ih1 s hm => ?_)
 obtain ⟨Φ_2, s1, D2, s2⟩ := s
 obtain ⟨h, k1⟩ := hm
 dsimp only at h k1 ⊢
 unfold m_l_toPatS_l1 at h
 refine atr 5 [] rfl <| lnr ph0 rfl <| la rfl <| en ?_
 refine ch h rfl ?_ ?_ <;> intro h
 ·refine atr 8 [] rfl ?_
  obtain ⟨x2, hx2, h⟩ := bs h
  obtain ⟨cs1, F1, -, g1, hb1, hs1, r1⟩ := ph0.el (idx_some hx2).2.2
  obtain ⟨v2, G1, rfl, hq1, h2⟩ := r1
  obtain rfl := hq1.symm
  refine lia ph0 hx2 rfl <| lhx 0 3 g1 rfl <| kab h rfl rfl rfl (fun b z q => m_l_toPat_ok N b x2 (h2.y z) q) ?_
  rintro x3 h v3 Φ_3 F2 ⟨ap1, fr2, v4, rfl, rfl, h3⟩
  replace k1 := k1.fr fr2 (ap1.q 1 rfl) (ap1.q 0 rfl)
  obtain ⟨x4, hx4, h⟩ := bs h
  obtain ⟨cs2, F3, -, g2, hb2, hs2, r2⟩ := k1.elS (idx_some hx4).2.2
  obtain ⟨v5, rfl, rfl, h4⟩ := r2
  have h5 := h4.rsl
  refine lio k1 hx4 rfl ?_
  have r3 : OTPat Φ_3 ((ob v4 ++ [])) [.string x3.Kind, v4, .bool x3.Not] x3 := ⟨v4, rfl, rfl, h3⟩
  refine lu (u_setO (js := [2]) (Rr := [ob v4, D2]) (vs := [.string x3.Kind, v4, .bool x3.Not]) (x' := x3) OTPat.lasts Sz_265 rfl rfl rfl rfl ⟨rfl, h3.one, rfl, trivial⟩ rfl k1 (idx_lt hx4) r3 (OTPat.knows _ _ _ _ r3) (fun ap => ap.q 1 rfl) (fun ap => by simpa [ob_nil] using (ap.q 0 rfl))) rfl ?_
  rintro Φ_4 D3 ⟨⟨ap2, fr3⟩, sp1, h6⟩
  refine wlL [D3, ob v1] (smg [2, 1] rfl (by simpa [List.append_assoc, ob_nil] using sp1)) <| art 7 [] rfl ?_
  exact lb [0, 0] [] (ih1 (_, _, _, _) ⟨h, h6⟩)
 refine att 6 [] rfl ?_
 exact rtg [1, 0] hF (resOk.one rfl) rfl (by cases h; exact fun w1 hw => ⟨v1, D2, rfl, rfl, k1⟩)
theorem m_l_toCond_ok  (w0 : Base Ψ Φ []) (p0 : TCond)  {r : TCond} (h : m_l_toCond N p0 = some r) :
  CB w0 prog 347 [.agg [iV p0.Op, iV p0.L.K, .string p0.L.S, iV p0.L.V.K, iV p0.L.V.N, .string p0.L.V.S, iV p0.R.K, .string p0.R.S, iV p0.R.V.K, iV p0.R.V.N, .string p0.R.V.S].toArray] (.agg [iV r.Op, iV r.L.K, .string r.L.S, iV r.L.V.K, iV r.L.V.N, .string r.L.V.S, iV r.R.K, .string r.R.S, iV r.R.V.K, iV r.R.V.N, .string r.R.V.S].toArray) := by
 refine eN func347 rfl ntmps347 rfl w0 fun hF => ?_
 unfold m_l_toCond at h
 refine sr <| lbx rfl fun b_1 => lnz Zr_296 rfl fun b_2 => en <| sr <| lnz Zr_296 rfl fun b_3 => arr 6 [0, 64, 0] rfl <| so1 0 Sz_3 rfl rfl ?_
 refine arr 5 [1, 69] rfl <| qc h (m_l_toArg_ok N · p0.L ·) rfl rfl rfl fun x1 h => lf Fld_296_1 rfl rfl rfl <| soN 0 Sz_294 rfl ⟨rfl, rfl, rfl, rfl, rfl, trivial⟩ rfl ?_
 refine arr 5 [6, 69] rfl <| qc h (m_l_toArg_ok N · p0.R ·) rfl rfl rfl fun x2 h => lf Fld_296_2 rfl rfl rfl <| soN 0 Sz_294 rfl ⟨rfl, rfl, rfl, rfl, rfl, trivial⟩ rfl ?_
 refine arr 4 [11] rfl <| soN 1 Sz_296 rfl ⟨rfl, rfl, rfl, rfl, rfl, rfl, rfl, rfl, rfl, rfl, rfl, trivial⟩ rfl ?_
 refine en ?_
 refine WT.ret hF (resOk.one (rv_cell Tn_296 rfl (fun w1 hw => hw.rgO (i := 1) rfl 0 11 [iV p0.Op, iV x1.K, .string x1.S, iV x1.V.K, iV x1.V.N, .string x1.V.S, iV x2.K, .string x2.S, iV x2.V.K, iV x2.V.N, .string x2.V.S] rfl) rfl)) (fun w1 hw => ?_)
 cases h
 exact post_of_St hw
theorem m_l_toCondS_ok (w0 : Base Ψ Φ []) (p0 : (List TCond)) (ph0 : RSl RTCond 11 Ψ pG0 pv0 p0) {r : (List TCond)} (h : m_l_toCondS N p0 = some r) :
  Calls prog 272 [pv0].toArray w0.w (PostG Φ w0.w [] (fun Φ' Fs v => ∃ (sr_0_0 : Value), v = sr_0_0 ∧ Fs = [ob sr_0_0] ∧ OSl RTCond 296 11 Φ' [] sr_0_0 r)) := by
 refine eN func272 rfl ntmps272 rfl w0 fun hF => ?_
 unfold m_l_toCondS at h
 refine atr 7 [] rfl <| lnr ph0 rfl ?_
 obtain ⟨x1, hx1, h⟩ := bs h
 refine le' (e_make (R := RTCond) Sl_180 Zr_296 By_296 rfl rfl rfl (fun _ => ⟨rfl, rfl⟩) rfl rfl (Int.le_refl _) hx1 (mk_le hx1)) rfl ?_
 rintro v1 Φ_1 D1 ⟨fr1, h1⟩
 refine art 8 [] rfl ?_
 refine lin (σ := Hp × (List TCond) × Int) (fun s => [(0, pv0), (3, v1), (4, iV s.2.2)]) (fun s => St w0 s.1 [] [ob v1]) (fun m s => m_l_toCondS_l1 N p0 m s.2.1 s.2.2 = some r ∧ (OSl RTCond 296 11 s.1 [] v1 s.2.1)) (Φ_1, x1, 0) N ⟨h, h1⟩ (sx [0] []) (fun n1 ih1 s hm => ?_)
 obtain ⟨Φ_2, s1, s2⟩ := s
 obtain ⟨h, k1⟩ := hm
 dsimp only at h k1 ⊢
 unfold m_l_toCondS_l1 at h
 refine atr 5 [] rfl <| lnr ph0 rfl <| la rfl <| en ?_
 refine ch h rfl ?_ ?_ <;> intro h
 ·refine atr 8 [] rfl ?_
  obtain ⟨x2, hx2, h⟩ := bs h
  obtain ⟨cs1, F1, -, g1, hb1, hs1, r1⟩ := ph0.el (idx_some hx2).2.2
  obtain ⟨rfl, -⟩ := r1
  refine lia ph0 hx2 rfl <| lhx 0 11 g1 rfl <| qc h (m_l_toCond_ok N · x2 ·) rfl rfl rfl fun x3 h => ?_
  obtain ⟨x4, hx4, h⟩ := bs h
  obtain ⟨cs2, F2, -, g2, hb2, hs2, r2⟩ := k1.elS (idx_some hx4).2.2
  obtain ⟨rfl, -⟩ := r2
  refine lio k1 hx4 rfl <| lu (u_setF (js := [0]) (Rr := []) (vs := [iV x3.Op, iV x3.L.K, .string x3.L.S, iV x3.L.V.K, iV x3.L.V.N, .string x3.L.V.S, iV x3.R.K, .string x3.R.S, iV x3.R.V.K, iV x3.R.V.N, .string x3.R.V.S]) (x' := x3) RTCond.lasts RTCond.flat Sz_296 rfl rfl rfl rfl ⟨rfl, rfl, rfl, rfl, rfl, rfl, rfl, rfl, rfl, rfl, rfl, trivial⟩ rfl k1 (idx_lt hx4) ⟨rfl, rfl⟩) rfl ?_
  rintro Φ_3 D2 ⟨⟨ap1, fr2⟩, h2⟩
  refine art 7 [] rfl ?_
  exact lb [0] [] (ih1 (_, _, _) ⟨h, h2⟩)
 refine att 6 [] rfl ?_
 exact rtg [0] hF (resOk.one rfl) rfl (by cases h; exact fun w1 hw => ⟨v1, rfl, rfl, k1⟩)
theorem m_l_toExpr_ok  (w0 : Base Ψ Φ []) (p0 : TExpr)  {r : TExpr} (h : m_l_toExpr N p0 = some r) :
  CB w0 prog 412 [.agg [.string p0.Op, iV p0.L.K, .string p0.L.S, iV p0.L.V.K, iV p0.L.V.N, .string p0.L.V.S, iV p0.R.K, .string p0.R.S, iV p0.R.V.K, iV p0.R.V.N, .string p0.R.V.S].toArray] (.agg [.string r.Op, iV r.L.K, .string r.L.S, iV r.L.V.K, iV r.L.V.N, .string r.L.V.S, iV r.R.K, .string r.R.S, iV r.R.V.K, iV r.R.V.N, .string r.R.V.S].toArray) := by
 refine eN func412 rfl ntmps412 rfl w0 fun hF => ?_
 unfold m_l_toExpr at h
 refine sr <| lbx rfl fun b_1 => lnz Zr_367 rfl fun b_2 => en <| sr <| lnz Zr_367 rfl fun b_3 => arr 6 [0, 64, 0] rfl <| so1 0 Sz_9 rfl rfl ?_
 refine arr 5 [1, 69] rfl <| qc h (m_l_toArg_ok N · p0.L ·) rfl rfl rfl fun x1 h => lf Fld_367_1 rfl rfl rfl <| soN 0 Sz_294 rfl ⟨rfl, rfl, rfl, rfl, rfl, trivial⟩ rfl ?_
 refine arr 5 [6, 69] rfl <| qc h (m_l_toArg_ok N · p0.R ·) rfl rfl rfl fun x2 h => lf Fld_367_2 rfl rfl rfl <| soN 0 Sz_294 rfl ⟨rfl, rfl, rfl, rfl, rfl, trivial⟩ rfl ?_
 refine arr 4 [11] rfl <| soN 1 Sz_367 rfl ⟨rfl, rfl, rfl, rfl, rfl, rfl, rfl, rfl, rfl, rfl, rfl, trivial⟩ rfl ?_
 refine en ?_
 refine WT.ret hF (resOk.one (rv_cell Tn_367 rfl (fun w1 hw => hw.rgO (i := 1) rfl 0 11 [.string p0.Op, iV x1.K, .string x1.S, iV x1.V.K, iV x1.V.N, .string x1.V.S, iV x2.K, .string x2.S, iV x2.V.K, iV x2.V.N, .string x2.V.S] rfl) rfl)) (fun w1 hw => ?_)
 cases h
 exact post_of_St hw
theorem m_l_toExprS_ok (w0 : Base Ψ Φ []) (p0 : (List TExpr)) (ph0 : RSl RTExpr 11 Ψ pG0 pv0 p0) {r : (List TExpr)} (h : m_l_toExprS N p0 = some r) :
  Calls prog 386 [pv0].toArray w0.w (PostG Φ w0.w [] (fun Φ' Fs v => ∃ (sr_0_0 : Value), v = sr_0_0 ∧ Fs = [ob sr_0_0] ∧ OSl RTExpr 367 11 Φ' [] sr_0_0 r)) := by
 refine eN func386 rfl ntmps386 rfl w0 fun hF => ?_
 unfold m_l_toExprS at h
 refine atr 7 [] rfl <| lnr ph0 rfl ?_
 obtain ⟨x1, hx1, h⟩ := bs h
 refine le' (e_make (R := RTExpr) Sl_337 Zr_367 By_367 rfl rfl rfl (fun _ => ⟨rfl, rfl⟩) rfl rfl (Int.le_refl _) hx1 (mk_le hx1)) rfl ?_
 rintro v1 Φ_1 D1 ⟨fr1, h1⟩
 refine art 8 [] rfl ?_
 refine lin (σ := Hp × (List TExpr) × Int) (fun s => [(0, pv0), (3, v1), (4, iV s.2.2)]) (fun s => St w0 s.1 [] [ob v1]) (fun m s => m_l_toExprS_l1 N p0 m s.2.1 s.2.2 = some r ∧ (OSl RTExpr 367 11 s.1 [] v1 s.2.1)) (Φ_1, x1, 0) N ⟨h, h1⟩ (sx [0] []) (fun n1 ih1 s hm => ?_)
 obtain ⟨Φ_2, s1, s2⟩ := s
 obtain ⟨h, k1⟩ := hm
 dsimp only at h k1 ⊢
 unfold m_l_toExprS_l1 at h
 refine atr 5 [] rfl <| lnr ph0 rfl <| la rfl <| en ?_
 refine ch h rfl ?_ ?_ <;> intro h
 ·refine atr 8 [] rfl ?_
  obtain ⟨x2, hx2, h⟩ := bs h
  obtain ⟨cs1, F1, -, g1, hb1, hs1, r1⟩ := ph0.el (idx_some hx2).2.2
  obtain ⟨rfl, -⟩ := r1
  refine lia ph0 hx2 rfl <| lhx 0 11 g1 rfl <| qc h (m_l_toExpr_ok N · x2 ·) rfl rfl rfl fun x3 h => ?_
  obtain ⟨x4, hx4, h⟩ := bs h
  obtain ⟨cs2, F2, -, g2, hb2, hs2, r2⟩ := k1.elS (idx_some hx4).2.2
  obtain ⟨rfl, -⟩ := r2
  refine lio k1 hx4 rfl <| lu (u_setF (js := [0]) (Rr := []) (vs := [.string x3.Op, iV x3.L.K, .string x3.L.S, iV x3.L.V.K, iV x3.L.V.N, .string x3.L.V.S, iV x3.R.K, .string x3.R.S, iV x3.R.V.K, iV x3.R.V.N, .string x3.R.V.S]) (x' := x3) RTExpr.lasts RTExpr.flat Sz_367 rfl rfl rfl rfl ⟨rfl, rfl, rfl, rfl, rfl, rfl, rfl, rfl, rfl, rfl, rfl, trivial⟩ rfl k1 (idx_lt hx4) ⟨rfl, rfl⟩) rfl ?_
  rintro Φ_3 D2 ⟨⟨ap1, fr2⟩, h2⟩
  refine art 7 [] rfl ?_
  exact lb [0] [] (ih1 (_, _, _) ⟨h, h2⟩)
 refine att 6 [] rfl ?_
 exact rtg [0] hF (resOk.one rfl) rfl (by cases h; exact fun w1 hw => ⟨v1, rfl, rfl, k1⟩)
theorem m_l_toAct_ok (w0 : Base Ψ Φ []) (p0 : TAct) (ph0_0 : RSl RTExpr 11 Ψ pG0_0 pv0_0 p0.Args) {r : TAct} (h : m_l_toAct N p0 = some r) :
  Calls prog 348 [.agg [iV p0.Kind, .string p0.Name, pv0_0, iV p0.N, .string p0.Undo].toArray].toArray w0.w (PostG Φ w0.w [] (fun Φ' Fs v => ∃ (sr_0_0 : Value), v = .agg [iV r.Kind, .string r.Name, sr_0_0, iV r.N, .string r.Undo].toArray ∧ Fs = [ob sr_0_0] ∧ OSl RTExpr 367 11 Φ' [] sr_0_0 r.Args)) := by
 refine eN func348 rfl ntmps348 rfl w0 fun hF => ?_
 unfold m_l_toAct at h
 refine sr <| lbx rfl fun b_1 => lnz Zr_339 rfl fun b_2 => en <| sr <| lnz Zr_339 rfl fun b_3 => arr 6 [0, 64, 0] rfl <| so1 0 Sz_3 rfl rfl ?_
 refine arr 6 [1, 64, 1] rfl <| so1 0 Sz_9 rfl rfl ?_
 refine arr 5 [2, 64] rfl <| kab h rfl rfl rfl (fun b z q => m_l_toExprS_ok N b p0.Args (ph0_0.y z) q) ?_
 rintro x1 h v1 Φ_1 F1 ⟨ap1, fr1, v2, rfl, rfl, h1⟩
 refine lf Fld_339_2 rfl rfl rfl <| so1 0 Sz_337 rfl h1.one ?_
 refine arr 6 [3, 64, 3] rfl <| so1 0 Sz_3 rfl rfl ?_
 refine arr 6 [4, 64, 4] rfl <| so1 0 Sz_9 rfl rfl ?_
 refine arr 4 [5] rfl <| soN 1 Sz_339 rfl ⟨rfl, rfl, h1.one, rfl, rfl, trivial⟩ rfl ?_
 refine en ?_
 exact rtg [0] hF (resOk.one (rv_cell Tn_339 rfl (fun w1 hw => hw.rgO (i := 1) rfl 0 5 [iV p0.Kind, .string p0.Name, v1, iV p0.N, .string p0.Undo] rfl) rfl)) rfl (by cases h; exact fun w1 hw => ⟨v1, rfl, rfl, h1⟩)
theorem m_l_toActS_ok (w0 : Base Ψ Φ []) (p0 : (List TAct)) (ph0 : RSl RTAct 5 Ψ pG0 pv0 p0) {r : (List TAct)} (h : m_l_toActS N p0 = some r) :
  Calls prog 273 [pv0].toArray w0.w (PostG Φ w0.w [] (fun Φ' Fs v => ∃ (sr_0_0 : Value) (Dr_0_0 : List Nat), v = sr_0_0 ∧ Fs = [ob sr_0_0, Dr_0_0] ∧ OSl OTAct 339 5 Φ' Dr_0_0 sr_0_0 r)) := by
 refine eN func273 rfl ntmps273 rfl w0 fun hF => ?_
 unfold m_l_toActS at h
 refine atr 7 [] rfl <| lnr ph0 rfl ?_
 obtain ⟨x1, hx1, h⟩ := bs h
 refine le' (e_make (R := OTAct) Sl_181 Zr_339 By_339 rfl rfl rfl (fun _ => ⟨.slice none 0 0, rfl, rfl, OSl.nil _ _ _ _⟩) rfl rfl (Int.le_refl _) hx1 (mk_le hx1)) rfl ?_
 rintro v1 Φ_1 D1 ⟨fr1, h1⟩
 refine wl0 <| art 8 [] rfl ?_
 refine lin (σ := Hp × (List TAct) × List Nat × Int) (fun s => [(0, pv0), (3, v1), (4, iV s.2.2.2)]) (fun s => St w0 s.1 [] [s.2.2.1, ob v1]) (fun m s => m_l_toActS_l1 N p0 m s.2.1 s.2.2.2 = some r ∧ (OSl OTAct 339 5 s.1 s.2.2.1 v1 s.2.1)) (Φ_1, x1, [], 0) N ⟨h, h1⟩ (sx [0, 0] []) (fun n1 ih1 s hm => ?_)
 obtain ⟨Φ_2, s1, D2, s2⟩ := s
 obtain ⟨h, k1⟩ := hm
 dsimp only at h k1 ⊢
 unfold m_l_toActS_l1 at h
 refine atr 5 [] rfl <| lnr ph0 rfl <| la rfl <| en ?_
 refine ch h rfl ?_ ?_ <;> intro h
 ·refine atr 8 [] rfl ?_
  obtain ⟨x2, hx2, h⟩ := bs h
  obtain ⟨cs1, F1, -, g1, hb1, hs1, r1⟩ := ph0.el (idx_some hx2).2.2
  obtain ⟨v2, G1, rfl, hq1, h2⟩ := r1
  obtain rfl := hq1.symm
  refine lia ph0 hx2 rfl <| lhx 0 5 g1 rfl <| kab h rfl rfl rfl (fun b z q => m_l_toAct_ok N b x2 (h2.y z) q) ?_
  rintro x3 h v3 Φ_3 F2 ⟨ap1, fr2, v4, rfl, rfl, h3⟩
  replace k1 := k1.fr fr2 (ap1.q 1 rfl) (ap1.q 0 rfl)
  obtain ⟨x4, hx4, h⟩ := bs h
  obtain ⟨cs2, F3, -, g2, hb2, hs2, r2⟩ := k1.elS (idx_some hx4).2.2
  obtain ⟨v5, rfl, rfl, h4⟩ := r2
  have h5 := h4.rsl
  refine lio k1 hx4 rfl ?_
  have r3 : OTAct Φ_3 ((ob v4 ++ [])) [iV x3.Kind, .string x3.Name, v4, iV x3.N, .string x3.Undo] x3 := ⟨v4, rfl, rfl, h3⟩
  refine lu (u_setO (js := [2]) (Rr := [ob v4, D2]) (vs := [iV x3.Kind, .string x3.Name, v4, iV x3.N, .string x3.Undo]) (x' := x3) OTAct.lasts Sz_339 rfl rfl rfl rfl ⟨rfl, rfl, h3.one, rfl, rfl, trivial⟩ rfl k1 (idx_lt hx4) r3 (OTAct.knows _ _ _ _ r3) (fun ap => ap.q 1 rfl) (fun ap => by simpa [ob_nil] using (ap.q 0 rfl))) rfl ?_
  rintro Φ_4 D3 ⟨⟨ap2, fr3⟩, sp1, h6⟩
  refine wlL [D3, ob v1] (smg [2, 1] rfl (by simpa [List.append_assoc, ob_nil] using sp1)) <| art 7 [] rfl ?_
  exact lb [0, 0] [] (ih1 (_, _, _, _) ⟨h, h6⟩)
 refine att 6 [] rfl ?_
 exact rtg [1, 0] hF (resOk.one rfl) rfl (by cases h; exact fun w1 hw => ⟨v1, D2, rfl, rfl, k1⟩)
theorem m_l_toRule_ok (w0 : Base Ψ Φ []) (p0 : TRule) (ph0_0 : RSl RTPat 3 Ψ pG0_0 pv0_0 p0.Pats) (ph0_1 : RSl RTCond 11 Ψ pG0_1 pv0_1 p0.Conds) (ph0_2 : RSl RTAct 5 Ψ pG0_2 pv0_2 p0.Acts) {r : TRule} (h : m_l_toRule N p0 = some r) :
  Calls prog 175 [.agg [.string p0.Name, iV p0.Sal, pv0_0, pv0_1, pv0_2].toArray].toArray w0.w (PostG Φ w0.w [] (fun Φ' Fs v => ∃ (sr_0_0 : Value) (Dr_0_0 : List Nat) (sr_0_1 : Value) (sr_0_2 : Value) (Dr_0_2 : List Nat), v = .agg [.string r.Name, iV r.Sal, sr_0_0, sr_0_1, sr_0_2].toArray ∧ Fs = [ob sr_0_0, Dr_0_0, ob sr_0_1, ob sr_0_2, Dr_0_2] ∧ OSl OTPat 265 3 Φ' Dr_0_0 sr_0_0 r.Pats ∧ OSl RTCond 296 11 Φ' [] sr_0_1 r.Conds ∧ OSl OTAct 339 5 Φ' Dr_0_2 sr_0_2 r.Acts)) := by
 refine eN func175 rfl ntmps175 rfl w0 fun hF => ?_
 unfold m_l_toRule at h
 refine sr <| lbx rfl fun b_1 => lnz Zr_183 rfl fun b_2 => en <| sr <| lnz Zr_183 rfl fun b_3 => arr 6 [0, 64, 0] rfl <| so1 0 Sz_9 rfl rfl ?_
 refine arr 6 [1, 64, 1] rfl <| so1 0 Sz_3 rfl rfl ?_
 refine arr 5 [2, 64] rfl <| kab h rfl rfl rfl (fun b z q => m_l_toPatS_ok N b p0.Pats (ph0_0.y z) q) ?_
 rintro x1 h v1 Φ_1 F1 ⟨ap1, fr1, v2, D1, rfl, rfl, h1⟩
 refine lf Fld_183_2 rfl rfl rfl <| so1 0 Sz_179 rfl h1.one ?_
 refine arr 5 [3, 64] rfl <| kab h rfl rfl rfl (fun b z q => m_l_toCondS_ok N b p0.Conds (ph0_1.y z) q) ?_
 rintro x2 h v3 Φ_2 F2 ⟨ap2, fr2, v4, rfl, rfl, h2⟩
 replace h1 := h1.fr fr2 (ap2.q 0 rfl) (ap2.q 1 rfl)
 refine lf Fld_183_3 rfl rfl rfl <| so1 0 Sz_180 rfl h2.one ?_
 refine arr 5 [4, 64] rfl <| kab h rfl rfl rfl (fun b z q => m_l_toActS_ok N b p0.Acts (ph0_2.y z) q) ?_
 rintro x3 h v5 Φ_3 F3 ⟨ap3, fr3, v6, D2, rfl, rfl, h3⟩
 replace h1 := h1.fr fr3 (ap3.q 1 rfl) (ap3.q 2 rfl)
 replace h2 := h2.fr fr3 (ap3.q 0 rfl) dN
 refine lf Fld_183_4 rfl rfl rfl <| so1 0 Sz_181 rfl h3.one ?_
 refine arr 4 [5] rfl <| soN 1 Sz_183 rfl ⟨rfl, rfl, h1.one, h2.one, h3.one, trivial⟩ rfl ?_
 refine en ?_
 exact rtg [3, 3, 2, 0, 0] hF (resOk.one (rv_cell Tn_183 rfl (fun w1 hw => hw.rgO (i := 1) rfl 0 5 [.string p0.Name, iV p0.Sal, v1, v3, v5] rfl) rfl)) rfl (by cases h; exact fun w1 hw => ⟨v1, D1, v3, v5, D2, rfl, rfl, h1, h2, h3⟩)
theorem m_l_toRuleS_ok (w0 : Base Ψ Φ []) (p0 : (List TRule)) (ph0 : RSl RTRule 5 Ψ pG0 pv0 p0) {r : (List TRule)} (h : m_l_toRuleS N p0 = some r) :
  Calls prog 76 [pv0].toArray w0.w (PostG Φ w0.w [] (fun Φ' Fs v => ∃ (sr_0_0 : Value) (Dr_0_0 : List Nat), v = sr_0_0 ∧ Fs = [ob sr_0_0, Dr_0_0] ∧ OSl OTRule 183 5 Φ' Dr_0_0 sr_0_0 r)) := by
 refine eN func76 rfl ntmps76 rfl w0 fun hF => ?_
 unfold m_l_toRuleS at h
 refine atr 7 [] rfl <| lnr ph0 rfl ?_
 obtain ⟨x1, hx1, h⟩ := bs h
 refine le' (e_make (R := OTRule) Sl_45 Zr_183 By_183 rfl rfl rfl (fun _ => ⟨.slice none 0 0, [], .slice none 0 0, .slice none 0 0, [], rfl, rfl, OSl.nil _ _ _ _, OSl.nil _ _ _ _, OSl.nil _ _ _ _⟩) rfl rfl (Int.le_refl _) hx1 (mk_le hx1)) rfl ?_
 rintro v1 Φ_1 D1 ⟨fr1, h1⟩
 refine wl0 <| art 8 [] rfl ?_
 refine lin (σ := Hp × (List TRule) × List Nat × Int) (fun s => [(0, pv0), (3, v1), (4, iV s.2.2.2)]) (fun s => St w0 s.1 [] [s.2.2.1, ob v1]) (fun m s => m_l_toRuleS_l1 N p0 m s.2.1 s.2.2.2 = some r ∧ (OSl OTRule 183 5 s.1 s.2.2.1 v1 s.2.1)) (Φ_1, x1, [], 0) N ⟨h, h1⟩ (sx [0, 0] []) (fun n1 ih1 s hm => ?_)
 obtain ⟨Φ_2, s1, D2, s2⟩ := s
 obtain ⟨h, k1⟩ := hm
 dsimp only at h k1 ⊢
 unfold m_l_toRuleS_l1 at h
 refine atr 5 [] rfl <| lnr ph0 rfl <| la rfl <| en ?_
 refine ch h rfl ?_ ?_ <;> intro h
 ·refine atr 8 [] rfl ?_
  obtain ⟨x2, hx2, h⟩ := bs h
  obtain ⟨cs1, F1, -, g1, hb1, hs1, r1⟩ := ph0.el (idx_some hx2).2.2
  obtain ⟨v2, G1, v3, G2, v4, G3, rfl, rfl, h2, h3, h4⟩ := r1
  refine lia ph0 hx2 rfl <| lhx 0 5 g1 rfl <| kab h rfl rfl rfl (fun b z q => m_l_toRule_ok N b x2 (h2.y z) (h3.y z) (h4.y z) q) ?_
  rintro x3 h v5 Φ_3 F2 ⟨ap1, fr2, v6, D3, v7, v8, D4, rfl, rfl, h5, h6, h7⟩
  replace k1 := k1.fr fr2 (ap1.q 1 rfl) (ap1.q 0 rfl)
  obtain ⟨x4, hx4, h⟩ := bs h
  obtain ⟨cs2, F3, -, g2, hb2, hs2, r2⟩ := k1.elS (idx_some hx4).2.2
  obtain ⟨v9, D5, v10, v11, D6, rfl, rfl, h8, h9, h10⟩ := r2
  have h11 := h8.rslG OTPat.gives
  have h12 := h9.rsl
  have h13 := h10.rslG OTAct.gives
  refine lio k1 hx4 rfl ?_
  have r3 : OTRule Φ_3 ((ob v6 ++ D3) ++ ((ob v7 ++ []) ++ ((ob v8 ++ D4)))) [.string x3.Name, iV x3.Sal, v6, v7, v8] x3 := ⟨v6, D3, v7, v8, D4, rfl, rfl, h5, h6, h7⟩
  refine lu (u_setO (js := [6]) (Rr := [ob v6, D3, ob v7, ob v8, D4, D2]) (vs := [.string x3.Name, iV x3.Sal, v6, v7, v8]) (x' := x3) OTRule.lasts Sz_183 rfl rfl rfl rfl ⟨rfl, rfl, h5.one, h6.one, h7.one, trivial⟩ rfl k1 (idx_lt hx4) r3 (OTRule.knows _ _ _ _ r3) (fun ap => ap.q 5 rfl) (fun ap => by simpa [ob_nil] using (Dj.app (ap.q 0 rfl) (Dj.app (ap.q 1 rfl) (Dj.app (ap.q 2 rfl) (Dj.app (ap.q 3 rfl) (ap.q 4 rfl))))))) rfl ?_
  rintro Φ_4 D7 ⟨⟨ap2, fr3⟩, sp1, h14⟩
  refine wlL [D7, ob v1] (smg [6, 1, 1, 1, 1, 1] rfl (by simpa [List.append_assoc, ob_nil] using sp1)) <| art 7 [] rfl ?_
  exact lb [0, 0] [] (ih1 (_, _, _, _) ⟨h, h14⟩)
 refine att 6 [] rfl ?_
 exact rtg [1, 0] hF (resOk.one rfl) rfl (by cases h; exact fun w1 hw => ⟨v1, D2, rfl, rfl, k1⟩)
theorem m_l_toDef_ok (w0 : Base Ψ Φ []) (p0 : TDef) (ph0_0 : RSl RTRule 5 Ψ pG0_0 pv0_0 p0.Rules) {r : TDef} (h : m_l_toDef N p0 = some r) :
  Calls prog 19 [.agg [.string p0.Name, pv0_0].toArray].toArray w0.w (PostG Φ w0.w [] (fun Φ' Fs v => ∃ (sr_0_0 : Value) (Dr_0_0 : List Nat), v = .agg [.string r.Name, sr_0_0].toArray ∧ Fs = [ob sr_0_0, Dr_0_0] ∧ OSl OTRule 183 5 Φ' Dr_0_0 sr_0_0 r.Rules)) := by
 refine eN func19 rfl ntmps19 rfl w0 fun hF => ?_
 unfold m_l_toDef at h
 refine sr <| lbx rfl fun b_1 => lnz Zr_47 rfl fun b_2 => en <| sr <| lnz Zr_47 rfl fun b_3 => arr 6 [0, 64, 0] rfl <| so1 0 Sz_9 rfl rfl ?_
 refine arr 5 [1, 64] rfl <| kab h rfl rfl rfl (fun b z q => m_l_toRuleS_ok N b p0.Rules (ph0_0.y z) q) ?_
 rintro x1 h v1 Φ_1 F1 ⟨ap1, fr1, v2, D1, rfl, rfl, h1⟩
 refine lf Fld_47_1 rfl rfl rfl <| so1 0 Sz_45 rfl h1.one ?_
 refine arr 4 [2] rfl <| soN 1 Sz_47 rfl ⟨rfl, h1.one, trivial⟩ rfl ?_
 refine en ?_
 exact rtg [0, 0] hF (resOk.one (rv_cell Tn_47 rfl (fun w1 hw => hw.rgO (i := 1) rfl 0 2 [.string p0.Name, v1] rfl) rfl)) rfl (by cases h; exact fun w1 hw => ⟨v1, D1, rfl, rfl, h1⟩)
theorem m_l_toValS_ok (w0 : Base Ψ Φ []) (p0 : (List TVal)) (ph0 : RSl RTVal 3 Ψ pG0 pv0 p0) {r : (List TVal)} (h : m_l_toValS N p0 = some r) :
  Calls prog 274 [pv0].toArray w0.w (PostG Φ w0.w [] (fun Φ' Fs v => ∃ (sr_0_0 : Value), v = sr_0_0 ∧ Fs = [ob sr_0_0] ∧ OSl RTVal 204 3 Φ' [] sr_0_0 r)) := by
 refine eN func274 rfl ntmps274 rfl w0 fun hF => ?_
 unfold m_l_toValS at h
 refine atr 7 [] rfl <| lnr ph0 rfl ?_
 obtain ⟨x1, hx1, h⟩ := bs h
 refine le' (e_make (R := RTVal) Sl_78 Zr_204 By_204 rfl rfl rfl (fun _ => ⟨rfl, rfl⟩) rfl rfl (Int.le_refl _) hx1 (mk_le hx1)) rfl ?_
 rintro v1 Φ_1 D1 ⟨fr1, h1⟩
 refine art 8 [] rfl ?_
 refine lin (σ := Hp × (List TVal) × Int) (fun s => [(0, pv0), (3, v1), (4, iV s.2.2)]) (fun s => St w0 s.1 [] [ob v1]) (fun m s => m_l_toValS_l1 N p0 m s.2.1 s.2.2 = some r ∧ (OSl RTVal 204 3 s.1 [] v1 s.2.1)) (Φ_1, x1, 0) N ⟨h, h1⟩ (sx [0] []) (fun n1 ih1 s hm => ?_)
 obtain ⟨Φ_2, s1, s2⟩ := s
 obtain ⟨h, k1⟩ := hm
 dsimp only at h k1 ⊢
 unfold m_l_toValS_l1 at h
 refine atr 5 [] rfl <| lnr ph0 rfl <| la rfl <| en ?_
 refine ch h rfl ?_ ?_ <;> intro h
 ·refine atr 8 [] rfl ?_
  obtain ⟨x2, hx2, h⟩ := bs h
  obtain ⟨cs1, F1, -, g1, hb1, hs1, r1⟩ := ph0.el (idx_some hx2).2.2
  obtain ⟨rfl, -⟩ := r1
  refine lia ph0 hx2 rfl <| lhx 0 3 g1 rfl <| qc h (m_l_toVal_ok N · x2 ·) rfl rfl rfl fun x3 h => ?_
  obtain ⟨x4, hx4, h⟩ := bs h
  obtain ⟨cs2, F2, -, g2, hb2, hs2, r2⟩ := k1.elS (idx_some hx4).2.2
  obtain ⟨rfl, -⟩ := r2
  refine lio k1 hx4 rfl <| lu (u_setF (js := [0]) (Rr := []) (vs := [iV x3.K, iV x3.N, .string x3.S]) (x' := x3) RTVal.lasts RTVal.flat Sz_204 rfl rfl rfl rfl ⟨rfl, rfl, rfl, trivial⟩ rfl k1 (idx_lt hx4) ⟨rfl, rfl⟩) rfl ?_
  rintro Φ_3 D2 ⟨⟨ap1, fr2⟩, h2⟩
  refine art 7 [] rfl ?_
  exact lb [0] [] (ih1 (_, _, _) ⟨h, h2⟩)
 refine att 6 [] rfl ?_
 exact rtg [0] hF (resOk.one rfl) rfl (by cases h; exact fun w1 hw => ⟨v1, rfl, rfl, k1⟩)
theorem m_l_toFact_ok (w0 : Base Ψ Φ []) (p0 : TFact) (ph0_0 : RSl RTVal 3 Ψ pG0_0 pv0_0 p0.Fields) {r : TFact} (h : m_l_toFact N p0 = some r) :
  Calls prog 277 [.agg [.string p0.Kind, pv0_0].toArray].toArray w0.w (PostG Φ w0.w [] (fun Φ' Fs v => ∃ (sr_0_0 : Value), v = .agg [.string r.Kind, sr_0_0].toArray ∧ Fs = [ob sr_0_0] ∧ OSl RTVal 204 3 Φ' [] sr_0_0 r.Fields)) := by
 refine eN func277 rfl ntmps277 rfl w0 fun hF => ?_
 unfold m_l_toFact at h
 refine sr <| lbx rfl fun b_1 => lnz Zr_80 rfl fun b_2 => en <| sr <| lnz Zr_80 rfl fun b_3 => arr 6 [0, 64, 0] rfl <| so1 0 Sz_9 rfl rfl ?_
 refine arr 5 [1, 64] rfl <| kab h rfl rfl rfl (fun b z q => m_l_toValS_ok N b p0.Fields (ph0_0.y z) q) ?_
 rintro x1 h v1 Φ_1 F1 ⟨ap1, fr1, v2, rfl, rfl, h1⟩
 refine lf Fld_80_1 rfl rfl rfl <| so1 0 Sz_78 rfl h1.one ?_
 refine arr 4 [2] rfl <| soN 1 Sz_80 rfl ⟨rfl, h1.one, trivial⟩ rfl ?_
 refine en ?_
 exact rtg [0] hF (resOk.one (rv_cell Tn_80 rfl (fun w1 hw => hw.rgO (i := 1) rfl 0 2 [.string p0.Kind, v1] rfl) rfl)) rfl (by cases h; exact fun w1 hw => ⟨v1, rfl, rfl, h1⟩)
theorem m_l_toItem_ok (w0 : Base Ψ Φ []) (p0 : TItem) (ph0_0 : RSl RTVal 3 Ψ pG0_0 pv0_0 p0.F.Fields) {r : TItem} (h : m_l_toItem N p0 = some r) :
  Calls prog 180 [.agg [iV p0.Id, .string p0.F.Kind, pv0_0].toArray].toArray w0.w (PostG Φ w0.w [] (fun Φ' Fs v => ∃ (sr_0_0 : Value), v = .agg [iV r.Id, .string r.F.Kind, sr_0_0].toArray ∧ Fs = [ob sr_0_0] ∧ OSl RTVal 204 3 Φ' [] sr_0_0 r.F.Fields)) := by
 refine eN func180 rfl ntmps180 rfl w0 fun hF => ?_
 unfold m_l_toItem at h
 refine sr <| lbx rfl fun b_1 => lnz Zr_107 rfl fun b_2 => en <| sr <| lnz Zr_107 rfl fun b_3 => arr 6 [0, 64, 0] rfl <| so1 0 Sz_3 rfl rfl ?_
 refine arr 5 [1, 66] rfl <| kab h rfl rfl rfl (fun b z q => m_l_toFact_ok N b p0.F (ph0_0.y z) q) ?_
 rintro x1 h v1 Φ_1 F1 ⟨ap1, fr1, v2, rfl, rfl, h1⟩
 refine lf Fld_107_1 rfl rfl rfl <| soN 0 Sz_80 rfl ⟨rfl, h1.one, trivial⟩ rfl ?_
 refine arr 4 [3] rfl <| soN 1 Sz_107 rfl ⟨rfl, rfl, h1.one, trivial⟩ rfl ?_
 refine en ?_
 exact rtg [0] hF (resOk.one (rv_cell Tn_107 rfl (fun w1 hw => hw.rgO (i := 1) rfl 0 3 [iV p0.Id, .string x1.Kind, v2] rfl) rfl)) rfl (by cases h; exact fun w1 hw => ⟨v2, rfl, rfl, h1⟩)
theorem m_l_toItemS_ok (w0 : Base Ψ Φ []) (p0 : (List TItem)) (ph0 : RSl RTItem 3 Ψ pG0 pv0 p0) {r : (List TItem)} (h : m_l_toItemS N p0 = some r) :
  Calls prog 81 [pv0].toArray w0.w (PostG Φ w0.w [] (fun Φ' Fs v => ∃ (sr_0_0 : Value) (Dr_0_0 : List Nat), v = sr_0_0 ∧ Fs = [ob sr_0_0, Dr_0_0] ∧ OSl OTItem 107 3 Φ' Dr_0_0 sr_0_0 r)) := by
 refine eN func81 rfl ntmps81 rfl w0 fun hF => ?_
 unfold m_l_toItemS at h
 refine atr 7 [] rfl <| lnr ph0 rfl ?_
 obtain ⟨x1, hx1, h⟩ := bs h
 refine le' (e_make (R := OTItem) Sl_55 Zr_107 By_107 rfl rfl rfl (fun _ => ⟨.slice none 0 0, rfl, rfl, OSl.nil _ _ _ _⟩) rfl rfl (Int.le_refl _) hx1 (mk_le hx1)) rfl ?_
 rintro v1 Φ_1 D1 ⟨fr1, h1⟩
 refine wl0 <| art 8 [] rfl ?_
 refine lin (σ := Hp × (List TItem) × List Nat × Int) (fun s => [(0, pv0), (3, v1), (4, iV s.2.2.2)]) (fun s => St w0 s.1 [] [s.2.2.1, ob v1]) (fun m s => m_l_toItemS_l1 N p0 m s.2.1 s.2.2.2 = some r ∧ (OSl OTItem 107 3 s.1 s.2.2.1 v1 s.2.1)) (Φ_1, x1, [], 0) N ⟨h, h1⟩ (sx [0, 0] []) (fun n1 ih1 s hm => ?_)
 obtain ⟨Φ_2, s1, D2, s2⟩ := s
 obtain ⟨h, k1⟩ := hm
 dsimp only at h k1 ⊢
 unfold m_l_toItemS_l1 at h
 refine atr 5 [] rfl <| lnr ph0 rfl <| la rfl <| en ?_
 refine ch h rfl ?_ ?_ <;> intro h
 ·refine atr 8 [] rfl ?_
  obtain ⟨x2, hx2, h⟩ := bs h
  obtain ⟨cs1, F1, -, g1, hb1, hs1, r1⟩ := ph0.el (idx_some hx2).2.2
  obtain ⟨v2, G1, rfl, hq1, h2⟩ := r1
  obtain rfl := hq1.symm
  refine lia ph0 hx2 rfl <| lhx 0 3 g1 rfl <| kab h rfl rfl rfl (fun b z q => m_l_toItem_ok N b x2 (h2.y z) q) ?_
  rintro x3 h v3 Φ_3 F2 ⟨ap1, fr2, v4, rfl, rfl, h3⟩
  replace k1 := k1.fr fr2 (ap1.q 1 rfl) (ap1.q 0 rfl)
  obtain ⟨x4, hx4, h⟩ := bs h
  obtain ⟨cs2, F3, -, g2, hb2, hs2, r2⟩ := k1.elS (idx_some hx4).2.2
  obtain ⟨v5, rfl, rfl, h4⟩ := r2
  have h5 := h4.rsl
  refine lio k1 hx4 rfl ?_
  have r3 : OTItem Φ_3 ((ob v4 ++ [])) [iV x3.Id, .string x3.F.Kind, v4] x3 := ⟨v4, rfl, rfl, h3⟩
  refine lu (u_setO (js := [2]) (Rr := [ob v4, D2]) (vs := [iV x3.Id, .string x3.F.Kind, v4]) (x' := x3) OTItem.lasts Sz_107 rfl rfl rfl rfl ⟨rfl, rfl, h3.one, trivial⟩ rfl k1 (idx_lt hx4) r3 (OTItem.knows _ _ _ _ r3) (fun ap => ap.q 1 rfl) (fun ap => by simpa [ob_nil] using (ap.q 0 rfl))) rfl ?_
  rintro Φ_4 D3 ⟨⟨ap2, fr3⟩, sp1, h6⟩
  refine wlL [D3, ob v1] (smg [2, 1] rfl (by simpa [List.append_assoc, ob_nil] using sp1)) <| art 7 [] rfl ?_
  exact lb [0, 0] [] (ih1 (_, _, _, _) ⟨h, h6⟩)
 refine att 6 [] rfl ?_
 exact rtg [1, 0] hF (resOk.one rfl) rfl (by cases h; exact fun w1 hw => ⟨v1, D2, rfl, rfl, k1⟩)
theorem m_l_toStore_ok (w0 : Base Ψ Φ []) (p0 : TStore) (ph0_0 : RSl RTItem 3 Ψ pG0_0 pv0_0 p0.Items) {r : TStore} (h : m_l_toStore N p0 = some r) :
  Calls prog 22 [.agg [pv0_0, iV p0.Next].toArray].toArray w0.w (PostG Φ w0.w [] (fun Φ' Fs v => ∃ (sr_0_0 : Value) (Dr_0_0 : List Nat), v = .agg [sr_0_0, iV r.Next].toArray ∧ Fs = [ob sr_0_0, Dr_0_0] ∧ OSl OTItem 107 3 Φ' Dr_0_0 sr_0_0 r.Items)) := by
 refine eN func22 rfl ntmps22 rfl w0 fun hF => ?_
 unfold m_l_toStore at h
 refine sr <| lbx rfl fun b_1 => lnz Zr_57 rfl fun b_2 => en <| sr <| lnz Zr_57 rfl fun b_3 => arr 5 [0, 64] rfl <| kab h rfl rfl rfl (fun b z q => m_l_toItemS_ok N b p0.Items (ph0_0.y z) q) ?_
 rintro x1 h v1 Φ_1 F1 ⟨ap1, fr1, v2, D1, rfl, rfl, h1⟩
 refine lf Fld_57_0 rfl rfl rfl <| so1 0 Sz_55 rfl h1.one ?_
 refine arr 6 [1, 64, 1] rfl <| so1 0 Sz_3 rfl rfl ?_
 refine arr 4 [2] rfl <| soN 1 Sz_57 rfl ⟨h1.one, rfl, trivial⟩ rfl ?_
 refine en ?_
 exact rtg [0, 0] hF (resOk.one (rv_cell Tn_57 rfl (fun w1 hw => hw.rgO (i := 1) rfl 0 2 [v1, iV p0.Next] rfl) rfl)) rfl (by cases h; exact fun w1 hw => ⟨v1, D1, rfl, rfl, h1⟩)
theorem m_l_eqIntS_ok (w0 : Base Ψ Φ []) (p0 : (List Int)) (p1 : (List Int)) (ph0 : RSl (RI .i64) 1 Ψ pG0 pv0 p0) (ph1 : RSl (RI .i64) 1 Ψ pG1 pv1 p1) {r : Bool} (h : m_l_eqIntS N p0 p1 = some r) :
  CB w0 prog 242 [pv0, pv1] (.bool r) := by
 refine eN func242 rfl ntmps242 rfl w0 fun hF => ?_
 unfold m_l_eqIntS at h
 refine atr 8 [] rfl <| lnr ph0 rfl <| la rfl <| lnr ph1 rfl <| la rfl <| en ?_
 refine ch h rfl ?_ ?_ <;> intro h
 ·refine att 4 [] rfl ?_
  exact rt hF h
 refine att 7 [] rfl ?_
 refine lin (σ := Int) (fun s => [(0, pv0), (1, pv1), (5, iV s)]) (fun s => St w0 Φ [] []) (fun m s => m_l_eqIntS_l1 N p0 p1 m s = some r) (0) N h (sx [] []) (fun n1 ih1 s hm => ?_)
 revert hm; revert s; intro s1 hm
 have h : m_l_eqIntS_l1 N p0 p1 (n1 + 1) s1 = some r := hm
 show WT _ _ [(0, pv0), (1, pv1), (5, iV s1)] (St w0 Φ [] [])
 unfold m_l_eqIntS_l1 at h
 refine atr 5 [] rfl <| lnr ph0 rfl <| la rfl <| en ?_
 refine ch h rfl ?_ ?_ <;> intro h
 ·refine att 4 [] rfl <| WT.draw mixed (by kernel_rfl) (fun _ h => h.drew) <| aqq 2 [] rfl ?_
  obtain ⟨x1, hx1, h⟩ := bs h
  obtain ⟨cs1, F1, -, g1, hb1, hs1, r1⟩ := ph0.el (idx_some hx1).2.2
  obtain ⟨rfl, -⟩ := r1
  refine qq (q_indexAddr Sl_75 rfl rfl ph0 hx1) rfl <| qq (q_load1 T1_3 rfl (fun w1 hw => (g1.of_eq 0 1 rfl rfl : rg _ _ _ [iV x1]).rangeAt hw.in0)) rfl <| aqq 2 [] rfl ?_
  obtain ⟨x2, hx2, h⟩ := bs h
  obtain ⟨cs2, F2, -, g2, hb2, hs2, r2⟩ := ph1.el (idx_some hx2).2.2
  obtain ⟨rfl, -⟩ := r2
  refine qq (q_indexAddr Sl_75 rfl rfl ph1 hx2) rfl <| qq (q_load1 T1_3 rfl (fun w1 hw => (g2.of_eq 0 1 rfl rfl : rg _ _ _ [iV x2]).rangeAt hw.in0)) rfl <| aqt 2 [] rfl ?_
  refine ch h rfl ?_ ?_ <;> intro h
  ·refine att 4 [] rfl ?_
   exact rt hF h
  refine att 7 [] rfl ?_
  exact lb [] [] (ih1 _ h)
 refine att 5 [] rfl ?_
 exact rt hF h
theorem m_l_eqIds_ok (w0 : Base Ψ Φ []) (p0 : TIds) (p1 : TIds) (ph0_0 : RSl (RI .i64) 1 Ψ pG0_0 pv0_0 p0.L) (ph1_0 : RSl (RI .i64) 1 Ψ pG1_0 pv1_0 p1.L) {r : Bool} (h : m_l_eqIds N p0 p1 = some r) :
  CB w0 prog 189 [.agg [pv0_0].toArray, .agg [pv1_0].toArray] (.bool r) := by
 refine eN func189 rfl ntmps189 rfl w0 fun hF => ?_
 unfold m_l_eqIds at h
 refine sr ?_
 refine ln (n_box (C := #[pv0_0]) rfl rfl) rfl (fun b_1 => ?_)
 refine ln (n_box (C := #[pv1_0]) rfl rfl) rfl (fun b_2 => ?_)
 refine arr 9 [0, 32, 0, 0] rfl <| qd h (m_l_eqIntS_ok N · p0.L p1.L ph0_0 ph1_0 ·) rfl rfl rfl fun x1 h => la rfl <| en ?_
 refine ch h rfl ?_ ?_ <;> intro h
 ·refine att 4 [] rfl ?_
  exact rt hF h
 refine att 5 [] rfl ?_
 exact rt hF h
theorem m_l_eqIdsS_ok (w0 : Base Ψ Φ []) (p0 : (List TIds)) (p1 : (List TIds)) (ph0 : RSl RTIds 1 Ψ pG0 pv0 p0) (ph1 : RSl RTIds 1 Ψ pG1 pv1 p1) {r : Bool} (h : m_l_eqIdsS N p0 p1 = some r) :
  CB w0 prog 85 [pv0, pv1] (.bool r) := by
 refine eN func85 rfl ntmps85 rfl w0 fun hF => ?_
 unfold m_l_eqIdsS at h
 refine atr 8 [] rfl <| lnr ph0 rfl <| la rfl <| lnr ph1 rfl <| la rfl <| en ?_
 refine ch h rfl ?_ ?_ <;> intro h
 ·refine att 4 [] rfl ?_
  exact rt hF h
 refine att 7 [] rfl ?_
 refine lin (σ := Int) (fun s => [(0, pv0), (1, pv1), (5, iV s)]) (fun s => St w0 Φ [] []) (fun m s => m_l_eqIdsS_l1 N p0 p1 m s = some r) (0) N h (sx [] []) (fun n1 ih1 s hm => ?_)
 revert hm; revert s; intro s1 hm
 have h : m_l_eqIdsS_l1 N p0 p1 (n1 + 1) s1 = some r := hm
 show WT _ _ [(0, pv0), (1, pv1), (5, iV s1)] (St w0 Φ [] [])
 unfold m_l_eqIdsS_l1 at h
 refine atr 5 [] rfl <| lnr ph0 rfl <| la rfl <| en ?_
 refine ch h rfl ?_ ?_ <;> intro h
 ·refine att 4 [] rfl <| WT.draw mixed (by kernel_rfl) (fun _ h => h.drew) <| aqq 2 [] rfl ?_
  obtain ⟨x1, hx1, h⟩ := bs h
  obtain ⟨cs1, F1, -, g1, hb1, hs1, r1⟩ := ph0.el (idx_some hx1).2.2
  obtain ⟨v1, G1, rfl, hq1, h1⟩ := r1
  obtain rfl := hq1.symm
  refine qq (q_indexAddr Sl_40 rfl rfl ph0 hx1) rfl <| qq (q_loadN Tn_77 rfl (fun w1 hw => (g1.of_eq 0 1 rfl rfl : rg _ _ _ [v1]).rangeAt hw.in0) rfl) rfl <| aqq 2 [] rfl ?_
  obtain ⟨x2, hx2, h⟩ := bs h
  obtain ⟨cs2, F2, -, g2, hb2, hs2, r2⟩ := ph1.el (idx_some hx2).2.2
  obtain ⟨v2, G2, rfl, hq2, h2⟩ := r2
  obtain rfl := hq2.symm
  refine qq (q_indexAddr Sl_40 rfl rfl ph1 hx2) rfl <| qq (q_loadN Tn_77 rfl (fun w1 hw => (g2.of_eq 0 1 rfl rfl : rg _ _ _ [v2]).rangeAt hw.in0) rfl) rfl ?_
  obtain ⟨x3, hx3, h⟩ := bs h
  refine qp (p_call Fun_189 rfl (fun w1 hw => m_l_eqIds_ok N (ba hw.in0) x1 x2 h1 h2 hx3)) rfl <| aqt 2 [] rfl ?_
  refine ch h rfl ?_ ?_ <;> intro h
  ·refine att 4 [] rfl ?_
   exact rt hF h
  refine att 7 [] rfl ?_
  exact lb [] [] (ih1 _ h)
 refine att 5 [] rfl ?_
 exact rt hF h
theorem m_l_eqTok_ok (w0 : Base Ψ Φ []) (p0 : TTok) (p1 : TTok) (ph0_0 : RSl (RI .i64) 1 Ψ pG0_0 pv0_0 p0.Ids) (ph0_1 : RSl (RI .i64) 1 Ψ pG0_1 pv0_1 p0.Hits) (ph1_0 : RSl (RI .i64) 1 Ψ pG1_0 pv1_0 p1.Ids) (ph1_1 : RSl (RI .i64) 1 Ψ pG1_1 pv1_1 p1.Hits) {r : Bool} (h : m_l_eqTok N p0 p1 = some r) :
  CB w0 prog 414 [.agg [pv0_0, pv0_1].toArray, .agg [pv1_0, pv1_1].toArray] (.bool r) := by
 refine eN func414 rfl ntmps414 rfl w0 fun hF => ?_
 unfold m_l_eqTok at h
 refine sr <| lbx rfl fun b_1 => lbx rfl fun b_2 => arr 9 [0, 32, 0, 0] rfl <| qd h (m_l_eqIntS_ok N · p0.Ids p1.Ids ph0_0 ph1_0 ·) rfl rfl rfl fun x1 h => la rfl <| en ?_
 refine ch h rfl ?_ ?_ <;> intro h
 ·refine att 4 [] rfl ?_
  exact rt hF h
 refine atr 8 [1, 32, 1, 0] rfl <| qd h (m_l_eqIntS_ok N · p0.Hits p1.Hits ph0_1 ph1_1 ·) rfl rfl rfl fun x2 h => la rfl <| en ?_
 refine ch h rfl ?_ ?_ <;> intro h
 ·refine att 4 [] rfl ?_
  exact rt hF h
 refine att 5 [] rfl ?_
 exact rt hF h
theorem m_l_eqTokS_ok (w0 : Base Ψ Φ []) (p0 : (List TTok)) (p1 : (List TTok)) (ph0 : RSl RTTok 2 Ψ pG0 pv0 p0) (ph1 : RSl RTTok 2 Ψ pG1 pv1 p1) {r : Bool} (h : m_l_eqTokS N p0 p1 = some r) :
  CB w0 prog 388 [pv0, pv1] (.bool r) := by
 refine eN func388 rfl ntmps388 rfl w0 fun hF => ?_
 unfold m_l_eqTokS at h
 refine atr 8 [] rfl <| lnr ph0 rfl <| la rfl <| lnr ph1 rfl <| la rfl <| en ?_
 refine ch h rfl ?_ ?_ <;> intro h
 ·refine att 4 [] rfl ?_
  exact rt hF h
 refine att 7 [] rfl ?_
 refine lin (σ := Int) (fun s => [(0, pv0), (1, pv1), (5, iV s)]) (fun s => St w0 Φ [] []) (fun m s => m_l_eqTokS_l1 N p0 p1 m s = some r) (0) N h (sx [] []) (fun n1 ih1 s hm => ?_)
 revert hm; revert s; intro s1 hm
 have h : m_l_eqTokS_l1 N p0 p1 (n1 + 1) s1 = some r := hm
 show WT _ _ [(0, pv0), (1, pv1), (5, iV s1)] (St w0 Φ [] [])
 unfold m_l_eqTokS_l1 at h
 refine atr 5 [] rfl <| lnr ph0 rfl <| la rfl <| en ?_
 refine ch h rfl ?_ ?_ <;> intro h
 ·refine att 4 [] rfl <| WT.draw mixed (by kernel_rfl) (fun _ h => h.drew) <| aqq 2 [] rfl ?_
  obtain ⟨x1, hx1, h⟩ := bs h
  obtain ⟨cs1, F1, -, g1, hb1, hs1, r1⟩ := ph0.el (idx_some hx1).2.2
  obtain ⟨v1, G1, v2, G2, rfl, rfl, h1, h2⟩ := r1
  refine qq (q_indexAddr Sl_154 rfl rfl ph0 hx1) rfl <| qq (q_loadN Tn_185 rfl (fun w1 hw => (g1.of_eq 0 2 rfl rfl : rg _ _ _ [v1, v2]).rangeAt hw.in0) rfl) rfl <| aqq 2 [] rfl ?_
  obtain ⟨x2, hx2, h⟩ := bs h
  obtain ⟨cs2, F2, -, g2, hb2, hs2, r2⟩ := ph1.el (idx_some hx2).2.2
  obtain ⟨v3, G3, v4, G4, rfl, rfl, h3, h4⟩ := r2
  refine qq (q_indexAddr Sl_154 rfl rfl ph1 hx2) rfl <| qq (q_loadN Tn_185 rfl (fun w1 hw => (g2.of_eq 0 2 rfl rfl : rg _ _ _ [v3, v4]).rangeAt hw.in0) rfl) rfl ?_
  obtain ⟨x3, hx3, h⟩ := bs h
  refine qp (p_call Fun_414 rfl (fun w1 hw => m_l_eqTok_ok N (ba hw.in0) x1 x2 h1 h2 h3 h4 hx3)) rfl <| aqt 2 [] rfl ?_
  refine ch h rfl ?_ ?_ <;> intro h
  ·refine att 4 [] rfl ?_
   exact rt hF h
  refine att 7 [] rfl ?_
  exact lb [] [] (ih1 _ h)
 refine att 5 [] rfl ?_
 exact rt hF h
theorem m_l_eqLevel_ok (w0 : Base Ψ Φ []) (p0 : TLevel) (p1 : TLevel) (ph0_0 : RSl RTTok 2 Ψ pG0_0 pv0_0 p0.Toks) (ph1_0 : RSl RTTok 2 Ψ pG1_0 pv1_0 p1.Toks) {r : Bool} (h : m_l_eqLevel N p0 p1 = some r) :
  CB w0 prog 353 [.agg [pv0_0].toArray, .agg [pv1_0].toArray] (.bool r) := by
 refine eN func353 rfl ntmps353 rfl w0 fun hF => ?_
 unfold m_l_eqLevel at h
 refine sr ?_
 refine ln (n_box (C := #[pv0_0]) rfl rfl) rfl (fun b_1 => ?_)
 refine ln (n_box (C := #[pv1_0]) rfl rfl) rfl (fun b_2 => ?_)
 refine arr 9 [0, 32, 0, 0] rfl <| qd h (m_l_eqTokS_ok N · p0.Toks p1.Toks ph0_0 ph1_0 ·) rfl rfl rfl fun x1 h => la rfl <| en ?_
 refine ch h rfl ?_ ?_ <;> intro h
 ·refine att 4 [] rfl ?_
  exact rt hF h
 refine att 5 [] rfl ?_
 exact rt hF h
theorem m_l_eqLevelS_ok (w0 : Base Ψ Φ []) (p0 : (List TLevel)) (p1 : (List TLevel)) (ph0 : RSl RTLevel 1 Ψ pG0 pv0 p0) (ph1 : RSl RTLevel 1 Ψ pG1 pv1 p1) {r : Bool} (h : m_l_eqLevelS N p0 p1 = some r) :
  CB w0 prog 282 [pv0, pv1] (.bool r) := by
 refine eN func282 rfl ntmps282 rfl w0 fun hF => ?_
 unfold m_l_eqLevelS at h
 refine atr 8 [] rfl <| lnr ph0 rfl <| la rfl <| lnr ph1 rfl <| la rfl <| en ?_
 refine ch h rfl ?_ ?_ <;> intro h
 ·refine att 4 [] rfl ?_
  exact rt hF h
 refine att 7 [] rfl ?_
 refine lin (σ := Int) (fun s => [(0, pv0), (1, pv1), (5, iV s)]) (fun s => St w0 Φ [] []) (fun m s => m_l_eqLevelS_l1 N p0 p1 m s = some r) (0) N h (sx [] []) (fun n1 ih1 s hm => ?_)
 revert hm; revert s; intro s1 hm
 have h : m_l_eqLevelS_l1 N p0 p1 (n1 + 1) s1 = some r := hm
 show WT _ _ [(0, pv0), (1, pv1), (5, iV s1)] (St w0 Φ [] [])
 unfold m_l_eqLevelS_l1 at h
 refine atr 5 [] rfl <| lnr ph0 rfl <| la rfl <| en ?_
 refine ch h rfl ?_ ?_ <;> intro h
 ·refine att 4 [] rfl <| WT.draw mixed (by kernel_rfl) (fun _ h => h.drew) <| aqq 2 [] rfl ?_
  obtain ⟨x1, hx1, h⟩ := bs h
  obtain ⟨cs1, F1, -, g1, hb1, hs1, r1⟩ := ph0.el (idx_some hx1).2.2
  obtain ⟨v1, G1, rfl, hq1, h1⟩ := r1
  obtain rfl := hq1.symm
  refine qq (q_indexAddr Sl_150 rfl rfl ph0 hx1) rfl <| qq (q_loadN Tn_156 rfl (fun w1 hw => (g1.of_eq 0 1 rfl rfl : rg _ _ _ [v1]).rangeAt hw.in0) rfl) rfl <| aqq 2 [] rfl ?_
  obtain ⟨x2, hx2, h⟩ := bs h
  obtain ⟨cs2, F2, -, g2, hb2, hs2, r2⟩ := ph1.el (idx_some hx2).2.2
  obtain ⟨v2, G2, rfl, hq2, h2⟩ := r2
  obtain rfl := hq2.symm
  refine qq (q_indexAddr Sl_150 rfl rfl ph1 hx2) rfl <| qq (q_loadN Tn_156 rfl (fun w1 hw => (g2.of_eq 0 1 rfl rfl : rg _ _ _ [v2]).rangeAt hw.in0) rfl) rfl ?_
  obtain ⟨x3, hx3, h⟩ := bs h
  refine qp (p_call Fun_353 rfl (fun w1 hw => m_l_eqLevel_ok N (ba hw.in0) x1 x2 h1 h2 hx3)) rfl <| aqt 2 [] rfl ?_
  refine ch h rfl ?_ ?_ <;> intro h
  ·refine att 4 [] rfl ?_
   exact rt hF h
  refine att 7 [] rfl ?_
  exact lb [] [] (ih1 _ h)
 refine att 5 [] rfl ?_
 exact rt hF h
theorem m_l_eqRow_ok (w0 : Base Ψ Φ []) (p0 : TRow) (p1 : TRow) (ph0_0 : RSl RTLevel 1 Ψ pG0_0 pv0_0 p0.Levels) (ph1_0 : RSl RTLevel 1 Ψ pG1_0 pv1_0 p1.Levels) {r : Bool} (h : m_l_eqRow N p0 p1 = some r) :
  CB w0 prog 190 [.agg [pv0_0].toArray, .agg [pv1_0].toArray] (.bool r) := by
 refine eN func190 rfl ntmps190 rfl w0 fun hF => ?_
 unfold m_l_eqRow at h
 refine sr ?_
 refine ln (n_box (C := #[pv0_0]) rfl rfl) rfl (fun b_1 => ?_)
 refine ln (n_box (C := #[pv1_0]) rfl rfl) rfl (fun b_2 => ?_)
 refine arr 9 [0, 32, 0, 0] rfl <| qd h (m_l_eqLevelS_ok N · p0.Levels p1.Levels ph0_0 ph1_0 ·) rfl rfl rfl fun x1 h => la rfl <| en ?_
 refine ch h rfl ?_ ?_ <;> intro h
 ·refine att 4 [] rfl ?_
  exact rt hF h
 refine att 5 [] rfl ?_
 exact rt hF h
theorem m_l_eqRowS_ok (w0 : Base Ψ Φ []) (p0 : (List TRow)) (p1 : (List TRow)) (ph0 : RSl RTRow 1 Ψ pG0 pv0 p0) (ph1 : RSl RTRow 1 Ψ pG1 pv1 p1) {r : Bool} (h : m_l_eqRowS N p0 p1 = some r) :
  CB w0 prog 86 [pv0, pv1] (.bool r) := by
 refine eN func86 rfl ntmps86 rfl w0 fun hF => ?_
 unfold m_l_eqRowS at h
 refine atr 8 [] rfl <| lnr ph0 rfl <| la rfl <| lnr ph1 rfl <| la rfl <| en ?_
 refine ch h rfl ?_ ?_ <;> intro h
 ·refine att 4 [] rfl ?_
  exact rt hF h
 refine att 7 [] rfl ?_
 refine lin (σ := Int) (fun s => [(0, pv0), (1, pv1), (5, iV s)]) (fun s => St w0 Φ [] []) (fun m s => m_l_eqRowS_l1 N p0 p1 m s = some r) (0) N h (sx [] []) (fun n1 ih1 s hm => ?_)
 revert hm; revert s; intro s1 hm
 have h : m_l_eqRowS_l1 N p0 p1 (n1 + 1) s1 = some r := hm
 show WT _ _ [(0, pv0), (1, pv1), (5, iV s1)] (St w0 Φ [] [])
 unfold m_l_eqRowS_l1 at h
 refine atr 5 [] rfl <| lnr ph0 rfl <| la rfl <| en ?_
 refine ch h rfl ?_ ?_ <;> intro h
 ·refine att 4 [] rfl <| WT.draw mixed (by kernel_rfl) (fun _ h => h.drew) <| aqq 2 [] rfl ?_
  obtain ⟨x1, hx1, h⟩ := bs h
  obtain ⟨cs1, F1, -, g1, hb1, hs1, r1⟩ := ph0.el (idx_some hx1).2.2
  obtain ⟨v1, G1, rfl, hq1, h1⟩ := r1
  obtain rfl := hq1.symm
  refine qq (q_indexAddr Sl_41 rfl rfl ph0 hx1) rfl <| qq (q_loadN Tn_152 rfl (fun w1 hw => (g1.of_eq 0 1 rfl rfl : rg _ _ _ [v1]).rangeAt hw.in0) rfl) rfl <| aqq 2 [] rfl ?_
  obtain ⟨x2, hx2, h⟩ := bs h
  obtain ⟨cs2, F2, -, g2, hb2, hs2, r2⟩ := ph1.el (idx_some hx2).2.2
  obtain ⟨v2, G2, rfl, hq2, h2⟩ := r2
  obtain rfl := hq2.symm
  refine qq (q_indexAddr Sl_41 rfl rfl ph1 hx2) rfl <| qq (q_loadN Tn_152 rfl (fun w1 hw => (g2.of_eq 0 1 rfl rfl : rg _ _ _ [v2]).rangeAt hw.in0) rfl) rfl ?_
  obtain ⟨x3, hx3, h⟩ := bs h
  refine qp (p_call Fun_190 rfl (fun w1 hw => m_l_eqRow_ok N (ba hw.in0) x1 x2 h1 h2 hx3)) rfl <| aqt 2 [] rfl ?_
  refine ch h rfl ?_ ?_ <;> intro h
  ·refine att 4 [] rfl ?_
   exact rt hF h
  refine att 7 [] rfl ?_
  exact lb [] [] (ih1 _ h)
 refine att 5 [] rfl ?_
 exact rt hF h
theorem m_l_eqMem_ok (w0 : Base Ψ Φ []) (p0 : TMem) (p1 : TMem) (ph0_0 : RSl RTIds 1 Ψ pG0_0 pv0_0 p0.Alphas) (ph0_1 : RSl RTRow 1 Ψ pG0_1 pv0_1 p0.Rules) (ph1_0 : RSl RTIds 1 Ψ pG1_0 pv1_0 p1.Alphas) (ph1_1 : RSl RTRow 1 Ψ pG1_1 pv1_1 p1.Rules) {r : Bool} (h : m_l_eqMem N p0 p1 = some r) :
  CB w0 prog 24 [.agg [pv0_0, pv0_1].toArray, .agg [pv1_0, pv1_1].toArray] (.bool r) := by
 refine eN func24 rfl ntmps24 rfl w0 fun hF => ?_
 unfold m_l_eqMem at h
 refine sr <| lbx rfl fun b_1 => lbx rfl fun b_2 => arr 9 [0, 32, 0, 0] rfl <| qd h (m_l_eqIdsS_ok N · p0.Alphas p1.Alphas ph0_0 ph1_0 ·) rfl rfl rfl fun x1 h => la rfl <| en ?_
 refine ch h rfl ?_ ?_ <;> intro h
 ·refine att 4 [] rfl ?_
  exact rt hF h
 refine atr 8 [1, 32, 1, 0] rfl <| qd h (m_l_eqRowS_ok N · p0.Rules p1.Rules ph0_1 ph1_1 ·) rfl rfl rfl fun x2 h => la rfl <| en ?_
 refine ch h rfl ?_ ?_ <;> intro h
 ·refine att 4 [] rfl ?_
  exact rt hF h
 refine att 5 [] rfl ?_
 exact rt hF h
end Go.Proofs.YtdihjeeniojdmaaGreat
