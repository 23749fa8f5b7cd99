/- Printed by a program of ours: each Go function computes its Lean function. -/
import Derived.Test.YtelchcokfcdndaaGreatProg
import Derived.Test.YtelchcokfcdndaaGreatWAllMatchesMod
namespace Go.Proofs.YtelchcokfcdndaaGreat
open Eng
open Go.RowKit (Below)
set_option linter.unusedVariables false
set_option linter.unusedSimpArgs false

set_option maxRecDepth 100000
set_option maxHeartbeats 1000000
theorem mixed : Tryz.prog.follows .mixedOrders = true := by kernel_rfl
theorem Sl_22 : Sl Tryz.prog 22 5 1 = true := by kernel_rfl
theorem T1_5 : T1 Tryz.prog 5 = true := by kernel_rfl
theorem Ik_5 : Ik Tryz.prog 5 .u8 = true := by kernel_rfl
theorem Ik_3 : Ik Tryz.prog 3 .i64 = true := by kernel_rfl
theorem Pl_112 : Pl Tryz.prog 112 #[(0, 1), (1, 1), (2, 1)] = true := by kernel_rfl
theorem Zr_112 : (Tryz.prog.info? 112).map (·.zero) = some (some (.agg #[.slice none 0 0, .int .i64 0, .int .i64 0])) := by kernel_rfl
theorem Fld_112_2 : Fld Tryz.prog 112 2 2 = true := by kernel_rfl
theorem T1_3 : T1 Tryz.prog 3 = true := by kernel_rfl
theorem Sz_3 : Sz Tryz.prog 3 1 = true := by kernel_rfl
theorem Fld_112_1 : Fld Tryz.prog 112 1 1 = true := by kernel_rfl
theorem Fld_112_0 : Fld Tryz.prog 112 0 0 = true := by kernel_rfl
theorem T1_22 : T1 Tryz.prog 22 = true := by kernel_rfl
theorem Fun_120 : Fun Tryz.prog 120 = true := by kernel_rfl
theorem Sl_114 : Sl Tryz.prog 114 9 1 = true := by kernel_rfl
theorem Fun_73 : Fun Tryz.prog 73 = true := by kernel_rfl
theorem T1_9 : T1 Tryz.prog 9 = true := by kernel_rfl
theorem MC_9_0 : madeCells (Value.string ⟨#[]⟩ : Value).cells (0 * 1) = #[] := by kernel_rfl
theorem Zr_9 : (Tryz.prog.info? 9).map (·.zero) = some (some (.string ⟨#[]⟩)) := by kernel_rfl
theorem Fld_171_1 : Fld Tryz.prog 171 1 1 = true := by kernel_rfl
theorem T1_169 : T1 Tryz.prog 169 = true := by kernel_rfl
theorem Sl_169 : Sl Tryz.prog 169 137 5 = true := by kernel_rfl
theorem Fld_137_0 : Fld Tryz.prog 137 0 0 = true := by kernel_rfl
theorem Fld_137_1 : Fld Tryz.prog 137 1 1 = true := by kernel_rfl
theorem Fun_138 : Fun Tryz.prog 138 = true := by kernel_rfl
theorem MC_9_1 : madeCells (Value.string ⟨#[]⟩ : Value).cells (1 * 1) = #[.string ⟨#[]⟩] := by kernel_rfl
theorem Ei_9 : (Tryz.prog.info? 9).map (fun i => (i.zero, i.size, i.bytes)) = some (some (.string ⟨#[]⟩), 1, 16) := by kernel_rfl
theorem Fld_40_2 : Fld Tryz.prog 40 2 2 = true := by kernel_rfl
theorem T1_36 : T1 Tryz.prog 36 = true := by kernel_rfl
theorem Sl_36 : Sl Tryz.prog 36 171 3 = true := by kernel_rfl
theorem Tn_171 : Tn Tryz.prog 171 3 = true := by kernel_rfl
theorem Fun_137 : Fun Tryz.prog 137 = true := by kernel_rfl
theorem Fld_171_2 : Fld Tryz.prog 171 2 2 = true := by kernel_rfl
theorem T1_4 : T1 Tryz.prog 4 = true := by kernel_rfl
theorem Sl_41 : Sl Tryz.prog 41 3 1 = true := by kernel_rfl
theorem Zr_85 : (Tryz.prog.info? 85).map (·.zero) = some (some (.agg #[.int .i64 0, .int .i64 0, .string ⟨#[]⟩])) := by kernel_rfl
theorem Fun_32 : Fun Tryz.prog 32 = true := by kernel_rfl
theorem Pl_85 : Pl Tryz.prog 85 #[(0, 1), (1, 1), (2, 1)] = true := by kernel_rfl
theorem Sz_85 : Sz Tryz.prog 85 3 = true := by kernel_rfl
theorem Tn_85 : Tn Tryz.prog 85 3 = true := by kernel_rfl
theorem MC_9_2 : madeCells (Value.string ⟨#[]⟩ : Value).cells (2 * 1) = #[.string ⟨#[]⟩, .string ⟨#[]⟩] := by kernel_rfl
theorem Fun_72 : Fun Tryz.prog 72 = true := by kernel_rfl
theorem Zr_137 : (Tryz.prog.info? 137).map (·.zero) = some (some (.agg #[.int .i64 0, .string ⟨#[]⟩, .int .i64 0, .int .i64 0, .string ⟨#[]⟩])) := by kernel_rfl
theorem Pl_137 : Pl Tryz.prog 137 #[(0, 1), (1, 1), (2, 3)] = true := by kernel_rfl
theorem Sz_137 : Sz Tryz.prog 137 5 = true := by kernel_rfl
theorem Tn_137 : Tn Tryz.prog 137 5 = true := by kernel_rfl
theorem Fun_130 : Fun Tryz.prog 130 = true := by kernel_rfl
theorem Fun_175 : Fun Tryz.prog 175 = true := by kernel_rfl
theorem MC_9_4 : madeCells (Value.string ⟨#[]⟩ : Value).cells (4 * 1) = #[.string ⟨#[]⟩, .string ⟨#[]⟩, .string ⟨#[]⟩, .string ⟨#[]⟩] := by kernel_rfl
theorem Fun_176 : Fun Tryz.prog 176 = true := by kernel_rfl
theorem Zr_171 : (Tryz.prog.info? 171).map (·.zero) = some (some (.agg #[.string ⟨#[]⟩, .slice none 0 0, .bool false])) := by kernel_rfl
theorem Pl_171 : Pl Tryz.prog 171 #[(0, 1), (1, 1), (2, 1)] = true := by kernel_rfl
theorem Sz_171 : Sz Tryz.prog 171 3 = true := by kernel_rfl
theorem Fld_171_0 : Fld Tryz.prog 171 0 0 = true := by kernel_rfl
theorem Fun_173 : Fun Tryz.prog 173 = true := by kernel_rfl
theorem MC_137_1 : madeCells (Value.agg #[.int .i64 0, .string ⟨#[]⟩, .int .i64 0, .int .i64 0, .string ⟨#[]⟩] : Value).cells (1 * 5) = #[.int .i64 0, .string ⟨#[]⟩, .int .i64 0, .int .i64 0, .string ⟨#[]⟩] := by kernel_rfl
theorem Ei_137 : (Tryz.prog.info? 137).map (fun i => (i.zero, i.size, i.bytes)) = some (some (.agg #[.int .i64 0, .string ⟨#[]⟩, .int .i64 0, .int .i64 0, .string ⟨#[]⟩]), 5, 56) := by kernel_rfl
theorem Sz_169 : Sz Tryz.prog 169 1 = true := by kernel_rfl
theorem Zr_139 : (Tryz.prog.info? 139).map (·.zero) = some (some (.agg #[.int .i64 0, .int .i64 0, .string ⟨#[]⟩, .int .i64 0, .int .i64 0, .string ⟨#[]⟩, .int .i64 0, .string ⟨#[]⟩, .int .i64 0, .int .i64 0, .string ⟨#[]⟩])) := by kernel_rfl
theorem Fun_174 : Fun Tryz.prog 174 = true := by kernel_rfl
theorem Pl_139 : Pl Tryz.prog 139 #[(0, 1), (1, 5), (6, 5)] = true := by kernel_rfl
theorem Sz_139 : Sz Tryz.prog 139 11 = true := by kernel_rfl
theorem Tn_139 : Tn Tryz.prog 139 11 = true := by kernel_rfl
theorem Fun_141 : Fun Tryz.prog 141 = true := by kernel_rfl
theorem Zr_191 : (Tryz.prog.info? 191).map (·.zero) = some (some (.agg #[.string ⟨#[]⟩, .int .i64 0, .string ⟨#[]⟩, .int .i64 0, .int .i64 0, .string ⟨#[]⟩, .int .i64 0, .string ⟨#[]⟩, .int .i64 0, .int .i64 0, .string ⟨#[]⟩])) := by kernel_rfl
theorem Pl_191 : Pl Tryz.prog 191 #[(0, 1), (1, 5), (6, 5)] = true := by kernel_rfl
theorem Sz_191 : Sz Tryz.prog 191 11 = true := by kernel_rfl
theorem Tn_191 : Tn Tryz.prog 191 11 = true := by kernel_rfl
theorem Fld_191_0 : Fld Tryz.prog 191 0 0 = true := by kernel_rfl
theorem Sz_9 : Sz Tryz.prog 9 1 = true := by kernel_rfl
theorem Fld_191_2 : Fld Tryz.prog 191 2 6 = true := by kernel_rfl
theorem Zr_143 : (Tryz.prog.info? 143).map (·.zero) = some (some (.agg #[.int .i64 0, .string ⟨#[]⟩, .slice none 0 0, .int .i64 0, .string ⟨#[]⟩])) := by kernel_rfl
theorem MC_3_8 : madeCells (Value.int .i64 0 : Value).cells (8 * 1) = #[.int .i64 0, .int .i64 0, .int .i64 0, .int .i64 0, .int .i64 0, .int .i64 0, .int .i64 0, .int .i64 0] := by kernel_rfl
theorem Zr_3 : (Tryz.prog.info? 3).map (·.zero) = some (some (.int .i64 0)) := by kernel_rfl
theorem Fun_121 : Fun Tryz.prog 121 = true := by kernel_rfl
theorem Pl_143 : Pl Tryz.prog 143 #[(0, 1), (1, 1), (2, 1), (3, 1), (4, 1)] = true := by kernel_rfl
theorem Sz_143 : Sz Tryz.prog 143 5 = true := by kernel_rfl
theorem Fld_143_0 : Fld Tryz.prog 143 0 0 = true := by kernel_rfl
theorem Fld_143_3 : Fld Tryz.prog 143 3 3 = true := by kernel_rfl
theorem Tn_143 : Tn Tryz.prog 143 5 = true := by kernel_rfl
theorem MC_9_5 : madeCells (Value.string ⟨#[]⟩ : Value).cells (5 * 1) = #[.string ⟨#[]⟩, .string ⟨#[]⟩, .string ⟨#[]⟩, .string ⟨#[]⟩, .string ⟨#[]⟩] := by kernel_rfl
theorem Fld_143_1 : Fld Tryz.prog 143 1 1 = true := by kernel_rfl
theorem Fld_143_2 : Fld Tryz.prog 143 2 2 = true := by kernel_rfl
theorem T1_141 : T1 Tryz.prog 141 = true := by kernel_rfl
theorem Fun_177 : Fun Tryz.prog 177 = true := by kernel_rfl
theorem MC_191_1 : madeCells (Value.agg #[.string ⟨#[]⟩, .int .i64 0, .string ⟨#[]⟩, .int .i64 0, .int .i64 0, .string ⟨#[]⟩, .int .i64 0, .string ⟨#[]⟩, .int .i64 0, .int .i64 0, .string ⟨#[]⟩] : Value).cells (1 * 11) = #[.string ⟨#[]⟩, .int .i64 0, .string ⟨#[]⟩, .int .i64 0, .int .i64 0, .string ⟨#[]⟩, .int .i64 0, .string ⟨#[]⟩, .int .i64 0, .int .i64 0, .string ⟨#[]⟩] := by kernel_rfl
theorem Sl_141 : Sl Tryz.prog 141 191 11 = true := by kernel_rfl
theorem Ei_191 : (Tryz.prog.info? 191).map (fun i => (i.zero, i.size, i.bytes)) = some (some (.agg #[.string ⟨#[]⟩, .int .i64 0, .string ⟨#[]⟩, .int .i64 0, .int .i64 0, .string ⟨#[]⟩, .int .i64 0, .string ⟨#[]⟩, .int .i64 0, .int .i64 0, .string ⟨#[]⟩]), 11, 128) := by kernel_rfl
theorem Sz_141 : Sz Tryz.prog 141 1 = true := by kernel_rfl
theorem Fld_143_4 : Fld Tryz.prog 143 4 4 = true := by kernel_rfl
theorem MC_3_4 : madeCells (Value.int .i64 0 : Value).cells (4 * 1) = #[.int .i64 0, .int .i64 0, .int .i64 0, .int .i64 0] := by kernel_rfl
theorem Zr_40 : (Tryz.prog.info? 40).map (·.zero) = some (some (.agg #[.string ⟨#[]⟩, .int .i64 0, .slice none 0 0, .slice none 0 0, .slice none 0 0])) := by kernel_rfl
theorem MC_3_5 : madeCells (Value.int .i64 0 : Value).cells (5 * 1) = #[.int .i64 0, .int .i64 0, .int .i64 0, .int .i64 0, .int .i64 0] := by kernel_rfl
theorem Pl_40 : Pl Tryz.prog 40 #[(0, 1), (1, 1), (2, 1), (3, 1), (4, 1)] = true := by kernel_rfl
theorem Sz_40 : Sz Tryz.prog 40 5 = true := by kernel_rfl
theorem Fun_122 : Fun Tryz.prog 122 = true := by kernel_rfl
theorem MC_171_1 : madeCells (Value.agg #[.string ⟨#[]⟩, .slice none 0 0, .bool false] : Value).cells (1 * 3) = #[.string ⟨#[]⟩, .slice none 0 0, .bool false] := by kernel_rfl
theorem Ei_171 : (Tryz.prog.info? 171).map (fun i => (i.zero, i.size, i.bytes)) = some (some (.agg #[.string ⟨#[]⟩, .slice none 0 0, .bool false]), 3, 48) := by kernel_rfl
theorem Sz_36 : Sz Tryz.prog 36 1 = true := by kernel_rfl
theorem Tn_40 : Tn Tryz.prog 40 5 = true := by kernel_rfl
theorem Fun_85 : Fun Tryz.prog 85 = true := by kernel_rfl
theorem Fun_89 : Fun Tryz.prog 89 = true := by kernel_rfl
theorem Fun_125 : Fun Tryz.prog 125 = true := by kernel_rfl
theorem Fld_191_1 : Fld Tryz.prog 191 1 1 = true := by kernel_rfl
theorem Fun_124 : Fun Tryz.prog 124 = true := by kernel_rfl
theorem Fld_40_4 : Fld Tryz.prog 40 4 4 = true := by kernel_rfl
theorem T1_38 : T1 Tryz.prog 38 = true := by kernel_rfl
theorem MC_143_1 : madeCells (Value.agg #[.int .i64 0, .string ⟨#[]⟩, .slice none 0 0, .int .i64 0, .string ⟨#[]⟩] : Value).cells (1 * 5) = #[.int .i64 0, .string ⟨#[]⟩, .slice none 0 0, .int .i64 0, .string ⟨#[]⟩] := by kernel_rfl
theorem Sl_38 : Sl Tryz.prog 38 143 5 = true := by kernel_rfl
theorem Ei_143 : (Tryz.prog.info? 143).map (fun i => (i.zero, i.size, i.bytes)) = some (some (.agg #[.int .i64 0, .string ⟨#[]⟩, .slice none 0 0, .int .i64 0, .string ⟨#[]⟩]), 5, 72) := by kernel_rfl
theorem Sz_38 : Sz Tryz.prog 38 1 = true := by kernel_rfl
theorem Fun_123 : Fun Tryz.prog 123 = true := by kernel_rfl
theorem Fld_139_1 : Fld Tryz.prog 139 1 1 = true := by kernel_rfl
theorem Fld_139_2 : Fld Tryz.prog 139 2 6 = true := by kernel_rfl
theorem Fld_40_3 : Fld Tryz.prog 40 3 3 = true := by kernel_rfl
theorem T1_37 : T1 Tryz.prog 37 = true := by kernel_rfl
theorem MC_139_1 : madeCells (Value.agg #[.int .i64 0, .int .i64 0, .string ⟨#[]⟩, .int .i64 0, .int .i64 0, .string ⟨#[]⟩, .int .i64 0, .string ⟨#[]⟩, .int .i64 0, .int .i64 0, .string ⟨#[]⟩] : Value).cells (1 * 11) = #[.int .i64 0, .int .i64 0, .string ⟨#[]⟩, .int .i64 0, .int .i64 0, .string ⟨#[]⟩, .int .i64 0, .string ⟨#[]⟩, .int .i64 0, .int .i64 0, .string ⟨#[]⟩] := by kernel_rfl
theorem Sl_37 : Sl Tryz.prog 37 139 11 = true := by kernel_rfl
theorem Ei_139 : (Tryz.prog.info? 139).map (fun i => (i.zero, i.size, i.bytes)) = some (some (.agg #[.int .i64 0, .int .i64 0, .string ⟨#[]⟩, .int .i64 0, .int .i64 0, .string ⟨#[]⟩, .int .i64 0, .string ⟨#[]⟩, .int .i64 0, .int .i64 0, .string ⟨#[]⟩]), 11, 120) := by kernel_rfl
theorem Sz_37 : Sz Tryz.prog 37 1 = true := by kernel_rfl
theorem Zr_26 : (Tryz.prog.info? 26).map (·.zero) = some (some (.agg #[.string ⟨#[]⟩, .slice none 0 0])) := by kernel_rfl
theorem MC_9_3 : madeCells (Value.string ⟨#[]⟩ : Value).cells (3 * 1) = #[.string ⟨#[]⟩, .string ⟨#[]⟩, .string ⟨#[]⟩] := by kernel_rfl
theorem Pl_26 : Pl Tryz.prog 26 #[(0, 1), (1, 1)] = true := by kernel_rfl
theorem Sz_26 : Sz Tryz.prog 26 2 = true := by kernel_rfl
theorem Fld_26_1 : Fld Tryz.prog 26 1 1 = true := by kernel_rfl
theorem T1_24 : T1 Tryz.prog 24 = true := by kernel_rfl
theorem Fun_74 : Fun Tryz.prog 74 = true := by kernel_rfl
theorem MC_40_1 : madeCells (Value.agg #[.string ⟨#[]⟩, .int .i64 0, .slice none 0 0, .slice none 0 0, .slice none 0 0] : Value).cells (1 * 5) = #[.string ⟨#[]⟩, .int .i64 0, .slice none 0 0, .slice none 0 0, .slice none 0 0] := by kernel_rfl
theorem Sl_24 : Sl Tryz.prog 24 40 5 = true := by kernel_rfl
theorem Ei_40 : (Tryz.prog.info? 40).map (fun i => (i.zero, i.size, i.bytes)) = some (some (.agg #[.string ⟨#[]⟩, .int .i64 0, .slice none 0 0, .slice none 0 0, .slice none 0 0]), 5, 96) := by kernel_rfl
theorem Sz_24 : Sz Tryz.prog 24 1 = true := by kernel_rfl
theorem Tn_26 : Tn Tryz.prog 26 2 = true := by kernel_rfl
theorem Fld_139_0 : Fld Tryz.prog 139 0 0 = true := by kernel_rfl
theorem MC_171_0 : madeCells (Value.agg #[.string ⟨#[]⟩, .slice none 0 0, .bool false] : Value).cells (0 * 3) = #[] := by kernel_rfl
theorem Fld_40_0 : Fld Tryz.prog 40 0 0 = true := by kernel_rfl
theorem MC_3_3 : madeCells (Value.int .i64 0 : Value).cells (3 * 1) = #[.int .i64 0, .int .i64 0, .int .i64 0] := by kernel_rfl
theorem Fld_40_1 : Fld Tryz.prog 40 1 1 = true := by kernel_rfl
theorem Fun_126 : Fun Tryz.prog 126 = true := by kernel_rfl
theorem MC_139_0 : madeCells (Value.agg #[.int .i64 0, .int .i64 0, .string ⟨#[]⟩, .int .i64 0, .int .i64 0, .string ⟨#[]⟩, .int .i64 0, .string ⟨#[]⟩, .int .i64 0, .int .i64 0, .string ⟨#[]⟩] : Value).cells (0 * 11) = #[] := by kernel_rfl
theorem Fun_127 : Fun Tryz.prog 127 = true := by kernel_rfl
theorem MC_143_0 : madeCells (Value.agg #[.int .i64 0, .string ⟨#[]⟩, .slice none 0 0, .int .i64 0, .string ⟨#[]⟩] : Value).cells (0 * 5) = #[] := by kernel_rfl
theorem Fun_128 : Fun Tryz.prog 128 = true := by kernel_rfl
theorem Sz_4 : Sz Tryz.prog 4 1 = true := by kernel_rfl
theorem Fun_76 : Fun Tryz.prog 76 = true := by kernel_rfl
theorem Fun_31 : Fun Tryz.prog 31 = true := by kernel_rfl
theorem Fld_26_0 : Fld Tryz.prog 26 0 0 = true := by kernel_rfl
theorem Fun_75 : Fun Tryz.prog 75 = true := by kernel_rfl
theorem MC_125_0 : madeCells (Value.agg #[.int .i64 0, .string ⟨#[]⟩, .slice none 0 0] : Value).cells (0 * 3) = #[] := by kernel_rfl
theorem Sl_27 : Sl Tryz.prog 27 125 3 = true := by kernel_rfl
theorem Zr_125 : (Tryz.prog.info? 125).map (·.zero) = some (some (.agg #[.int .i64 0, .string ⟨#[]⟩, .slice none 0 0])) := by kernel_rfl
theorem Fld_29_0 : Fld Tryz.prog 29 0 0 = true := by kernel_rfl
theorem T1_27 : T1 Tryz.prog 27 = true := by kernel_rfl
theorem Fld_125_0 : Fld Tryz.prog 125 0 0 = true := by kernel_rfl
theorem Tn_125 : Tn Tryz.prog 125 3 = true := by kernel_rfl
theorem MC_125_1 : madeCells (Value.agg #[.int .i64 0, .string ⟨#[]⟩, .slice none 0 0] : Value).cells (1 * 3) = #[.int .i64 0, .string ⟨#[]⟩, .slice none 0 0] := by kernel_rfl
theorem Ei_125 : (Tryz.prog.info? 125).map (fun i => (i.zero, i.size, i.bytes)) = some (some (.agg #[.int .i64 0, .string ⟨#[]⟩, .slice none 0 0]), 3, 48) := by kernel_rfl
theorem Sz_27 : Sz Tryz.prog 27 1 = true := by kernel_rfl
theorem Sl_121 : Sl Tryz.prog 121 85 3 = true := by kernel_rfl
theorem EqT_85 : EqT Tryz.prog 85 [.i .i64, .i .i64, .s] = true := by kernel_rfl
theorem Fld_123_0 : Fld Tryz.prog 123 0 0 = true := by kernel_rfl
theorem Fld_123_1 : Fld Tryz.prog 123 1 1 = true := by kernel_rfl
theorem T1_121 : T1 Tryz.prog 121 = true := by kernel_rfl
theorem Fun_188 : Fun Tryz.prog 188 = true := by kernel_rfl
theorem Fld_125_1 : Fld Tryz.prog 125 1 1 = true := by kernel_rfl
theorem Tn_123 : Tn Tryz.prog 123 2 = true := by kernel_rfl
theorem Fun_156 : Fun Tryz.prog 156 = true := by kernel_rfl
theorem Zr_123 : (Tryz.prog.info? 123).map (·.zero) = some (some (.agg #[.string ⟨#[]⟩, .slice none 0 0])) := by kernel_rfl
theorem MC_85_0 : madeCells (Value.agg #[.int .i64 0, .int .i64 0, .string ⟨#[]⟩] : Value).cells (0 * 3) = #[] := by kernel_rfl
theorem Ei_85 : (Tryz.prog.info? 85).map (fun i => (i.zero, i.size, i.bytes)) = some (some (.agg #[.int .i64 0, .int .i64 0, .string ⟨#[]⟩]), 3, 32) := by kernel_rfl
theorem Sz_121 : Sz Tryz.prog 121 1 = true := by kernel_rfl
theorem Sz_123 : Sz Tryz.prog 123 2 = true := by kernel_rfl
theorem Tn_29 : Tn Tryz.prog 29 2 = true := by kernel_rfl
theorem Fun_100 : Fun Tryz.prog 100 = true := by kernel_rfl
theorem Fld_29_1 : Fld Tryz.prog 29 1 1 = true := by kernel_rfl
theorem Fun_129 : Fun Tryz.prog 129 = true := by kernel_rfl
theorem Pl_125 : Pl Tryz.prog 125 #[(0, 1), (1, 2)] = true := by kernel_rfl
theorem Pl_123 : Pl Tryz.prog 123 #[(0, 1), (1, 1)] = true := by kernel_rfl
theorem MC_85_1 : madeCells (Value.agg #[.int .i64 0, .int .i64 0, .string ⟨#[]⟩] : Value).cells (1 * 3) = #[.int .i64 0, .int .i64 0, .string ⟨#[]⟩] := by kernel_rfl
theorem Zr_29 : (Tryz.prog.info? 29).map (·.zero) = some (some (.agg #[.slice none 0 0, .int .i64 0])) := by kernel_rfl
theorem Pl_29 : Pl Tryz.prog 29 #[(0, 1), (1, 1)] = true := by kernel_rfl
theorem Sz_29 : Sz Tryz.prog 29 2 = true := by kernel_rfl
theorem Fun_79 : Fun Tryz.prog 79 = true := by kernel_rfl
theorem Fun_78 : Fun Tryz.prog 78 = true := by kernel_rfl
theorem Fun_77 : Fun Tryz.prog 77 = true := by kernel_rfl
theorem Fun_30 : Fun Tryz.prog 30 = true := by kernel_rfl
theorem Fun_34 : Fun Tryz.prog 34 = true := by kernel_rfl
theorem Fun_33 : Fun Tryz.prog 33 = true := by kernel_rfl
theorem Fun_131 : Fun Tryz.prog 131 = true := by kernel_rfl
theorem Fun_200 : Fun Tryz.prog 200 = true := by kernel_rfl
theorem Str_9 : Str Tryz.prog 9 = true := by kernel_rfl
theorem Fun_178 : Fun Tryz.prog 178 = true := by kernel_rfl
theorem Fun_132 : Fun Tryz.prog 132 = true := by kernel_rfl
theorem Fld_85_0 : Fld Tryz.prog 85 0 0 = true := by kernel_rfl
theorem Fld_85_1 : Fld Tryz.prog 85 1 1 = true := by kernel_rfl
theorem Fun_81 : Fun Tryz.prog 81 = true := by kernel_rfl
theorem Fld_85_2 : Fld Tryz.prog 85 2 2 = true := by kernel_rfl
theorem Fun_211 : Fun Tryz.prog 211 = true := by kernel_rfl
theorem Fun_203 : Fun Tryz.prog 203 = true := by kernel_rfl
theorem Fld_137_2 : Fld Tryz.prog 137 2 2 = true := by kernel_rfl
theorem Fun_135 : Fun Tryz.prog 135 = true := by kernel_rfl
theorem Fun_80 : Fun Tryz.prog 80 = true := by kernel_rfl
theorem Fun_181 : Fun Tryz.prog 181 = true := by kernel_rfl
theorem Fun_94 : Fun Tryz.prog 94 = true := by kernel_rfl
theorem Fun_143 : Fun Tryz.prog 143 = true := by kernel_rfl
theorem Bo_4 : Bo Tryz.prog 4 = true := by kernel_rfl
theorem Fun_144 : Fun Tryz.prog 144 = true := by kernel_rfl
theorem EqT_137 : EqT Tryz.prog 137 [.i .i64, .s, .i .i64, .i .i64, .s] = true := by kernel_rfl
theorem Fun_182 : Fun Tryz.prog 182 = true := by kernel_rfl
theorem Fun_145 : Fun Tryz.prog 145 = true := by kernel_rfl
theorem Fun_146 : Fun Tryz.prog 146 = true := by kernel_rfl
theorem Fun_148 : Fun Tryz.prog 148 = true := by kernel_rfl
theorem Fun_97 : Fun Tryz.prog 97 = true := by kernel_rfl
theorem Fun_183 : Fun Tryz.prog 183 = true := by kernel_rfl
theorem Fun_147 : Fun Tryz.prog 147 = true := by kernel_rfl
theorem MC_137_2 : madeCells (Value.agg #[.int .i64 0, .string ⟨#[]⟩, .int .i64 0, .int .i64 0, .string ⟨#[]⟩] : Value).cells (2 * 5) = #[.int .i64 0, .string ⟨#[]⟩, .int .i64 0, .int .i64 0, .string ⟨#[]⟩, .int .i64 0, .string ⟨#[]⟩, .int .i64 0, .int .i64 0, .string ⟨#[]⟩] := by kernel_rfl
theorem Fun_91 : Fun Tryz.prog 91 = true := by kernel_rfl
theorem Fun_92 : Fun Tryz.prog 92 = true := by kernel_rfl
theorem Fun_93 : Fun Tryz.prog 93 = true := by kernel_rfl
theorem Fun_95 : Fun Tryz.prog 95 = true := by kernel_rfl
theorem Fun_96 : Fun Tryz.prog 96 = true := by kernel_rfl
theorem Fun_134 : Fun Tryz.prog 134 = true := by kernel_rfl
theorem Fun_133 : Fun Tryz.prog 133 = true := by kernel_rfl
theorem Fun_42 : Fun Tryz.prog 42 = true := by kernel_rfl
theorem Fun_82 : Fun Tryz.prog 82 = true := by kernel_rfl
theorem Fun_136 : Fun Tryz.prog 136 = true := by kernel_rfl
theorem Sz_125 : Sz Tryz.prog 125 3 = true := by kernel_rfl
theorem Fun_83 : Fun Tryz.prog 83 = true := by kernel_rfl
theorem Fun_84 : Fun Tryz.prog 84 = true := by kernel_rfl
theorem Sl_42 : Sl Tryz.prog 42 87 4 = true := by kernel_rfl
theorem MC_87_0 : madeCells (Value.agg #[.string ⟨#[]⟩, .int .i64 0, .int .i64 0, .string ⟨#[]⟩] : Value).cells (0 * 4) = #[] := by kernel_rfl
theorem Zr_87 : (Tryz.prog.info? 87).map (·.zero) = some (some (.agg #[.string ⟨#[]⟩, .int .i64 0, .int .i64 0, .string ⟨#[]⟩])) := by kernel_rfl
theorem Ei_87 : (Tryz.prog.info? 87).map (fun i => (i.zero, i.size, i.bytes)) = some (some (.agg #[.string ⟨#[]⟩, .int .i64 0, .int .i64 0, .string ⟨#[]⟩]), 4, 48) := by kernel_rfl
theorem Tn_87 : Tn Tryz.prog 87 4 = true := by kernel_rfl
theorem Sz_87 : Sz Tryz.prog 87 4 = true := by kernel_rfl
theorem Fld_87_0 : Fld Tryz.prog 87 0 0 = true := by kernel_rfl
theorem Fld_87_1 : Fld Tryz.prog 87 1 1 = true := by kernel_rfl
theorem Fun_153 : Fun Tryz.prog 153 = true := by kernel_rfl
theorem Fun_186 : Fun Tryz.prog 186 = true := by kernel_rfl
theorem Pl_87 : Pl Tryz.prog 87 #[(0, 1), (1, 3)] = true := by kernel_rfl
theorem MC_87_1 : madeCells (Value.agg #[.string ⟨#[]⟩, .int .i64 0, .int .i64 0, .string ⟨#[]⟩] : Value).cells (1 * 4) = #[.string ⟨#[]⟩, .int .i64 0, .int .i64 0, .string ⟨#[]⟩] := by kernel_rfl
theorem Fun_154 : Fun Tryz.prog 154 = true := by kernel_rfl
theorem Fun_184 : Fun Tryz.prog 184 = true := by kernel_rfl
theorem Fun_216 : Fun Tryz.prog 216 = true := by kernel_rfl
theorem Fun_217 : Fun Tryz.prog 217 = true := by kernel_rfl
theorem Fun_214 : Fun Tryz.prog 214 = true := by kernel_rfl
theorem Fun_215 : Fun Tryz.prog 215 = true := by kernel_rfl
theorem Fun_213 : Fun Tryz.prog 213 = true := by kernel_rfl
theorem Fun_212 : Fun Tryz.prog 212 = true := by kernel_rfl
theorem Fun_204 : Fun Tryz.prog 204 = true := by kernel_rfl
theorem Fun_205 : Fun Tryz.prog 205 = true := by kernel_rfl
theorem Fun_185 : Fun Tryz.prog 185 = true := by kernel_rfl
theorem MC_3_0 : madeCells (Value.int .i64 0 : Value).cells (0 * 1) = #[] := by kernel_rfl
theorem Ei_3 : (Tryz.prog.info? 3).map (fun i => (i.zero, i.size, i.bytes)) = some (some (.int .i64 0), 1, 8) := by kernel_rfl
theorem Fun_149 : Fun Tryz.prog 149 = true := by kernel_rfl
theorem Fun_150 : Fun Tryz.prog 150 = true := by kernel_rfl
theorem Fun_151 : Fun Tryz.prog 151 = true := by kernel_rfl
theorem T1_32 : T1 Tryz.prog 32 = true := by kernel_rfl
theorem Fun_152 : Fun Tryz.prog 152 = true := by kernel_rfl
theorem Pl_44 : Pl Tryz.prog 44 #[(0, 1), (1, 1), (2, 1)] = true := by kernel_rfl
theorem Zr_44 : (Tryz.prog.info? 44).map (·.zero) = some (some (.agg #[.int .i64 0, .slice none 0 0, .slice none 0 0])) := by kernel_rfl
theorem MC_44_1 : madeCells (Value.agg #[.int .i64 0, .slice none 0 0, .slice none 0 0] : Value).cells (1 * 3) = #[.int .i64 0, .slice none 0 0, .slice none 0 0] := by kernel_rfl
theorem Sl_32 : Sl Tryz.prog 32 44 3 = true := by kernel_rfl
theorem Ei_44 : (Tryz.prog.info? 44).map (fun i => (i.zero, i.size, i.bytes)) = some (some (.agg #[.int .i64 0, .slice none 0 0, .slice none 0 0]), 3, 56) := by kernel_rfl
theorem Sz_32 : Sz Tryz.prog 32 1 = true := by kernel_rfl
theorem MC_3_1 : madeCells (Value.int .i64 0 : Value).cells (1 * 1) = #[.int .i64 0] := by kernel_rfl
theorem Fun_98 : Fun Tryz.prog 98 = true := by kernel_rfl
theorem Zr_32 : (Tryz.prog.info? 32).map (·.zero) = some (some (.slice none 0 0)) := by kernel_rfl
theorem Fun_43 : Fun Tryz.prog 43 = true := by kernel_rfl
theorem Tn_44 : Tn Tryz.prog 44 3 = true := by kernel_rfl
theorem Sz_44 : Sz Tryz.prog 44 3 = true := by kernel_rfl
theorem Fld_44_0 : Fld Tryz.prog 44 0 0 = true := by kernel_rfl
theorem Fun_35 : Fun Tryz.prog 35 = true := by kernel_rfl
theorem Fun_36 : Fun Tryz.prog 36 = true := by kernel_rfl
theorem Fun_37 : Fun Tryz.prog 37 = true := by kernel_rfl
theorem Fun_41 : Fun Tryz.prog 41 = true := by kernel_rfl
theorem Fun_90 : Fun Tryz.prog 90 = true := by kernel_rfl
theorem Fun_206 : Fun Tryz.prog 206 = true := by kernel_rfl
theorem Fun_209 : Fun Tryz.prog 209 = true := by kernel_rfl
theorem Fun_201 : Fun Tryz.prog 201 = true := by kernel_rfl
theorem Fun_187 : Fun Tryz.prog 187 = true := by kernel_rfl
theorem Fun_179 : Fun Tryz.prog 179 = true := by kernel_rfl
theorem Fun_40 : Fun Tryz.prog 40 = true := by kernel_rfl
theorem Fun_139 : Fun Tryz.prog 139 = true := by kernel_rfl
theorem Fun_140 : Fun Tryz.prog 140 = true := by kernel_rfl
theorem Fun_210 : Fun Tryz.prog 210 = true := by kernel_rfl
theorem Fun_202 : Fun Tryz.prog 202 = true := by kernel_rfl
theorem Fun_180 : Fun Tryz.prog 180 = true := by kernel_rfl
theorem Fun_142 : Fun Tryz.prog 142 = true := by kernel_rfl
theorem Fun_86 : Fun Tryz.prog 86 = true := by kernel_rfl
theorem Fun_87 : Fun Tryz.prog 87 = true := by kernel_rfl
theorem Fun_88 : Fun Tryz.prog 88 = true := by kernel_rfl
theorem Fun_38 : Fun Tryz.prog 38 = true := by kernel_rfl
theorem Fun_39 : Fun Tryz.prog 39 = true := by kernel_rfl
theorem EqT_87 : EqT Tryz.prog 87 [.s, .i .i64, .i .i64, .s] = true := by kernel_rfl
theorem Fun_155 : Fun Tryz.prog 155 = true := by kernel_rfl
theorem Fun_99 : Fun Tryz.prog 99 = true := by kernel_rfl
theorem Fun_193 : Fun Tryz.prog 193 = true := by kernel_rfl
theorem Fun_163 : Fun Tryz.prog 163 = true := by kernel_rfl
theorem Fun_207 : Fun Tryz.prog 207 = true := by kernel_rfl
theorem Fun_208 : Fun Tryz.prog 208 = true := by kernel_rfl
theorem Fun_192 : Fun Tryz.prog 192 = true := by kernel_rfl
theorem Fun_161 : Fun Tryz.prog 161 = true := by kernel_rfl
theorem Fun_162 : Fun Tryz.prog 162 = true := by kernel_rfl
theorem Fun_105 : Fun Tryz.prog 105 = true := by kernel_rfl
theorem MC_44_0 : madeCells (Value.agg #[.int .i64 0, .slice none 0 0, .slice none 0 0] : Value).cells (0 * 3) = #[] := by kernel_rfl
theorem Fun_50 : Fun Tryz.prog 50 = true := by kernel_rfl
theorem Fun_9 : Fun Tryz.prog 9 = true := by kernel_rfl
theorem Fun_44 : Fun Tryz.prog 44 = true := by kernel_rfl
theorem Fun_45 : Fun Tryz.prog 45 = true := by kernel_rfl
theorem Fun_6 : Fun Tryz.prog 6 = true := by kernel_rfl
theorem Fun_7 : Fun Tryz.prog 7 = true := by kernel_rfl
theorem Fun_8 : Fun Tryz.prog 8 = true := by kernel_rfl
theorem Fun_10 : Fun Tryz.prog 10 = true := by kernel_rfl
theorem Fld_44_1 : Fld Tryz.prog 44 1 1 = true := by kernel_rfl
theorem T1_41 : T1 Tryz.prog 41 = true := by kernel_rfl
theorem Fun_11 : Fun Tryz.prog 11 = true := by kernel_rfl
theorem Fld_44_2 : Fld Tryz.prog 44 2 2 = true := by kernel_rfl
theorem T1_42 : T1 Tryz.prog 42 = true := by kernel_rfl
theorem Fun_12 : Fun Tryz.prog 12 = true := by kernel_rfl
theorem Fun_13 : Fun Tryz.prog 13 = true := by kernel_rfl
theorem m_l_big_ok {Φ : Hp} {w : World} (hΦ : In Φ w) (N : Nat) (p0 : (List Int)) {pv0 : Value} {pG0 : List Nat} (ph0 : RSl (RI .u8) 1 Φ pG0 pv0 p0) {r : Bool} (h : m_l_big N p0 = some r) :
  Calls Tryz.prog 6 [pv0].toArray w (Post (.bool r) w) := by
 refine enter Tryz.func6 rfl Tryz.ntmps6 rfl (St.start0 hΦ) ?_
 unfold m_l_big at h
 refine sr <| la rfl <| en <| sr <| la rfl <| lq (q_lenR Sl_22 rfl rfl ph0) rfl <| la rfl <| la rfl <| en ?_
 refine WT.ret Tryz.func6 (resOk.one rfl) (fun w1 hw => ?_)
 cases h
 exact post_of_St hw
theorem m_s_l1New_ok {Φ : Hp} {w : World} (hΦ : In Φ w) (N : Nat) (p0 : (List Int)) {pv0 : Value} {pG0 : List Nat} (ph0 : RSl (RI .u8) 1 Φ pG0 pv0 p0) {r : Tl1Cur} (h : m_s_l1New N p0 = some r) :
  Calls Tryz.prog 30 [pv0].toArray w (PostG Φ w [] (fun Φ' Fs v => ∃ (b0 : Nat) (sr_0_0 : Value) (Gr_0_0 : List Nat), v = .pointer (some ⟨b0, 0, none⟩) ∧ Fs = [[b0]] ∧ RSl (RI .u8) 1 Φ' Gr_0_0 sr_0_0 r.b ∧ (∀ k ∈ Gr_0_0, k ∈ pG0) ∧ Φ' b0 = some (.cells #[sr_0_0, .int .i64 r.i, .int .i64 r.h] 112 (0, 0)))) := by
 refine enter Tryz.func30 rfl Tryz.ntmps30 rfl (St.start0 hΦ) ?_
 generalize hb0 : (⟨w, [], Φ⟩ : Base) = w0
 unfold m_s_l1New at h
 refine sr <| la rfl <| en <| sr <| la rfl <| lq (q_lenR Sl_22 rfl rfl ph0) rfl <| la rfl <| la rfl <| en <| sq <| sr <| la rfl <| en <| blk ?_
 refine loop_in (σ := Int × Int) (fun s => [(0, pv0), (3, .int .i64 s.1), (4, .int .i64 s.2)]) (fun s => St w0 Φ [] []) (fun m s => m_s_l1New_l1 N p0 m s.1 s.2 = some r) (IntKind.i64.wrap (354354 + (p0.length : Int)), 0) N h ⟨rfl, rfl, rfl, trivial⟩ (fun w1 hw => (hw.sel (js := []) rfl).selO (js := []) rfl) (fun s hm => none_ne hm) (fun n1 ih1 s hm => ?_)
 obtain ⟨s1, s2⟩ := s
 have h : m_s_l1New_l1 N p0 (n1 + 1) s1 s2 = some r := hm
 show WT _ _ [(0, pv0), (3, .int .i64 s1), (4, .int .i64 s2)] (St w0 Φ [] [])
 unfold m_s_l1New_l1 at h
 refine sq <| sr <| la rfl <| la rfl <| lq (q_lenR Sl_22 rfl rfl ph0) rfl <| la rfl <| la rfl ?_
 obtain ⟨b1, hb_1, h⟩ := bs h
 refine WL.cutN 3 [(15, .bool b1), (0, pv0), (3, .int .i64 s1), (4, .int .i64 s2)] ?_ (fun K => ?_)
 rotate_left
 ·refine spl 12 rfl hb_1 (fun c1 hb_1 => ?_) (fun c1 hb_1 => ?_)
  ·refine ly rfl rfl <| la rfl <| ly rfl rfl <| la rfl <| la rfl ?_
   cases hb_1
   exact kk K ⟨rfl, rfl, rfl, rfl, trivial⟩
  ·refine la rfl <| la rfl <| la rfl ?_
   cases hb_1
   exact kk K ⟨rfl, rfl, rfl, rfl, trivial⟩
 refine en ?_
 refine cdh rfl h (fun c2 h => ?_) (fun c2 h => ?_)
 ·refine WT.skip <| sq <| blk <| rgn <| la rfl <| la rfl <| la rfl <| la rfl ?_
  obtain ⟨x1, hx1, h⟩ := bs h
  obtain ⟨cs1, F1, -, g1, hb1, hs1, r1⟩ := ph0.el (idx_some hx1).2.2
  obtain ⟨rfl, -⟩ := r1
  refine lq (q_indexAddr Sl_22 rfl rfl ph0 hx1) rfl <| lg 0 T1_5 g1 rfl rfl <| lq (q_convI Ik_5 Ik_3 rfl) rfl <| la rfl <| la rfl <| lq (q_and rfl rfl) rfl <| la rfl <| en <| ib <| rgn <| la rfl <| la rfl <| la rfl <| en ?_
  exact lback (ih1 ((andI .i64 (IntKind.i64.wrap ((IntKind.i64.wrap ((IntKind.i64.wrap (s1 * 137)) + (IntKind.i64.wrap x1))) + 11)) 1073741823), IntKind.i64.wrap (s2 + 1)) h) ⟨rfl, rfl, rfl, trivial⟩ (fun w1 hw => (hw.sel (js := []) rfl).selO (js := []) rfl)
 refine xt rfl <| sr <| la rfl <| la rfl <| lq (q_build (vs := [(0, pv0), (2, .int .i64 s1)]) (C := #[pv0, .int .i64 0, .int .i64 s1]) Pl_112 Zr_112 rfl (fill_cons (C' := [pv0, .int .i64 0, .int .i64 0]) rfl (one_cells ph0.one) rfl rfl rfl (fill_cons (C' := [pv0, .int .i64 0, .int .i64 s1]) rfl rfl rfl rfl rfl (fill_nil)))) rfl ?_
 refine ln (nb rfl) rfl (fun b_1 => ?_)
 refine la rfl <| en ?_
 refine WT.frz (js := [0]) (R := []) rfl (fun Φ_1 fr1 k1 => ?_)
 replace ph0 := ph0.frame RI.lasts fr1 (Dj.empty _)
 refine WT.ret Tryz.func30 (resOk.one rfl) (fun w1 hw => ?_)
 subst hb0
 cases h
 refine postG_of_St (js := [0]) hw rfl ⟨b_1, pv0, pG0, rfl, rfl, ph0, (fun k hk => hk), k1⟩
theorem m_s_l1Byte_ok {Φ : Hp} {w : World} (hΦ : In Φ w) (N : Nat) (p0 : Tl1Cur) {pv0_0 : Value} {pG0_0 : List Nat} {pb0 : Nat} (ph0_0 : RSl (RI .u8) 1 Φ pG0_0 pv0_0 p0.b) (pp0 : Φ pb0 = some (.cells #[pv0_0, .int .i64 p0.i, .int .i64 p0.h] 112 (0, 0))) (pd0_0 : Dj pG0_0 [[pb0]].flatten) (hB : [[pb0]].flatten.Nodup) (hlt : ∀ k ∈ [[pb0]].flatten, k < w.heap.size) {r : Int × Tl1Cur} (h : m_s_l1Byte N p0 = some r) :
  Calls Tryz.prog 120 [.pointer (some ⟨pb0, 0, none⟩)].toArray w (PostG Φ w [[pb0]].flatten (fun Φ' Fs v => v = .int .i64 r.1 ∧ Fs = [[pb0]] ∧ r.2.b = p0.b ∧ Φ' pb0 = some (.cells #[pv0_0, .int .i64 r.2.i, .int .i64 r.2.h] 112 (0, 0)))) := by
 refine enter Tryz.func120 rfl Tryz.ntmps120 rfl (St.start hΦ [[pb0]] hB hlt) ?_
 have pa0_0 := Old.mk hΦ ph0_0.kn pd0_0
 unfold m_s_l1Byte at h
 refine sr <| la rfl <| en <| sr <| la rfl <| la rfl <| lq (q_nilCheck rfl) rfl <| lf Fld_112_2 rfl rfl rfl <| lq (q_load1 T1_3 rfl (fun w1 hw => ((rg_cells pp0).of_eq 2 1 rfl rfl : rg _ _ _ [.int .i64 p0.h]).rangeAt hw.fro)) rfl <| la rfl <| la rfl <| lq (q_nilCheck rfl) rfl <| lf Fld_112_2 rfl rfl rfl ?_
 refine WL.thw (js := [0]) (R := []) rfl pp0 (fun Φ_1 ap1 fr1 => ?_)
 replace ph0_0 := ph0_0.frame RI.lasts fr1 (ap1.o pa0_0)
 refine so1 0 Sz_3 rfl rfl ?_
 refine en <| sq <| WT.draw mixed (by kernel_rfl) (fun _ h => h.drew) <| qq (q_move rfl) rfl <| qq (q_nilCheck rfl) rfl <| qq (q_fieldAddr Fld_112_2 rfl) rfl <| qq (q_load1 T1_3 rfl (fun w1 hw => hw.rgO (i := 0) rfl 2 1 [.int .i64 (IntKind.i64.wrap ((IntKind.i64.wrap (p0.h * 6364136223846793005)) + 1442695040888963407))] rfl)) rfl <| qq (q_shr rfl rfl (by decide)) rfl <| qq (q_move rfl) rfl <| qq (q_nilCheck rfl) rfl <| qq (q_fieldAddr Fld_112_2 rfl) rfl ?_
 refine qq (q_load1 T1_3 rfl (fun w1 hw => hw.rgO (i := 0) rfl 2 1 [.int .i64 (IntKind.i64.wrap ((IntKind.i64.wrap (p0.h * 6364136223846793005)) + 1442695040888963407))] rfl)) rfl <| qq (q_shr rfl rfl (by decide)) rfl <| qq (q_xor rfl rfl) rfl <| qq (q_and rfl rfl) rfl <| qq (q_assign rfl) rfl <| WQ.nil <| sq <| sq <| WT.draw mixed (by kernel_rfl) (fun _ h => h.drew) <| qq (q_move rfl) rfl <| qq (q_nilCheck rfl) rfl <| qq (q_fieldAddr Fld_112_1 rfl) rfl ?_
 refine qq (q_load1 T1_3 rfl (fun w1 hw => hw.rgO (i := 0) rfl 1 1 [.int .i64 p0.i] rfl)) rfl <| qq (q_move rfl) rfl <| qq (q_nilCheck rfl) rfl <| qq (q_fieldAddr Fld_112_0 rfl) rfl <| qq (q_load1 T1_22 rfl (fun w1 hw => hw.rgO (i := 0) rfl 0 1 [pv0_0] rfl)) rfl <| qq (q_lenR Sl_22 rfl rfl ph0_0) rfl <| qq (q_lss rfl rfl) rfl <| WQ.nil ?_
 refine cdh rfl h (fun c1 h => ?_) (fun c1 h => ?_)
 ·refine sq <| WT.draw mixed (by kernel_rfl) (fun _ h => h.drew) <| qq (q_move rfl) rfl <| qq (q_move rfl) rfl <| qq (q_nilCheck rfl) rfl <| qq (q_fieldAddr Fld_112_0 rfl) rfl <| qq (q_load1 T1_22 rfl (fun w1 hw => hw.rgO (i := 0) rfl 0 1 [pv0_0] rfl)) rfl <| qq (q_move rfl) rfl <| qq (q_nilCheck rfl) rfl <| qq (q_fieldAddr Fld_112_1 rfl) rfl <| qq (q_load1 T1_3 rfl (fun w1 hw => hw.rgO (i := 0) rfl 1 1 [.int .i64 p0.i] rfl)) rfl ?_
  obtain ⟨x1, hx1, h⟩ := bs h
  obtain ⟨cs1, F1, -, g1, hb1, hs1, r1⟩ := ph0_0.el (idx_some hx1).2.2
  obtain ⟨rfl, -⟩ := r1
  refine qq (q_indexAddr Sl_22 rfl rfl ph0_0 hx1) rfl <| qq (q_load1 T1_5 rfl (fun w1 hw => (g1.of_eq 0 1 rfl rfl : rg _ _ _ [.int .u8 x1]).rangeAt hw.fro)) rfl <| qq (q_convI Ik_5 Ik_3 rfl) rfl <| qq (q_add rfl rfl) rfl <| qq (q_and rfl rfl) rfl <| qq (q_assign rfl) rfl <| WQ.nil <| rgn <| la rfl <| la rfl <| lq (q_nilCheck rfl) rfl <| lf Fld_112_1 rfl rfl rfl <| lo T1_3 0 rfl <| la rfl <| lq (q_nilCheck rfl) rfl <| lf Fld_112_1 rfl rfl rfl <| so1 0 Sz_3 rfl rfl ?_
  refine en <| sr <| la rfl <| la rfl <| en ?_
  refine WT.frz (js := [0]) (R := []) rfl (fun Φ_2 fr2 k1 => ?_)
  replace ph0_0 := ph0_0.frame RI.lasts fr2 (Dj.empty _)
  refine WT.ret Tryz.func120 (resOk.one rfl) (fun w1 hw => ?_)
  cases h
  refine postG_of_St (js := [0]) hw rfl ⟨rfl, rfl, rfl, k1⟩
 refine WT.skip <| sr <| la rfl <| la rfl <| en ?_
 refine WT.frz (js := [0]) (R := []) rfl (fun Φ_3 fr3 k2 => ?_)
 replace ph0_0 := ph0_0.frame RI.lasts fr3 (Dj.empty _)
 refine WT.ret Tryz.func120 (resOk.one rfl) (fun w1 hw => ?_)
 cases h
 refine postG_of_St (js := [0]) hw rfl ⟨rfl, rfl, rfl, k2⟩
theorem m_s_l1Below_ok {Φ : Hp} {w : World} (hΦ : In Φ w) (N : Nat) (p0 : Tl1Cur) (p1 : Int) {pv0_0 : Value} {pG0_0 : List Nat} {pb0 : Nat} (ph0_0 : RSl (RI .u8) 1 Φ pG0_0 pv0_0 p0.b) (pp0 : Φ pb0 = some (.cells #[pv0_0, .int .i64 p0.i, .int .i64 p0.h] 112 (0, 0))) (pd0_0 : Dj pG0_0 [[pb0]].flatten) (hB : [[pb0]].flatten.Nodup) (hlt : ∀ k ∈ [[pb0]].flatten, k < w.heap.size) {r : Int × Tl1Cur} (h : m_s_l1Below N p0 p1 = some r) :
  Calls Tryz.prog 73 [.pointer (some ⟨pb0, 0, none⟩), .int .i64 p1].toArray w (PostG Φ w [[pb0]].flatten (fun Φ' Fs v => v = .int .i64 r.1 ∧ Fs = [[pb0]] ∧ r.2.b = p0.b ∧ Φ' pb0 = some (.cells #[pv0_0, .int .i64 r.2.i, .int .i64 r.2.h] 112 (0, 0)))) := by
 refine enter Tryz.func73 rfl Tryz.ntmps73 rfl (St.start hΦ [[pb0]] hB hlt) ?_
 have pa0_0 := Old.mk hΦ ph0_0.kn pd0_0
 unfold m_s_l1Below at h
 refine sr <| la rfl <| en <| sq <| sr <| la rfl <| la rfl <| en ?_
 refine cdh rfl h (fun c1 h => ?_) (fun c1 h => ?_)
 ·refine sr <| la rfl <| en ?_
  refine WT.ret Tryz.func73 (resOk.one rfl) (fun w1 hw => ?_)
  cases h
  refine postG_of_St (js := [0]) hw rfl ⟨rfl, rfl, rfl, pp0⟩
 refine WT.skip <| sq <| sr <| la rfl <| la rfl <| en ?_
 refine cdh rfl h (fun c2 h => ?_) (fun c2 h => ?_)
 ·refine sr <| la rfl ?_
  obtain ⟨x1, hx1, h⟩ := bs h
  refine lc (k_call (js := [0]) (R := []) Fun_120 rfl rfl (fun w1 hw ap hl => m_s_l1Byte_ok hw.fro N p0 ph0_0 pp0 (ap.o pa0_0) ap.nd hl hx1)) rfl (fun v1 Φ_1 F1 q1 => ?_)
  obtain ⟨ap1, fr1, rfl, rfl, e1, h1⟩ := q1
  replace ph0_0 := ph0_0.frame RI.lasts fr1 (ap1.o pa0_0)
  refine la rfl ?_
  obtain ⟨x2, hx2, h⟩ := bs h
  refine lq (q_remV rfl rfl hx2) rfl <| la rfl <| en ?_
  refine WT.ret Tryz.func73 (resOk.one rfl) (fun w1 hw => ?_)
  cases h
  refine postG_of_St (js := [0]) hw rfl ⟨rfl, rfl, rfl, h1⟩
 refine WT.skip <| sr <| la rfl ?_
 obtain ⟨x3, hx3, h⟩ := bs h
 refine lc (k_call (js := [0]) (R := []) Fun_120 rfl rfl (fun w1 hw ap hl => m_s_l1Byte_ok hw.fro N p0 ph0_0 pp0 (ap.o pa0_0) ap.nd hl hx3)) rfl (fun v2 Φ_2 F2 q2 => ?_)
 obtain ⟨ap2, fr2, rfl, rfl, e2, h2⟩ := q2
 replace ph0_0 := ph0_0.frame RI.lasts fr2 (ap2.o pa0_0)
 refine la rfl <| en <| sr <| la rfl ?_
 obtain ⟨x4, hx4, h⟩ := bs h
 refine lc (k_call (js := [0]) (R := []) Fun_120 rfl rfl (fun w1 hw ap hl => m_s_l1Byte_ok hw.fro N (⟨p0.b, x3.2.i, x3.2.h⟩ : Tl1Cur) ph0_0 h2 (ap.o pa0_0) ap.nd hl hx4)) rfl (fun v3 Φ_3 F3 q3 => ?_)
 obtain ⟨ap3, fr3, rfl, rfl, e3, h3⟩ := q3
 replace ph0_0 := ph0_0.frame RI.lasts fr3 (ap3.o pa0_0)
 refine la rfl <| en <| sr <| la rfl ?_
 obtain ⟨x5, hx5, h⟩ := bs h
 refine lc (k_call (js := [0]) (R := []) Fun_120 rfl rfl (fun w1 hw ap hl => m_s_l1Byte_ok hw.fro N (⟨p0.b, x4.2.i, x4.2.h⟩ : Tl1Cur) ph0_0 h3 (ap.o pa0_0) ap.nd hl hx5)) rfl (fun v4 Φ_4 F4 q4 => ?_)
 obtain ⟨ap4, fr4, rfl, rfl, e4, h4⟩ := q4
 replace ph0_0 := ph0_0.frame RI.lasts fr4 (ap4.o pa0_0)
 refine la rfl <| en <| sr <| la rfl <| la rfl <| la rfl <| la rfl <| la rfl <| la rfl <| la rfl <| la rfl ?_
 obtain ⟨x6, hx6, h⟩ := bs h
 refine lq (q_remV rfl rfl hx6) rfl <| la rfl <| en ?_
 refine WT.ret Tryz.func73 (resOk.one rfl) (fun w1 hw => ?_)
 cases h
 refine postG_of_St (js := [0]) hw rfl ⟨rfl, rfl, rfl, h4⟩
theorem m_s_l1Str_ok {Φ : Hp} {w : World} (hΦ : In Φ w) (N : Nat) (p0 : Tl1Cur) (p1 : (List ByteArray)) {pv0_0 pv1 : Value} {pG0_0 pG1 : List Nat} {pb0 : Nat} (ph0_0 : RSl (RI .u8) 1 Φ pG0_0 pv0_0 p0.b) (pp0 : Φ pb0 = some (.cells #[pv0_0, .int .i64 p0.i, .int .i64 p0.h] 112 (0, 0))) (ph1 : RSl RS 1 Φ pG1 pv1 p1) (pd0_0 : Dj pG0_0 [[pb0]].flatten) (pd1 : Dj pG1 [[pb0]].flatten) (hB : [[pb0]].flatten.Nodup) (hlt : ∀ k ∈ [[pb0]].flatten, k < w.heap.size) {r : ByteArray × Tl1Cur} (h : m_s_l1Str N p0 p1 = some r) :
  Calls Tryz.prog 72 [.pointer (some ⟨pb0, 0, none⟩), pv1].toArray w (PostG Φ w [[pb0]].flatten (fun Φ' Fs v => v = .string r.1 ∧ Fs = [[pb0]] ∧ r.2.b = p0.b ∧ Φ' pb0 = some (.cells #[pv0_0, .int .i64 r.2.i, .int .i64 r.2.h] 112 (0, 0)))) := by
 refine enter Tryz.func72 rfl Tryz.ntmps72 rfl (St.start hΦ [[pb0]] hB hlt) ?_
 have pa0_0 := Old.mk hΦ ph0_0.kn pd0_0
 have pa1 := Old.mk hΦ ph1.kn pd1
 unfold m_s_l1Str at h
 refine sr <| la rfl <| en <| sr <| la rfl <| la rfl <| la rfl <| lq (q_lenR Sl_114 rfl rfl ph1) rfl ?_
 obtain ⟨x1, hx1, h⟩ := bs h
 refine lc (k_call (js := [0]) (R := []) Fun_73 rfl rfl (fun w1 hw ap hl => m_s_l1Below_ok hw.fro N p0 (p1.length : Int) ph0_0 pp0 (ap.o pa0_0) ap.nd hl hx1)) rfl (fun v1 Φ_1 F1 q1 => ?_)
 obtain ⟨ap1, fr1, rfl, rfl, e1, h1⟩ := q1
 replace ph1 := ph1.frame RS.lasts fr1 (ap1.o pa1)
 replace ph0_0 := ph0_0.frame RI.lasts fr1 (ap1.o pa0_0)
 obtain ⟨x2, hx2, h⟩ := bs h
 obtain ⟨cs1, F2, -, g1, hb1, hs1, r1⟩ := ph1.el (idx_some hx2).2.2
 obtain ⟨rfl, -⟩ := r1
 refine lq (q_indexAddr Sl_114 rfl rfl ph1 hx2) rfl <| lg 0 T1_9 g1 rfl rfl <| la rfl <| en ?_
 refine WT.ret Tryz.func72 (resOk.one rfl) (fun w1 hw => ?_)
 cases h
 refine postG_of_St (js := [0]) hw rfl ⟨rfl, rfl, rfl, h1⟩
theorem m_s_l1Once_ok {Φ : Hp} {w : World} (hΦ : In Φ w) (N : Nat) (p0 : Tl1Cur) (p1 : Int) {pv0_0 : Value} {pG0_0 : List Nat} {pb0 : Nat} (ph0_0 : RSl (RI .u8) 1 Φ pG0_0 pv0_0 p0.b) (pp0 : Φ pb0 = some (.cells #[pv0_0, .int .i64 p0.i, .int .i64 p0.h] 112 (0, 0))) (pd0_0 : Dj pG0_0 [[pb0]].flatten) (hB : [[pb0]].flatten.Nodup) (hlt : ∀ k ∈ [[pb0]].flatten, k < w.heap.size) {r : Bool × Tl1Cur} (h : m_s_l1Once N p0 p1 = some r) :
  Calls Tryz.prog 32 [.pointer (some ⟨pb0, 0, none⟩), .int .i64 p1].toArray w (PostG Φ w [[pb0]].flatten (fun Φ' Fs v => v = .bool r.1 ∧ Fs = [[pb0]] ∧ r.2.b = p0.b ∧ Φ' pb0 = some (.cells #[pv0_0, .int .i64 r.2.i, .int .i64 r.2.h] 112 (0, 0)))) := by
 refine enter Tryz.func32 rfl Tryz.ntmps32 rfl (St.start hΦ [[pb0]] hB hlt) ?_
 have pa0_0 := Old.mk hΦ ph0_0.kn pd0_0
 unfold m_s_l1Once at h
 refine sr <| la rfl <| en <| sr <| la rfl <| la rfl ?_
 obtain ⟨x1, hx1, h⟩ := bs h
 refine lc (k_call (js := [0]) (R := []) Fun_73 rfl rfl (fun w1 hw ap hl => m_s_l1Below_ok hw.fro N p0 p1 ph0_0 pp0 (ap.o pa0_0) ap.nd hl hx1)) rfl (fun v1 Φ_1 F1 q1 => ?_)
 obtain ⟨ap1, fr1, rfl, rfl, e1, h1⟩ := q1
 replace ph0_0 := ph0_0.frame RI.lasts fr1 (ap1.o pa0_0)
 refine la rfl <| la rfl <| en ?_
 refine WT.ret Tryz.func32 (resOk.one rfl) (fun w1 hw => ?_)
 cases h
 refine postG_of_St (js := [0]) hw rfl ⟨rfl, rfl, rfl, h1⟩
theorem m_s_l6Has_ok {Φ : Hp} {w : World} (hΦ : In Φ w) (N : Nat) (p0 : (List ByteArray)) (p1 : ByteArray) {pv0 : Value} {pG0 : List Nat} (ph0 : RSl RS 1 Φ pG0 pv0 p0) {r : Bool} (h : m_s_l6Has N p0 p1 = some r) :
  Calls Tryz.prog 138 [pv0, .string p1].toArray w (Post (.bool r) w) := by
 refine enter Tryz.func138 rfl Tryz.ntmps138 rfl (St.start0 hΦ) ?_
 generalize hb0 : (⟨w, [], Φ⟩ : Base) = w0
 unfold m_s_l6Has at h
 refine sr <| la rfl <| en <| sq <| sr <| la rfl <| en <| blk ?_
 refine loop_in (σ := Int) (fun s => [(0, pv0), (1, .string p1), (5, .int .i64 s)]) (fun s => St w0 Φ [] []) (fun m s => m_s_l6Has_l1 N p0 p1 m s = some r) (0) N h ⟨rfl, rfl, rfl, trivial⟩ (fun w1 hw => (hw.sel (js := []) rfl).selO (js := []) rfl) (fun s hm => none_ne hm) (fun n1 ih1 s hm => ?_)
 revert hm; revert s; intro s1 hm
 have h : m_s_l6Has_l1 N p0 p1 (n1 + 1) s1 = some r := hm
 show WT _ _ [(0, pv0), (1, .string p1), (5, .int .i64 s1)] (St w0 Φ [] [])
 unfold m_s_l6Has_l1 at h
 refine sq <| sr <| la rfl <| la rfl <| lq (q_lenR Sl_114 rfl rfl ph0) rfl <| la rfl <| en ?_
 refine cdh rfl h (fun c1 h => ?_) (fun c1 h => ?_)
 ·refine WT.skip <| sq <| blk <| sr <| la rfl <| la rfl ?_
  obtain ⟨x1, hx1, h⟩ := bs h
  obtain ⟨cs1, F1, -, g1, hb1, hs1, r1⟩ := ph0.el (idx_some hx1).2.2
  obtain ⟨rfl, -⟩ := r1
  refine lq (q_indexAddr Sl_114 rfl rfl ph0 hx1) rfl <| lg 0 T1_9 g1 rfl rfl <| la rfl <| la rfl <| en ?_
  refine cdh rfl h (fun c2 h => ?_) (fun c2 h => ?_)
  ·refine sr <| la rfl <| en ?_
   refine WT.ret Tryz.func138 (resOk.one rfl) (fun w1 hw => ?_)
   subst hb0
   cases h
   exact post_of_St hw
  refine WT.skip <| ib <| rgn <| la rfl <| la rfl <| la rfl <| en ?_
  exact lback (ih1 (IntKind.i64.wrap (s1 + 1)) h) ⟨rfl, rfl, rfl, trivial⟩ (fun w1 hw => (hw.sel (js := []) rfl).selO (js := []) rfl)
 refine xt rfl <| sr <| la rfl <| en ?_
 refine WT.ret Tryz.func138 (resOk.one rfl) (fun w1 hw => ?_)
 subst hb0
 cases h
 exact post_of_St hw
theorem m_s_VarsOf_ok {Φ : Hp} {w : World} (hΦ : In Φ w) (N : Nat) (p0 : TPat) {pv0_0 : Value} {pG0_0 : List Nat} (ph0_0 : RSl RTArg 5 Φ pG0_0 pv0_0 p0.Args) {r : (List ByteArray)} (h : m_s_VarsOf N p0 = some r) :
  Calls Tryz.prog 137 [.agg [.string p0.Kind, pv0_0, .bool p0.Not].toArray].toArray w (PostG Φ w [] (fun Φ' Fs v => ∃ (sr_0_0 : Value), v = sr_0_0 ∧ Fs = [ob sr_0_0] ∧ OSl RS 9 1 Φ' [] sr_0_0 r)) := by
 refine enter Tryz.func137 rfl Tryz.ntmps137 rfl (St.start0 hΦ) ?_
 have pa0_0 := Old.mk hΦ ph0_0.kn (Dj.empty _)
 revert pa0_0
 generalize hb0 : (⟨w, [], Φ⟩ : Base) = w0
 intro pa0_0
 unfold m_s_VarsOf at h
 refine sr ?_
 refine ln (nb rfl) rfl (fun b_1 => ?_)
 refine la rfl <| en <| sr ?_
 refine le' (e_lit0 RS.lasts Sl_114 Zr_9 rfl rfl) rfl (fun v1 Φ_1 D1 q1 => ?_)
 obtain ⟨fr1, h1⟩ := q1
 replace ph0_0 := ph0_0.frame RTArg.lasts fr1 (Dj.empty _)
 refine la rfl <| en <| sq <| sr <| la rfl <| en <| blk ?_
 refine loop_in (σ := Hp × (List ByteArray) × Value × Int) (fun s => [(1, .pointer (some ⟨b_1, 0, none⟩)), (3, s.2.2.1), (4, .int .i64 s.2.2.2)]) (fun s => St w0 s.1 [(b_1, .cells #[.string p0.Kind, pv0_0, .bool p0.Not] 171 (0, 0))] [ob s.2.2.1]) (fun m s => m_s_VarsOf_l1 N p0 m s.2.1 s.2.2.2 = some r ∧ (OSl RS 9 1 s.1 [] s.2.2.1 s.2.1) ∧ (RSl RTArg 5 s.1 pG0_0 pv0_0 p0.Args)) (Φ_1, ([] : List ByteArray), v1, 0) N ⟨h, h1, ph0_0⟩ ⟨rfl, rfl, rfl, trivial⟩ (fun w1 hw => (hw.sel (js := [0]) rfl).selO (js := [0]) rfl) (fun s hm => none_ne hm.1) (fun n1 ih1 s hm => ?_)
 obtain ⟨Φ_2, s1, u1, s2⟩ := s
 obtain ⟨h, k1, ph0_0⟩ := hm
 dsimp only at h k1 ph0_0 ⊢
 unfold m_s_VarsOf_l1 at h
 refine sq <| sr <| la rfl <| lf Fld_171_1 rfl rfl rfl <| lo T1_169 0 rfl <| lq (q_lenR Sl_169 rfl rfl ph0_0) rfl <| la rfl <| en ?_
 refine cdh rfl h (fun c1 h => ?_) (fun c1 h => ?_)
 ·refine WT.skip <| sq <| blk <| sr <| lf Fld_171_1 rfl rfl rfl <| lo T1_169 0 rfl <| la rfl ?_
  obtain ⟨x1, hx1, h⟩ := bs h
  obtain ⟨cs1, F1, -, g1, hb1, hs1, r1⟩ := ph0_0.el (idx_some hx1).2.2
  obtain ⟨rfl, -⟩ := r1
  refine lq (q_indexAddr Sl_169 rfl rfl ph0_0 hx1) rfl <| lf Fld_137_0 rfl rfl rfl <| lg 0 T1_3 g1 rfl rfl <| la rfl <| la rfl ?_
  obtain ⟨b1, hb_1, h⟩ := bs h
  refine WL.cutN 10 [(30, .bool b1), (1, .pointer (some ⟨b_1, 0, none⟩)), (3, u1), (4, .int .i64 s2)] ?_ (fun K => ?_)
  rotate_left
  ·refine spl 20 rfl hb_1 (fun c2 hb_1 => ?_) (fun c2 hb_1 => ?_)
   ·refine ly rfl rfl <| la rfl <| ly rfl rfl <| lf Fld_171_1 rfl rfl rfl <| ly rfl rfl <| lo T1_169 0 rfl <| ly rfl rfl <| la rfl <| ly rfl rfl ?_
    obtain ⟨x2, hx2, hb_1⟩ := bs hb_1
    obtain ⟨cs2, F2, -, g2, hb2, hs2, r2⟩ := ph0_0.el (idx_some hx2).2.2
    obtain ⟨rfl, -⟩ := r2
    refine lq (q_indexAddr Sl_169 rfl rfl ph0_0 hx2) rfl <| ly rfl rfl <| lf Fld_137_1 rfl rfl rfl <| ly rfl rfl <| lg 1 T1_9 g2 rfl rfl <| ly rfl rfl ?_
    obtain ⟨x3, hx3, hb_1⟩ := bs hb_1
    refine lp (p_call Fun_138 rfl (fun w1 hw => m_s_l6Has_ok hw.fro N s1 x2.S k1.rsl hx3)) rfl <| ly rfl rfl <| la rfl <| la rfl ?_
    cases hb_1
    exact kk K ⟨rfl, rfl, rfl, rfl, trivial⟩
   ·refine la rfl <| la rfl <| la rfl <| la rfl <| la rfl <| la rfl <| la rfl <| la rfl <| la rfl <| la rfl ?_
    cases hb_1
    exact kk K ⟨rfl, rfl, rfl, rfl, trivial⟩
  refine en ?_
  refine cdh rfl h (fun c3 h => ?_) (fun c3 h => ?_)
  ·refine rgn <| la rfl <| lf Fld_171_1 rfl rfl rfl <| lo T1_169 0 rfl <| la rfl ?_
   obtain ⟨x4, hx4, h⟩ := bs h
   obtain ⟨cs3, F3, -, g3, hb3, hs3, r3⟩ := ph0_0.el (idx_some hx4).2.2
   obtain ⟨rfl, -⟩ := r3
   refine lq (q_indexAddr Sl_169 rfl rfl ph0_0 hx4) rfl <| lf Fld_137_1 rfl rfl rfl <| lg 1 T1_9 g3 rfl rfl ?_
   have rc2 : RC RS 1 Φ_2 ([[]] : List (List Nat)) [.string x4.S] ([x4.S] : List ByteArray) := RC.cons (c := [.string x4.S]) (cells := []) ⟨rfl, rfl⟩ rfl (RC.nil _ _ _)
   refine le' (e_lit (vs := [(0, .string x4.S)]) (C := #[.string x4.S]) RS.lasts Sl_114 Zr_9 rfl rfl rfl rfl (fill_made MC_9_1 (fill_cons (C' := [.string x4.S]) rfl rfl rfl rfl rfl (fill_nil))) rfl rc2 rfl (by simpa using Kw.nil)) rfl (fun v2 Φ_3 D2 q2 => ?_)
   obtain ⟨fr2, h2⟩ := q2
   replace h2 : OSl RS 9 1 Φ_3 [] v2 ([x4.S] : List ByteArray) := by simpa using h2
   replace ph0_0 := ph0_0.frame RTArg.lasts fr2 (Dj.empty _)
   replace k1 := k1.frame RS.lasts fr2 (Dj.empty _) (Dj.empty _)
   obtain ⟨x5, hx5, h⟩ := bs h
   refine le' (e_appF RS.lasts RS.one RS.flat Sl_114 Ei_9 rfl rfl rfl rfl rfl (js := [1]) (Rr := [ob v2]) rfl k1 h2.rsl hx5) rfl (fun v3 Φ_4 D3 q3 => ?_)
   obtain ⟨⟨ap1, fr3⟩, h3⟩ := q3
   replace ph0_0 := ph0_0.frame RTArg.lasts fr3 (ap1.o pa0_0)
   refine la rfl <| en <| ib <| rgn <| la rfl <| la rfl <| la rfl <| en ?_
   exact lback (ih1 (Φ_4, x5, v3, IntKind.i64.wrap (s2 + 1)) ⟨h, h3, ph0_0⟩) ⟨rfl, rfl, rfl, trivial⟩ (fun w1 hw => (hw.sel (js := [0]) rfl).selO (js := [0]) rfl)
  refine WT.skip <| ib <| rgn <| la rfl <| la rfl <| la rfl <| en ?_
  exact lback (ih1 (Φ_2, s1, u1, IntKind.i64.wrap (s2 + 1)) ⟨h, k1, ph0_0⟩) ⟨rfl, rfl, rfl, trivial⟩ (fun w1 hw => (hw.sel (js := [0]) rfl).selO (js := [0]) rfl)
 refine xt rfl <| sr <| la rfl <| la rfl <| en ?_
 refine WT.ret Tryz.func137 (resOk.one rfl) (fun w1 hw => ?_)
 subst hb0
 cases h
 refine postG_of_St (js := [0]) hw rfl ⟨u1, rfl, rfl, k1⟩
theorem m_s_PosVars_ok {Φ : Hp} {w : World} (hΦ : In Φ w) (N : Nat) (p0 : TRule) {pv0_0 pv0_1 pv0_2 : Value} {pG0_0 pG0_1 pG0_2 : List Nat} (ph0_0 : RSl RTPat 3 Φ pG0_0 pv0_0 p0.Pats) (ph0_1 : RSl RTCond 11 Φ pG0_1 pv0_1 p0.Conds) (ph0_2 : RSl RTAct 5 Φ pG0_2 pv0_2 p0.Acts) {r : (List ByteArray)} (h : m_s_PosVars N p0 = some r) :
  Calls Tryz.prog 85 [.agg [.string p0.Name, .int .i64 p0.Sal, pv0_0, pv0_1, pv0_2].toArray].toArray w (PostG Φ w [] (fun Φ' Fs v => ∃ (sr_0_0 : Value), v = sr_0_0 ∧ Fs = [ob sr_0_0] ∧ OSl RS 9 1 Φ' [] sr_0_0 r)) := by
 refine enter Tryz.func85 rfl Tryz.ntmps85 rfl (St.start0 hΦ) ?_
 have pa0_0 := Old.mk hΦ ph0_0.kn (Dj.empty _)
 have pa0_1 := Old.mk hΦ ph0_1.kn (Dj.empty _)
 have pa0_2 := Old.mk hΦ ph0_2.kn (Dj.empty _)
 revert pa0_0 pa0_1 pa0_2
 generalize hb0 : (⟨w, [], Φ⟩ : Base) = w0
 intro pa0_0 pa0_1 pa0_2
 unfold m_s_PosVars at h
 refine sr ?_
 refine ln (nb rfl) rfl (fun b_1 => ?_)
 refine la rfl <| en <| sr ?_
 refine le' (e_lit0 RS.lasts Sl_114 Zr_9 rfl rfl) rfl (fun v1 Φ_1 D1 q1 => ?_)
 obtain ⟨fr1, h1⟩ := q1
 replace ph0_0 := ph0_0.frame RTPat.lasts fr1 (Dj.empty _)
 replace ph0_1 := ph0_1.frame RTCond.lasts fr1 (Dj.empty _)
 replace ph0_2 := ph0_2.frame RTAct.lasts fr1 (Dj.empty _)
 refine la rfl <| en <| sq <| sr <| la rfl <| en <| blk ?_
 refine loop_in (σ := Hp × (List ByteArray) × Value × Int) (fun s => [(1, .pointer (some ⟨b_1, 0, none⟩)), (3, s.2.2.1), (4, .int .i64 s.2.2.2)]) (fun s => St w0 s.1 [(b_1, .cells #[.string p0.Name, .int .i64 p0.Sal, pv0_0, pv0_1, pv0_2] 40 (0, 0))] [ob s.2.2.1]) (fun m s => m_s_PosVars_l1 N p0 m s.2.1 s.2.2.2 = some r ∧ (OSl RS 9 1 s.1 [] s.2.2.1 s.2.1) ∧ (RSl RTPat 3 s.1 pG0_0 pv0_0 p0.Pats) ∧ (RSl RTCond 11 s.1 pG0_1 pv0_1 p0.Conds) ∧ (RSl RTAct 5 s.1 pG0_2 pv0_2 p0.Acts)) (Φ_1, ([] : List ByteArray), v1, 0) N ⟨h, h1, ph0_0, ph0_1, ph0_2⟩ ⟨rfl, rfl, rfl, trivial⟩ (fun w1 hw => (hw.sel (js := [0]) rfl).selO (js := [0]) rfl) (fun s hm => none_ne hm.1) (fun n1 ih1 s hm => ?_)
 obtain ⟨Φ_2, s1, u1, s2⟩ := s
 obtain ⟨h, k1, ph0_0, ph0_1, ph0_2⟩ := hm
 dsimp only at h k1 ph0_0 ph0_1 ph0_2 ⊢
 unfold m_s_PosVars_l1 at h
 refine sq <| sr <| la rfl <| lf Fld_40_2 rfl rfl rfl <| lo T1_36 0 rfl <| lq (q_lenR Sl_36 rfl rfl ph0_0) rfl <| la rfl <| en ?_
 refine cdh rfl h (fun c1 h => ?_) (fun c1 h => ?_)
 ·refine WT.skip <| sq <| blk <| sr <| lf Fld_40_2 rfl rfl rfl <| lo T1_36 0 rfl <| la rfl ?_
  obtain ⟨x1, hx1, h⟩ := bs h
  obtain ⟨cs1, F1, -, g1, hb1, hs1, r1⟩ := ph0_0.el (idx_some hx1).2.2
  obtain ⟨v2, G1, rfl, hq1, h2⟩ := r1
  obtain rfl := hq1.symm
  refine lq (q_indexAddr Sl_36 rfl rfl ph0_0 hx1) rfl <| lg3 0 Tn_171 g1 rfl rfl ?_
  obtain ⟨x2, hx2, h⟩ := bs h
  refine lc (k_call (js := []) (R := [ob u1]) Fun_137 rfl rfl (fun w1 hw ap hl => m_s_VarsOf_ok hw.fro N x1 h2  hx2)) rfl (fun v3 Φ_3 F2 q2 => ?_)
  obtain ⟨ap1, fr2, v4, rfl, rfl, h3⟩ := q2
  replace ph0_0 := ph0_0.frame RTPat.lasts fr2 (ap1.o pa0_0)
  replace ph0_1 := ph0_1.frame RTCond.lasts fr2 (ap1.o pa0_1)
  replace ph0_2 := ph0_2.frame RTAct.lasts fr2 (ap1.o pa0_2)
  replace k1 := k1.frame RS.lasts fr2 (ap1.r (i := 0) rfl) (Dj.nil _)
  refine la rfl <| en <| sr <| la rfl <| en <| blk ?_
  refine loop_in (σ := Hp × (List ByteArray) × Value × Int) (fun s => [(1, .pointer (some ⟨b_1, 0, none⟩)), (3, s.2.2.1), (4, .int .i64 s2), (5, v3), (6, .int .i64 s.2.2.2)]) (fun s => St w0 s.1 [(b_1, .cells #[.string p0.Name, .int .i64 p0.Sal, pv0_0, pv0_1, pv0_2] 40 (0, 0))] [ob v3, ob s.2.2.1]) (fun m s => m_s_PosVars_l2 N p0 s2 (m_s_PosVars_l1 N p0 n1) x2 m s.2.1 s.2.2.2 = some r ∧ (OSl RS 9 1 s.1 [] s.2.2.1 s.2.1) ∧ (OSl RS 9 1 s.1 [] v3 x2) ∧ (RSl RTPat 3 s.1 pG0_0 pv0_0 p0.Pats) ∧ (RSl RTCond 11 s.1 pG0_1 pv0_1 p0.Conds) ∧ (RSl RTAct 5 s.1 pG0_2 pv0_2 p0.Acts)) (Φ_3, s1, u1, 0) N ⟨h, k1, h3, ph0_0, ph0_1, ph0_2⟩ ⟨rfl, rfl, rfl, rfl, rfl, trivial⟩ (fun w1 hw => (hw.sel (js := [0, 0]) rfl).selO (js := [0]) rfl) (fun s hm => none_ne hm.1) (fun n2 ih2 s hm => ?_)
  obtain ⟨Φ_4, s3, u2, s4⟩ := s
  obtain ⟨h, k2, h3, ph0_0, ph0_1, ph0_2⟩ := hm
  dsimp only at h k2 h3 ph0_0 ph0_1 ph0_2 ⊢
  unfold m_s_PosVars_l2 at h
  refine sq <| sr <| la rfl <| la rfl <| lq (q_lenR Sl_114 rfl rfl h3.rsl) rfl <| la rfl <| la rfl ?_
  obtain ⟨b1, hb_1, h⟩ := bs h
  refine WL.cutN 8 [(33, .bool b1), (1, .pointer (some ⟨b_1, 0, none⟩)), (3, u2), (4, .int .i64 s2), (5, v3), (6, .int .i64 s4)] ?_ (fun K => ?_)
  rotate_left
  ·refine spl 25 rfl hb_1 (fun c2 hb_1 => ?_) (fun c2 hb_1 => ?_)
   ·refine ly rfl rfl <| lf Fld_40_2 rfl rfl rfl <| ly rfl rfl <| lo T1_36 0 rfl <| ly rfl rfl <| la rfl <| ly rfl rfl ?_
    obtain ⟨x3, hx3, hb_1⟩ := bs hb_1
    obtain ⟨cs2, F3, -, g2, hb2, hs2, r2⟩ := ph0_0.el (idx_some hx3).2.2
    obtain ⟨v5, G2, rfl, hq2, h4⟩ := r2
    obtain rfl := hq2.symm
    refine lq (q_indexAddr Sl_36 rfl rfl ph0_0 hx3) rfl <| ly rfl rfl <| lf Fld_171_2 rfl rfl rfl <| ly rfl rfl <| lg 2 T1_4 g2 rfl rfl <| ly rfl rfl <| la rfl <| la rfl ?_
    cases hb_1
    exact kk K ⟨rfl, rfl, rfl, rfl, rfl, rfl, trivial⟩
   ·refine la rfl <| la rfl <| la rfl <| la rfl <| la rfl <| la rfl <| la rfl <| la rfl ?_
    cases hb_1
    exact kk K ⟨rfl, rfl, rfl, rfl, rfl, rfl, trivial⟩
  refine en ?_
  refine cdh rfl h (fun c3 h => ?_) (fun c3 h => ?_)
  ·refine WT.skip <| sq <| blk <| sr <| la rfl <| la rfl <| la rfl ?_
   obtain ⟨x4, hx4, h⟩ := bs h
   obtain ⟨cs3, F4, -, g3, hb3, hs3, r3⟩ := h3.elS (idx_some hx4).2.2
   obtain ⟨rfl, -⟩ := r3
   refine lq (q_indexAddr Sl_114 rfl rfl h3.rsl hx4) rfl <| lg 0 T1_9 g3 rfl rfl ?_
   obtain ⟨x5, hx5, h⟩ := bs h
   refine lp (p_call Fun_138 rfl (fun w1 hw => m_s_l6Has_ok hw.fro N s3 x4 k2.rsl hx5)) rfl <| la rfl <| en ?_
   refine cdh rfl h (fun c4 h => ?_) (fun c4 h => ?_)
   ·refine rgn <| la rfl <| la rfl <| la rfl ?_
    obtain ⟨x6, hx6, h⟩ := bs h
    obtain ⟨cs4, F5, -, g4, hb4, hs4, r4⟩ := h3.elS (idx_some hx6).2.2
    obtain ⟨rfl, -⟩ := r4
    refine lq (q_indexAddr Sl_114 rfl rfl h3.rsl hx6) rfl <| lg 0 T1_9 g4 rfl rfl ?_
    have rc2 : RC RS 1 Φ_4 ([[]] : List (List Nat)) [.string x6] ([x6] : List ByteArray) := RC.cons (c := [.string x6]) (cells := []) ⟨rfl, rfl⟩ rfl (RC.nil _ _ _)
    refine le' (e_lit (vs := [(0, .string x6)]) (C := #[.string x6]) RS.lasts Sl_114 Zr_9 rfl rfl rfl rfl (fill_made MC_9_1 (fill_cons (C' := [.string x6]) rfl rfl rfl rfl rfl (fill_nil))) rfl rc2 rfl (by simpa using Kw.nil)) rfl (fun v6 Φ_5 D2 q3 => ?_)
    obtain ⟨fr3, h5⟩ := q3
    replace h5 : OSl RS 9 1 Φ_5 [] v6 ([x6] : List ByteArray) := by simpa using h5
    replace ph0_0 := ph0_0.frame RTPat.lasts fr3 (Dj.empty _)
    replace ph0_1 := ph0_1.frame RTCond.lasts fr3 (Dj.empty _)
    replace ph0_2 := ph0_2.frame RTAct.lasts fr3 (Dj.empty _)
    replace k2 := k2.frame RS.lasts fr3 (Dj.empty _) (Dj.empty _)
    replace h3 := h3.frame RS.lasts fr3 (Dj.empty _) (Dj.empty _)
    obtain ⟨x7, hx7, h⟩ := bs h
    refine le' (e_appF RS.lasts RS.one RS.flat Sl_114 Ei_9 rfl rfl rfl rfl rfl (js := [2]) (Rr := [ob v6, ob v3]) rfl k2 h5.rsl hx7) rfl (fun v7 Φ_6 D3 q4 => ?_)
    obtain ⟨⟨ap2, fr4⟩, h6⟩ := q4
    replace ph0_0 := ph0_0.frame RTPat.lasts fr4 (ap2.o pa0_0)
    replace ph0_1 := ph0_1.frame RTCond.lasts fr4 (ap2.o pa0_1)
    replace ph0_2 := ph0_2.frame RTAct.lasts fr4 (ap2.o pa0_2)
    replace h3 := h3.frame RS.lasts fr4 (ap2.r (i := 1) rfl) (Dj.nil _)
    refine la rfl <| en <| ib <| rgn <| la rfl <| la rfl <| la rfl <| en ?_
    exact lback (ih2 (Φ_6, x7, v7, IntKind.i64.wrap (s4 + 1)) ⟨h, h6, h3, ph0_0, ph0_1, ph0_2⟩) ⟨rfl, rfl, rfl, rfl, rfl, trivial⟩ (fun w1 hw => (hw.sel (js := [2, 0]) rfl).selO (js := [0]) rfl)
   refine WT.skip <| ib <| rgn <| la rfl <| la rfl <| la rfl <| en ?_
   exact lback (ih2 (Φ_4, s3, u2, IntKind.i64.wrap (s4 + 1)) ⟨h, k2, h3, ph0_0, ph0_1, ph0_2⟩) ⟨rfl, rfl, rfl, rfl, rfl, trivial⟩ (fun w1 hw => (hw.sel (js := [0, 0]) rfl).selO (js := [0]) rfl)
  refine xt rfl <| ib <| rgn <| la rfl <| la rfl <| la rfl <| en ?_
  exact lback (ih1 (Φ_4, s3, u2, IntKind.i64.wrap (s2 + 1)) ⟨h, k2, ph0_0, ph0_1, ph0_2⟩) ⟨rfl, rfl, rfl, trivial⟩ (fun w1 hw => (hw.sel (js := [1]) rfl).selO (js := [0]) rfl)
 refine xt rfl <| sr <| la rfl <| la rfl <| en ?_
 refine WT.ret Tryz.func85 (resOk.one rfl) (fun w1 hw => ?_)
 subst hb0
 cases h
 refine postG_of_St (js := [0]) hw rfl ⟨u1, rfl, rfl, k1⟩
theorem m_s_PosCount_ok {Φ : Hp} {w : World} (hΦ : In Φ w) (N : Nat) (p0 : TRule) {pv0_0 pv0_1 pv0_2 : Value} {pG0_0 pG0_1 pG0_2 : List Nat} (ph0_0 : RSl RTPat 3 Φ pG0_0 pv0_0 p0.Pats) (ph0_1 : RSl RTCond 11 Φ pG0_1 pv0_1 p0.Conds) (ph0_2 : RSl RTAct 5 Φ pG0_2 pv0_2 p0.Acts) {r : Int} (h : m_s_PosCount N p0 = some r) :
  Calls Tryz.prog 89 [.agg [.string p0.Name, .int .i64 p0.Sal, pv0_0, pv0_1, pv0_2].toArray].toArray w (Post (.int .i64 r) w) := by
 refine enter Tryz.func89 rfl Tryz.ntmps89 rfl (St.start0 hΦ) ?_
 generalize hb0 : (⟨w, [], Φ⟩ : Base) = w0
 unfold m_s_PosCount at h
 refine sr ?_
 refine ln (nb rfl) rfl (fun b_1 => ?_)
 refine la rfl <| en <| sr <| la rfl <| en <| sq <| sr <| la rfl <| en <| blk ?_
 refine loop_in (σ := Int × Int) (fun s => [(1, .pointer (some ⟨b_1, 0, none⟩)), (3, .int .i64 s.1), (4, .int .i64 s.2)]) (fun s => St w0 Φ [(b_1, .cells #[.string p0.Name, .int .i64 p0.Sal, pv0_0, pv0_1, pv0_2] 40 (0, 0))] []) (fun m s => m_s_PosCount_l1 N p0 m s.1 s.2 = some r) (0, 0) N h ⟨rfl, rfl, rfl, trivial⟩ (fun w1 hw => (hw.sel (js := []) rfl).selO (js := [0]) rfl) (fun s hm => none_ne hm) (fun n1 ih1 s hm => ?_)
 obtain ⟨s1, s2⟩ := s
 have h : m_s_PosCount_l1 N p0 (n1 + 1) s1 s2 = some r := hm
 show WT _ _ [(1, .pointer (some ⟨b_1, 0, none⟩)), (3, .int .i64 s1), (4, .int .i64 s2)] (St w0 Φ [(b_1, .cells #[.string p0.Name, .int .i64 p0.Sal, pv0_0, pv0_1, pv0_2] 40 (0, 0))] [])
 unfold m_s_PosCount_l1 at h
 refine sq <| sr <| la rfl <| lf Fld_40_2 rfl rfl rfl <| lo T1_36 0 rfl <| lq (q_lenR Sl_36 rfl rfl ph0_0) rfl <| la rfl <| en ?_
 refine cdh rfl h (fun c1 h => ?_) (fun c1 h => ?_)
 ·refine WT.skip <| sq <| blk <| sr <| lf Fld_40_2 rfl rfl rfl <| lo T1_36 0 rfl <| la rfl ?_
  obtain ⟨x1, hx1, h⟩ := bs h
  obtain ⟨cs1, F1, -, g1, hb1, hs1, r1⟩ := ph0_0.el (idx_some hx1).2.2
  obtain ⟨v1, G1, rfl, hq1, h1⟩ := r1
  obtain rfl := hq1.symm
  refine lq (q_indexAddr Sl_36 rfl rfl ph0_0 hx1) rfl <| lf Fld_171_2 rfl rfl rfl <| lg 2 T1_4 g1 rfl rfl <| la rfl <| en ?_
  refine cdh rfl h (fun c2 h => ?_) (fun c2 h => ?_)
  ·refine rgn <| la rfl <| la rfl <| la rfl <| en <| ib <| rgn <| la rfl <| la rfl <| la rfl <| en ?_
   exact lback (ih1 (IntKind.i64.wrap (s1 + 1), IntKind.i64.wrap (s2 + 1)) h) ⟨rfl, rfl, rfl, trivial⟩ (fun w1 hw => (hw.sel (js := []) rfl).selO (js := [0]) rfl)
  refine WT.skip <| ib <| rgn <| la rfl <| la rfl <| la rfl <| en ?_
  exact lback (ih1 (s1, IntKind.i64.wrap (s2 + 1)) h) ⟨rfl, rfl, rfl, trivial⟩ (fun w1 hw => (hw.sel (js := []) rfl).selO (js := [0]) rfl)
 refine xt rfl <| sr <| la rfl <| la rfl <| en ?_
 refine WT.ret Tryz.func89 (resOk.one rfl) (fun w1 hw => ?_)
 subst hb0
 cases h
 exact post_of_St hw
theorem m_s_l1Int_ok {Φ : Hp} {w : World} (hΦ : In Φ w) (N : Nat) (p0 : Tl1Cur) (p1 : (List Int)) {pv0_0 pv1 : Value} {pG0_0 pG1 : List Nat} {pb0 : Nat} (ph0_0 : RSl (RI .u8) 1 Φ pG0_0 pv0_0 p0.b) (pp0 : Φ pb0 = some (.cells #[pv0_0, .int .i64 p0.i, .int .i64 p0.h] 112 (0, 0))) (ph1 : RSl (RI .i64) 1 Φ pG1 pv1 p1) (pd0_0 : Dj pG0_0 [[pb0]].flatten) (pd1 : Dj pG1 [[pb0]].flatten) (hB : [[pb0]].flatten.Nodup) (hlt : ∀ k ∈ [[pb0]].flatten, k < w.heap.size) {r : Int × Tl1Cur} (h : m_s_l1Int N p0 p1 = some r) :
  Calls Tryz.prog 121 [.pointer (some ⟨pb0, 0, none⟩), pv1].toArray w (PostG Φ w [[pb0]].flatten (fun Φ' Fs v => v = .int .i64 r.1 ∧ Fs = [[pb0]] ∧ r.2.b = p0.b ∧ Φ' pb0 = some (.cells #[pv0_0, .int .i64 r.2.i, .int .i64 r.2.h] 112 (0, 0)))) := by
 refine enter Tryz.func121 rfl Tryz.ntmps121 rfl (St.start hΦ [[pb0]] hB hlt) ?_
 have pa0_0 := Old.mk hΦ ph0_0.kn pd0_0
 have pa1 := Old.mk hΦ ph1.kn pd1
 unfold m_s_l1Int at h
 refine sr <| la rfl <| en <| sr <| la rfl <| la rfl <| la rfl <| lq (q_lenR Sl_41 rfl rfl ph1) rfl ?_
 obtain ⟨x1, hx1, h⟩ := bs h
 refine lc (k_call (js := [0]) (R := []) Fun_73 rfl rfl (fun w1 hw ap hl => m_s_l1Below_ok hw.fro N p0 (p1.length : Int) ph0_0 pp0 (ap.o pa0_0) ap.nd hl hx1)) rfl (fun v1 Φ_1 F1 q1 => ?_)
 obtain ⟨ap1, fr1, rfl, rfl, e1, h1⟩ := q1
 replace ph1 := ph1.frame RI.lasts fr1 (ap1.o pa1)
 replace ph0_0 := ph0_0.frame RI.lasts fr1 (ap1.o pa0_0)
 obtain ⟨x2, hx2, h⟩ := bs h
 obtain ⟨cs1, F2, -, g1, hb1, hs1, r1⟩ := ph1.el (idx_some hx2).2.2
 obtain ⟨rfl, -⟩ := r1
 refine lq (q_indexAddr Sl_41 rfl rfl ph1 hx2) rfl <| lg 0 T1_3 g1 rfl rfl <| la rfl <| en ?_
 refine WT.ret Tryz.func121 (resOk.one rfl) (fun w1 hw => ?_)
 cases h
 refine postG_of_St (js := [0]) hw rfl ⟨rfl, rfl, rfl, h1⟩
theorem m_s_l3Small_ok {Φ : Hp} {w : World} (hΦ : In Φ w) (N : Nat) (p0 : Tl1Cur) {pv0_0 : Value} {pG0_0 : List Nat} {pb0 : Nat} (ph0_0 : RSl (RI .u8) 1 Φ pG0_0 pv0_0 p0.b) (pp0 : Φ pb0 = some (.cells #[pv0_0, .int .i64 p0.i, .int .i64 p0.h] 112 (0, 0))) (pd0_0 : Dj pG0_0 [[pb0]].flatten) (hB : [[pb0]].flatten.Nodup) (hlt : ∀ k ∈ [[pb0]].flatten, k < w.heap.size) {r : TVal × Tl1Cur} (h : m_s_l3Small N p0 = some r) :
  Calls Tryz.prog 130 [.pointer (some ⟨pb0, 0, none⟩)].toArray w (PostG Φ w [[pb0]].flatten (fun Φ' Fs v => v = .agg [.int .i64 r.1.K, .int .i64 r.1.N, .string r.1.S].toArray ∧ Fs = [[pb0]] ∧ r.2.b = p0.b ∧ Φ' pb0 = some (.cells #[pv0_0, .int .i64 r.2.i, .int .i64 r.2.h] 112 (0, 0)))) := by
 refine enter Tryz.func130 rfl Tryz.ntmps130 rfl (St.start hΦ [[pb0]] hB hlt) ?_
 have pa0_0 := Old.mk hΦ ph0_0.kn pd0_0
 unfold m_s_l3Small at h
 refine sr ?_
 refine ln (nz Zr_85) rfl (fun b_1 => ?_)
 refine en <| sq <| sr <| la rfl ?_
 obtain ⟨x1, hx1, h⟩ := bs h
 refine lc (k_call (js := [0]) (R := []) Fun_32 rfl rfl (fun w1 hw ap hl => m_s_l1Once_ok hw.fro N p0 2 ph0_0 pp0 (ap.o pa0_0) ap.nd hl hx1)) rfl (fun v1 Φ_1 F1 q1 => ?_)
 obtain ⟨ap1, fr1, rfl, rfl, e1, h1⟩ := q1
 replace ph0_0 := ph0_0.frame RI.lasts fr1 (ap1.o pa0_0)
 refine en ?_
 refine cdh rfl h (fun c1 h => ?_) (fun c1 h => ?_)
 ·refine sr <| la rfl ?_
  obtain ⟨x2, hx2, h⟩ := bs h
  refine lc (k_call (js := [0]) (R := []) Fun_73 rfl rfl (fun w1 hw ap hl => m_s_l1Below_ok hw.fro N (⟨p0.b, x1.2.i, x1.2.h⟩ : Tl1Cur) 3 ph0_0 h1 (ap.o pa0_0) ap.nd hl hx2)) rfl (fun v2 Φ_2 F2 q2 => ?_)
  obtain ⟨ap2, fr2, rfl, rfl, e2, h2⟩ := q2
  replace ph0_0 := ph0_0.frame RI.lasts fr2 (ap2.o pa0_0)
  refine la rfl <| lq (q_build (vs := [(0, .int .i64 1), (1, .int .i64 (IntKind.i64.wrap (1 + x2.1)))]) (C := #[.int .i64 1, .int .i64 (IntKind.i64.wrap (1 + x2.1)), .string (⟨#[]⟩ : ByteArray)]) Pl_85 Zr_85 rfl (fill_cons (C' := [.int .i64 1, .int .i64 0, .string ⟨#[]⟩]) rfl rfl rfl rfl rfl (fill_cons (C' := [.int .i64 1, .int .i64 (IntKind.i64.wrap (1 + x2.1)), .string ⟨#[]⟩]) rfl rfl rfl rfl rfl (fill_nil)))) rfl ?_
  refine soN 0 Sz_85 rfl ⟨rfl, rfl, rfl, trivial⟩ rfl ?_
  refine en ?_
  refine WT.ret Tryz.func130 (resOk.one (rv_cell Tn_85 rfl (fun w1 hw => hw.rgO (i := 0) rfl 0 3 [.int .i64 1, .int .i64 (IntKind.i64.wrap (1 + x2.1)), .string (⟨#[]⟩ : ByteArray)] rfl) rfl)) (fun w1 hw => ?_)
  cases h
  refine postG_of_St (js := [0]) hw rfl ⟨rfl, rfl, rfl, h2⟩
 refine WT.skip <| sr <| la rfl ?_
 have rc1 : RC RS 1 Φ_1 ([[], []] : List (List Nat)) [.string (⟨#[97]⟩ : ByteArray), .string (⟨#[98]⟩ : ByteArray)] ([(⟨#[97]⟩ : ByteArray), (⟨#[98]⟩ : ByteArray)] : List ByteArray) := RC.cons (c := [.string (⟨#[97]⟩ : ByteArray)]) (cells := [.string (⟨#[98]⟩ : ByteArray)]) ⟨rfl, rfl⟩ rfl (RC.cons (c := [.string (⟨#[98]⟩ : ByteArray)]) (cells := []) ⟨rfl, rfl⟩ rfl (RC.nil _ _ _))
 refine le' (e_lit (vs := [(0, .string (⟨#[97]⟩ : ByteArray)), (1, .string (⟨#[98]⟩ : ByteArray))]) (C := #[.string (⟨#[97]⟩ : ByteArray), .string (⟨#[98]⟩ : ByteArray)]) RS.lasts Sl_114 Zr_9 rfl rfl rfl rfl (fill_made MC_9_2 (fill_cons (C' := [.string (⟨#[97]⟩ : ByteArray), .string ⟨#[]⟩]) rfl rfl rfl rfl rfl (fill_cons (C' := [.string (⟨#[97]⟩ : ByteArray), .string (⟨#[98]⟩ : ByteArray)]) rfl rfl rfl rfl rfl (fill_nil)))) rfl rc1 rfl (by simpa using Kw.nil)) rfl (fun v3 Φ_3 D1 q3 => ?_)
 obtain ⟨fr3, h3⟩ := q3
 replace h3 : OSl RS 9 1 Φ_3 [] v3 ([(⟨#[97]⟩ : ByteArray), (⟨#[98]⟩ : ByteArray)] : List ByteArray) := by simpa using h3
 replace ph0_0 := ph0_0.frame RI.lasts fr3 (Dj.empty _)
 replace h1 := fr3 _ _ (by simp) h1
 obtain ⟨x3, hx3, h⟩ := bs h
 refine lc (k_call (js := [1]) (R := [ob v3]) Fun_72 rfl rfl (fun w1 hw ap hl => m_s_l1Str_ok hw.fro N (⟨p0.b, x1.2.i, x1.2.h⟩ : Tl1Cur) ([(⟨#[97]⟩ : ByteArray), (⟨#[98]⟩ : ByteArray)] : List ByteArray) ph0_0 h1 h3.rsl (ap.o pa0_0) (Dj.app (ap.r (i := 0) rfl) (Dj.nil _)) ap.nd hl hx3)) rfl (fun v4 Φ_4 F3 q4 => ?_)
 obtain ⟨ap3, fr4, rfl, rfl, e3, h4⟩ := q4
 replace ph0_0 := ph0_0.frame RI.lasts fr4 (ap3.o pa0_0)
 refine lq (q_build (vs := [(0, .int .i64 2), (2, .string x3.1)]) (C := #[.int .i64 2, .int .i64 0, .string x3.1]) Pl_85 Zr_85 rfl (fill_cons (C' := [.int .i64 2, .int .i64 0, .string ⟨#[]⟩]) rfl rfl rfl rfl rfl (fill_cons (C' := [.int .i64 2, .int .i64 0, .string x3.1]) rfl rfl rfl rfl rfl (fill_nil)))) rfl ?_
 refine soN 0 Sz_85 rfl ⟨rfl, rfl, rfl, trivial⟩ rfl ?_
 refine en ?_
 refine WT.ret Tryz.func130 (resOk.one (rv_cell Tn_85 rfl (fun w1 hw => hw.rgO (i := 0) rfl 0 3 [.int .i64 2, .int .i64 0, .string x3.1] rfl) rfl)) (fun w1 hw => ?_)
 cases h
 refine postG_of_St (js := [0]) hw rfl ⟨rfl, rfl, rfl, h4⟩
theorem m_s_l6Val_ok {Φ : Hp} {w : World} (hΦ : In Φ w) (N : Nat) (p0 : TVal)   {r : TArg} (h : m_s_l6Val N p0 = some r) :
  Calls Tryz.prog 175 [.agg [.int .i64 p0.K, .int .i64 p0.N, .string p0.S].toArray].toArray w (Post (.agg [.int .i64 r.K, .string r.S, .int .i64 r.V.K, .int .i64 r.V.N, .string r.V.S].toArray) w) := by
 refine enter Tryz.func175 rfl Tryz.ntmps175 rfl (St.start0 hΦ) ?_
 unfold m_s_l6Val at h
 refine sr ?_
 refine ln (nb rfl) rfl (fun b_1 => ?_)
 refine ln (nz Zr_137) rfl (fun b_2 => ?_)
 refine en <| sr <| ld3 Tn_85 1 rfl <| lq (q_build (vs := [(0, .int .i64 2), (2, .agg [.int .i64 p0.K, .int .i64 p0.N, .string p0.S].toArray)]) (C := #[.int .i64 2, .string (⟨#[]⟩ : ByteArray), .int .i64 p0.K, .int .i64 p0.N, .string p0.S]) Pl_137 Zr_137 rfl (fill_cons (C' := [.int .i64 2, .string ⟨#[]⟩, .int .i64 0, .int .i64 0, .string ⟨#[]⟩]) rfl rfl rfl rfl rfl (fill_cons (C' := [.int .i64 2, .string ⟨#[]⟩, .int .i64 p0.K, .int .i64 p0.N, .string p0.S]) rfl rfl rfl rfl rfl (fill_nil)))) rfl ?_
 refine soN 0 Sz_137 rfl ⟨rfl, rfl, rfl, rfl, rfl, trivial⟩ rfl ?_
 refine en ?_
 refine WT.ret Tryz.func175 (resOk.one (rv_cell Tn_137 rfl (fun w1 hw => hw.rgO (i := 0) rfl 0 5 [.int .i64 2, .string (⟨#[]⟩ : ByteArray), .int .i64 p0.K, .int .i64 p0.N, .string p0.S] rfl) rfl)) (fun w1 hw => ?_)
 cases h
 exact post_of_St hw
theorem m_s_l6Var_ok {Φ : Hp} {w : World} (hΦ : In Φ w) (N : Nat) (p0 : ByteArray)   {r : TArg} (h : m_s_l6Var N p0 = some r) :
  Calls Tryz.prog 176 [.string p0].toArray w (Post (.agg [.int .i64 r.K, .string r.S, .int .i64 r.V.K, .int .i64 r.V.N, .string r.V.S].toArray) w) := by
 refine enter Tryz.func176 rfl Tryz.ntmps176 rfl (St.start0 hΦ) ?_
 unfold m_s_l6Var at h
 refine sr ?_
 refine ln (nz Zr_137) rfl (fun b_1 => ?_)
 refine en <| sr <| la rfl <| lq (q_build (vs := [(0, .int .i64 1), (1, .string p0)]) (C := #[.int .i64 1, .string p0, .int .i64 0, .int .i64 0, .string (⟨#[]⟩ : ByteArray)]) Pl_137 Zr_137 rfl (fill_cons (C' := [.int .i64 1, .string ⟨#[]⟩, .int .i64 0, .int .i64 0, .string ⟨#[]⟩]) rfl rfl rfl rfl rfl (fill_cons (C' := [.int .i64 1, .string p0, .int .i64 0, .int .i64 0, .string ⟨#[]⟩]) rfl rfl rfl rfl rfl (fill_nil)))) rfl ?_
 refine soN 0 Sz_137 rfl ⟨rfl, rfl, rfl, rfl, rfl, trivial⟩ rfl ?_
 refine en ?_
 refine WT.ret Tryz.func176 (resOk.one (rv_cell Tn_137 rfl (fun w1 hw => hw.rgO (i := 0) rfl 0 5 [.int .i64 1, .string p0, .int .i64 0, .int .i64 0, .string (⟨#[]⟩ : ByteArray)] rfl) rfl)) (fun w1 hw => ?_)
 cases h
 exact post_of_St hw
theorem m_s_l6Arg_ok {Φ : Hp} {w : World} (hΦ : In Φ w) (N : Nat) (p0 : Tl1Cur) {pv0_0 : Value} {pG0_0 : List Nat} {pb0 : Nat} (ph0_0 : RSl (RI .u8) 1 Φ pG0_0 pv0_0 p0.b) (pp0 : Φ pb0 = some (.cells #[pv0_0, .int .i64 p0.i, .int .i64 p0.h] 112 (0, 0))) (pd0_0 : Dj pG0_0 [[pb0]].flatten) (hB : [[pb0]].flatten.Nodup) (hlt : ∀ k ∈ [[pb0]].flatten, k < w.heap.size) {r : TArg × Tl1Cur} (h : m_s_l6Arg N p0 = some r) :
  Calls Tryz.prog 173 [.pointer (some ⟨pb0, 0, none⟩)].toArray w (PostG Φ w [[pb0]].flatten (fun Φ' Fs v => v = .agg [.int .i64 r.1.K, .string r.1.S, .int .i64 r.1.V.K, .int .i64 r.1.V.N, .string r.1.V.S].toArray ∧ Fs = [[pb0]] ∧ r.2.b = p0.b ∧ Φ' pb0 = some (.cells #[pv0_0, .int .i64 r.2.i, .int .i64 r.2.h] 112 (0, 0)))) := by
 refine enter Tryz.func173 rfl Tryz.ntmps173 rfl (St.start hΦ [[pb0]] hB hlt) ?_
 have pa0_0 := Old.mk hΦ ph0_0.kn pd0_0
 unfold m_s_l6Arg at h
 refine sr ?_
 refine ln (nz Zr_137) rfl (fun b_1 => ?_)
 refine en <| sq <| sr <| la rfl ?_
 obtain ⟨x1, hx1, h⟩ := bs h
 refine lc (k_call (js := [0]) (R := []) Fun_73 rfl rfl (fun w1 hw ap hl => m_s_l1Below_ok hw.fro N p0 6 ph0_0 pp0 (ap.o pa0_0) ap.nd hl hx1)) rfl (fun v1 Φ_1 F1 q1 => ?_)
 obtain ⟨ap1, fr1, rfl, rfl, e1, h1⟩ := q1
 replace ph0_0 := ph0_0.frame RI.lasts fr1 (ap1.o pa0_0)
 refine en <| blk <| sr <| la rfl <| la rfl <| en ?_
 refine cdh rfl h (fun c1 h => ?_) (fun c1 h => ?_)
 ·refine sr <| lq (q_build (vs := [(0, .int .i64 3)]) (C := #[.int .i64 3, .string (⟨#[]⟩ : ByteArray), .int .i64 0, .int .i64 0, .string (⟨#[]⟩ : ByteArray)]) Pl_137 Zr_137 rfl (fill_cons (C' := [.int .i64 3, .string ⟨#[]⟩, .int .i64 0, .int .i64 0, .string ⟨#[]⟩]) rfl rfl rfl rfl rfl (fill_nil))) rfl ?_
  refine soN 0 Sz_137 rfl ⟨rfl, rfl, rfl, rfl, rfl, trivial⟩ rfl ?_
  refine en ?_
  refine WT.ret Tryz.func173 (resOk.one (rv_cell Tn_137 rfl (fun w1 hw => hw.rgO (i := 0) rfl 0 5 [.int .i64 3, .string (⟨#[]⟩ : ByteArray), .int .i64 0, .int .i64 0, .string (⟨#[]⟩ : ByteArray)] rfl) rfl)) (fun w1 hw => ?_)
  cases h
  refine postG_of_St (js := [0]) hw rfl ⟨rfl, rfl, rfl, h1⟩
 refine sr <| la rfl <| la rfl <| en ?_
 refine cdh rfl h (fun c2 h => ?_) (fun c2 h => ?_)
 ·refine sr <| la rfl ?_
  obtain ⟨x2, hx2, h⟩ := bs h
  refine lc (k_call (js := [0]) (R := []) Fun_130 rfl rfl (fun w1 hw ap hl => m_s_l3Small_ok hw.fro N (⟨p0.b, x1.2.i, x1.2.h⟩ : Tl1Cur) ph0_0 h1 (ap.o pa0_0) ap.nd hl hx2)) rfl (fun v2 Φ_2 F2 q2 => ?_)
  obtain ⟨ap2, fr2, rfl, rfl, e2, h2⟩ := q2
  replace ph0_0 := ph0_0.frame RI.lasts fr2 (ap2.o pa0_0)
  obtain ⟨x3, hx3, h⟩ := bs h
  refine lp (p_call Fun_175 rfl (fun w1 hw => m_s_l6Val_ok hw.fro N x2.1 hx3)) rfl <| soN 0 Sz_137 rfl ⟨rfl, rfl, rfl, rfl, rfl, trivial⟩ rfl ?_
  refine en ?_
  refine WT.ret Tryz.func173 (resOk.one (rv_cell Tn_137 rfl (fun w1 hw => hw.rgO (i := 0) rfl 0 5 [.int .i64 x3.K, .string x3.S, .int .i64 x3.V.K, .int .i64 x3.V.N, .string x3.V.S] rfl) rfl)) (fun w1 hw => ?_)
  cases h
  refine postG_of_St (js := [0]) hw rfl ⟨rfl, rfl, rfl, h2⟩
 refine WT.skip <| ib <| sr <| la rfl ?_
 have rc1 : RC RS 1 Φ_1 ([[], [], [], []] : List (List Nat)) [.string (⟨#[88]⟩ : ByteArray), .string (⟨#[89]⟩ : ByteArray), .string (⟨#[90]⟩ : ByteArray), .string (⟨#[88]⟩ : ByteArray)] ([(⟨#[88]⟩ : ByteArray), (⟨#[89]⟩ : ByteArray), (⟨#[90]⟩ : ByteArray), (⟨#[88]⟩ : ByteArray)] : List ByteArray) := RC.cons (c := [.string (⟨#[88]⟩ : ByteArray)]) (cells := [.string (⟨#[89]⟩ : ByteArray), .string (⟨#[90]⟩ : ByteArray), .string (⟨#[88]⟩ : ByteArray)]) ⟨rfl, rfl⟩ rfl (RC.cons (c := [.string (⟨#[89]⟩ : ByteArray)]) (cells := [.string (⟨#[90]⟩ : ByteArray), .string (⟨#[88]⟩ : ByteArray)]) ⟨rfl, rfl⟩ rfl (RC.cons (c := [.string (⟨#[90]⟩ : ByteArray)]) (cells := [.string (⟨#[88]⟩ : ByteArray)]) ⟨rfl, rfl⟩ rfl (RC.cons (c := [.string (⟨#[88]⟩ : ByteArray)]) (cells := []) ⟨rfl, rfl⟩ rfl (RC.nil _ _ _))))
 refine le' (e_lit (vs := [(0, .string (⟨#[88]⟩ : ByteArray)), (1, .string (⟨#[89]⟩ : ByteArray)), (2, .string (⟨#[90]⟩ : ByteArray)), (3, .string (⟨#[88]⟩ : ByteArray))]) (C := #[.string (⟨#[88]⟩ : ByteArray), .string (⟨#[89]⟩ : ByteArray), .string (⟨#[90]⟩ : ByteArray), .string (⟨#[88]⟩ : ByteArray)]) RS.lasts Sl_114 Zr_9 rfl rfl rfl rfl (fill_made MC_9_4 (fill_cons (C' := [.string (⟨#[88]⟩ : ByteArray), .string ⟨#[]⟩, .string ⟨#[]⟩, .string ⟨#[]⟩]) rfl rfl rfl rfl rfl (fill_cons (C' := [.string (⟨#[88]⟩ : ByteArray), .string (⟨#[89]⟩ : ByteArray), .string ⟨#[]⟩, .string ⟨#[]⟩]) rfl rfl rfl rfl rfl (fill_cons (C' := [.string (⟨#[88]⟩ : ByteArray), .string (⟨#[89]⟩ : ByteArray), .string (⟨#[90]⟩ : ByteArray), .string ⟨#[]⟩]) rfl rfl rfl rfl rfl (fill_cons (C' := [.string (⟨#[88]⟩ : ByteArray), .string (⟨#[89]⟩ : ByteArray), .string (⟨#[90]⟩ : ByteArray), .string (⟨#[88]⟩ : ByteArray)]) rfl rfl rfl rfl rfl (fill_nil)))))) rfl rc1 rfl (by simpa using Kw.nil)) rfl (fun v3 Φ_3 D1 q3 => ?_)
 obtain ⟨fr3, h3⟩ := q3
 replace h3 : OSl RS 9 1 Φ_3 [] v3 ([(⟨#[88]⟩ : ByteArray), (⟨#[89]⟩ : ByteArray), (⟨#[90]⟩ : ByteArray), (⟨#[88]⟩ : ByteArray)] : List ByteArray) := by simpa using h3
 replace ph0_0 := ph0_0.frame RI.lasts fr3 (Dj.empty _)
 replace h1 := fr3 _ _ (by simp) h1
 obtain ⟨x4, hx4, h⟩ := bs h
 refine lc (k_call (js := [1]) (R := [ob v3]) Fun_72 rfl rfl (fun w1 hw ap hl => m_s_l1Str_ok hw.fro N (⟨p0.b, x1.2.i, x1.2.h⟩ : Tl1Cur) ([(⟨#[88]⟩ : ByteArray), (⟨#[89]⟩ : ByteArray), (⟨#[90]⟩ : ByteArray), (⟨#[88]⟩ : ByteArray)] : List ByteArray) ph0_0 h1 h3.rsl (ap.o pa0_0) (Dj.app (ap.r (i := 0) rfl) (Dj.nil _)) ap.nd hl hx4)) rfl (fun v4 Φ_4 F3 q4 => ?_)
 obtain ⟨ap3, fr4, rfl, rfl, e3, h4⟩ := q4
 replace ph0_0 := ph0_0.frame RI.lasts fr4 (ap3.o pa0_0)
 obtain ⟨x5, hx5, h⟩ := bs h
 refine lp (p_call Fun_176 rfl (fun w1 hw => m_s_l6Var_ok hw.fro N x4.1 hx5)) rfl <| soN 0 Sz_137 rfl ⟨rfl, rfl, rfl, rfl, rfl, trivial⟩ rfl ?_
 refine en ?_
 refine WT.ret Tryz.func173 (resOk.one (rv_cell Tn_137 rfl (fun w1 hw => hw.rgO (i := 0) rfl 0 5 [.int .i64 x5.K, .string x5.S, .int .i64 x5.V.K, .int .i64 x5.V.N, .string x5.V.S] rfl) rfl)) (fun w1 hw => ?_)
 cases h
 refine postG_of_St (js := [0]) hw rfl ⟨rfl, rfl, rfl, h4⟩
theorem m_s_l6Draw_ok {Φ : Hp} {w : World} (hΦ : In Φ w) (N : Nat) (p0 : Tl1Cur) (p1 : Bool) {pv0_0 : Value} {pG0_0 : List Nat} {pb0 : Nat} (ph0_0 : RSl (RI .u8) 1 Φ pG0_0 pv0_0 p0.b) (pp0 : Φ pb0 = some (.cells #[pv0_0, .int .i64 p0.i, .int .i64 p0.h] 112 (0, 0))) (pd0_0 : Dj pG0_0 [[pb0]].flatten) (hB : [[pb0]].flatten.Nodup) (hlt : ∀ k ∈ [[pb0]].flatten, k < w.heap.size) {r : TPat × Tl1Cur} (h : m_s_l6Draw N p0 p1 = some r) :
  Calls Tryz.prog 122 [.pointer (some ⟨pb0, 0, none⟩), .bool p1].toArray w (PostG Φ w [[pb0]].flatten (fun Φ' Fs v => ∃ (sr_0_0 : Value), v = .agg [.string r.1.Kind, sr_0_0, .bool r.1.Not].toArray ∧ Fs = [ob sr_0_0, [pb0]] ∧ OSl RTArg 137 5 Φ' [] sr_0_0 r.1.Args ∧ r.2.b = p0.b ∧ Φ' pb0 = some (.cells #[pv0_0, .int .i64 r.2.i, .int .i64 r.2.h] 112 (0, 0)))) := by
 refine enter Tryz.func122 rfl Tryz.ntmps122 rfl (St.start hΦ [[pb0]] hB hlt) ?_
 have pa0_0 := Old.mk hΦ ph0_0.kn pd0_0
 revert pa0_0
 generalize hb0 : (⟨w, [[pb0]].flatten, Φ⟩ : Base) = w0
 intro pa0_0
 unfold m_s_l6Draw at h
 refine sr ?_
 refine ln (nz Zr_171) rfl (fun b_1 => ?_)
 refine en <| sr <| la rfl ?_
 have rc1 : RC RS 1 Φ ([[], [], [], []] : List (List Nat)) [.string (⟨#[111, 114, 100, 101, 114]⟩ : ByteArray), .string (⟨#[112, 97, 105, 100]⟩ : ByteArray), .string (⟨#[105, 116, 101, 109]⟩ : ByteArray), .string (⟨#[111, 114, 100, 101, 114]⟩ : ByteArray)] ([(⟨#[111, 114, 100, 101, 114]⟩ : ByteArray), (⟨#[112, 97, 105, 100]⟩ : ByteArray), (⟨#[105, 116, 101, 109]⟩ : ByteArray), (⟨#[111, 114, 100, 101, 114]⟩ : ByteArray)] : List ByteArray) := RC.cons (c := [.string (⟨#[111, 114, 100, 101, 114]⟩ : ByteArray)]) (cells := [.string (⟨#[112, 97, 105, 100]⟩ : ByteArray), .string (⟨#[105, 116, 101, 109]⟩ : ByteArray), .string (⟨#[111, 114, 100, 101, 114]⟩ : ByteArray)]) ⟨rfl, rfl⟩ rfl (RC.cons (c := [.string (⟨#[112, 97, 105, 100]⟩ : ByteArray)]) (cells := [.string (⟨#[105, 116, 101, 109]⟩ : ByteArray), .string (⟨#[111, 114, 100, 101, 114]⟩ : ByteArray)]) ⟨rfl, rfl⟩ rfl (RC.cons (c := [.string (⟨#[105, 116, 101, 109]⟩ : ByteArray)]) (cells := [.string (⟨#[111, 114, 100, 101, 114]⟩ : ByteArray)]) ⟨rfl, rfl⟩ rfl (RC.cons (c := [.string (⟨#[111, 114, 100, 101, 114]⟩ : ByteArray)]) (cells := []) ⟨rfl, rfl⟩ rfl (RC.nil _ _ _))))
 refine le' (e_lit (vs := [(0, .string (⟨#[111, 114, 100, 101, 114]⟩ : ByteArray)), (1, .string (⟨#[112, 97, 105, 100]⟩ : ByteArray)), (2, .string (⟨#[105, 116, 101, 109]⟩ : ByteArray)), (3, .string (⟨#[111, 114, 100, 101, 114]⟩ : ByteArray))]) (C := #[.string (⟨#[111, 114, 100, 101, 114]⟩ : ByteArray), .string (⟨#[112, 97, 105, 100]⟩ : ByteArray), .string (⟨#[105, 116, 101, 109]⟩ : ByteArray), .string (⟨#[111, 114, 100, 101, 114]⟩ : ByteArray)]) RS.lasts Sl_114 Zr_9 rfl rfl rfl rfl (fill_made MC_9_4 (fill_cons (C' := [.string (⟨#[111, 114, 100, 101, 114]⟩ : ByteArray), .string ⟨#[]⟩, .string ⟨#[]⟩, .string ⟨#[]⟩]) rfl rfl rfl rfl rfl (fill_cons (C' := [.string (⟨#[111, 114, 100, 101, 114]⟩ : ByteArray), .string (⟨#[112, 97, 105, 100]⟩ : ByteArray), .string ⟨#[]⟩, .string ⟨#[]⟩]) rfl rfl rfl rfl rfl (fill_cons (C' := [.string (⟨#[111, 114, 100, 101, 114]⟩ : ByteArray), .string (⟨#[112, 97, 105, 100]⟩ : ByteArray), .string (⟨#[105, 116, 101, 109]⟩ : ByteArray), .string ⟨#[]⟩]) rfl rfl rfl rfl rfl (fill_cons (C' := [.string (⟨#[111, 114, 100, 101, 114]⟩ : ByteArray), .string (⟨#[112, 97, 105, 100]⟩ : ByteArray), .string (⟨#[105, 116, 101, 109]⟩ : ByteArray), .string (⟨#[111, 114, 100, 101, 114]⟩ : ByteArray)]) rfl rfl rfl rfl rfl (fill_nil)))))) rfl rc1 rfl (by simpa using Kw.nil)) rfl (fun v1 Φ_1 D1 q1 => ?_)
 obtain ⟨fr1, h1⟩ := q1
 replace h1 : OSl RS 9 1 Φ_1 [] v1 ([(⟨#[111, 114, 100, 101, 114]⟩ : ByteArray), (⟨#[112, 97, 105, 100]⟩ : ByteArray), (⟨#[105, 116, 101, 109]⟩ : ByteArray), (⟨#[111, 114, 100, 101, 114]⟩ : ByteArray)] : List ByteArray) := by simpa using h1
 replace ph0_0 := ph0_0.frame RI.lasts fr1 (Dj.empty _)
 replace pp0 := fr1 _ _ (by simp) pp0
 obtain ⟨x1, hx1, h⟩ := bs h
 refine lc (k_call (js := [1]) (R := [ob v1]) Fun_72 rfl rfl (fun w1 hw ap hl => m_s_l1Str_ok hw.fro N p0 ([(⟨#[111, 114, 100, 101, 114]⟩ : ByteArray), (⟨#[112, 97, 105, 100]⟩ : ByteArray), (⟨#[105, 116, 101, 109]⟩ : ByteArray), (⟨#[111, 114, 100, 101, 114]⟩ : ByteArray)] : List ByteArray) ph0_0 pp0 h1.rsl (ap.o pa0_0) (Dj.app (ap.r (i := 0) rfl) (Dj.nil _)) ap.nd hl hx1)) rfl (fun v2 Φ_2 F1 q2 => ?_)
 obtain ⟨ap1, fr2, rfl, rfl, e1, h2⟩ := q2
 replace ph0_0 := ph0_0.frame RI.lasts fr2 (ap1.o pa0_0)
 refine la rfl <| lq (q_build (vs := [(0, .string x1.1), (2, .bool p1)]) (C := #[.string x1.1, .slice none 0 0, .bool p1]) Pl_171 Zr_171 rfl (fill_cons (C' := [.string x1.1, .slice none 0 0, .bool false]) rfl rfl rfl rfl rfl (fill_cons (C' := [.string x1.1, .slice none 0 0, .bool p1]) rfl rfl rfl rfl rfl (fill_nil)))) rfl ?_
 refine ln (nz Zr_171) rfl (fun b_2 => ?_)
 refine soN 0 Sz_171 rfl ⟨rfl, rfl, rfl, trivial⟩ rfl ?_
 refine en <| sr <| la rfl <| en <| sq <| sr <| lf Fld_171_0 rfl rfl rfl <| lo T1_9 0 rfl <| la rfl <| en ?_
 refine cut (σ := Int) (fun s => [(0, .pointer (some ⟨pb0, 0, none⟩)), (4, .pointer (some ⟨b_1, 0, none⟩)), (5, .pointer (some ⟨b_2, 0, none⟩)), (6, .int .i64 s)]) (fun s => St w0 Φ_2 [(b_2, .cells #[.string x1.1, .slice none 0 0, .bool p1] 171 (0, 0)), (b_1, .cells #[.string (⟨#[]⟩ : ByteArray), .slice none 0 0, .bool false] 171 (0, 0))] [[pb0]]) (fun s => m_s_l6Draw_j1 N p0 p1 x1 s = some r) (fun s hm => ?_) (fun K => ?_)
 ·clear h
  revert hm; revert s; intro s1 hm
  have h : m_s_l6Draw_j1 N p0 p1 x1 s1 = some r := hm
  show WT _ _ [(0, .pointer (some ⟨pb0, 0, none⟩)), (4, .pointer (some ⟨b_1, 0, none⟩)), (5, .pointer (some ⟨b_2, 0, none⟩)), (6, .int .i64 s1)] (St w0 Φ_2 [(b_2, .cells #[.string x1.1, .slice none 0 0, .bool p1] 171 (0, 0)), (b_1, .cells #[.string (⟨#[]⟩ : ByteArray), .slice none 0 0, .bool false] 171 (0, 0))] [[pb0]])
  unfold m_s_l6Draw_j1 at h
  refine sq <| sr <| la rfl <| en <| blk <| WT.loop <| WT.conv (S' := St w0 Φ_2 [(b_2, .cells #[.string x1.1, .slice none 0 0, .bool p1] 171 (0, 0)), (b_1, .cells #[.string (⟨#[]⟩ : ByteArray), .slice none 0 0, .bool false] 171 (0, 0))] (ob (.slice none 0 0) :: [[pb0]])) (fun w1 hw => hw.addNil) ?_
  have k1 := OSl.nil RTArg 137 5 Φ_2
  refine WT.mono (l' := [(0, .pointer (some ⟨pb0, 0, none⟩)), (4, .pointer (some ⟨b_1, 0, none⟩)), (5, .pointer (some ⟨b_2, 0, none⟩)), (6, .int .i64 s1), (7, .int .i64 0)]) (S' := St w0 Φ_2 [(b_2, .cells #[.string x1.1, (.slice none 0 0), .bool p1] 171 (0, 0)), (b_1, .cells #[.string (⟨#[]⟩ : ByteArray), .slice none 0 0, .bool false] 171 (0, 0))] [ob (.slice none 0 0), [pb0]]) ⟨rfl, rfl, rfl, rfl, rfl, trivial⟩ (fun w1 hw => (hw.sel (js := [0, 0]) rfl).selO (js := [0, 0]) rfl) ?_
  refine loop_ind (σ := Hp × (List TArg) × Value × Int × Int × Int) (fun s => [(0, .pointer (some ⟨pb0, 0, none⟩)), (4, .pointer (some ⟨b_1, 0, none⟩)), (5, .pointer (some ⟨b_2, 0, none⟩)), (6, .int .i64 s1), (7, .int .i64 s.2.2.2.1)]) (fun s => St w0 s.1 [(b_2, .cells #[.string x1.1, s.2.2.1, .bool p1] 171 (0, 0)), (b_1, .cells #[.string (⟨#[]⟩ : ByteArray), .slice none 0 0, .bool false] 171 (0, 0))] [ob s.2.2.1, [pb0]]) (fun m s => m_s_l6Draw_l2 N p0 p1 x1 s1 m s.2.1 s.2.2.2.1 s.2.2.2.2.1 s.2.2.2.2.2 = some r ∧ (OSl RTArg 137 5 s.1 [] s.2.2.1 s.2.1) ∧ (s.1 pb0 = some (.cells #[pv0_0, .int .i64 s.2.2.2.2.1, .int .i64 s.2.2.2.2.2] 112 (0, 0))) ∧ (RSl (RI .u8) 1 s.1 pG0_0 pv0_0 p0.b)) (fun s hm => none_ne (show (none : Option (TPat × Tl1Cur)) = some r from hm.1)) (fun n2 ih2 s hm => ?_) N (Φ_2, ([] : List TArg), (.slice none 0 0), 0, x1.2.i, x1.2.h) ⟨h, k1, h2, ph0_0⟩
  obtain ⟨Φ_3, s2, u1, s3, s4, s5⟩ := s
  obtain ⟨h, k2, k3, ph0_0⟩ := hm
  dsimp only at h k2 k3 ph0_0 ⊢
  unfold m_s_l6Draw_l2 at h
  refine sq <| sr <| la rfl <| la rfl <| la rfl <| en ?_
  refine cdh rfl h (fun c1 h => ?_) (fun c1 h => ?_)
  ·refine WT.skip <| sq <| blk <| WT.mix (Kn Φ_3 [] [(b_2, .cells #[.string x1.1, u1, .bool p1] 171 (0, 0)), (b_1, .cells #[.string (⟨#[]⟩ : ByteArray), .slice none 0 0, .bool false] 171 (0, 0))]) (fun i => match i with | 7 => false | _ => true) mixed (fun _ h => h.drew) <| mq 0 rfl (by kernel_rfl) (kn Kf.nil (ai2 0 1 rfl rfl)) (q_fieldAddr Fld_171_1 rfl) rfl <| mq 1 rfl (by kernel_rfl) (kn Kf.nil (ai2 0 1 rfl rfl)) (q_load1 T1_169 rfl (fun w1 hw => hw.rgO (i := 0) rfl 1 1 [u1] rfl)) rfl ?_
   refine ma 2 rfl (by kernel_rfl) (kn Kf.nil (ai2 0 1 rfl rfl)) rfl ?_
   obtain ⟨x2, hx2, h⟩ := bs h
   refine WM.one 3 (by kernel_rfl) (mc rfl (fun _ v Φx D w1 hq hw => Kn.of Kf.nil (ai2 0 1 rfl rfl) hw) (k_call (js := [1]) (R := [ob u1]) Fun_173 rfl rfl (fun w1 hw ap hl => m_s_l6Arg_ok hw.fro N (⟨p0.b, s4, s5⟩ : Tl1Cur) ph0_0 k3 (ap.o pa0_0) ap.nd hl hx2)) rfl (fun v3 Φ_4 F2 q3 => ?_))
   obtain ⟨ap2, fr3, rfl, rfl, e2, h3⟩ := q3
   replace ph0_0 := ph0_0.frame RI.lasts fr3 (ap2.o pa0_0)
   replace k2 := k2.frame RTArg.lasts fr3 (ap2.r (i := 0) rfl) (Dj.nil _)
   have rc2 : RC RTArg 5 Φ_4 ([[]] : List (List Nat)) [.int .i64 x2.1.K, .string x2.1.S, .int .i64 x2.1.V.K, .int .i64 x2.1.V.N, .string x2.1.V.S] ([x2.1] : List TArg) := RC.cons (c := [.int .i64 x2.1.K, .string x2.1.S, .int .i64 x2.1.V.K, .int .i64 x2.1.V.N, .string x2.1.V.S]) (cells := []) ⟨rfl, rfl⟩ rfl (RC.nil _ _ _)
   refine WM.one 4 (by kernel_rfl) (me rfl (fun _ v Φx D w1 hq hw => Kn.of Kf.nil (ai2 0 1 rfl rfl) hw) (e_lit (vs := [(0, .agg [.int .i64 x2.1.K, .string x2.1.S, .int .i64 x2.1.V.K, .int .i64 x2.1.V.N, .string x2.1.V.S].toArray)]) (C := #[.int .i64 x2.1.K, .string x2.1.S, .int .i64 x2.1.V.K, .int .i64 x2.1.V.N, .string x2.1.V.S]) RTArg.lasts Sl_169 Zr_137 rfl rfl rfl rfl (fill_made MC_137_1 (fill_cons (C' := [.int .i64 x2.1.K, .string x2.1.S, .int .i64 x2.1.V.K, .int .i64 x2.1.V.N, .string x2.1.V.S]) rfl rfl rfl rfl rfl (fill_nil))) rfl rc2 rfl (by simpa using Kw.nil)) rfl (fun v4 Φ_5 D2 q4 => ?_))
   obtain ⟨fr4, h4⟩ := q4
   replace h4 : OSl RTArg 137 5 Φ_5 [] v4 ([x2.1] : List TArg) := by simpa using h4
   replace ph0_0 := ph0_0.frame RI.lasts fr4 (Dj.empty _)
   replace k2 := k2.frame RTArg.lasts fr4 (Dj.empty _) (Dj.empty _)
   replace h3 := fr4 _ _ (by simp) h3
   obtain ⟨x3, hx3, h⟩ := bs h
   refine WM.one 5 (by kernel_rfl) (me rfl (fun _ v Φx D w1 hq hw => Kn.of Kf.nil (ai2 0 1 rfl rfl) hw) (e_appF RTArg.lasts RTArg.one RTArg.flat Sl_169 Ei_137 rfl rfl rfl rfl rfl (js := [2]) (Rr := [ob v4, [pb0]]) rfl k2 h4.rsl hx3) rfl (fun v5 Φ_6 D3 q5 => ?_))
   obtain ⟨⟨ap3, fr5⟩, h5⟩ := q5
   replace ph0_0 := ph0_0.frame RI.lasts fr5 (ap3.o pa0_0)
   replace h3 := fr5 _ _ ((ap3.r (i := 1) rfl) _ (by simp)) h3
   refine mq 6 rfl (by kernel_rfl) (kn Kf.nil (ai2 0 1 rfl rfl)) (q_fieldAddr Fld_171_1 rfl) rfl ?_
   refine WM.one 7 (by kernel_rfl) (ms rfl (fun hc => by cases hc) (s_store (i := 0) (vs := [v5]) (C' := [.string x1.1, v5, .bool p1]) (O' := [(b_2, .cells #[.string x1.1, v5, .bool p1] 171 (0, 0)), (b_1, .cells #[.string (⟨#[]⟩ : ByteArray), .slice none 0 0, .bool false] 171 (0, 0))]) Sz_169 rfl rfl rfl (one_cells h5.one) rfl rfl ⟨h5.one, trivial⟩ rfl rfl) rfl ?_)
   refine WM.nil (by kernel_rfl) <| ib <| rgn <| la rfl <| la rfl <| la rfl <| en ?_
   exact lback (ih2 (Φ_6, x3, v5, IntKind.i64.wrap (s3 + 1), x2.2.i, x2.2.h) ⟨h, h5, h3, ph0_0⟩) ⟨rfl, rfl, rfl, rfl, rfl, trivial⟩ (fun w1 hw => (hw.sel (js := [0, 1]) rfl).selO (js := [0, 0]) rfl)
  refine xt rfl <| sr <| ld3 Tn_171 0 rfl <| soN 1 Sz_171 rfl ⟨rfl, k2.one, rfl, trivial⟩ rfl ?_
  refine en ?_
  refine WT.ret Tryz.func122 (resOk.one (rv_cell Tn_171 rfl (fun w1 hw => hw.rgO (i := 1) rfl 0 3 [.string x1.1, u1, .bool p1] rfl) rfl)) (fun w1 hw => ?_)
  subst hb0
  cases h
  refine postG_of_St (js := [0, 0]) hw rfl ⟨u1, rfl, rfl, k2, rfl, k3⟩
 refine cdh rfl h (fun c2 h => ?_) (fun c2 h => ?_)
 ·refine rgn <| la rfl <| en ?_
  exact wto (K (2) h) ⟨rfl, rfl, rfl, rfl, trivial⟩ (fun w1 hw => (hw.sel (js := [0]) rfl).selO (js := [0, 0]) rfl)
 refine WT.skip ?_
 exact wto (K (1) h) ⟨rfl, rfl, rfl, rfl, trivial⟩ (fun w1 hw => (hw.sel (js := [0]) rfl).selO (js := [0, 0]) rfl)
theorem m_s_l7Arg_ok {Φ : Hp} {w : World} (hΦ : In Φ w) (N : Nat) (p0 : Tl1Cur) {pv0_0 : Value} {pG0_0 : List Nat} {pb0 : Nat} (ph0_0 : RSl (RI .u8) 1 Φ pG0_0 pv0_0 p0.b) (pp0 : Φ pb0 = some (.cells #[pv0_0, .int .i64 p0.i, .int .i64 p0.h] 112 (0, 0))) (pd0_0 : Dj pG0_0 [[pb0]].flatten) (hB : [[pb0]].flatten.Nodup) (hlt : ∀ k ∈ [[pb0]].flatten, k < w.heap.size) {r : TArg × Tl1Cur} (h : m_s_l7Arg N p0 = some r) :
  Calls Tryz.prog 174 [.pointer (some ⟨pb0, 0, none⟩)].toArray w (PostG Φ w [[pb0]].flatten (fun Φ' Fs v => v = .agg [.int .i64 r.1.K, .string r.1.S, .int .i64 r.1.V.K, .int .i64 r.1.V.N, .string r.1.V.S].toArray ∧ Fs = [[pb0]] ∧ r.2.b = p0.b ∧ Φ' pb0 = some (.cells #[pv0_0, .int .i64 r.2.i, .int .i64 r.2.h] 112 (0, 0)))) := by
 refine enter Tryz.func174 rfl Tryz.ntmps174 rfl (St.start hΦ [[pb0]] hB hlt) ?_
 have pa0_0 := Old.mk hΦ ph0_0.kn pd0_0
 unfold m_s_l7Arg at h
 refine sr ?_
 refine ln (nz Zr_137) rfl (fun b_1 => ?_)
 refine en <| sq <| sr <| la rfl ?_
 obtain ⟨x1, hx1, h⟩ := bs h
 refine lc (k_call (js := [0]) (R := []) Fun_32 rfl rfl (fun w1 hw ap hl => m_s_l1Once_ok hw.fro N p0 3 ph0_0 pp0 (ap.o pa0_0) ap.nd hl hx1)) rfl (fun v1 Φ_1 F1 q1 => ?_)
 obtain ⟨ap1, fr1, rfl, rfl, e1, h1⟩ := q1
 replace ph0_0 := ph0_0.frame RI.lasts fr1 (ap1.o pa0_0)
 refine en ?_
 refine cdh rfl h (fun c1 h => ?_) (fun c1 h => ?_)
 ·refine sr <| la rfl ?_
  obtain ⟨x2, hx2, h⟩ := bs h
  refine lc (k_call (js := [0]) (R := []) Fun_130 rfl rfl (fun w1 hw ap hl => m_s_l3Small_ok hw.fro N (⟨p0.b, x1.2.i, x1.2.h⟩ : Tl1Cur) ph0_0 h1 (ap.o pa0_0) ap.nd hl hx2)) rfl (fun v2 Φ_2 F2 q2 => ?_)
  obtain ⟨ap2, fr2, rfl, rfl, e2, h2⟩ := q2
  replace ph0_0 := ph0_0.frame RI.lasts fr2 (ap2.o pa0_0)
  obtain ⟨x3, hx3, h⟩ := bs h
  refine lp (p_call Fun_175 rfl (fun w1 hw => m_s_l6Val_ok hw.fro N x2.1 hx3)) rfl <| soN 0 Sz_137 rfl ⟨rfl, rfl, rfl, rfl, rfl, trivial⟩ rfl ?_
  refine en ?_
  refine WT.ret Tryz.func174 (resOk.one (rv_cell Tn_137 rfl (fun w1 hw => hw.rgO (i := 0) rfl 0 5 [.int .i64 x3.K, .string x3.S, .int .i64 x3.V.K, .int .i64 x3.V.N, .string x3.V.S] rfl) rfl)) (fun w1 hw => ?_)
  cases h
  refine postG_of_St (js := [0]) hw rfl ⟨rfl, rfl, rfl, h2⟩
 refine WT.skip <| sr <| la rfl ?_
 have rc1 : RC RS 1 Φ_1 ([[], []] : List (List Nat)) [.string (⟨#[88]⟩ : ByteArray), .string (⟨#[89]⟩ : ByteArray)] ([(⟨#[88]⟩ : ByteArray), (⟨#[89]⟩ : ByteArray)] : List ByteArray) := RC.cons (c := [.string (⟨#[88]⟩ : ByteArray)]) (cells := [.string (⟨#[89]⟩ : ByteArray)]) ⟨rfl, rfl⟩ rfl (RC.cons (c := [.string (⟨#[89]⟩ : ByteArray)]) (cells := []) ⟨rfl, rfl⟩ rfl (RC.nil _ _ _))
 refine le' (e_lit (vs := [(0, .string (⟨#[88]⟩ : ByteArray)), (1, .string (⟨#[89]⟩ : ByteArray))]) (C := #[.string (⟨#[88]⟩ : ByteArray), .string (⟨#[89]⟩ : ByteArray)]) RS.lasts Sl_114 Zr_9 rfl rfl rfl rfl (fill_made MC_9_2 (fill_cons (C' := [.string (⟨#[88]⟩ : ByteArray), .string ⟨#[]⟩]) rfl rfl rfl rfl rfl (fill_cons (C' := [.string (⟨#[88]⟩ : ByteArray), .string (⟨#[89]⟩ : ByteArray)]) rfl rfl rfl rfl rfl (fill_nil)))) rfl rc1 rfl (by simpa using Kw.nil)) rfl (fun v3 Φ_3 D1 q3 => ?_)
 obtain ⟨fr3, h3⟩ := q3
 replace h3 : OSl RS 9 1 Φ_3 [] v3 ([(⟨#[88]⟩ : ByteArray), (⟨#[89]⟩ : ByteArray)] : List ByteArray) := by simpa using h3
 replace ph0_0 := ph0_0.frame RI.lasts fr3 (Dj.empty _)
 replace h1 := fr3 _ _ (by simp) h1
 obtain ⟨x4, hx4, h⟩ := bs h
 refine lc (k_call (js := [1]) (R := [ob v3]) Fun_72 rfl rfl (fun w1 hw ap hl => m_s_l1Str_ok hw.fro N (⟨p0.b, x1.2.i, x1.2.h⟩ : Tl1Cur) ([(⟨#[88]⟩ : ByteArray), (⟨#[89]⟩ : ByteArray)] : List ByteArray) ph0_0 h1 h3.rsl (ap.o pa0_0) (Dj.app (ap.r (i := 0) rfl) (Dj.nil _)) ap.nd hl hx4)) rfl (fun v4 Φ_4 F3 q4 => ?_)
 obtain ⟨ap3, fr4, rfl, rfl, e3, h4⟩ := q4
 replace ph0_0 := ph0_0.frame RI.lasts fr4 (ap3.o pa0_0)
 obtain ⟨x5, hx5, h⟩ := bs h
 refine lp (p_call Fun_176 rfl (fun w1 hw => m_s_l6Var_ok hw.fro N x4.1 hx5)) rfl <| soN 0 Sz_137 rfl ⟨rfl, rfl, rfl, rfl, rfl, trivial⟩ rfl ?_
 refine en ?_
 refine WT.ret Tryz.func174 (resOk.one (rv_cell Tn_137 rfl (fun w1 hw => hw.rgO (i := 0) rfl 0 5 [.int .i64 x5.K, .string x5.S, .int .i64 x5.V.K, .int .i64 x5.V.N, .string x5.V.S] rfl) rfl)) (fun w1 hw => ?_)
 cases h
 refine postG_of_St (js := [0]) hw rfl ⟨rfl, rfl, rfl, h4⟩
theorem m_s_l7Draw_ok {Φ : Hp} {w : World} (hΦ : In Φ w) (N : Nat) (p0 : Tl1Cur) {pv0_0 : Value} {pG0_0 : List Nat} {pb0 : Nat} (ph0_0 : RSl (RI .u8) 1 Φ pG0_0 pv0_0 p0.b) (pp0 : Φ pb0 = some (.cells #[pv0_0, .int .i64 p0.i, .int .i64 p0.h] 112 (0, 0))) (pd0_0 : Dj pG0_0 [[pb0]].flatten) (hB : [[pb0]].flatten.Nodup) (hlt : ∀ k ∈ [[pb0]].flatten, k < w.heap.size) {r : TCond × Tl1Cur} (h : m_s_l7Draw N p0 = some r) :
  Calls Tryz.prog 123 [.pointer (some ⟨pb0, 0, none⟩)].toArray w (PostG Φ w [[pb0]].flatten (fun Φ' Fs v => v = .agg [.int .i64 r.1.Op, .int .i64 r.1.L.K, .string r.1.L.S, .int .i64 r.1.L.V.K, .int .i64 r.1.L.V.N, .string r.1.L.V.S, .int .i64 r.1.R.K, .string r.1.R.S, .int .i64 r.1.R.V.K, .int .i64 r.1.R.V.N, .string r.1.R.V.S].toArray ∧ Fs = [[pb0]] ∧ r.2.b = p0.b ∧ Φ' pb0 = some (.cells #[pv0_0, .int .i64 r.2.i, .int .i64 r.2.h] 112 (0, 0)))) := by
 refine enter Tryz.func123 rfl Tryz.ntmps123 rfl (St.start hΦ [[pb0]] hB hlt) ?_
 have pa0_0 := Old.mk hΦ ph0_0.kn pd0_0
 unfold m_s_l7Draw at h
 refine sr ?_
 refine ln (nz Zr_139) rfl (fun b_1 => ?_)
 refine en <| sr <| la rfl ?_
 obtain ⟨x1, hx1, h⟩ := bs h
 refine lc (k_call (js := [0]) (R := []) Fun_73 rfl rfl (fun w1 hw ap hl => m_s_l1Below_ok hw.fro N p0 3 ph0_0 pp0 (ap.o pa0_0) ap.nd hl hx1)) rfl (fun v1 Φ_1 F1 q1 => ?_)
 obtain ⟨ap1, fr1, rfl, rfl, e1, h1⟩ := q1
 replace ph0_0 := ph0_0.frame RI.lasts fr1 (ap1.o pa0_0)
 refine la rfl <| la rfl ?_
 obtain ⟨x2, hx2, h⟩ := bs h
 refine lc (k_call (js := [0]) (R := []) Fun_174 rfl rfl (fun w1 hw ap hl => m_s_l7Arg_ok hw.fro N (⟨p0.b, x1.2.i, x1.2.h⟩ : Tl1Cur) ph0_0 h1 (ap.o pa0_0) ap.nd hl hx2)) rfl (fun v2 Φ_2 F2 q2 => ?_)
 obtain ⟨ap2, fr2, rfl, rfl, e2, h2⟩ := q2
 replace ph0_0 := ph0_0.frame RI.lasts fr2 (ap2.o pa0_0)
 refine la rfl ?_
 obtain ⟨x3, hx3, h⟩ := bs h
 refine lc (k_call (js := [0]) (R := []) Fun_174 rfl rfl (fun w1 hw ap hl => m_s_l7Arg_ok hw.fro N (⟨p0.b, x2.2.i, x2.2.h⟩ : Tl1Cur) ph0_0 h2 (ap.o pa0_0) ap.nd hl hx3)) rfl (fun v3 Φ_3 F3 q3 => ?_)
 obtain ⟨ap3, fr3, rfl, rfl, e3, h3⟩ := q3
 replace ph0_0 := ph0_0.frame RI.lasts fr3 (ap3.o pa0_0)
 refine lq (q_build (vs := [(0, .int .i64 (IntKind.i64.wrap (1 + x1.1))), (1, .agg [.int .i64 x2.1.K, .string x2.1.S, .int .i64 x2.1.V.K, .int .i64 x2.1.V.N, .string x2.1.V.S].toArray), (2, .agg [.int .i64 x3.1.K, .string x3.1.S, .int .i64 x3.1.V.K, .int .i64 x3.1.V.N, .string x3.1.V.S].toArray)]) (C := #[.int .i64 (IntKind.i64.wrap (1 + x1.1)), .int .i64 x2.1.K, .string x2.1.S, .int .i64 x2.1.V.K, .int .i64 x2.1.V.N, .string x2.1.V.S, .int .i64 x3.1.K, .string x3.1.S, .int .i64 x3.1.V.K, .int .i64 x3.1.V.N, .string x3.1.V.S]) Pl_139 Zr_139 rfl (fill_cons (C' := [.int .i64 (IntKind.i64.wrap (1 + x1.1)), .int .i64 0, .string ⟨#[]⟩, .int .i64 0, .int .i64 0, .string ⟨#[]⟩, .int .i64 0, .string ⟨#[]⟩, .int .i64 0, .int .i64 0, .string ⟨#[]⟩]) rfl rfl rfl rfl rfl (fill_cons (C' := [.int .i64 (IntKind.i64.wrap (1 + x1.1)), .int .i64 x2.1.K, .string x2.1.S, .int .i64 x2.1.V.K, .int .i64 x2.1.V.N, .string x2.1.V.S, .int .i64 0, .string ⟨#[]⟩, .int .i64 0, .int .i64 0, .string ⟨#[]⟩]) rfl rfl rfl rfl rfl (fill_cons (C' := [.int .i64 (IntKind.i64.wrap (1 + x1.1)), .int .i64 x2.1.K, .string x2.1.S, .int .i64 x2.1.V.K, .int .i64 x2.1.V.N, .string x2.1.V.S, .int .i64 x3.1.K, .string x3.1.S, .int .i64 x3.1.V.K, .int .i64 x3.1.V.N, .string x3.1.V.S]) rfl rfl rfl rfl rfl (fill_nil))))) rfl ?_
 refine soN 0 Sz_139 rfl ⟨rfl, rfl, rfl, rfl, rfl, rfl, rfl, rfl, rfl, rfl, rfl, trivial⟩ rfl ?_
 refine en ?_
 refine WT.ret Tryz.func123 (resOk.one (rv_cell Tn_139 rfl (fun w1 hw => hw.rgO (i := 0) rfl 0 11 [.int .i64 (IntKind.i64.wrap (1 + x1.1)), .int .i64 x2.1.K, .string x2.1.S, .int .i64 x2.1.V.K, .int .i64 x2.1.V.N, .string x2.1.V.S, .int .i64 x3.1.K, .string x3.1.S, .int .i64 x3.1.V.K, .int .i64 x3.1.V.N, .string x3.1.V.S] rfl) rfl)) (fun w1 hw => ?_)
 cases h
 refine postG_of_St (js := [0]) hw rfl ⟨rfl, rfl, rfl, h3⟩
theorem m_s_l9Known_ok {Φ : Hp} {w : World} (hΦ : In Φ w) (N : Nat) (p0 : TArg) (p1 : (List ByteArray)) {pv1 : Value} {pG1 : List Nat} (ph1 : RSl RS 1 Φ pG1 pv1 p1) {r : Bool} (h : m_s_l9Known N p0 p1 = some r) :
  Calls Tryz.prog 141 [.agg [.int .i64 p0.K, .string p0.S, .int .i64 p0.V.K, .int .i64 p0.V.N, .string p0.V.S].toArray, pv1].toArray w (Post (.bool r) w) := by
 refine enter Tryz.func141 rfl Tryz.ntmps141 rfl (St.start0 hΦ) ?_
 unfold m_s_l9Known at h
 refine sr ?_
 refine ln (nb rfl) rfl (fun b_1 => ?_)
 refine la rfl <| en <| sr <| lf Fld_137_0 rfl rfl rfl <| lo T1_3 0 rfl <| la rfl <| la rfl ?_
 obtain ⟨b1, hb_1, h⟩ := bs h
 refine WL.cutN 5 [(13, .bool b1), (4, .bool false)] ?_ (fun K => ?_)
 rotate_left
 ·refine spl 8 rfl hb_1 (fun c1 hb_1 => ?_) (fun c1 hb_1 => ?_)
  ·refine la rfl <| la rfl <| la rfl <| la rfl <| la rfl ?_
   cases hb_1
   exact kk K ⟨rfl, rfl, trivial⟩
  ·refine ly rfl rfl <| la rfl <| ly rfl rfl <| lf Fld_137_1 rfl rfl rfl <| ly rfl rfl <| lo T1_9 0 rfl <| ly rfl rfl ?_
   obtain ⟨x1, hx1, hb_1⟩ := bs hb_1
   refine lp (p_call Fun_138 rfl (fun w1 hw => m_s_l6Has_ok hw.fro N p1 p0.S ph1 hx1)) rfl <| la rfl ?_
   cases hb_1
   exact kk K ⟨rfl, rfl, trivial⟩
 refine la rfl <| en ?_
 refine WT.ret Tryz.func141 (resOk.one rfl) (fun w1 hw => ?_)
 cases h
 exact post_of_St hw
theorem m_s_l9Fit_ok {Φ : Hp} {w : World} (hΦ : In Φ w) (N : Nat) (p0 : TArg) (p1 : (List ByteArray)) {pv1 : Value} {pG1 : List Nat} (ph1 : RSl RS 1 Φ pG1 pv1 p1) {r : TArg} (h : m_s_l9Fit N p0 p1 = some r) :
  Calls Tryz.prog 124 [.agg [.int .i64 p0.K, .string p0.S, .int .i64 p0.V.K, .int .i64 p0.V.N, .string p0.V.S].toArray, pv1].toArray w (Post (.agg [.int .i64 r.K, .string r.S, .int .i64 r.V.K, .int .i64 r.V.N, .string r.V.S].toArray) w) := by
 refine enter Tryz.func124 rfl Tryz.ntmps124 rfl (St.start0 hΦ) ?_
 unfold m_s_l9Fit at h
 refine sr ?_
 refine ln (nb rfl) rfl (fun b_1 => ?_)
 refine ln (nz Zr_137) rfl (fun b_2 => ?_)
 refine en <| sq <| sr <| ld5 Tn_137 1 rfl <| la rfl ?_
 obtain ⟨x1, hx1, h⟩ := bs h
 refine lp (p_call Fun_141 rfl (fun w1 hw => m_s_l9Known_ok hw.fro N p0 p1 ph1 hx1)) rfl <| en ?_
 refine cdh rfl h (fun c1 h => ?_) (fun c1 h => ?_)
 ·refine sr <| ld5 Tn_137 1 rfl <| soN 0 Sz_137 rfl ⟨rfl, rfl, rfl, rfl, rfl, trivial⟩ rfl ?_
  refine en ?_
  refine WT.ret Tryz.func124 (resOk.one (rv_cell Tn_137 rfl (fun w1 hw => hw.rgO (i := 0) rfl 0 5 [.int .i64 p0.K, .string p0.S, .int .i64 p0.V.K, .int .i64 p0.V.N, .string p0.V.S] rfl) rfl)) (fun w1 hw => ?_)
  cases h
  exact post_of_St hw
 refine WT.skip <| sq <| sr <| la rfl <| lq (q_lenR Sl_114 rfl rfl ph1) rfl <| la rfl <| en ?_
 refine cdh rfl h (fun c2 h => ?_) (fun c2 h => ?_)
 ·refine sr <| lq (q_build (vs := [(0, .int .i64 1), (1, .int .i64 1)]) (C := #[.int .i64 1, .int .i64 1, .string (⟨#[]⟩ : ByteArray)]) Pl_85 Zr_85 rfl (fill_cons (C' := [.int .i64 1, .int .i64 0, .string ⟨#[]⟩]) rfl rfl rfl rfl rfl (fill_cons (C' := [.int .i64 1, .int .i64 1, .string ⟨#[]⟩]) rfl rfl rfl rfl rfl (fill_nil)))) rfl ?_
  obtain ⟨x2, hx2, h⟩ := bs h
  refine lp (p_call Fun_175 rfl (fun w1 hw => m_s_l6Val_ok hw.fro N (⟨1, 1, (⟨#[]⟩ : ByteArray)⟩ : TVal) hx2)) rfl <| soN 0 Sz_137 rfl ⟨rfl, rfl, rfl, rfl, rfl, trivial⟩ rfl ?_
  refine en ?_
  refine WT.ret Tryz.func124 (resOk.one (rv_cell Tn_137 rfl (fun w1 hw => hw.rgO (i := 0) rfl 0 5 [.int .i64 x2.K, .string x2.S, .int .i64 x2.V.K, .int .i64 x2.V.N, .string x2.V.S] rfl) rfl)) (fun w1 hw => ?_)
  cases h
  exact post_of_St hw
 refine WT.skip <| sr <| la rfl ?_
 obtain ⟨x3, hx3, h⟩ := bs h
 obtain ⟨cs1, F1, -, g1, hb1, hs1, r1⟩ := ph1.el (idx_some hx3).2.2
 obtain ⟨rfl, -⟩ := r1
 refine lq (q_indexAddr Sl_114 rfl rfl ph1 hx3) rfl <| lg 0 T1_9 g1 rfl rfl ?_
 obtain ⟨x4, hx4, h⟩ := bs h
 refine lp (p_call Fun_176 rfl (fun w1 hw => m_s_l6Var_ok hw.fro N x3 hx4)) rfl <| soN 0 Sz_137 rfl ⟨rfl, rfl, rfl, rfl, rfl, trivial⟩ rfl ?_
 refine en ?_
 refine WT.ret Tryz.func124 (resOk.one (rv_cell Tn_137 rfl (fun w1 hw => hw.rgO (i := 0) rfl 0 5 [.int .i64 x4.K, .string x4.S, .int .i64 x4.V.K, .int .i64 x4.V.N, .string x4.V.S] rfl) rfl)) (fun w1 hw => ?_)
 cases h
 exact post_of_St hw
theorem m_s_l8Expr_ok {Φ : Hp} {w : World} (hΦ : In Φ w) (N : Nat) (p0 : Tl1Cur) {pv0_0 : Value} {pG0_0 : List Nat} {pb0 : Nat} (ph0_0 : RSl (RI .u8) 1 Φ pG0_0 pv0_0 p0.b) (pp0 : Φ pb0 = some (.cells #[pv0_0, .int .i64 p0.i, .int .i64 p0.h] 112 (0, 0))) (pd0_0 : Dj pG0_0 [[pb0]].flatten) (hB : [[pb0]].flatten.Nodup) (hlt : ∀ k ∈ [[pb0]].flatten, k < w.heap.size) {r : TExpr × Tl1Cur} (h : m_s_l8Expr N p0 = some r) :
  Calls Tryz.prog 177 [.pointer (some ⟨pb0, 0, none⟩)].toArray w (PostG Φ w [[pb0]].flatten (fun Φ' Fs v => v = .agg [.string r.1.Op, .int .i64 r.1.L.K, .string r.1.L.S, .int .i64 r.1.L.V.K, .int .i64 r.1.L.V.N, .string r.1.L.V.S, .int .i64 r.1.R.K, .string r.1.R.S, .int .i64 r.1.R.V.K, .int .i64 r.1.R.V.N, .string r.1.R.V.S].toArray ∧ Fs = [[pb0]] ∧ r.2.b = p0.b ∧ Φ' pb0 = some (.cells #[pv0_0, .int .i64 r.2.i, .int .i64 r.2.h] 112 (0, 0)))) := by
 refine enter Tryz.func177 rfl Tryz.ntmps177 rfl (St.start hΦ [[pb0]] hB hlt) ?_
 have pa0_0 := Old.mk hΦ ph0_0.kn pd0_0
 revert pa0_0
 generalize hb0 : (⟨w, [[pb0]].flatten, Φ⟩ : Base) = w0
 intro pa0_0
 unfold m_s_l8Expr at h
 refine sr ?_
 refine ln (nz Zr_191) rfl (fun b_1 => ?_)
 refine en <| sr <| la rfl ?_
 obtain ⟨x1, hx1, h⟩ := bs h
 refine lc (k_call (js := [0]) (R := []) Fun_174 rfl rfl (fun w1 hw ap hl => m_s_l7Arg_ok hw.fro N p0 ph0_0 pp0 (ap.o pa0_0) ap.nd hl hx1)) rfl (fun v1 Φ_1 F1 q1 => ?_)
 obtain ⟨ap1, fr1, rfl, rfl, e1, h1⟩ := q1
 replace ph0_0 := ph0_0.frame RI.lasts fr1 (ap1.o pa0_0)
 refine lq (q_build (vs := [(1, .agg [.int .i64 x1.1.K, .string x1.1.S, .int .i64 x1.1.V.K, .int .i64 x1.1.V.N, .string x1.1.V.S].toArray)]) (C := #[.string (⟨#[]⟩ : ByteArray), .int .i64 x1.1.K, .string x1.1.S, .int .i64 x1.1.V.K, .int .i64 x1.1.V.N, .string x1.1.V.S, .int .i64 0, .string (⟨#[]⟩ : ByteArray), .int .i64 0, .int .i64 0, .string (⟨#[]⟩ : ByteArray)]) Pl_191 Zr_191 rfl (fill_cons (C' := [.string ⟨#[]⟩, .int .i64 x1.1.K, .string x1.1.S, .int .i64 x1.1.V.K, .int .i64 x1.1.V.N, .string x1.1.V.S, .int .i64 0, .string ⟨#[]⟩, .int .i64 0, .int .i64 0, .string ⟨#[]⟩]) rfl rfl rfl rfl rfl (fill_nil))) rfl ?_
 refine ln (nz Zr_191) rfl (fun b_2 => ?_)
 refine soN 0 Sz_191 rfl ⟨rfl, rfl, rfl, rfl, rfl, rfl, rfl, rfl, rfl, rfl, rfl, trivial⟩ rfl ?_
 refine en <| sq <| sr <| la rfl ?_
 obtain ⟨x2, hx2, h⟩ := bs h
 refine lc (k_call (js := [0]) (R := []) Fun_32 rfl rfl (fun w1 hw ap hl => m_s_l1Once_ok hw.fro N (⟨p0.b, x1.2.i, x1.2.h⟩ : Tl1Cur) 4 ph0_0 h1 (ap.o pa0_0) ap.nd hl hx2)) rfl (fun v2 Φ_2 F2 q2 => ?_)
 obtain ⟨ap2, fr2, rfl, rfl, e2, h2⟩ := q2
 replace ph0_0 := ph0_0.frame RI.lasts fr2 (ap2.o pa0_0)
 refine en ?_
 refine cut (σ := Hp × Int × Int × ByteArray × Int × ByteArray × Int × Int × ByteArray) (fun s => [(2, .pointer (some ⟨b_1, 0, none⟩)), (3, .pointer (some ⟨b_2, 0, none⟩))]) (fun s => St w0 s.1 [(b_2, .cells #[.string s.2.2.2.1, .int .i64 x1.1.K, .string x1.1.S, .int .i64 x1.1.V.K, .int .i64 x1.1.V.N, .string x1.1.V.S, .int .i64 s.2.2.2.2.1, .string s.2.2.2.2.2.1, .int .i64 s.2.2.2.2.2.2.1, .int .i64 s.2.2.2.2.2.2.2.1, .string s.2.2.2.2.2.2.2.2] 191 (0, 0)), (b_1, .cells #[.string (⟨#[]⟩ : ByteArray), .int .i64 0, .string (⟨#[]⟩ : ByteArray), .int .i64 0, .int .i64 0, .string (⟨#[]⟩ : ByteArray), .int .i64 0, .string (⟨#[]⟩ : ByteArray), .int .i64 0, .int .i64 0, .string (⟨#[]⟩ : ByteArray)] 191 (0, 0))] [[pb0]]) (fun s => m_s_l8Expr_j1 N p0 x1 s.2.1 s.2.2.1 s.2.2.2.1 s.2.2.2.2.1 s.2.2.2.2.2.1 s.2.2.2.2.2.2.1 s.2.2.2.2.2.2.2.1 s.2.2.2.2.2.2.2.2 = some r ∧ (s.1 pb0 = some (.cells #[pv0_0, .int .i64 s.2.1, .int .i64 s.2.2.1] 112 (0, 0))) ∧ (RSl (RI .u8) 1 s.1 pG0_0 pv0_0 p0.b)) (fun s hm => ?_) (fun K => ?_)
 ·clear h
  obtain ⟨Φ_3, s1, s2, s3, s4, s5, s6, s7, s8⟩ := s
  obtain ⟨h, k1, ph0_0⟩ := hm
  dsimp only at h k1 ph0_0 ⊢
  unfold m_s_l8Expr_j1 at h
  refine sr <| ld11 Tn_191 0 rfl <| soN 1 Sz_191 rfl ⟨rfl, rfl, rfl, rfl, rfl, rfl, rfl, rfl, rfl, rfl, rfl, trivial⟩ rfl ?_
  refine en ?_
  refine WT.ret Tryz.func177 (resOk.one (rv_cell Tn_191 rfl (fun w1 hw => hw.rgO (i := 1) rfl 0 11 [.string s3, .int .i64 x1.1.K, .string x1.1.S, .int .i64 x1.1.V.K, .int .i64 x1.1.V.N, .string x1.1.V.S, .int .i64 s4, .string s5, .int .i64 s6, .int .i64 s7, .string s8] rfl) rfl)) (fun w1 hw => ?_)
  subst hb0
  cases h
  refine postG_of_St (js := [0]) hw rfl ⟨rfl, rfl, rfl, k1⟩
 refine cdh rfl h (fun c1 h => ?_) (fun c1 h => ?_)
 ·refine sr <| la rfl ?_
  have rc1 : RC RS 1 Φ_2 ([[], []] : List (List Nat)) [.string (⟨#[43]⟩ : ByteArray), .string (⟨#[45]⟩ : ByteArray)] ([(⟨#[43]⟩ : ByteArray), (⟨#[45]⟩ : ByteArray)] : List ByteArray) := RC.cons (c := [.string (⟨#[43]⟩ : ByteArray)]) (cells := [.string (⟨#[45]⟩ : ByteArray)]) ⟨rfl, rfl⟩ rfl (RC.cons (c := [.string (⟨#[45]⟩ : ByteArray)]) (cells := []) ⟨rfl, rfl⟩ rfl (RC.nil _ _ _))
  refine le' (e_lit (vs := [(0, .string (⟨#[43]⟩ : ByteArray)), (1, .string (⟨#[45]⟩ : ByteArray))]) (C := #[.string (⟨#[43]⟩ : ByteArray), .string (⟨#[45]⟩ : ByteArray)]) RS.lasts Sl_114 Zr_9 rfl rfl rfl rfl (fill_made MC_9_2 (fill_cons (C' := [.string (⟨#[43]⟩ : ByteArray), .string ⟨#[]⟩]) rfl rfl rfl rfl rfl (fill_cons (C' := [.string (⟨#[43]⟩ : ByteArray), .string (⟨#[45]⟩ : ByteArray)]) rfl rfl rfl rfl rfl (fill_nil)))) rfl rc1 rfl (by simpa using Kw.nil)) rfl (fun v3 Φ_4 D1 q3 => ?_)
  obtain ⟨fr3, h3⟩ := q3
  replace h3 : OSl RS 9 1 Φ_4 [] v3 ([(⟨#[43]⟩ : ByteArray), (⟨#[45]⟩ : ByteArray)] : List ByteArray) := by simpa using h3
  replace ph0_0 := ph0_0.frame RI.lasts fr3 (Dj.empty _)
  replace h2 := fr3 _ _ (by simp) h2
  obtain ⟨x3, hx3, h⟩ := bs h
  refine lc (k_call (js := [1]) (R := [ob v3]) Fun_72 rfl rfl (fun w1 hw ap hl => m_s_l1Str_ok hw.fro N (⟨p0.b, x2.2.i, x2.2.h⟩ : Tl1Cur) ([(⟨#[43]⟩ : ByteArray), (⟨#[45]⟩ : ByteArray)] : List ByteArray) ph0_0 h2 h3.rsl (ap.o pa0_0) (Dj.app (ap.r (i := 0) rfl) (Dj.nil _)) ap.nd hl hx3)) rfl (fun v4 Φ_5 F3 q4 => ?_)
  obtain ⟨ap3, fr4, rfl, rfl, e3, h4⟩ := q4
  replace ph0_0 := ph0_0.frame RI.lasts fr4 (ap3.o pa0_0)
  refine lf Fld_191_0 rfl rfl rfl <| so1 0 Sz_9 rfl rfl ?_
  refine en <| rgn <| la rfl ?_
  obtain ⟨x4, hx4, h⟩ := bs h
  refine lc (k_call (js := [0]) (R := [ob v3]) Fun_174 rfl rfl (fun w1 hw ap hl => m_s_l7Arg_ok hw.fro N (⟨p0.b, x3.2.i, x3.2.h⟩ : Tl1Cur) ph0_0 h4 (ap.o pa0_0) ap.nd hl hx4)) rfl (fun v5 Φ_6 F4 q5 => ?_)
  obtain ⟨ap4, fr5, rfl, rfl, e4, h5⟩ := q5
  replace ph0_0 := ph0_0.frame RI.lasts fr5 (ap4.o pa0_0)
  refine lf Fld_191_2 rfl rfl rfl <| soN 0 Sz_137 rfl ⟨rfl, rfl, rfl, rfl, rfl, trivial⟩ rfl ?_
  refine en ?_
  exact wto (K (Φ_6, x4.2.i, x4.2.h, x3.1, x4.1.K, x4.1.S, x4.1.V.K, x4.1.V.N, x4.1.V.S) ⟨h, h5, ph0_0⟩) ⟨rfl, rfl, trivial⟩ (fun w1 hw => (hw.sel (js := [0]) rfl).selO (js := [0, 0]) rfl)
 refine WT.skip ?_
 exact wto (K (Φ_2, x2.2.i, x2.2.h, (⟨#[]⟩ : ByteArray), 0, (⟨#[]⟩ : ByteArray), 0, 0, (⟨#[]⟩ : ByteArray)) ⟨h, h2, ph0_0⟩) ⟨rfl, rfl, trivial⟩ (fun w1 hw => (hw.sel (js := [0]) rfl).selO (js := [0, 0]) rfl)
theorem m_s_l8Draw_ok {Φ : Hp} {w : World} (hΦ : In Φ w) (N : Nat) (p0 : Tl1Cur) (p1 : Int) {pv0_0 : Value} {pG0_0 : List Nat} {pb0 : Nat} (ph0_0 : RSl (RI .u8) 1 Φ pG0_0 pv0_0 p0.b) (pp0 : Φ pb0 = some (.cells #[pv0_0, .int .i64 p0.i, .int .i64 p0.h] 112 (0, 0))) (pd0_0 : Dj pG0_0 [[pb0]].flatten) (hB : [[pb0]].flatten.Nodup) (hlt : ∀ k ∈ [[pb0]].flatten, k < w.heap.size) {r : TAct × Tl1Cur} (h : m_s_l8Draw N p0 p1 = some r) :
  Calls Tryz.prog 125 [.pointer (some ⟨pb0, 0, none⟩), .int .i64 p1].toArray w (PostG Φ w [[pb0]].flatten (fun Φ' Fs v => ∃ (sr_0_0 : Value), v = .agg [.int .i64 r.1.Kind, .string r.1.Name, sr_0_0, .int .i64 r.1.N, .string r.1.Undo].toArray ∧ Fs = [ob sr_0_0, [pb0]] ∧ OSl RTExpr 191 11 Φ' [] sr_0_0 r.1.Args ∧ r.2.b = p0.b ∧ Φ' pb0 = some (.cells #[pv0_0, .int .i64 r.2.i, .int .i64 r.2.h] 112 (0, 0)))) := by
 refine enter Tryz.func125 rfl Tryz.ntmps125 rfl (St.start hΦ [[pb0]] hB hlt) ?_
 have pa0_0 := Old.mk hΦ ph0_0.kn pd0_0
 revert pa0_0
 generalize hb0 : (⟨w, [[pb0]].flatten, Φ⟩ : Base) = w0
 intro pa0_0
 unfold m_s_l8Draw at h
 refine sr ?_
 refine ln (nz Zr_143) rfl (fun b_1 => ?_)
 refine en <| sr <| la rfl ?_
 have rc1 : RC (RI .i64) 1 Φ ([[], [], [], [], [], [], [], []] : List (List Nat)) [.int .i64 1, .int .i64 1, .int .i64 2, .int .i64 3, .int .i64 3, .int .i64 4, .int .i64 5, .int .i64 6] ([1, 1, 2, 3, 3, 4, 5, 6] : List Int) := RC.cons (c := [.int .i64 1]) (cells := [.int .i64 1, .int .i64 2, .int .i64 3, .int .i64 3, .int .i64 4, .int .i64 5, .int .i64 6]) ⟨rfl, rfl⟩ rfl (RC.cons (c := [.int .i64 1]) (cells := [.int .i64 2, .int .i64 3, .int .i64 3, .int .i64 4, .int .i64 5, .int .i64 6]) ⟨rfl, rfl⟩ rfl (RC.cons (c := [.int .i64 2]) (cells := [.int .i64 3, .int .i64 3, .int .i64 4, .int .i64 5, .int .i64 6]) ⟨rfl, rfl⟩ rfl (RC.cons (c := [.int .i64 3]) (cells := [.int .i64 3, .int .i64 4, .int .i64 5, .int .i64 6]) ⟨rfl, rfl⟩ rfl (RC.cons (c := [.int .i64 3]) (cells := [.int .i64 4, .int .i64 5, .int .i64 6]) ⟨rfl, rfl⟩ rfl (RC.cons (c := [.int .i64 4]) (cells := [.int .i64 5, .int .i64 6]) ⟨rfl, rfl⟩ rfl (RC.cons (c := [.int .i64 5]) (cells := [.int .i64 6]) ⟨rfl, rfl⟩ rfl (RC.cons (c := [.int .i64 6]) (cells := []) ⟨rfl, rfl⟩ rfl (RC.nil _ _ _))))))))
 refine le' (e_lit (vs := [(0, .int .i64 1), (1, .int .i64 1), (2, .int .i64 2), (3, .int .i64 3), (4, .int .i64 3), (5, .int .i64 4), (6, .int .i64 5), (7, .int .i64 6)]) (C := #[.int .i64 1, .int .i64 1, .int .i64 2, .int .i64 3, .int .i64 3, .int .i64 4, .int .i64 5, .int .i64 6]) RI.lasts Sl_41 Zr_3 rfl rfl rfl rfl (fill_made MC_3_8 (fill_cons (C' := [.int .i64 1, .int .i64 0, .int .i64 0, .int .i64 0, .int .i64 0, .int .i64 0, .int .i64 0, .int .i64 0]) rfl rfl rfl rfl rfl (fill_cons (C' := [.int .i64 1, .int .i64 1, .int .i64 0, .int .i64 0, .int .i64 0, .int .i64 0, .int .i64 0, .int .i64 0]) rfl rfl rfl rfl rfl (fill_cons (C' := [.int .i64 1, .int .i64 1, .int .i64 2, .int .i64 0, .int .i64 0, .int .i64 0, .int .i64 0, .int .i64 0]) rfl rfl rfl rfl rfl (fill_cons (C' := [.int .i64 1, .int .i64 1, .int .i64 2, .int .i64 3, .int .i64 0, .int .i64 0, .int .i64 0, .int .i64 0]) rfl rfl rfl rfl rfl (fill_cons (C' := [.int .i64 1, .int .i64 1, .int .i64 2, .int .i64 3, .int .i64 3, .int .i64 0, .int .i64 0, .int .i64 0]) rfl rfl rfl rfl rfl (fill_cons (C' := [.int .i64 1, .int .i64 1, .int .i64 2, .int .i64 3, .int .i64 3, .int .i64 4, .int .i64 0, .int .i64 0]) rfl rfl rfl rfl rfl (fill_cons (C' := [.int .i64 1, .int .i64 1, .int .i64 2, .int .i64 3, .int .i64 3, .int .i64 4, .int .i64 5, .int .i64 0]) rfl rfl rfl rfl rfl (fill_cons (C' := [.int .i64 1, .int .i64 1, .int .i64 2, .int .i64 3, .int .i64 3, .int .i64 4, .int .i64 5, .int .i64 6]) rfl rfl rfl rfl rfl (fill_nil)))))))))) rfl rc1 rfl (by simpa using Kw.nil)) rfl (fun v1 Φ_1 D1 q1 => ?_)
 obtain ⟨fr1, h1⟩ := q1
 replace h1 : OSl (RI .i64) 3 1 Φ_1 [] v1 ([1, 1, 2, 3, 3, 4, 5, 6] : List Int) := by simpa using h1
 replace ph0_0 := ph0_0.frame RI.lasts fr1 (Dj.empty _)
 replace pp0 := fr1 _ _ (by simp) pp0
 obtain ⟨x1, hx1, h⟩ := bs h
 refine lc (k_call (js := [1]) (R := [ob v1]) Fun_121 rfl rfl (fun w1 hw ap hl => m_s_l1Int_ok hw.fro N p0 ([1, 1, 2, 3, 3, 4, 5, 6] : List Int) ph0_0 pp0 h1.rsl (ap.o pa0_0) (Dj.app (ap.r (i := 0) rfl) (Dj.nil _)) ap.nd hl hx1)) rfl (fun v2 Φ_2 F1 q2 => ?_)
 obtain ⟨ap1, fr2, rfl, rfl, e1, h2⟩ := q2
 replace ph0_0 := ph0_0.frame RI.lasts fr2 (ap1.o pa0_0)
 refine lq (q_build (vs := [(0, .int .i64 x1.1)]) (C := #[.int .i64 x1.1, .string (⟨#[]⟩ : ByteArray), .slice none 0 0, .int .i64 0, .string (⟨#[]⟩ : ByteArray)]) Pl_143 Zr_143 rfl (fill_cons (C' := [.int .i64 x1.1, .string ⟨#[]⟩, .slice none 0 0, .int .i64 0, .string ⟨#[]⟩]) rfl rfl rfl rfl rfl (fill_nil))) rfl ?_
 refine ln (nz Zr_143) rfl (fun b_2 => ?_)
 refine soN 0 Sz_143 rfl ⟨rfl, rfl, rfl, rfl, rfl, trivial⟩ rfl ?_
 refine en <| sq <| sr <| lf Fld_143_0 rfl rfl rfl <| lo T1_3 0 rfl <| en <| blk <| sr <| la rfl <| la rfl <| en ?_
 refine cdh rfl h (fun c1 h => ?_) (fun c1 h => ?_)
 ·refine sr <| la rfl <| la rfl ?_
  obtain ⟨x2, hx2, h⟩ := bs h
  refine lc (k_call (js := [0]) (R := [ob v1]) Fun_73 rfl rfl (fun w1 hw ap hl => m_s_l1Below_ok hw.fro N (⟨p0.b, x1.2.i, x1.2.h⟩ : Tl1Cur) p1 ph0_0 h2 (ap.o pa0_0) ap.nd hl hx2)) rfl (fun v3 Φ_3 F2 q3 => ?_)
  obtain ⟨ap2, fr3, rfl, rfl, e2, h3⟩ := q3
  replace ph0_0 := ph0_0.frame RI.lasts fr3 (ap2.o pa0_0)
  refine lf Fld_143_3 rfl rfl rfl <| so1 0 Sz_3 rfl rfl ?_
  refine en <| sr <| ld5 Tn_143 0 rfl <| soN 1 Sz_143 rfl ⟨rfl, rfl, rfl, rfl, rfl, trivial⟩ rfl ?_
  refine en ?_
  refine WT.ret Tryz.func125 (resOk.one (rv_cell Tn_143 rfl (fun w1 hw => hw.rgO (i := 1) rfl 0 5 [.int .i64 x1.1, .string (⟨#[]⟩ : ByteArray), .slice none 0 0, .int .i64 x2.1, .string (⟨#[]⟩ : ByteArray)] rfl) rfl)) (fun w1 hw => ?_)
  subst hb0
  cases h
  replace hw := hw.addNil
  refine postG_of_St (js := [0, 0]) hw rfl ⟨.slice none 0 0, rfl, rfl, OSl.nil _ _ _ _, rfl, h3⟩
 refine sq <| sr <| la rfl <| la rfl <| en ?_
 refine cut (σ := Bool) (fun s => [(0, .pointer (some ⟨pb0, 0, none⟩)), (4, .pointer (some ⟨b_1, 0, none⟩)), (5, .pointer (some ⟨b_2, 0, none⟩)), (21, .bool s)]) (fun s => St w0 Φ_2 [(b_2, .cells #[.int .i64 x1.1, .string (⟨#[]⟩ : ByteArray), .slice none 0 0, .int .i64 0, .string (⟨#[]⟩ : ByteArray)] 143 (0, 0)), (b_1, .cells #[.int .i64 0, .string (⟨#[]⟩ : ByteArray), .slice none 0 0, .int .i64 0, .string (⟨#[]⟩ : ByteArray)] 143 (0, 0))] [[pb0]]) (fun s => m_s_l8Draw_j1 N p0 x1 s = some r) (fun s hm => ?_) (fun K => ?_)
 ·clear h
  revert hm; revert s; intro s1 hm
  have h : m_s_l8Draw_j1 N p0 x1 s1 = some r := hm
  show WT _ _ [(0, .pointer (some ⟨pb0, 0, none⟩)), (4, .pointer (some ⟨b_1, 0, none⟩)), (5, .pointer (some ⟨b_2, 0, none⟩)), (21, .bool s1)] (St w0 Φ_2 [(b_2, .cells #[.int .i64 x1.1, .string (⟨#[]⟩ : ByteArray), .slice none 0 0, .int .i64 0, .string (⟨#[]⟩ : ByteArray)] 143 (0, 0)), (b_1, .cells #[.int .i64 0, .string (⟨#[]⟩ : ByteArray), .slice none 0 0, .int .i64 0, .string (⟨#[]⟩ : ByteArray)] 143 (0, 0))] [[pb0]])
  unfold m_s_l8Draw_j1 at h
  refine cdh rfl h (fun c2 h => ?_) (fun c2 h => ?_)
  ·refine sr <| ld5 Tn_143 0 rfl <| soN 1 Sz_143 rfl ⟨rfl, rfl, rfl, rfl, rfl, trivial⟩ rfl ?_
   refine en ?_
   refine WT.ret Tryz.func125 (resOk.one (rv_cell Tn_143 rfl (fun w1 hw => hw.rgO (i := 1) rfl 0 5 [.int .i64 x1.1, .string (⟨#[]⟩ : ByteArray), .slice none 0 0, .int .i64 0, .string (⟨#[]⟩ : ByteArray)] rfl) rfl)) (fun w1 hw => ?_)
   subst hb0
   cases h
   replace hw := hw.addNil
   refine postG_of_St (js := [0, 0]) hw rfl ⟨.slice none 0 0, rfl, rfl, OSl.nil _ _ _ _, rfl, h2⟩
  refine WT.skip <| ib <| sr <| la rfl ?_
  have rc2 : RC RS 1 Φ_2 ([[], [], [], [], []] : List (List Nat)) [.string (⟨#[111, 114, 100, 101, 114]⟩ : ByteArray), .string (⟨#[112, 97, 105, 100]⟩ : ByteArray), .string (⟨#[105, 116, 101, 109]⟩ : ByteArray), .string (⟨#[115, 104, 105, 112]⟩ : ByteArray), .string (⟨#[99, 104, 97, 114, 103, 101]⟩ : ByteArray)] ([(⟨#[111, 114, 100, 101, 114]⟩ : ByteArray), (⟨#[112, 97, 105, 100]⟩ : ByteArray), (⟨#[105, 116, 101, 109]⟩ : ByteArray), (⟨#[115, 104, 105, 112]⟩ : ByteArray), (⟨#[99, 104, 97, 114, 103, 101]⟩ : ByteArray)] : List ByteArray) := RC.cons (c := [.string (⟨#[111, 114, 100, 101, 114]⟩ : ByteArray)]) (cells := [.string (⟨#[112, 97, 105, 100]⟩ : ByteArray), .string (⟨#[105, 116, 101, 109]⟩ : ByteArray), .string (⟨#[115, 104, 105, 112]⟩ : ByteArray), .string (⟨#[99, 104, 97, 114, 103, 101]⟩ : ByteArray)]) ⟨rfl, rfl⟩ rfl (RC.cons (c := [.string (⟨#[112, 97, 105, 100]⟩ : ByteArray)]) (cells := [.string (⟨#[105, 116, 101, 109]⟩ : ByteArray), .string (⟨#[115, 104, 105, 112]⟩ : ByteArray), .string (⟨#[99, 104, 97, 114, 103, 101]⟩ : ByteArray)]) ⟨rfl, rfl⟩ rfl (RC.cons (c := [.string (⟨#[105, 116, 101, 109]⟩ : ByteArray)]) (cells := [.string (⟨#[115, 104, 105, 112]⟩ : ByteArray), .string (⟨#[99, 104, 97, 114, 103, 101]⟩ : ByteArray)]) ⟨rfl, rfl⟩ rfl (RC.cons (c := [.string (⟨#[115, 104, 105, 112]⟩ : ByteArray)]) (cells := [.string (⟨#[99, 104, 97, 114, 103, 101]⟩ : ByteArray)]) ⟨rfl, rfl⟩ rfl (RC.cons (c := [.string (⟨#[99, 104, 97, 114, 103, 101]⟩ : ByteArray)]) (cells := []) ⟨rfl, rfl⟩ rfl (RC.nil _ _ _)))))
  refine le' (e_lit (vs := [(0, .string (⟨#[111, 114, 100, 101, 114]⟩ : ByteArray)), (1, .string (⟨#[112, 97, 105, 100]⟩ : ByteArray)), (2, .string (⟨#[105, 116, 101, 109]⟩ : ByteArray)), (3, .string (⟨#[115, 104, 105, 112]⟩ : ByteArray)), (4, .string (⟨#[99, 104, 97, 114, 103, 101]⟩ : ByteArray))]) (C := #[.string (⟨#[111, 114, 100, 101, 114]⟩ : ByteArray), .string (⟨#[112, 97, 105, 100]⟩ : ByteArray), .string (⟨#[105, 116, 101, 109]⟩ : ByteArray), .string (⟨#[115, 104, 105, 112]⟩ : ByteArray), .string (⟨#[99, 104, 97, 114, 103, 101]⟩ : ByteArray)]) RS.lasts Sl_114 Zr_9 rfl rfl rfl rfl (fill_made MC_9_5 (fill_cons (C' := [.string (⟨#[111, 114, 100, 101, 114]⟩ : ByteArray), .string ⟨#[]⟩, .string ⟨#[]⟩, .string ⟨#[]⟩, .string ⟨#[]⟩]) rfl rfl rfl rfl rfl (fill_cons (C' := [.string (⟨#[111, 114, 100, 101, 114]⟩ : ByteArray), .string (⟨#[112, 97, 105, 100]⟩ : ByteArray), .string ⟨#[]⟩, .string ⟨#[]⟩, .string ⟨#[]⟩]) rfl rfl rfl rfl rfl (fill_cons (C' := [.string (⟨#[111, 114, 100, 101, 114]⟩ : ByteArray), .string (⟨#[112, 97, 105, 100]⟩ : ByteArray), .string (⟨#[105, 116, 101, 109]⟩ : ByteArray), .string ⟨#[]⟩, .string ⟨#[]⟩]) rfl rfl rfl rfl rfl (fill_cons (C' := [.string (⟨#[111, 114, 100, 101, 114]⟩ : ByteArray), .string (⟨#[112, 97, 105, 100]⟩ : ByteArray), .string (⟨#[105, 116, 101, 109]⟩ : ByteArray), .string (⟨#[115, 104, 105, 112]⟩ : ByteArray), .string ⟨#[]⟩]) rfl rfl rfl rfl rfl (fill_cons (C' := [.string (⟨#[111, 114, 100, 101, 114]⟩ : ByteArray), .string (⟨#[112, 97, 105, 100]⟩ : ByteArray), .string (⟨#[105, 116, 101, 109]⟩ : ByteArray), .string (⟨#[115, 104, 105, 112]⟩ : ByteArray), .string (⟨#[99, 104, 97, 114, 103, 101]⟩ : ByteArray)]) rfl rfl rfl rfl rfl (fill_nil))))))) rfl rc2 rfl (by simpa using Kw.nil)) rfl (fun v4 Φ_4 D2 q4 => ?_)
  obtain ⟨fr4, h4⟩ := q4
  replace h4 : OSl RS 9 1 Φ_4 [] v4 ([(⟨#[111, 114, 100, 101, 114]⟩ : ByteArray), (⟨#[112, 97, 105, 100]⟩ : ByteArray), (⟨#[105, 116, 101, 109]⟩ : ByteArray), (⟨#[115, 104, 105, 112]⟩ : ByteArray), (⟨#[99, 104, 97, 114, 103, 101]⟩ : ByteArray)] : List ByteArray) := by simpa using h4
  replace ph0_0 := ph0_0.frame RI.lasts fr4 (Dj.empty _)
  replace h2 := fr4 _ _ (by simp) h2
  obtain ⟨x3, hx3, h⟩ := bs h
  refine lc (k_call (js := [1]) (R := [ob v4]) Fun_72 rfl rfl (fun w1 hw ap hl => m_s_l1Str_ok hw.fro N (⟨p0.b, x1.2.i, x1.2.h⟩ : Tl1Cur) ([(⟨#[111, 114, 100, 101, 114]⟩ : ByteArray), (⟨#[112, 97, 105, 100]⟩ : ByteArray), (⟨#[105, 116, 101, 109]⟩ : ByteArray), (⟨#[115, 104, 105, 112]⟩ : ByteArray), (⟨#[99, 104, 97, 114, 103, 101]⟩ : ByteArray)] : List ByteArray) ph0_0 h2 h4.rsl (ap.o pa0_0) (Dj.app (ap.r (i := 0) rfl) (Dj.nil _)) ap.nd hl hx3)) rfl (fun v5 Φ_5 F3 q5 => ?_)
  obtain ⟨ap3, fr5, rfl, rfl, e3, h5⟩ := q5
  replace ph0_0 := ph0_0.frame RI.lasts fr5 (ap3.o pa0_0)
  refine lf Fld_143_1 rfl rfl rfl <| so1 0 Sz_9 rfl rfl ?_
  refine en <| sr <| la rfl <| en <| sq <| sr <| lf Fld_143_1 rfl rfl rfl <| lo T1_9 0 rfl <| la rfl <| en ?_
  refine cut (σ := Int) (fun s => [(0, .pointer (some ⟨pb0, 0, none⟩)), (4, .pointer (some ⟨b_1, 0, none⟩)), (5, .pointer (some ⟨b_2, 0, none⟩)), (6, .int .i64 s)]) (fun s => St w0 Φ_5 [(b_2, .cells #[.int .i64 x1.1, .string x3.1, .slice none 0 0, .int .i64 0, .string (⟨#[]⟩ : ByteArray)] 143 (0, 0)), (b_1, .cells #[.int .i64 0, .string (⟨#[]⟩ : ByteArray), .slice none 0 0, .int .i64 0, .string (⟨#[]⟩ : ByteArray)] 143 (0, 0))] [[pb0]]) (fun s => m_s_l8Draw_j2 N p0 x1 x3 s = some r) (fun s hm => ?_) (fun K => ?_)
  ·clear h
   revert hm; revert s; intro s2 hm
   have h : m_s_l8Draw_j2 N p0 x1 x3 s2 = some r := hm
   show WT _ _ [(0, .pointer (some ⟨pb0, 0, none⟩)), (4, .pointer (some ⟨b_1, 0, none⟩)), (5, .pointer (some ⟨b_2, 0, none⟩)), (6, .int .i64 s2)] (St w0 Φ_5 [(b_2, .cells #[.int .i64 x1.1, .string x3.1, .slice none 0 0, .int .i64 0, .string (⟨#[]⟩ : ByteArray)] 143 (0, 0)), (b_1, .cells #[.int .i64 0, .string (⟨#[]⟩ : ByteArray), .slice none 0 0, .int .i64 0, .string (⟨#[]⟩ : ByteArray)] 143 (0, 0))] [[pb0]])
   unfold m_s_l8Draw_j2 at h
   refine sq <| sr <| la rfl <| en <| blk <| WT.loop <| WT.conv (S' := St w0 Φ_5 [(b_2, .cells #[.int .i64 x1.1, .string x3.1, .slice none 0 0, .int .i64 0, .string (⟨#[]⟩ : ByteArray)] 143 (0, 0)), (b_1, .cells #[.int .i64 0, .string (⟨#[]⟩ : ByteArray), .slice none 0 0, .int .i64 0, .string (⟨#[]⟩ : ByteArray)] 143 (0, 0))] (ob (.slice none 0 0) :: [[pb0]])) (fun w1 hw => hw.addNil) ?_
   have k1 := OSl.nil RTExpr 191 11 Φ_5
   refine WT.mono (l' := [(0, .pointer (some ⟨pb0, 0, none⟩)), (4, .pointer (some ⟨b_1, 0, none⟩)), (5, .pointer (some ⟨b_2, 0, none⟩)), (6, .int .i64 s2), (7, .int .i64 0)]) (S' := St w0 Φ_5 [(b_2, .cells #[.int .i64 x1.1, .string x3.1, (.slice none 0 0), .int .i64 0, .string (⟨#[]⟩ : ByteArray)] 143 (0, 0)), (b_1, .cells #[.int .i64 0, .string (⟨#[]⟩ : ByteArray), .slice none 0 0, .int .i64 0, .string (⟨#[]⟩ : ByteArray)] 143 (0, 0))] [ob (.slice none 0 0), [pb0]]) ⟨rfl, rfl, rfl, rfl, rfl, trivial⟩ (fun w1 hw => (hw.sel (js := [0, 0]) rfl).selO (js := [0, 0]) rfl) ?_
   refine loop_ind (σ := Hp × (List TExpr) × Value × Int × Int × Int) (fun s => [(0, .pointer (some ⟨pb0, 0, none⟩)), (4, .pointer (some ⟨b_1, 0, none⟩)), (5, .pointer (some ⟨b_2, 0, none⟩)), (6, .int .i64 s2), (7, .int .i64 s.2.2.2.1)]) (fun s => St w0 s.1 [(b_2, .cells #[.int .i64 x1.1, .string x3.1, s.2.2.1, .int .i64 0, .string (⟨#[]⟩ : ByteArray)] 143 (0, 0)), (b_1, .cells #[.int .i64 0, .string (⟨#[]⟩ : ByteArray), .slice none 0 0, .int .i64 0, .string (⟨#[]⟩ : ByteArray)] 143 (0, 0))] [ob s.2.2.1, [pb0]]) (fun m s => m_s_l8Draw_l3 N p0 x1 x3 s2 m s.2.1 s.2.2.2.1 s.2.2.2.2.1 s.2.2.2.2.2 = some r ∧ (OSl RTExpr 191 11 s.1 [] s.2.2.1 s.2.1) ∧ (s.1 pb0 = some (.cells #[pv0_0, .int .i64 s.2.2.2.2.1, .int .i64 s.2.2.2.2.2] 112 (0, 0))) ∧ (RSl (RI .u8) 1 s.1 pG0_0 pv0_0 p0.b)) (fun s hm => none_ne (show (none : Option (TAct × Tl1Cur)) = some r from hm.1)) (fun n3 ih3 s hm => ?_) N (Φ_5, ([] : List TExpr), (.slice none 0 0), 0, x3.2.i, x3.2.h) ⟨h, k1, h5, ph0_0⟩
   obtain ⟨Φ_6, s3, u1, s4, s5, s6⟩ := s
   obtain ⟨h, k2, k3, ph0_0⟩ := hm
   dsimp only at h k2 k3 ph0_0 ⊢
   unfold m_s_l8Draw_l3 at h
   refine sq <| sr <| la rfl <| la rfl <| la rfl <| en ?_
   refine cdh rfl h (fun c3 h => ?_) (fun c3 h => ?_)
   ·refine WT.skip <| sq <| blk <| WT.mix (Kn Φ_6 [] [(b_2, .cells #[.int .i64 x1.1, .string x3.1, u1, .int .i64 0, .string (⟨#[]⟩ : ByteArray)] 143 (0, 0)), (b_1, .cells #[.int .i64 0, .string (⟨#[]⟩ : ByteArray), .slice none 0 0, .int .i64 0, .string (⟨#[]⟩ : ByteArray)] 143 (0, 0))]) (fun i => match i with | 7 => false | _ => true) mixed (fun _ h => h.drew) <| mq 0 rfl (by kernel_rfl) (kn Kf.nil (ai2 0 1 rfl rfl)) (q_fieldAddr Fld_143_2 rfl) rfl ?_
    refine mq 1 rfl (by kernel_rfl) (kn Kf.nil (ai2 0 1 rfl rfl)) (q_load1 T1_141 rfl (fun w1 hw => hw.rgO (i := 0) rfl 2 1 [u1] rfl)) rfl <| ma 2 rfl (by kernel_rfl) (kn Kf.nil (ai2 0 1 rfl rfl)) rfl ?_
    obtain ⟨x4, hx4, h⟩ := bs h
    refine WM.one 3 (by kernel_rfl) (mc rfl (fun _ v Φx D w1 hq hw => Kn.of Kf.nil (ai2 0 1 rfl rfl) hw) (k_call (js := [1]) (R := [ob u1]) Fun_177 rfl rfl (fun w1 hw ap hl => m_s_l8Expr_ok hw.fro N (⟨p0.b, s5, s6⟩ : Tl1Cur) ph0_0 k3 (ap.o pa0_0) ap.nd hl hx4)) rfl (fun v6 Φ_7 F4 q6 => ?_))
    obtain ⟨ap4, fr6, rfl, rfl, e4, h6⟩ := q6
    replace ph0_0 := ph0_0.frame RI.lasts fr6 (ap4.o pa0_0)
    replace k2 := k2.frame RTExpr.lasts fr6 (ap4.r (i := 0) rfl) (Dj.nil _)
    have rc3 : RC RTExpr 11 Φ_7 ([[]] : List (List Nat)) [.string x4.1.Op, .int .i64 x4.1.L.K, .string x4.1.L.S, .int .i64 x4.1.L.V.K, .int .i64 x4.1.L.V.N, .string x4.1.L.V.S, .int .i64 x4.1.R.K, .string x4.1.R.S, .int .i64 x4.1.R.V.K, .int .i64 x4.1.R.V.N, .string x4.1.R.V.S] ([x4.1] : List TExpr) := RC.cons (c := [.string x4.1.Op, .int .i64 x4.1.L.K, .string x4.1.L.S, .int .i64 x4.1.L.V.K, .int .i64 x4.1.L.V.N, .string x4.1.L.V.S, .int .i64 x4.1.R.K, .string x4.1.R.S, .int .i64 x4.1.R.V.K, .int .i64 x4.1.R.V.N, .string x4.1.R.V.S]) (cells := []) ⟨rfl, rfl⟩ rfl (RC.nil _ _ _)
    refine WM.one 4 (by kernel_rfl) (me rfl (fun _ v Φx D w1 hq hw => Kn.of Kf.nil (ai2 0 1 rfl rfl) hw) (e_lit (vs := [(0, .agg [.string x4.1.Op, .int .i64 x4.1.L.K, .string x4.1.L.S, .int .i64 x4.1.L.V.K, .int .i64 x4.1.L.V.N, .string x4.1.L.V.S, .int .i64 x4.1.R.K, .string x4.1.R.S, .int .i64 x4.1.R.V.K, .int .i64 x4.1.R.V.N, .string x4.1.R.V.S].toArray)]) (C := #[.string x4.1.Op, .int .i64 x4.1.L.K, .string x4.1.L.S, .int .i64 x4.1.L.V.K, .int .i64 x4.1.L.V.N, .string x4.1.L.V.S, .int .i64 x4.1.R.K, .string x4.1.R.S, .int .i64 x4.1.R.V.K, .int .i64 x4.1.R.V.N, .string x4.1.R.V.S]) RTExpr.lasts Sl_141 Zr_191 rfl rfl rfl rfl (fill_made MC_191_1 (fill_cons (C' := [.string x4.1.Op, .int .i64 x4.1.L.K, .string x4.1.L.S, .int .i64 x4.1.L.V.K, .int .i64 x4.1.L.V.N, .string x4.1.L.V.S, .int .i64 x4.1.R.K, .string x4.1.R.S, .int .i64 x4.1.R.V.K, .int .i64 x4.1.R.V.N, .string x4.1.R.V.S]) rfl rfl rfl rfl rfl (fill_nil))) rfl rc3 rfl (by simpa using Kw.nil)) rfl (fun v7 Φ_8 D3 q7 => ?_))
    obtain ⟨fr7, h7⟩ := q7
    replace h7 : OSl RTExpr 191 11 Φ_8 [] v7 ([x4.1] : List TExpr) := by simpa using h7
    replace ph0_0 := ph0_0.frame RI.lasts fr7 (Dj.empty _)
    replace k2 := k2.frame RTExpr.lasts fr7 (Dj.empty _) (Dj.empty _)
    replace h6 := fr7 _ _ (by simp) h6
    obtain ⟨x5, hx5, h⟩ := bs h
    refine WM.one 5 (by kernel_rfl) (me rfl (fun _ v Φx D w1 hq hw => Kn.of Kf.nil (ai2 0 1 rfl rfl) hw) (e_appF RTExpr.lasts RTExpr.one RTExpr.flat Sl_141 Ei_191 rfl rfl rfl rfl rfl (js := [2]) (Rr := [ob v7, [pb0]]) rfl k2 h7.rsl hx5) rfl (fun v8 Φ_9 D4 q8 => ?_))
    obtain ⟨⟨ap5, fr8⟩, h8⟩ := q8
    replace ph0_0 := ph0_0.frame RI.lasts fr8 (ap5.o pa0_0)
    replace h6 := fr8 _ _ ((ap5.r (i := 1) rfl) _ (by simp)) h6
    refine mq 6 rfl (by kernel_rfl) (kn Kf.nil (ai2 0 1 rfl rfl)) (q_fieldAddr Fld_143_2 rfl) rfl ?_
    refine WM.one 7 (by kernel_rfl) (ms rfl (fun hc => by cases hc) (s_store (i := 0) (vs := [v8]) (C' := [.int .i64 x1.1, .string x3.1, v8, .int .i64 0, .string (⟨#[]⟩ : ByteArray)]) (O' := [(b_2, .cells #[.int .i64 x1.1, .string x3.1, v8, .int .i64 0, .string (⟨#[]⟩ : ByteArray)] 143 (0, 0)), (b_1, .cells #[.int .i64 0, .string (⟨#[]⟩ : ByteArray), .slice none 0 0, .int .i64 0, .string (⟨#[]⟩ : ByteArray)] 143 (0, 0))]) Sz_141 rfl rfl rfl (one_cells h8.one) rfl rfl ⟨h8.one, trivial⟩ rfl rfl) rfl ?_)
    refine WM.nil (by kernel_rfl) <| ib <| rgn <| la rfl <| la rfl <| la rfl <| en ?_
    exact lback (ih3 (Φ_9, x5, v8, IntKind.i64.wrap (s4 + 1), x4.2.i, x4.2.h) ⟨h, h8, h6, ph0_0⟩) ⟨rfl, rfl, rfl, rfl, rfl, trivial⟩ (fun w1 hw => (hw.sel (js := [0, 1]) rfl).selO (js := [0, 0]) rfl)
   refine xt rfl <| sq <| sr <| lf Fld_143_0 rfl rfl rfl <| lo T1_3 0 rfl <| la rfl <| en ?_
   refine cut (σ := Hp × Int × Int × Int) (fun s => [(0, .pointer (some ⟨pb0, 0, none⟩)), (4, .pointer (some ⟨b_1, 0, none⟩)), (5, .pointer (some ⟨b_2, 0, none⟩))]) (fun s => St w0 s.1 [(b_2, .cells #[.int .i64 x1.1, .string x3.1, u1, .int .i64 s.2.2.2, .string (⟨#[]⟩ : ByteArray)] 143 (0, 0)), (b_1, .cells #[.int .i64 0, .string (⟨#[]⟩ : ByteArray), .slice none 0 0, .int .i64 0, .string (⟨#[]⟩ : ByteArray)] 143 (0, 0))] [ob u1, [pb0]]) (fun s => m_s_l8Draw_j4 N p0 x1 x3 s3 s.2.1 s.2.2.1 s.2.2.2 = some r ∧ (OSl RTExpr 191 11 s.1 [] u1 s3) ∧ (s.1 pb0 = some (.cells #[pv0_0, .int .i64 s.2.1, .int .i64 s.2.2.1] 112 (0, 0))) ∧ (RSl (RI .u8) 1 s.1 pG0_0 pv0_0 p0.b)) (fun s hm => ?_) (fun K => ?_)
   ·clear h
    obtain ⟨Φ_10, s7, s8, s9⟩ := s
    obtain ⟨h, k2, k4, ph0_0⟩ := hm
    dsimp only at h k2 k4 ph0_0 ⊢
    unfold m_s_l8Draw_j4 at h
    refine sq <| sr <| lf Fld_143_0 rfl rfl rfl <| lo T1_3 0 rfl <| la rfl <| la rfl ?_
    refine WL.cutS 3 (σ := Hp × Bool × Int × Int) (fun s => [(0, .pointer (some ⟨pb0, 0, none⟩)), (4, .pointer (some ⟨b_1, 0, none⟩)), (5, .pointer (some ⟨b_2, 0, none⟩)), (57, .bool s.2.1)]) (fun s => St w0 s.1 [(b_2, .cells #[.int .i64 x1.1, .string x3.1, u1, .int .i64 s9, .string (⟨#[]⟩ : ByteArray)] 143 (0, 0)), (b_1, .cells #[.int .i64 0, .string (⟨#[]⟩ : ByteArray), .slice none 0 0, .int .i64 0, .string (⟨#[]⟩ : ByteArray)] 143 (0, 0))] [ob u1, [pb0]]) (fun s => m_s_l8Draw_j5 N p0 x1 x3 s3 s9 s.2.1 s.2.2.1 s.2.2.2 = some r ∧ (OSl RTExpr 191 11 s.1 [] u1 s3) ∧ (s.1 pb0 = some (.cells #[pv0_0, .int .i64 s.2.2.1, .int .i64 s.2.2.2] 112 (0, 0))) ∧ (RSl (RI .u8) 1 s.1 pG0_0 pv0_0 p0.b)) (fun s hm => ?_) (fun K => ?_)
    ·clear h
     obtain ⟨Φ_11, s10, s11, s12⟩ := s
     obtain ⟨h, k2, k5, ph0_0⟩ := hm
     replace h : m_s_l8Draw_j5 N p0 x1 x3 s3 s9 s10 s11 s12 = some r := h
     replace k2 : OSl RTExpr 191 11 Φ_11 [] u1 s3 := k2
     replace k5 : Φ_11 pb0 = some (.cells #[pv0_0, .int .i64 s11, .int .i64 s12] 112 (0, 0)) := k5
     replace ph0_0 : RSl (RI .u8) 1 Φ_11 pG0_0 pv0_0 p0.b := ph0_0
     show WL _ _ _ _ [(0, .pointer (some ⟨pb0, 0, none⟩)), (4, .pointer (some ⟨b_1, 0, none⟩)), (5, .pointer (some ⟨b_2, 0, none⟩)), (57, .bool s10)] (St w0 Φ_11 [(b_2, .cells #[.int .i64 x1.1, .string x3.1, u1, .int .i64 s9, .string (⟨#[]⟩ : ByteArray)] 143 (0, 0)), (b_1, .cells #[.int .i64 0, .string (⟨#[]⟩ : ByteArray), .slice none 0 0, .int .i64 0, .string (⟨#[]⟩ : ByteArray)] 143 (0, 0))] [ob u1, [pb0]])
     unfold m_s_l8Draw_j5 at h
     refine en ?_
     refine cut (σ := Hp × Int × Int × ByteArray) (fun s => [(4, .pointer (some ⟨b_1, 0, none⟩)), (5, .pointer (some ⟨b_2, 0, none⟩))]) (fun s => St w0 s.1 [(b_2, .cells #[.int .i64 x1.1, .string x3.1, u1, .int .i64 s9, .string s.2.2.2] 143 (0, 0)), (b_1, .cells #[.int .i64 0, .string (⟨#[]⟩ : ByteArray), .slice none 0 0, .int .i64 0, .string (⟨#[]⟩ : ByteArray)] 143 (0, 0))] [ob u1, [pb0]]) (fun s => m_s_l8Draw_j6 N p0 x1 x3 s3 s9 s.2.1 s.2.2.1 s.2.2.2 = some r ∧ (OSl RTExpr 191 11 s.1 [] u1 s3) ∧ (s.1 pb0 = some (.cells #[pv0_0, .int .i64 s.2.1, .int .i64 s.2.2.1] 112 (0, 0))) ∧ (RSl (RI .u8) 1 s.1 pG0_0 pv0_0 p0.b)) (fun s hm => ?_) (fun K => ?_)
     ·clear h
      obtain ⟨Φ_12, s13, s14, s15⟩ := s
      obtain ⟨h, k2, k6, ph0_0⟩ := hm
      dsimp only at h k2 k6 ph0_0 ⊢
      unfold m_s_l8Draw_j6 at h
      refine sr <| ld5 Tn_143 0 rfl <| soN 1 Sz_143 rfl ⟨rfl, rfl, k2.one, rfl, rfl, trivial⟩ rfl ?_
      refine en ?_
      refine WT.ret Tryz.func125 (resOk.one (rv_cell Tn_143 rfl (fun w1 hw => hw.rgO (i := 1) rfl 0 5 [.int .i64 x1.1, .string x3.1, u1, .int .i64 s9, .string s15] rfl) rfl)) (fun w1 hw => ?_)
      subst hb0
      cases h
      refine postG_of_St (js := [0, 0]) hw rfl ⟨u1, rfl, rfl, k2, rfl, k6⟩
     refine cdh rfl h (fun c4 h => ?_) (fun c4 h => ?_)
     ·refine rgn <| la rfl ?_
      have rc4 : RC RS 1 Φ_11 ([[], []] : List (List Nat)) [.string (⟨#[114, 101, 102, 117, 110, 100]⟩ : ByteArray), .string (⟨#[99, 97, 110, 99, 101, 108]⟩ : ByteArray)] ([(⟨#[114, 101, 102, 117, 110, 100]⟩ : ByteArray), (⟨#[99, 97, 110, 99, 101, 108]⟩ : ByteArray)] : List ByteArray) := RC.cons (c := [.string (⟨#[114, 101, 102, 117, 110, 100]⟩ : ByteArray)]) (cells := [.string (⟨#[99, 97, 110, 99, 101, 108]⟩ : ByteArray)]) ⟨rfl, rfl⟩ rfl (RC.cons (c := [.string (⟨#[99, 97, 110, 99, 101, 108]⟩ : ByteArray)]) (cells := []) ⟨rfl, rfl⟩ rfl (RC.nil _ _ _))
      refine le' (e_lit (vs := [(0, .string (⟨#[114, 101, 102, 117, 110, 100]⟩ : ByteArray)), (1, .string (⟨#[99, 97, 110, 99, 101, 108]⟩ : ByteArray))]) (C := #[.string (⟨#[114, 101, 102, 117, 110, 100]⟩ : ByteArray), .string (⟨#[99, 97, 110, 99, 101, 108]⟩ : ByteArray)]) RS.lasts Sl_114 Zr_9 rfl rfl rfl rfl (fill_made MC_9_2 (fill_cons (C' := [.string (⟨#[114, 101, 102, 117, 110, 100]⟩ : ByteArray), .string ⟨#[]⟩]) rfl rfl rfl rfl rfl (fill_cons (C' := [.string (⟨#[114, 101, 102, 117, 110, 100]⟩ : ByteArray), .string (⟨#[99, 97, 110, 99, 101, 108]⟩ : ByteArray)]) rfl rfl rfl rfl rfl (fill_nil)))) rfl rc4 rfl (by simpa using Kw.nil)) rfl (fun v9 Φ_13 D5 q9 => ?_)
      obtain ⟨fr9, h9⟩ := q9
      replace h9 : OSl RS 9 1 Φ_13 [] v9 ([(⟨#[114, 101, 102, 117, 110, 100]⟩ : ByteArray), (⟨#[99, 97, 110, 99, 101, 108]⟩ : ByteArray)] : List ByteArray) := by simpa using h9
      replace ph0_0 := ph0_0.frame RI.lasts fr9 (Dj.empty _)
      replace k2 := k2.frame RTExpr.lasts fr9 (Dj.empty _) (Dj.empty _)
      replace k5 := fr9 _ _ (by simp) k5
      obtain ⟨x6, hx6, h⟩ := bs h
      refine lc (k_call (js := [2]) (R := [ob v9, ob u1]) Fun_72 rfl rfl (fun w1 hw ap hl => m_s_l1Str_ok hw.fro N (⟨p0.b, s11, s12⟩ : Tl1Cur) ([(⟨#[114, 101, 102, 117, 110, 100]⟩ : ByteArray), (⟨#[99, 97, 110, 99, 101, 108]⟩ : ByteArray)] : List ByteArray) ph0_0 k5 h9.rsl (ap.o pa0_0) (Dj.app (ap.r (i := 0) rfl) (Dj.nil _)) ap.nd hl hx6)) rfl (fun v10 Φ_14 F5 q10 => ?_)
      obtain ⟨ap6, fr10, rfl, rfl, e5, h10⟩ := q10
      replace ph0_0 := ph0_0.frame RI.lasts fr10 (ap6.o pa0_0)
      replace k2 := k2.frame RTExpr.lasts fr10 (ap6.r (i := 1) rfl) (Dj.nil _)
      refine lf Fld_143_4 rfl rfl rfl <| so1 0 Sz_9 rfl rfl ?_
      refine en ?_
      exact wto (K (Φ_14, x6.2.i, x6.2.h, x6.1) ⟨h, k2, h10, ph0_0⟩) ⟨rfl, rfl, trivial⟩ (fun w1 hw => (hw.sel (js := [2, 0]) rfl).selO (js := [0, 0]) rfl)
     refine WT.skip ?_
     exact wto (K (Φ_11, s11, s12, (⟨#[]⟩ : ByteArray)) ⟨h, k2, k5, ph0_0⟩) ⟨rfl, rfl, trivial⟩ (fun w1 hw => (hw.sel (js := [0, 0]) rfl).selO (js := [0, 0]) rfl)
    refine spl 54 rfl h (fun c5 h => ?_) (fun c5 h => ?_)
    ·refine ly rfl rfl <| la rfl <| ly rfl rfl ?_
     obtain ⟨x7, hx7, h⟩ := bs h
     refine lc (k_call (js := [1]) (R := [ob u1]) Fun_32 rfl rfl (fun w1 hw ap hl => m_s_l1Once_ok hw.fro N (⟨p0.b, s7, s8⟩ : Tl1Cur) 2 ph0_0 k4 (ap.o pa0_0) ap.nd hl hx7)) rfl (fun v11 Φ_15 F6 q11 => ?_)
     obtain ⟨ap7, fr11, rfl, rfl, e6, h11⟩ := q11
     replace ph0_0 := ph0_0.frame RI.lasts fr11 (ap7.o pa0_0)
     replace k2 := k2.frame RTExpr.lasts fr11 (ap7.r (i := 0) rfl) (Dj.nil _)
     refine la rfl <| WL.mono (l' := [(0, .pointer (some ⟨pb0, 0, none⟩)), (4, .pointer (some ⟨b_1, 0, none⟩)), (5, .pointer (some ⟨b_2, 0, none⟩)), (57, .bool x7.1)]) (S' := St w0 Φ_15 [(b_2, .cells #[.int .i64 x1.1, .string x3.1, u1, .int .i64 s9, .string (⟨#[]⟩ : ByteArray)] 143 (0, 0)), (b_1, .cells #[.int .i64 0, .string (⟨#[]⟩ : ByteArray), .slice none 0 0, .int .i64 0, .string (⟨#[]⟩ : ByteArray)] 143 (0, 0))] [ob u1, [pb0]]) (by exact ⟨rfl, rfl, rfl, rfl, trivial⟩) (fun w1 hw => (hw.sel (js := [1, 0]) rfl).selO (js := [0, 0]) rfl) ?_
     exact K (Φ_15, x7.1, x7.2.i, x7.2.h) ⟨h, k2, h11, ph0_0⟩
    refine la rfl <| la rfl <| la rfl <| WL.mono (l' := [(0, .pointer (some ⟨pb0, 0, none⟩)), (4, .pointer (some ⟨b_1, 0, none⟩)), (5, .pointer (some ⟨b_2, 0, none⟩)), (57, .bool false)]) (S' := St w0 Φ_10 [(b_2, .cells #[.int .i64 x1.1, .string x3.1, u1, .int .i64 s9, .string (⟨#[]⟩ : ByteArray)] 143 (0, 0)), (b_1, .cells #[.int .i64 0, .string (⟨#[]⟩ : ByteArray), .slice none 0 0, .int .i64 0, .string (⟨#[]⟩ : ByteArray)] 143 (0, 0))] [ob u1, [pb0]]) (by exact ⟨rfl, rfl, rfl, rfl, trivial⟩) (fun w1 hw => (hw.sel (js := [0, 0]) rfl).selO (js := [0, 0]) rfl) ?_
    exact K (Φ_10, false, s7, s8) ⟨h, k2, k4, ph0_0⟩
   refine cdh rfl h (fun c6 h => ?_) (fun c6 h => ?_)
   ·refine rgn <| la rfl ?_
    have rc5 : RC (RI .i64) 1 Φ_6 ([[], [], [], []] : List (List Nat)) [.int .i64 0, .int .i64 1, .int .i64 5, .int .i64 100000] ([0, 1, 5, 100000] : List Int) := RC.cons (c := [.int .i64 0]) (cells := [.int .i64 1, .int .i64 5, .int .i64 100000]) ⟨rfl, rfl⟩ rfl (RC.cons (c := [.int .i64 1]) (cells := [.int .i64 5, .int .i64 100000]) ⟨rfl, rfl⟩ rfl (RC.cons (c := [.int .i64 5]) (cells := [.int .i64 100000]) ⟨rfl, rfl⟩ rfl (RC.cons (c := [.int .i64 100000]) (cells := []) ⟨rfl, rfl⟩ rfl (RC.nil _ _ _))))
    refine le' (e_lit (vs := [(0, .int .i64 0), (1, .int .i64 1), (2, .int .i64 5), (3, .int .i64 100000)]) (C := #[.int .i64 0, .int .i64 1, .int .i64 5, .int .i64 100000]) RI.lasts Sl_41 Zr_3 rfl rfl rfl rfl (fill_made MC_3_4 (fill_cons (C' := [.int .i64 0, .int .i64 0, .int .i64 0, .int .i64 0]) rfl rfl rfl rfl rfl (fill_cons (C' := [.int .i64 0, .int .i64 1, .int .i64 0, .int .i64 0]) rfl rfl rfl rfl rfl (fill_cons (C' := [.int .i64 0, .int .i64 1, .int .i64 5, .int .i64 0]) rfl rfl rfl rfl rfl (fill_cons (C' := [.int .i64 0, .int .i64 1, .int .i64 5, .int .i64 100000]) rfl rfl rfl rfl rfl (fill_nil)))))) rfl rc5 rfl (by simpa using Kw.nil)) rfl (fun v12 Φ_16 D6 q12 => ?_)
    obtain ⟨fr12, h12⟩ := q12
    replace h12 : OSl (RI .i64) 3 1 Φ_16 [] v12 ([0, 1, 5, 100000] : List Int) := by simpa using h12
    replace ph0_0 := ph0_0.frame RI.lasts fr12 (Dj.empty _)
    replace k2 := k2.frame RTExpr.lasts fr12 (Dj.empty _) (Dj.empty _)
    replace k3 := fr12 _ _ (by simp) k3
    obtain ⟨x8, hx8, h⟩ := bs h
    refine lc (k_call (js := [2]) (R := [ob v12, ob u1]) Fun_121 rfl rfl (fun w1 hw ap hl => m_s_l1Int_ok hw.fro N (⟨p0.b, s5, s6⟩ : Tl1Cur) ([0, 1, 5, 100000] : List Int) ph0_0 k3 h12.rsl (ap.o pa0_0) (Dj.app (ap.r (i := 0) rfl) (Dj.nil _)) ap.nd hl hx8)) rfl (fun v13 Φ_17 F7 q13 => ?_)
    obtain ⟨ap8, fr13, rfl, rfl, e7, h13⟩ := q13
    replace ph0_0 := ph0_0.frame RI.lasts fr13 (ap8.o pa0_0)
    replace k2 := k2.frame RTExpr.lasts fr13 (ap8.r (i := 1) rfl) (Dj.nil _)
    refine lf Fld_143_3 rfl rfl rfl <| so1 0 Sz_3 rfl rfl ?_
    refine en ?_
    exact wto (K (Φ_17, x8.2.i, x8.2.h, x8.1) ⟨h, k2, h13, ph0_0⟩) ⟨rfl, rfl, rfl, trivial⟩ (fun w1 hw => (hw.sel (js := [2, 0]) rfl).selO (js := [0, 0]) rfl)
   refine WT.skip ?_
   exact wto (K (Φ_6, s5, s6, 0) ⟨h, k2, k3, ph0_0⟩) ⟨rfl, rfl, rfl, trivial⟩ (fun w1 hw => (hw.sel (js := [0, 0]) rfl).selO (js := [0, 0]) rfl)
  refine cdh rfl h (fun c7 h => ?_) (fun c7 h => ?_)
  ·refine rgn <| la rfl <| en ?_
   exact wto (K (2) h) ⟨rfl, rfl, rfl, rfl, trivial⟩ (fun w1 hw => (hw.sel (js := [0]) rfl).selO (js := [0, 0]) rfl)
  refine WT.skip ?_
  exact wto (K (1) h) ⟨rfl, rfl, rfl, rfl, trivial⟩ (fun w1 hw => (hw.sel (js := [0]) rfl).selO (js := [0, 0]) rfl)
 refine cdh rfl h (fun c8 h => ?_) (fun c8 h => ?_)
 ·refine WT.skip ?_
  exact wto (K (decide (x1.1 = 5)) h) ⟨rfl, rfl, rfl, rfl, trivial⟩ (fun w1 hw => (hw.sel (js := [0]) rfl).selO (js := [0, 0]) rfl)
 refine rgn <| la rfl <| la rfl <| en ?_
 exact wto (K (decide (x1.1 = 6)) h) ⟨rfl, rfl, rfl, rfl, trivial⟩ (fun w1 hw => (hw.sel (js := [0]) rfl).selO (js := [0, 0]) rfl)
end Go.Proofs.YtelchcokfcdndaaGreat
