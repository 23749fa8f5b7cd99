/- Printed by a program of ours: each Go function computes its Lean function. -/
import Derived.Test.YteipbimepilcfaaGreatDoorProg
import Derived.Test.YteipbimepilcfaaGreatDoorWRulesMod
import Derived.Test.YteipbimepilcfaaGreatDoorEP
import Derived.Test.YteipbimepilcfaaGreatDoorEQ
import Derived.Test.YteipbimepilcfaaGreatDoorWRulesLib
namespace Go.Proofs.YteipbimepilcfaaGreatDoor
open Eng Tryz
open Go.RowKit (Below)
set_option linter.unusedVariables false
set_option linter.unusedSimpArgs false

set_option maxRecDepth 100000
set_option maxHeartbeats 1000000
theorem mixed : prog.follows .mixedOrders = true := by kernel_rfl
theorem Sl_22 : Sl prog 22 5 1 = true := by kernel_rfl
theorem T1_5 : T1 prog 5 = true := by kernel_rfl
theorem Ik_5 : Ik prog 5 .u8 = true := by kernel_rfl
theorem Ik_3 : Ik prog 3 .i64 = true := by kernel_rfl
theorem Pl_107 : Pl prog 107 #[(0, 1), (1, 1), (2, 1)] = true := by kernel_rfl
theorem Zr_107 : (prog.info? 107).map (·.zero) = some (some (.agg #[.slice none 0 0, iV 0, iV 0])) := by kernel_rfl
theorem Fld_107_2 : Fld prog 107 2 2 = true := by kernel_rfl
theorem T1_3 : T1 prog 3 = true := by kernel_rfl
theorem Sz_3 : Sz prog 3 1 = true := by kernel_rfl
theorem Fld_107_1 : Fld prog 107 1 1 = true := by kernel_rfl
theorem Sl_68 : Sl prog 68 9 1 = true := by kernel_rfl
theorem Fun_63 : Fun prog 63 = true := by kernel_rfl
theorem T1_9 : T1 prog 9 = true := by kernel_rfl
theorem Zr_9 : (prog.info? 9).map (·.zero) = some (some (.string ⟨#[]⟩)) := by kernel_rfl
theorem Fld_35_1 : Fld prog 35 1 1 = true := by kernel_rfl
theorem T1_33 : T1 prog 33 = true := by kernel_rfl
theorem Sl_33 : Sl prog 33 60 5 = true := by kernel_rfl
theorem Fld_60_0 : Fld prog 60 0 0 = true := by kernel_rfl
theorem Fld_60_1 : Fld prog 60 1 1 = true := by kernel_rfl
theorem MC_9_1 : madeCells (Value.string ⟨#[]⟩ : Value).cells (1 * 1) = #[.string ⟨#[]⟩] := by kernel_rfl
theorem Ei_9 : (prog.info? 9).map (fun i => (i.zero, i.size, i.bytes)) = some (some (.string ⟨#[]⟩), 1, 16) := by kernel_rfl
theorem Fld_28_2 : Fld prog 28 2 2 = true := by kernel_rfl
theorem Sl_24 : Sl prog 24 35 3 = true := by kernel_rfl
theorem Tn_35 : Tn prog 35 3 = true := by kernel_rfl
theorem Fld_35_2 : Fld prog 35 2 2 = true := by kernel_rfl
theorem T1_4 : T1 prog 4 = true := by kernel_rfl
theorem Sl_156 : Sl prog 156 3 1 = true := by kernel_rfl
theorem Zr_60 : (prog.info? 60).map (·.zero) = some (some (.agg #[iV 0, .string ⟨#[]⟩, iV 0, iV 0, .string ⟨#[]⟩])) := by kernel_rfl
theorem Tn_58 : Tn prog 58 3 = true := by kernel_rfl
theorem Pl_60 : Pl prog 60 #[(0, 1), (1, 1), (2, 3)] = true := by kernel_rfl
theorem Sz_60 : Sz prog 60 5 = true := by kernel_rfl
theorem Tn_60 : Tn prog 60 5 = true := by kernel_rfl
theorem Zr_58 : (prog.info? 58).map (·.zero) = some (some (.agg #[iV 0, iV 0, .string ⟨#[]⟩])) := by kernel_rfl
theorem Pl_58 : Pl prog 58 #[(0, 1), (1, 1), (2, 1)] = true := by kernel_rfl
theorem Sz_58 : Sz prog 58 3 = true := by kernel_rfl
theorem MC_9_2 : madeCells (Value.string ⟨#[]⟩ : Value).cells (2 * 1) = #[.string ⟨#[]⟩, .string ⟨#[]⟩] := by kernel_rfl
theorem Fun_64 : Fun prog 64 = true := by kernel_rfl
theorem MC_9_4 : madeCells (Value.string ⟨#[]⟩ : Value).cells (4 * 1) = #[.string ⟨#[]⟩, .string ⟨#[]⟩, .string ⟨#[]⟩, .string ⟨#[]⟩] := by kernel_rfl
theorem Zr_35 : (prog.info? 35).map (·.zero) = some (some (.agg #[.string ⟨#[]⟩, .slice none 0 0, .bool false])) := by kernel_rfl
theorem Pl_35 : Pl prog 35 #[(0, 1), (1, 1), (2, 1)] = true := by kernel_rfl
theorem Sz_35 : Sz prog 35 3 = true := by kernel_rfl
theorem Fld_35_0 : Fld prog 35 0 0 = true := by kernel_rfl
theorem Fun_187 : Fun prog 187 = true := by kernel_rfl
theorem MC_60_1 : madeCells (Value.agg #[iV 0, .string ⟨#[]⟩, iV 0, iV 0, .string ⟨#[]⟩] : Value).cells (1 * 5) = #[iV 0, .string ⟨#[]⟩, iV 0, iV 0, .string ⟨#[]⟩] := by kernel_rfl
theorem Ei_60 : (prog.info? 60).map (fun i => (i.zero, i.size, i.bytes)) = some (some (.agg #[iV 0, .string ⟨#[]⟩, iV 0, iV 0, .string ⟨#[]⟩]), 5, 56) := by kernel_rfl
theorem Sz_33 : Sz prog 33 1 = true := by kernel_rfl
theorem Zr_62 : (prog.info? 62).map (·.zero) = some (some (.agg #[iV 0, iV 0, .string ⟨#[]⟩, iV 0, iV 0, .string ⟨#[]⟩, iV 0, .string ⟨#[]⟩, iV 0, iV 0, .string ⟨#[]⟩])) := by kernel_rfl
theorem Pl_62 : Pl prog 62 #[(0, 1), (1, 5), (6, 5)] = true := by kernel_rfl
theorem Sz_62 : Sz prog 62 11 = true := by kernel_rfl
theorem Tn_62 : Tn prog 62 11 = true := by kernel_rfl
theorem Zr_116 : (prog.info? 116).map (·.zero) = some (some (.agg #[.string ⟨#[]⟩, iV 0, .string ⟨#[]⟩, iV 0, iV 0, .string ⟨#[]⟩, iV 0, .string ⟨#[]⟩, iV 0, iV 0, .string ⟨#[]⟩])) := by kernel_rfl
theorem Pl_116 : Pl prog 116 #[(0, 1), (1, 5), (6, 5)] = true := by kernel_rfl
theorem Sz_116 : Sz prog 116 11 = true := by kernel_rfl
theorem Tn_116 : Tn prog 116 11 = true := by kernel_rfl
theorem Fld_116_0 : Fld prog 116 0 0 = true := by kernel_rfl
theorem Sz_9 : Sz prog 9 1 = true := by kernel_rfl
theorem Fld_116_2 : Fld prog 116 2 6 = true := by kernel_rfl
theorem Zr_66 : (prog.info? 66).map (·.zero) = some (some (.agg #[iV 0, .string ⟨#[]⟩, .slice none 0 0, iV 0, .string ⟨#[]⟩])) := by kernel_rfl
theorem MC_3_8 : madeCells (Value.int .i64 0 : Value).cells (8 * 1) = #[iV 0, iV 0, iV 0, iV 0, iV 0, iV 0, iV 0, iV 0] := by kernel_rfl
theorem Zr_3 : (prog.info? 3).map (·.zero) = some (some (iV 0)) := by kernel_rfl
theorem Pl_66 : Pl prog 66 #[(0, 1), (1, 1), (2, 1), (3, 1), (4, 1)] = true := by kernel_rfl
theorem Sz_66 : Sz prog 66 5 = true := by kernel_rfl
theorem Fld_66_0 : Fld prog 66 0 0 = true := by kernel_rfl
theorem Fld_66_3 : Fld prog 66 3 3 = true := by kernel_rfl
theorem Tn_66 : Tn prog 66 5 = true := by kernel_rfl
theorem MC_9_5 : madeCells (Value.string ⟨#[]⟩ : Value).cells (5 * 1) = #[.string ⟨#[]⟩, .string ⟨#[]⟩, .string ⟨#[]⟩, .string ⟨#[]⟩, .string ⟨#[]⟩] := by kernel_rfl
theorem Fld_66_1 : Fld prog 66 1 1 = true := by kernel_rfl
theorem Fld_66_2 : Fld prog 66 2 2 = true := by kernel_rfl
theorem T1_64 : T1 prog 64 = true := by kernel_rfl
theorem Fun_191 : Fun prog 191 = true := by kernel_rfl
theorem MC_116_1 : madeCells (Value.agg #[.string ⟨#[]⟩, iV 0, .string ⟨#[]⟩, iV 0, iV 0, .string ⟨#[]⟩, iV 0, .string ⟨#[]⟩, iV 0, iV 0, .string ⟨#[]⟩] : Value).cells (1 * 11) = #[.string ⟨#[]⟩, iV 0, .string ⟨#[]⟩, iV 0, iV 0, .string ⟨#[]⟩, iV 0, .string ⟨#[]⟩, iV 0, iV 0, .string ⟨#[]⟩] := by kernel_rfl
theorem Sl_64 : Sl prog 64 116 11 = true := by kernel_rfl
theorem Ei_116 : (prog.info? 116).map (fun i => (i.zero, i.size, i.bytes)) = some (some (.agg #[.string ⟨#[]⟩, iV 0, .string ⟨#[]⟩, iV 0, iV 0, .string ⟨#[]⟩, iV 0, .string ⟨#[]⟩, iV 0, iV 0, .string ⟨#[]⟩]), 11, 128) := by kernel_rfl
theorem Sz_64 : Sz prog 64 1 = true := by kernel_rfl
theorem Fld_66_4 : Fld prog 66 4 4 = true := by kernel_rfl
theorem MC_3_4 : madeCells (Value.int .i64 0 : Value).cells (4 * 1) = #[iV 0, iV 0, iV 0, iV 0] := by kernel_rfl
theorem Zr_28 : (prog.info? 28).map (·.zero) = some (some (.agg #[.string ⟨#[]⟩, iV 0, .slice none 0 0, .slice none 0 0, .slice none 0 0])) := by kernel_rfl
theorem MC_3_5 : madeCells (Value.int .i64 0 : Value).cells (5 * 1) = #[iV 0, iV 0, iV 0, iV 0, iV 0] := by kernel_rfl
theorem Pl_28 : Pl prog 28 #[(0, 1), (1, 1), (2, 1), (3, 1), (4, 1)] = true := by kernel_rfl
theorem Sz_28 : Sz prog 28 5 = true := by kernel_rfl
theorem Fun_138 : Fun prog 138 = true := by kernel_rfl
theorem MC_35_1 : madeCells (Value.agg #[.string ⟨#[]⟩, .slice none 0 0, .bool false] : Value).cells (1 * 3) = #[.string ⟨#[]⟩, .slice none 0 0, .bool false] := by kernel_rfl
theorem Ei_35 : (prog.info? 35).map (fun i => (i.zero, i.size, i.bytes)) = some (some (.agg #[.string ⟨#[]⟩, .slice none 0 0, .bool false]), 3, 48) := by kernel_rfl
theorem Sz_24 : Sz prog 24 1 = true := by kernel_rfl
theorem Tn_28 : Tn prog 28 5 = true := by kernel_rfl
theorem Fun_45 : Fun prog 45 = true := by kernel_rfl
theorem Fld_116_1 : Fld prog 116 1 1 = true := by kernel_rfl
theorem Fld_28_4 : Fld prog 28 4 4 = true := by kernel_rfl
theorem MC_66_1 : madeCells (Value.agg #[iV 0, .string ⟨#[]⟩, .slice none 0 0, iV 0, .string ⟨#[]⟩] : Value).cells (1 * 5) = #[iV 0, .string ⟨#[]⟩, .slice none 0 0, iV 0, .string ⟨#[]⟩] := by kernel_rfl
theorem Sl_26 : Sl prog 26 66 5 = true := by kernel_rfl
theorem Ei_66 : (prog.info? 66).map (fun i => (i.zero, i.size, i.bytes)) = some (some (.agg #[iV 0, .string ⟨#[]⟩, .slice none 0 0, iV 0, .string ⟨#[]⟩]), 5, 72) := by kernel_rfl
theorem Sz_26 : Sz prog 26 1 = true := by kernel_rfl
theorem Fld_62_1 : Fld prog 62 1 1 = true := by kernel_rfl
theorem Fld_62_2 : Fld prog 62 2 6 = true := by kernel_rfl
theorem Fld_28_3 : Fld prog 28 3 3 = true := by kernel_rfl
theorem MC_62_1 : madeCells (Value.agg #[iV 0, iV 0, .string ⟨#[]⟩, iV 0, iV 0, .string ⟨#[]⟩, iV 0, .string ⟨#[]⟩, iV 0, iV 0, .string ⟨#[]⟩] : Value).cells (1 * 11) = #[iV 0, iV 0, .string ⟨#[]⟩, iV 0, iV 0, .string ⟨#[]⟩, iV 0, .string ⟨#[]⟩, iV 0, iV 0, .string ⟨#[]⟩] := by kernel_rfl
theorem Sl_25 : Sl prog 25 62 11 = true := by kernel_rfl
theorem Ei_62 : (prog.info? 62).map (fun i => (i.zero, i.size, i.bytes)) = some (some (.agg #[iV 0, iV 0, .string ⟨#[]⟩, iV 0, iV 0, .string ⟨#[]⟩, iV 0, .string ⟨#[]⟩, iV 0, iV 0, .string ⟨#[]⟩]), 11, 120) := by kernel_rfl
theorem Sz_25 : Sz prog 25 1 = true := by kernel_rfl
theorem MC_9_3 : madeCells (Value.string ⟨#[]⟩ : Value).cells (3 * 1) = #[.string ⟨#[]⟩, .string ⟨#[]⟩, .string ⟨#[]⟩] := by kernel_rfl
theorem Fld_62_0 : Fld prog 62 0 0 = true := by kernel_rfl
theorem MC_35_0 : madeCells (Value.agg #[.string ⟨#[]⟩, .slice none 0 0, .bool false] : Value).cells (0 * 3) = #[] := by kernel_rfl
theorem Fld_28_0 : Fld prog 28 0 0 = true := by kernel_rfl
theorem MC_3_3 : madeCells (Value.int .i64 0 : Value).cells (3 * 1) = #[iV 0, iV 0, iV 0] := by kernel_rfl
theorem Fld_28_1 : Fld prog 28 1 1 = true := by kernel_rfl
theorem Fun_142 : Fun prog 142 = true := by kernel_rfl
theorem MC_66_0 : madeCells (Value.agg #[iV 0, .string ⟨#[]⟩, .slice none 0 0, iV 0, .string ⟨#[]⟩] : Value).cells (0 * 5) = #[] := by kernel_rfl
theorem Sz_4 : Sz prog 4 1 = true := by kernel_rfl
theorem Fun_103 : Fun prog 103 = true := by kernel_rfl
theorem Str_9 : Str prog 9 = true := by kernel_rfl
theorem Fun_106 : Fun prog 106 = true := by kernel_rfl
theorem EqT_58 : EqT prog 58 [.i .i64, .i .i64, .s] = true := by kernel_rfl
theorem Fun_12 : Fun prog 12 = true := by kernel_rfl
theorem Fun_78 : Fun prog 78 = true := by kernel_rfl
theorem Bo_4 : Bo prog 4 = true := by kernel_rfl
theorem EqT_60 : EqT prog 60 [.i .i64, .s, .i .i64, .i .i64, .s] = true := by kernel_rfl
theorem MC_60_2 : madeCells (Value.agg #[iV 0, .string ⟨#[]⟩, iV 0, iV 0, .string ⟨#[]⟩] : Value).cells (2 * 5) = #[iV 0, .string ⟨#[]⟩, iV 0, iV 0, .string ⟨#[]⟩, iV 0, .string ⟨#[]⟩, iV 0, iV 0, .string ⟨#[]⟩] := by kernel_rfl
theorem Fun_34 : Fun prog 34 = true := by kernel_rfl
theorem Fun_87 : Fun prog 87 = true := by kernel_rfl
theorem Fun_148 : Fun prog 148 = true := by kernel_rfl
theorem Fun_88 : Fun prog 88 = true := by kernel_rfl
theorem Fun_149 : Fun prog 149 = true := by kernel_rfl
theorem Fun_38 : Fun prog 38 = true := by kernel_rfl
theorem Fun_41 : Fun prog 41 = true := by kernel_rfl
theorem Fun_40 : Fun prog 40 = true := by kernel_rfl
theorem Fun_42 : Fun prog 42 = true := by kernel_rfl
theorem Fun_43 : Fun prog 43 = true := by kernel_rfl
theorem Fun_44 : Fun prog 44 = true := by kernel_rfl
theorem Sl_36 : Sl prog 36 28 5 = true := by kernel_rfl
theorem Fld_38_1 : Fld prog 38 1 1 = true := by kernel_rfl
theorem T1_36 : T1 prog 36 = true := by kernel_rfl
theorem Fun_59 : Fun prog 59 = true := by kernel_rfl
theorem Fld_38_0 : Fld prog 38 0 0 = true := by kernel_rfl
theorem Tn_38 : Tn prog 38 2 = true := by kernel_rfl
theorem Fun_17 : Fun prog 17 = true := by kernel_rfl
theorem Fun_51 : Fun prog 51 = true := by kernel_rfl
theorem Fun_52 : Fun prog 52 = true := by kernel_rfl
theorem Zr_83 : (prog.info? 83).map (·.zero) = some (some (.agg #[.pointer none, .slice none 0 0])) := by kernel_rfl
theorem If_85 : If prog 85 = true := by kernel_rfl
theorem Zr_77 : (prog.info? 77).map (·.zero) = some (some (.agg #[iV 0, iV 0, .string ⟨#[]⟩])) := by kernel_rfl
theorem Pl_77 : Pl prog 77 #[(0, 1), (1, 1), (2, 1)] = true := by kernel_rfl
theorem Sz_77 : Sz prog 77 3 = true := by kernel_rfl
theorem Tn_77 : Tn prog 77 3 = true := by kernel_rfl
theorem Fun_108 : Fun prog 108 = true := by kernel_rfl
theorem Fun_55 : Fun prog 55 = true := by kernel_rfl
theorem Sl_44 : Sl prog 44 77 3 = true := by kernel_rfl
theorem MC_77_1 : madeCells (Value.agg #[iV 0, iV 0, .string ⟨#[]⟩] : Value).cells (1 * 3) = #[iV 0, iV 0, .string ⟨#[]⟩] := by kernel_rfl
theorem Ei_77 : (prog.info? 77).map (fun i => (i.zero, i.size, i.bytes)) = some (some (.agg #[iV 0, iV 0, .string ⟨#[]⟩]), 3, 32) := by kernel_rfl
theorem Fld_75_2 : Fld prog 75 2 2 = true := by kernel_rfl
theorem Fld_75_1 : Fld prog 75 1 1 = true := by kernel_rfl
theorem Fld_75_0 : Fld prog 75 0 0 = true := by kernel_rfl
theorem T1_44 : T1 prog 44 = true := by kernel_rfl
theorem EqT_77 : EqT prog 77 [.i .i64, .i .i64, .s] = true := by kernel_rfl
theorem Fun_47 : Fun prog 47 = true := by kernel_rfl
theorem Fd1_77_1 : Fd1 prog 77 1 1 = true := by kernel_rfl
theorem T1_125 : T1 prog 125 = true := by kernel_rfl
theorem Fun_157 : Fun prog 157 = true := by kernel_rfl
theorem Fd1_77_2 : Fd1 prog 77 2 2 = true := by kernel_rfl
theorem Fun_156 : Fun prog 156 = true := by kernel_rfl
theorem T1_171 : T1 prog 171 = true := by kernel_rfl
theorem Fun_200 : Fun prog 200 = true := by kernel_rfl
theorem Fun_199 : Fun prog 199 = true := by kernel_rfl
theorem Fun_99 : Fun prog 99 = true := by kernel_rfl
theorem Fun_101 : Fun prog 101 = true := by kernel_rfl
theorem Fun_100 : Fun prog 100 = true := by kernel_rfl
theorem Zr_38 : (prog.info? 38).map (·.zero) = some (some (.agg #[.string ⟨#[]⟩, .slice none 0 0])) := by kernel_rfl
theorem Pl_38 : Pl prog 38 #[(0, 1), (1, 1)] = true := by kernel_rfl
theorem Sz_38 : Sz prog 38 2 = true := by kernel_rfl
theorem Pl_75 : Pl prog 75 #[(0, 1), (1, 1), (2, 1)] = true := by kernel_rfl
theorem Zr_75 : (prog.info? 75).map (·.zero) = some (some (.agg #[.slice none 0 0, iV 0, .bool false])) := by kernel_rfl
theorem Sz_75 : Sz prog 75 3 = true := by kernel_rfl
theorem Fun_48 : Fun prog 48 = true := by kernel_rfl
theorem MC_28_1 : madeCells (Value.agg #[.string ⟨#[]⟩, iV 0, .slice none 0 0, .slice none 0 0, .slice none 0 0] : Value).cells (1 * 5) = #[.string ⟨#[]⟩, iV 0, .slice none 0 0, .slice none 0 0, .slice none 0 0] := by kernel_rfl
theorem Ei_28 : (prog.info? 28).map (fun i => (i.zero, i.size, i.bytes)) = some (some (.agg #[.string ⟨#[]⟩, iV 0, .slice none 0 0, .slice none 0 0, .slice none 0 0]), 5, 96) := by kernel_rfl
theorem Sz_36 : Sz prog 36 1 = true := by kernel_rfl
variable {Ψ Φ : Hp} {pv0 pv0_0 pv1 pv0_1 pv0_2 : Value} {pG0 pG0_0 pG1 pG0_1 pG0_2 : List Nat} {pb0 : Nat} (N : Nat)
theorem m_l_big_ok (w0 : Base Ψ Φ []) (p0 : (List Int)) (ph0 : RSl (RI .u8) 1 Ψ pG0 pv0 p0) {r : Bool} (h : m_l_big N p0 = some r) :
  CB w0 prog 7 [pv0] (.bool r) := by
 refine eN func7 rfl ntmps7 rfl w0 fun hF => ?_
 unfold m_l_big at h
 refine atr 7 [] rfl <| lnr ph0 rfl <| art 3 [] rfl ?_
 exact rt hF h
theorem m_s_l1New_ok (w0 : Base Ψ Φ []) (p0 : (List Int)) (ph0 : RSl (RI .u8) 1 Ψ pG0 pv0 p0) {r : Tl1Cur} (h : m_s_l1New N p0 = some r) :
  Calls prog 28 [pv0].toArray w0.w (PostG Φ w0.w [] (fun Φ' Fs v => ∃ (b0 : Nat) (sr_0_0 : Value) (Gr_0_0 : List Nat), v = pQ b0 ∧ Fs = [[b0]] ∧ RSl (RI .u8) 1 Φ' Gr_0_0 sr_0_0 r.b ∧ (∀ k ∈ Gr_0_0, k ∈ pG0) ∧ Φ' b0 = some (.cells #[sr_0_0, iV r.i, iV r.h] 107 (0, 0)))) := by
 refine eN func28 rfl ntmps28 rfl w0 fun hF => ?_
 unfold m_s_l1New at h
 refine atr 7 [] rfl <| lnr ph0 rfl <| art 9 [] rfl ?_
 refine lin (σ := Int × Int) (fun s => [(0, pv0), (3, iV s.1), (4, iV s.2)]) (fun s => St w0 Φ [] []) (fun m s => m_s_l1New_l1 N p0 m s.1 s.2 = some r) (wz (354354 + (p0.length : Int)), 0) N h (sx [] []) (fun n1 ih1 s hm => ?_)
 obtain ⟨s1, s2⟩ := s
 have h : m_s_l1New_l1 N p0 (n1 + 1) s1 s2 = some r := hm
 show WT _ _ [(0, pv0), (3, iV s1), (4, iV s2)] (St w0 Φ [] [])
 unfold m_s_l1New_l1 at h
 refine atr 5 [] rfl <| lnr ph0 rfl <| arr 2 [] rfl ?_
 obtain ⟨b1, hb_1, h⟩ := bs h
 refine WL.cutN 3 [(15, .bool b1), (0, pv0), (3, iV s1), (4, iV s2)] ?_ (fun K => ?_)
 rotate_left
 ·refine sp 12 hb_1 rfl (fun hb_1 => ?_) fun hb_1 => ?_
  ·refine arr 3 [] rfl ?_
   cases hb_1
   exact ku K
  ·refine arr 3 [] rfl ?_
   cases hb_1
   exact ku K
 refine en ?_
 refine ch h rfl ?_ ?_ <;> intro h
 ·refine atr 8 [] rfl ?_
  obtain ⟨x1, hx1, h⟩ := bs h
  obtain ⟨cs1, F1, -, g1, hb1, hs1, r1⟩ := ph0.el (idx_some hx1).2.2
  obtain ⟨rfl, -⟩ := r1
  refine lia ph0 hx1 rfl <| lhx 0 0 g1 rfl <| lq (q_convI Ik_5 Ik_3 rfl) rfl <| arr 2 [] rfl <| lq (q_and rfl rfl) rfl <| art 8 [] rfl ?_
  exact lb [] [] (ih1 (_, _) h)
 refine atr 5 [] rfl <| lq (q_build (vs := [(0, pv0), (2, iV s1)]) (C := #[pv0, iV 0, iV s1]) Pl_107 Zr_107 rfl (fill_cons (C' := [pv0, iV 0, iV 0]) rfl (one_cells ph0.one) rfl rfl rfl (fill_cons (C' := [pv0, iV 0, iV s1]) rfl rfl rfl rfl rfl (fill_nil)))) rfl <| lbx rfl fun b_1 => la rfl <| en ?_
 refine WT.frz (js := [0]) (R := []) rfl (fun Φ_1 fr1 k1 => ?_)
 exact rtg [0] hF (resOk.one rfl) rfl (by cases h; exact fun w1 hw => ⟨b_1, pv0, pG0, rfl, rfl, (ph0.y hw.up), (fun k hk => hk), k1⟩)
theorem m_s_l1Byte_ok (w0 : Base Ψ Φ [[pb0]].flatten) (p0 : Tl1Cur) (ph0_0 : RSl (RI .u8) 1 Ψ pG0_0 pv0_0 p0.b) (pp0 : Φ pb0 = some (.cells #[pv0_0, iV p0.i, iV p0.h] 107 (0, 0))) {r : Int × Tl1Cur} (h : m_s_l1Byte N p0 = some r) :
  Calls prog 120 [pQ pb0].toArray w0.w (PostG Φ w0.w [[pb0]].flatten (fun Φ' Fs v => v = iV r.1 ∧ Fs = [[pb0]] ∧ r.2.b = p0.b ∧ Φ' pb0 = some (.cells #[pv0_0, iV r.2.i, iV r.2.h] 107 (0, 0)))) := by
 refine eL func120 rfl ntmps120 rfl (L := [[pb0]]) w0 (fun hF => ?_)
 unfold m_s_l1Byte at h
 refine atr 8 [] rfl <| lq (q_nilCheck rfl) rfl <| lf Fld_107_2 rfl rfl rfl <| lgx 2 0 (rg_cells pp0) rfl <| arr 2 [] rfl <| lq (q_nilCheck rfl) rfl <| lf Fld_107_2 rfl rfl rfl ?_
 refine WL.thw (js := [0]) (R := []) rfl pp0 (fun Φ_1 ap1 fr1 => ?_)
 refine so1 0 Sz_3 rfl rfl ?_
 refine en <| sq <| WT.draw mixed (by kernel_rfl) (fun _ h => h.drew) <| qq (q_move rfl) rfl <| qq (q_nilCheck rfl) rfl <| aqq 2 [2, 0] rfl <| qq (q_shr rfl rfl (by decide)) rfl <| qq (q_move rfl) rfl <| qq (q_nilCheck rfl) rfl <| aqq 2 [2, 0] rfl <| qq (q_shr rfl rfl (by decide)) rfl <| qq (q_xor rfl rfl) rfl <| qq (q_and rfl rfl) rfl <| aqt 4 [] rfl <| WT.draw mixed (by kernel_rfl) (fun _ h => h.drew) <| qq (q_move rfl) rfl <| qq (q_nilCheck rfl) rfl <| aqq 3 [1, 0] rfl <| qq (q_nilCheck rfl) rfl <| aqq 2 [0, 0] rfl <| qq (q_lenR Sl_22 rfl rfl ph0_0) rfl <| aqt 2 [] rfl ?_
 refine ch h rfl ?_ ?_ <;> intro h
 ·refine sq <| WT.draw mixed (by kernel_rfl) (fun _ h => h.drew) <| aqq 2 [] rfl <| qq (q_nilCheck rfl) rfl <| aqq 3 [0, 0] rfl <| qq (q_nilCheck rfl) rfl <| aqq 2 [1, 0] rfl ?_
  obtain ⟨x1, hx1, h⟩ := bs h
  obtain ⟨cs1, F1, -, g1, hb1, hs1, r1⟩ := ph0_0.el (idx_some hx1).2.2
  obtain ⟨rfl, -⟩ := r1
  refine qq (q_indexAddr Sl_22 rfl rfl ph0_0 hx1) rfl <| qq (q_load1 T1_5 rfl (fun w1 hw => (g1.of_eq 0 1 rfl rfl : rg _ _ _ [.int .u8 x1]).rangeAt hw.in0)) rfl <| qq (q_convI Ik_5 Ik_3 rfl) rfl <| qq (q_add rfl rfl) rfl <| qq (q_and rfl rfl) rfl <| aqr 5 [] rfl <| lq (q_nilCheck rfl) rfl <| arr 3 [1, 0] rfl <| lq (q_nilCheck rfl) rfl <| lf Fld_107_1 rfl rfl rfl <| so1 0 Sz_3 rfl rfl ?_
  refine art 6 [] rfl ?_
  refine WT.frz (js := [0]) (R := []) rfl (fun Φ_2 fr2 k1 => ?_)
  exact rtg [0] hF (resOk.one rfl) rfl (by cases h; exact fun w1 hw => ⟨rfl, rfl, rfl, k1⟩)
 refine att 6 [] rfl ?_
 refine WT.frz (js := [0]) (R := []) rfl (fun Φ_3 fr3 k2 => ?_)
 exact rtg [0] hF (resOk.one rfl) rfl (by cases h; exact fun w1 hw => ⟨rfl, rfl, rfl, k2⟩)
theorem m_s_l1Below_ok (w0 : Base Ψ Φ [[pb0]].flatten) (p0 : Tl1Cur) (p1 : Int) (ph0_0 : RSl (RI .u8) 1 Ψ pG0_0 pv0_0 p0.b) (pp0 : Φ pb0 = some (.cells #[pv0_0, iV p0.i, iV p0.h] 107 (0, 0))) {r : Int × Tl1Cur} (h : m_s_l1Below N p0 p1 = some r) :
  Calls prog 63 [pQ pb0, iV p1].toArray w0.w (PostG Φ w0.w [[pb0]].flatten (fun Φ' Fs v => v = iV r.1 ∧ Fs = [[pb0]] ∧ r.2.b = p0.b ∧ Φ' pb0 = some (.cells #[pv0_0, iV r.2.i, iV r.2.h] 107 (0, 0)))) := by
 refine eL func63 rfl ntmps63 rfl (L := [[pb0]]) w0 (fun hF => ?_)
 unfold m_s_l1Below at h
 refine att 10 [] rfl ?_
 refine ch h rfl ?_ ?_ <;> intro h
 ·refine att 4 [] rfl ?_
  exact rtg [0] hF (resOk.one rfl) rfl (by cases h; exact fun w1 hw => ⟨rfl, rfl, rfl, pp0⟩)
 refine att 7 [] rfl ?_
 refine ch h rfl ?_ ?_ <;> intro h
 ·refine sr <| la rfl <| kcb [0] h rfl rfl rfl rfl (fun b ap z q => m_s_l1Byte_ok N b p0 (ph0_0.y z) pp0 q) ?_
  rintro x1 h v1 Φ_1 F1 ⟨ap1, fr1, rfl, rfl, e1, h1⟩
  refine la rfl ?_
  obtain ⟨x2, hx2, h⟩ := bs h
  refine lq (q_remV rfl rfl hx2) rfl <| la rfl <| en ?_
  exact rtg [0] hF (resOk.one rfl) rfl (by cases h; exact fun w1 hw => ⟨rfl, rfl, rfl, h1⟩)
 refine atr 4 [] rfl <| kcb [0] h rfl rfl rfl rfl (fun b ap z q => m_s_l1Byte_ok N b p0 (ph0_0.y z) pp0 q) ?_
 rintro x3 h v2 Φ_2 F2 ⟨ap2, fr2, rfl, rfl, e2, h2⟩
 refine arr 5 [] rfl <| kcb [0] h rfl rfl rfl rfl (fun b ap z q => m_s_l1Byte_ok N b (⟨p0.b, x3.2.i, x3.2.h⟩ : Tl1Cur) (ph0_0.y z) h2 q) ?_
 rintro x4 h v3 Φ_3 F3 ⟨ap3, fr3, rfl, rfl, e3, h3⟩
 refine arr 5 [] rfl <| kcb [0] h rfl rfl rfl rfl (fun b ap z q => m_s_l1Byte_ok N b (⟨p0.b, x4.2.i, x4.2.h⟩ : Tl1Cur) (ph0_0.y z) h3 q) ?_
 rintro x5 h v4 Φ_4 F4 ⟨ap4, fr4, rfl, rfl, e4, h4⟩
 refine arr 12 [] rfl ?_
 obtain ⟨x6, hx6, h⟩ := bs h
 refine lq (q_remV rfl rfl hx6) rfl <| la rfl <| en ?_
 exact rtg [0] hF (resOk.one rfl) rfl (by cases h; exact fun w1 hw => ⟨rfl, rfl, rfl, h4⟩)
theorem m_s_l1Str_ok (w0 : Base Ψ Φ [[pb0]].flatten) (p0 : Tl1Cur) (p1 : (List ByteArray)) (ph0_0 : RSl (RI .u8) 1 Ψ pG0_0 pv0_0 p0.b) (pp0 : Φ pb0 = some (.cells #[pv0_0, iV p0.i, iV p0.h] 107 (0, 0))) (ph1 : RSl RS 1 Ψ pG1 pv1 p1) {r : ByteArray × Tl1Cur} (h : m_s_l1Str N p0 p1 = some r) :
  Calls prog 64 [pQ pb0, pv1].toArray w0.w (PostG Φ w0.w [[pb0]].flatten (fun Φ' Fs v => v = .string r.1 ∧ Fs = [[pb0]] ∧ r.2.b = p0.b ∧ Φ' pb0 = some (.cells #[pv0_0, iV r.2.i, iV r.2.h] 107 (0, 0)))) := by
 refine eL func64 rfl ntmps64 rfl (L := [[pb0]]) w0 (fun hF => ?_)
 unfold m_s_l1Str at h
 refine atr 9 [] rfl <| lnr ph1 rfl <| kcb [0] h rfl rfl rfl rfl (fun b ap z q => m_s_l1Below_ok N b p0 (p1.length : Int) (ph0_0.y z) pp0 q) ?_
 rintro x1 h v1 Φ_1 F1 ⟨ap1, fr1, rfl, rfl, e1, h1⟩
 obtain ⟨x2, hx2, h⟩ := bs h
 obtain ⟨cs1, F2, -, g1, hb1, hs1, r1⟩ := ph1.el (idx_some hx2).2.2
 obtain ⟨rfl, -⟩ := r1
 refine lia ph1 hx2 rfl <| lhx 0 0 g1 rfl <| la rfl <| en ?_
 exact rtg [0] hF (resOk.one rfl) rfl (by cases h; exact fun w1 hw => ⟨rfl, rfl, rfl, h1⟩)
theorem m_s_l6Has_ok (w0 : Base Ψ Φ []) (p0 : (List ByteArray)) (p1 : ByteArray) (ph0 : RSl RS 1 Ψ pG0 pv0 p0) {r : Bool} (h : m_s_l6Has N p0 p1 = some r) :
  CB w0 prog 90 [pv0, .string p1] (.bool r) := by
 refine eN func90 rfl ntmps90 rfl w0 fun hF => ?_
 unfold m_s_l6Has at h
 refine att 10 [] rfl ?_
 refine lin (σ := Int) (fun s => [(0, pv0), (1, .string p1), (5, iV s)]) (fun s => St w0 Φ [] []) (fun m s => m_s_l6Has_l1 N p0 p1 m s = some r) (0) N h (sx [] []) (fun n1 ih1 s hm => ?_)
 revert hm; revert s; intro s1 hm
 have h : m_s_l6Has_l1 N p0 p1 (n1 + 1) s1 = some r := hm
 show WT _ _ [(0, pv0), (1, .string p1), (5, iV s1)] (St w0 Φ [] [])
 unfold m_s_l6Has_l1 at h
 refine atr 5 [] rfl <| lnr ph0 rfl <| la rfl <| en ?_
 refine ch h rfl ?_ ?_ <;> intro h
 ·refine atr 7 [] rfl ?_
  obtain ⟨x1, hx1, h⟩ := bs h
  obtain ⟨cs1, F1, -, g1, hb1, hs1, r1⟩ := ph0.el (idx_some hx1).2.2
  obtain ⟨rfl, -⟩ := r1
  refine lia ph0 hx1 rfl <| lhx 0 0 g1 rfl <| art 3 [] rfl ?_
  refine ch h rfl ?_ ?_ <;> intro h
  ·refine att 4 [] rfl ?_
   exact rt hF h
  refine att 7 [] rfl ?_
  exact lb [] [] (ih1 _ h)
 refine att 5 [] rfl ?_
 exact rt hF h
theorem m_s_VarsOf_ok (w0 : Base Ψ Φ []) (p0 : TPat) (ph0_0 : RSl RTArg 5 Ψ pG0_0 pv0_0 p0.Args) {r : (List ByteArray)} (h : m_s_VarsOf N p0 = some r) :
  Calls prog 89 [.agg [.string p0.Kind, pv0_0, .bool p0.Not].toArray].toArray w0.w (PostG Φ w0.w [] (fun Φ' Fs v => ∃ (sr_0_0 : Value), v = sr_0_0 ∧ Fs = [ob sr_0_0] ∧ OSl RS 9 1 Φ' [] sr_0_0 r)) := by
 refine eN func89 rfl ntmps89 rfl w0 fun hF => ?_
 unfold m_s_VarsOf at h
 refine sr <| lbx rfl fun b_1 => arr 4 [] rfl <| le' (e_lit0 RS.lasts Sl_68 Zr_9 rfl rfl) rfl ?_
 rintro v1 Φ_1 D1 ⟨fr1, h1⟩
 refine art 8 [] rfl ?_
 refine lin (σ := Hp × (List ByteArray) × Value × Int) (fun s => [(1, pQ b_1), (3, s.2.2.1), (4, iV s.2.2.2)]) (fun s => St w0 s.1 [(b_1, .cells #[.string p0.Kind, pv0_0, .bool p0.Not] 35 (0, 0))] [ob s.2.2.1]) (fun m s => m_s_VarsOf_l1 N p0 m s.2.1 s.2.2.2 = some r ∧ (OSl RS 9 1 s.1 [] s.2.2.1 s.2.1)) (Φ_1, ([] : List ByteArray), v1, 0) N ⟨h, h1⟩ (sx [0] [0]) (fun n1 ih1 s hm => ?_)
 obtain ⟨Φ_2, s1, u1, s2⟩ := s
 obtain ⟨h, k1⟩ := hm
 dsimp only at h k1 ⊢
 unfold m_s_VarsOf_l1 at h
 refine atr 6 [1, 0] rfl <| lnr ph0_0 rfl <| la rfl <| en ?_
 refine ch h rfl ?_ ?_ <;> intro h
 ·refine atr 8 [1, 0] rfl ?_
  obtain ⟨x1, hx1, h⟩ := bs h
  obtain ⟨cs1, F1, -, g1, hb1, hs1, r1⟩ := ph0_0.el (idx_some hx1).2.2
  obtain ⟨rfl, -⟩ := r1
  refine lia ph0_0 hx1 rfl <| lf Fld_60_0 rfl rfl rfl <| lhx 0 0 g1 rfl <| arr 2 [] rfl ?_
  obtain ⟨b1, hb_1, h⟩ := bs h
  refine WL.cutN 10 [(30, .bool b1), (1, pQ b_1), (3, u1), (4, iV s2)] ?_ (fun K => ?_)
  rotate_left
  ·refine sp 20 hb_1 rfl (fun hb_1 => ?_) fun hb_1 => ?_
   ·refine arr 4 [1, 0] rfl <| ly rfl rfl ?_
    obtain ⟨x2, hx2, hb_1⟩ := bs hb_1
    obtain ⟨cs2, F2, -, g2, hb2, hs2, r2⟩ := ph0_0.el (idx_some hx2).2.2
    obtain ⟨rfl, -⟩ := r2
    refine lia ph0_0 hx2 rfl <| ly rfl rfl <| lf Fld_60_1 rfl rfl rfl <| ly rfl rfl <| lhx 1 0 g2 rfl <| ly rfl rfl <| qc hb_1 (m_s_l6Has_ok N · s1 x2.S k1.rsl ·) rfl rfl rfl fun x3 hb_1 => arr 2 [] rfl ?_
    cases hb_1
    exact ku K
   ·refine arr 10 [] rfl ?_
    cases hb_1
    exact ku K
  refine en ?_
  refine ch h rfl ?_ ?_ <;> intro h
  ·refine atr 5 [1, 0] rfl ?_
   obtain ⟨x4, hx4, h⟩ := bs h
   obtain ⟨cs3, F3, -, g3, hb3, hs3, r3⟩ := ph0_0.el (idx_some hx4).2.2
   obtain ⟨rfl, -⟩ := r3
   refine lia ph0_0 hx4 rfl <| lf Fld_60_1 rfl rfl rfl <| lhx 1 0 g3 rfl ?_
   have rc2 : RC RS 1 Φ_2 ([[]] : List (List Nat)) [.string x4.S] ([x4.S] : List ByteArray) := RC.cons (c := [.string x4.S]) (cells := []) ⟨rfl, rfl⟩ rfl (RC.nil _ _ _)
   refine le' (e_lit (vs := [(0, .string x4.S)]) (C := #[.string x4.S]) RS.lasts Sl_68 Zr_9 rfl rfl rfl rfl (fill_made MC_9_1 (fill_cons (C' := [.string x4.S]) rfl rfl rfl rfl rfl (fill_nil))) rfl rc2 rfl (by simpa using Kw.nil)) rfl ?_
   rintro v2 Φ_3 D2 ⟨fr2, h2⟩
   replace h2 : OSl RS 9 1 Φ_3 [] v2 ([x4.S] : List ByteArray) := by simpa using h2
   replace k1 := k1.f0 fr2
   obtain ⟨x5, hx5, h⟩ := bs h
   refine le' (e_appF RS.lasts RS.one RS.flat Sl_68 Ei_9 rfl rfl rfl rfl rfl (js := [1]) (Rr := [ob v2]) rfl k1 h2.rsl hx5) rfl ?_
   rintro v3 Φ_4 D3 ⟨⟨ap1, fr3⟩, h3⟩
   refine art 8 [] rfl ?_
   exact lb [0] [0] (ih1 (_, _, _, _) ⟨h, h3⟩)
  refine att 7 [] rfl ?_
  exact lb [0] [0] (ih1 (_, _, _, _) ⟨h, k1⟩)
 refine att 6 [] rfl ?_
 exact rtg [0] hF (resOk.one rfl) rfl (by cases h; exact fun w1 hw => ⟨u1, rfl, rfl, k1⟩)
theorem m_s_PosVars_ok (w0 : Base Ψ Φ []) (p0 : TRule) (ph0_0 : RSl RTPat 3 Ψ pG0_0 pv0_0 p0.Pats) (ph0_1 : RSl RTCond 11 Ψ pG0_1 pv0_1 p0.Conds) (ph0_2 : RSl RTAct 5 Ψ pG0_2 pv0_2 p0.Acts) {r : (List ByteArray)} (h : m_s_PosVars N p0 = some r) :
  Calls prog 39 [.agg [.string p0.Name, iV p0.Sal, pv0_0, pv0_1, pv0_2].toArray].toArray w0.w (PostG Φ w0.w [] (fun Φ' Fs v => ∃ (sr_0_0 : Value), v = sr_0_0 ∧ Fs = [ob sr_0_0] ∧ OSl RS 9 1 Φ' [] sr_0_0 r)) := by
 refine eN func39 rfl ntmps39 rfl w0 fun hF => ?_
 unfold m_s_PosVars at h
 refine sr <| lbx rfl fun b_1 => arr 4 [] rfl <| le' (e_lit0 RS.lasts Sl_68 Zr_9 rfl rfl) rfl ?_
 rintro v1 Φ_1 D1 ⟨fr1, h1⟩
 refine art 8 [] rfl ?_
 refine lin (σ := Hp × (List ByteArray) × Value × Int) (fun s => [(1, pQ b_1), (3, s.2.2.1), (4, iV s.2.2.2)]) (fun s => St w0 s.1 [(b_1, .cells #[.string p0.Name, iV p0.Sal, pv0_0, pv0_1, pv0_2] 28 (0, 0))] [ob s.2.2.1]) (fun m s => m_s_PosVars_l1 N p0 m s.2.1 s.2.2.2 = some r ∧ (OSl RS 9 1 s.1 [] s.2.2.1 s.2.1)) (Φ_1, ([] : List ByteArray), v1, 0) N ⟨h, h1⟩ (sx [0] [0]) (fun n1 ih1 s hm => ?_)
 obtain ⟨Φ_2, s1, u1, s2⟩ := s
 obtain ⟨h, k1⟩ := hm
 dsimp only at h k1 ⊢
 unfold m_s_PosVars_l1 at h
 refine atr 6 [2, 0] rfl <| lnr ph0_0 rfl <| la rfl <| en ?_
 refine ch h rfl ?_ ?_ <;> intro h
 ·refine atr 8 [2, 0] rfl ?_
  obtain ⟨x1, hx1, h⟩ := bs h
  obtain ⟨cs1, F1, -, g1, hb1, hs1, r1⟩ := ph0_0.el (idx_some hx1).2.2
  obtain ⟨v2, G1, rfl, hq1, h2⟩ := r1
  obtain rfl := hq1.symm
  refine lia ph0_0 hx1 rfl <| lhx 0 3 g1 rfl <| kab h rfl rfl rfl (fun b z q => m_s_VarsOf_ok N b x1 (h2.y z) q) ?_
  rintro x2 h v3 Φ_3 F2 ⟨ap1, fr2, v4, rfl, rfl, h3⟩
  replace k1 := k1.fr fr2 (ap1.q 0 rfl) dN
  refine art 7 [] rfl ?_
  refine lin (σ := Hp × (List ByteArray) × Value × Int) (fun s => [(1, pQ b_1), (3, s.2.2.1), (4, iV s2), (5, v3), (6, iV s.2.2.2)]) (fun s => St w0 s.1 [(b_1, .cells #[.string p0.Name, iV p0.Sal, pv0_0, pv0_1, pv0_2] 28 (0, 0))] [ob v3, ob s.2.2.1]) (fun m s => m_s_PosVars_l2 N p0 s2 (m_s_PosVars_l1 N p0 n1) x2 m s.2.1 s.2.2.2 = some r ∧ (OSl RS 9 1 s.1 [] s.2.2.1 s.2.1) ∧ (OSl RS 9 1 s.1 [] v3 x2)) (Φ_3, s1, u1, 0) N ⟨h, k1, h3⟩ (sx [0, 0] [0]) (fun n2 ih2 s hm => ?_)
  obtain ⟨Φ_4, s3, u2, s4⟩ := s
  obtain ⟨h, k2, h3⟩ := hm
  dsimp only at h k2 h3 ⊢
  unfold m_s_PosVars_l2 at h
  refine atr 5 [] rfl <| lno h3 rfl <| arr 2 [] rfl ?_
  obtain ⟨b1, hb_1, h⟩ := bs h
  refine WL.cutN 8 [(33, .bool b1), (1, pQ b_1), (3, u2), (4, iV s2), (5, v3), (6, iV s4)] ?_ (fun K => ?_)
  rotate_left
  ·refine sp 25 hb_1 rfl (fun hb_1 => ?_) fun hb_1 => ?_
   ·refine arr 3 [2, 0] rfl <| ly rfl rfl ?_
    obtain ⟨x3, hx3, hb_1⟩ := bs hb_1
    obtain ⟨cs2, F3, -, g2, hb2, hs2, r2⟩ := ph0_0.el (idx_some hx3).2.2
    obtain ⟨v5, G2, rfl, hq2, h4⟩ := r2
    obtain rfl := hq2.symm
    refine lia ph0_0 hx3 rfl <| ly rfl rfl <| lf Fld_35_2 rfl rfl rfl <| ly rfl rfl <| lhx 2 0 g2 rfl <| arr 2 [] rfl ?_
    cases hb_1
    exact ku K
   ·refine arr 8 [] rfl ?_
    cases hb_1
    exact ku K
  refine en ?_
  refine ch h rfl ?_ ?_ <;> intro h
  ·refine atr 8 [] rfl ?_
   obtain ⟨x4, hx4, h⟩ := bs h
   obtain ⟨cs3, F4, -, g3, hb3, hs3, r3⟩ := h3.elS (idx_some hx4).2.2
   obtain ⟨rfl, -⟩ := r3
   refine lio h3 hx4 rfl <| lgx 0 0 g3 rfl <| qc h (m_s_l6Has_ok N · s3 x4 k2.rsl ·) rfl rfl rfl fun x5 h => la rfl <| en ?_
   refine ch h rfl ?_ ?_ <;> intro h
   ·refine atr 4 [] rfl ?_
    obtain ⟨x6, hx6, h⟩ := bs h
    obtain ⟨cs4, F5, -, g4, hb4, hs4, r4⟩ := h3.elS (idx_some hx6).2.2
    obtain ⟨rfl, -⟩ := r4
    refine lio h3 hx6 rfl <| lgx 0 0 g4 rfl ?_
    have rc2 : RC RS 1 Φ_4 ([[]] : List (List Nat)) [.string x6] ([x6] : List ByteArray) := RC.cons (c := [.string x6]) (cells := []) ⟨rfl, rfl⟩ rfl (RC.nil _ _ _)
    refine le' (e_lit (vs := [(0, .string x6)]) (C := #[.string x6]) RS.lasts Sl_68 Zr_9 rfl rfl rfl rfl (fill_made MC_9_1 (fill_cons (C' := [.string x6]) rfl rfl rfl rfl rfl (fill_nil))) rfl rc2 rfl (by simpa using Kw.nil)) rfl ?_
    rintro v6 Φ_5 D2 ⟨fr3, h5⟩
    replace h5 : OSl RS 9 1 Φ_5 [] v6 ([x6] : List ByteArray) := by simpa using h5
    replace k2 := k2.f0 fr3
    replace h3 := h3.f0 fr3
    obtain ⟨x7, hx7, h⟩ := bs h
    refine le' (e_appF RS.lasts RS.one RS.flat Sl_68 Ei_9 rfl rfl rfl rfl rfl (js := [2]) (Rr := [ob v6, ob v3]) rfl k2 h5.rsl hx7) rfl ?_
    rintro v7 Φ_6 D3 ⟨⟨ap2, fr4⟩, h6⟩
    replace h3 := h3.fr fr4 (ap2.q 1 rfl) dN
    refine art 8 [] rfl ?_
    exact lb [2, 0] [0] (ih2 (_, _, _, _) ⟨h, h6, h3⟩)
   refine att 7 [] rfl ?_
   exact lb [0, 0] [0] (ih2 (_, _, _, _) ⟨h, k2, h3⟩)
  refine att 7 [] rfl ?_
  exact lb [1] [0] (ih1 (_, _, _, _) ⟨h, k2⟩)
 refine att 6 [] rfl ?_
 exact rtg [0] hF (resOk.one rfl) rfl (by cases h; exact fun w1 hw => ⟨u1, rfl, rfl, k1⟩)
theorem m_s_PosCount_ok (w0 : Base Ψ Φ []) (p0 : TRule) (ph0_0 : RSl RTPat 3 Ψ pG0_0 pv0_0 p0.Pats) (ph0_1 : RSl RTCond 11 Ψ pG0_1 pv0_1 p0.Conds) (ph0_2 : RSl RTAct 5 Ψ pG0_2 pv0_2 p0.Acts) {r : Int} (h : m_s_PosCount N p0 = some r) :
  CB w0 prog 45 [.agg [.string p0.Name, iV p0.Sal, pv0_0, pv0_1, pv0_2].toArray] (iV r) := by
 refine eN func45 rfl ntmps45 rfl w0 fun hF => ?_
 unfold m_s_PosCount at h
 refine sr <| lbx rfl fun b_1 => art 12 [] rfl ?_
 refine lin (σ := Int × Int) (fun s => [(1, pQ b_1), (3, iV s.1), (4, iV s.2)]) (fun s => St w0 Φ [(b_1, .cells #[.string p0.Name, iV p0.Sal, pv0_0, pv0_1, pv0_2] 28 (0, 0))] []) (fun m s => m_s_PosCount_l1 N p0 m s.1 s.2 = some r) (0, 0) N h (sx [] [0]) (fun n1 ih1 s hm => ?_)
 obtain ⟨s1, s2⟩ := s
 have h : m_s_PosCount_l1 N p0 (n1 + 1) s1 s2 = some r := hm
 show WT _ _ [(1, pQ b_1), (3, iV s1), (4, iV s2)] (St w0 Φ [(b_1, .cells #[.string p0.Name, iV p0.Sal, pv0_0, pv0_1, pv0_2] 28 (0, 0))] [])
 unfold m_s_PosCount_l1 at h
 refine atr 6 [2, 0] rfl <| lnr ph0_0 rfl <| la rfl <| en ?_
 refine ch h rfl ?_ ?_ <;> intro h
 ·refine atr 8 [2, 0] rfl ?_
  obtain ⟨x1, hx1, h⟩ := bs h
  obtain ⟨cs1, F1, -, g1, hb1, hs1, r1⟩ := ph0_0.el (idx_some hx1).2.2
  obtain ⟨v1, G1, rfl, hq1, h1⟩ := r1
  obtain rfl := hq1.symm
  refine lia ph0_0 hx1 rfl <| lf Fld_35_2 rfl rfl rfl <| lhx 2 0 g1 rfl <| la rfl <| en ?_
  refine ch h rfl ?_ ?_ <;> intro h
  ·refine att 11 [] rfl ?_
   exact lb [] [0] (ih1 (_, _) h)
  refine att 7 [] rfl ?_
  exact lb [] [0] (ih1 (_, _) h)
 refine att 6 [] rfl ?_
 exact rt hF h
theorem m_s_l1Once_ok (w0 : Base Ψ Φ [[pb0]].flatten) (p0 : Tl1Cur) (p1 : Int) (ph0_0 : RSl (RI .u8) 1 Ψ pG0_0 pv0_0 p0.b) (pp0 : Φ pb0 = some (.cells #[pv0_0, iV p0.i, iV p0.h] 107 (0, 0))) {r : Bool × Tl1Cur} (h : m_s_l1Once N p0 p1 = some r) :
  Calls prog 74 [pQ pb0, iV p1].toArray w0.w (PostG Φ w0.w [[pb0]].flatten (fun Φ' Fs v => v = .bool r.1 ∧ Fs = [[pb0]] ∧ r.2.b = p0.b ∧ Φ' pb0 = some (.cells #[pv0_0, iV r.2.i, iV r.2.h] 107 (0, 0)))) := by
 refine eL func74 rfl ntmps74 rfl (L := [[pb0]]) w0 (fun hF => ?_)
 unfold m_s_l1Once at h
 refine atr 8 [] rfl <| kcb [0] h rfl rfl rfl rfl (fun b ap z q => m_s_l1Below_ok N b p0 p1 (ph0_0.y z) pp0 q) ?_
 rintro x1 h v1 Φ_1 F1 ⟨ap1, fr1, rfl, rfl, e1, h1⟩
 refine art 3 [] rfl ?_
 exact rtg [0] hF (resOk.one rfl) rfl (by cases h; exact fun w1 hw => ⟨rfl, rfl, rfl, h1⟩)
theorem m_s_l1Int_ok (w0 : Base Ψ Φ [[pb0]].flatten) (p0 : Tl1Cur) (p1 : (List Int)) (ph0_0 : RSl (RI .u8) 1 Ψ pG0_0 pv0_0 p0.b) (pp0 : Φ pb0 = some (.cells #[pv0_0, iV p0.i, iV p0.h] 107 (0, 0))) (ph1 : RSl (RI .i64) 1 Ψ pG1 pv1 p1) {r : Int × Tl1Cur} (h : m_s_l1Int N p0 p1 = some r) :
  Calls prog 137 [pQ pb0, pv1].toArray w0.w (PostG Φ w0.w [[pb0]].flatten (fun Φ' Fs v => v = iV r.1 ∧ Fs = [[pb0]] ∧ r.2.b = p0.b ∧ Φ' pb0 = some (.cells #[pv0_0, iV r.2.i, iV r.2.h] 107 (0, 0)))) := by
 refine eL func137 rfl ntmps137 rfl (L := [[pb0]]) w0 (fun hF => ?_)
 unfold m_s_l1Int at h
 refine atr 9 [] rfl <| lnr ph1 rfl <| kcb [0] h rfl rfl rfl rfl (fun b ap z q => m_s_l1Below_ok N b p0 (p1.length : Int) (ph0_0.y z) pp0 q) ?_
 rintro x1 h v1 Φ_1 F1 ⟨ap1, fr1, rfl, rfl, e1, h1⟩
 obtain ⟨x2, hx2, h⟩ := bs h
 obtain ⟨cs1, F2, -, g1, hb1, hs1, r1⟩ := ph1.el (idx_some hx2).2.2
 obtain ⟨rfl, -⟩ := r1
 refine lia ph1 hx2 rfl <| lhx 0 0 g1 rfl <| la rfl <| en ?_
 exact rtg [0] hF (resOk.one rfl) rfl (by cases h; exact fun w1 hw => ⟨rfl, rfl, rfl, h1⟩)
theorem m_s_l6Val_ok  (w0 : Base Ψ Φ []) (p0 : TVal)  {r : TArg} (h : m_s_l6Val N p0 = some r) :
  CB w0 prog 189 [.agg [iV p0.K, iV p0.N, .string p0.S].toArray] (.agg [iV r.K, .string r.S, iV r.V.K, iV r.V.N, .string r.V.S].toArray) := by
 refine eN func189 rfl ntmps189 rfl w0 fun hF => ?_
 unfold m_s_l6Val at h
 refine sr <| lbx rfl fun b_1 => lnz Zr_60 rfl fun b_2 => arr 4 [35] rfl <| lq (q_build (vs := [(0, iV 2), (2, .agg [iV p0.K, iV p0.N, .string p0.S].toArray)]) (C := #[iV 2, .string (⟨#[]⟩ : ByteArray), iV p0.K, iV p0.N, .string p0.S]) Pl_60 Zr_60 rfl (fill_cons (C' := [iV 2, .string ⟨#[]⟩, iV 0, iV 0, .string ⟨#[]⟩]) rfl rfl rfl rfl rfl (fill_cons (C' := [iV 2, .string ⟨#[]⟩, iV p0.K, iV p0.N, .string p0.S]) rfl rfl rfl rfl rfl (fill_nil)))) rfl <| soN 0 Sz_60 rfl ⟨rfl, rfl, rfl, rfl, rfl, trivial⟩ rfl ?_
 refine en ?_
 refine WT.ret hF (resOk.one (rv_cell Tn_60 rfl (fun w1 hw => hw.rgO (i := 0) rfl 0 5 [iV 2, .string (⟨#[]⟩ : ByteArray), iV p0.K, iV p0.N, .string p0.S] rfl) rfl)) (fun w1 hw => ?_)
 cases h
 exact post_of_St hw
theorem m_s_l6Var_ok  (w0 : Base Ψ Φ []) (p0 : ByteArray)  {r : TArg} (h : m_s_l6Var N p0 = some r) :
  CB w0 prog 190 [.string p0] (.agg [iV r.K, .string r.S, iV r.V.K, iV r.V.N, .string r.V.S].toArray) := by
 refine eN func190 rfl ntmps190 rfl w0 fun hF => ?_
 unfold m_s_l6Var at h
 refine sr <| lnz Zr_60 rfl fun b_1 => arr 4 [] rfl <| lq (q_build (vs := [(0, iV 1), (1, .string p0)]) (C := #[iV 1, .string p0, iV 0, iV 0, .string (⟨#[]⟩ : ByteArray)]) Pl_60 Zr_60 rfl (fill_cons (C' := [iV 1, .string ⟨#[]⟩, iV 0, iV 0, .string ⟨#[]⟩]) rfl rfl rfl rfl rfl (fill_cons (C' := [iV 1, .string p0, iV 0, iV 0, .string ⟨#[]⟩]) rfl rfl rfl rfl rfl (fill_nil)))) rfl <| soN 0 Sz_60 rfl ⟨rfl, rfl, rfl, rfl, rfl, trivial⟩ rfl ?_
 refine en ?_
 refine WT.ret hF (resOk.one (rv_cell Tn_60 rfl (fun w1 hw => hw.rgO (i := 0) rfl 0 5 [iV 1, .string p0, iV 0, iV 0, .string (⟨#[]⟩ : ByteArray)] rfl) rfl)) (fun w1 hw => ?_)
 cases h
 exact post_of_St hw
theorem m_s_l3Small_ok (w0 : Base Ψ Φ [[pb0]].flatten) (p0 : Tl1Cur) (ph0_0 : RSl (RI .u8) 1 Ψ pG0_0 pv0_0 p0.b) (pp0 : Φ pb0 = some (.cells #[pv0_0, iV p0.i, iV p0.h] 107 (0, 0))) {r : TVal × Tl1Cur} (h : m_s_l3Small N p0 = some r) :
  Calls prog 211 [pQ pb0].toArray w0.w (PostG Φ w0.w [[pb0]].flatten (fun Φ' Fs v => v = .agg [iV r.1.K, iV r.1.N, .string r.1.S].toArray ∧ Fs = [[pb0]] ∧ r.2.b = p0.b ∧ Φ' pb0 = some (.cells #[pv0_0, iV r.2.i, iV r.2.h] 107 (0, 0)))) := by
 refine eL func211 rfl ntmps211 rfl (L := [[pb0]]) w0 (fun hF => ?_)
 unfold m_s_l3Small at h
 refine sr <| lnz Zr_58 rfl fun b_1 => arr 5 [] rfl <| kcb [0] h rfl rfl rfl rfl (fun b ap z q => m_s_l1Once_ok N b p0 2 (ph0_0.y z) pp0 q) ?_
 rintro x1 h v1 Φ_1 F1 ⟨ap1, fr1, rfl, rfl, e1, h1⟩
 refine en ?_
 refine ch h rfl ?_ ?_ <;> intro h
 ·refine sr <| la rfl <| kcb [0] h rfl rfl rfl rfl (fun b ap z q => m_s_l1Below_ok N b (⟨p0.b, x1.2.i, x1.2.h⟩ : Tl1Cur) 3 (ph0_0.y z) h1 q) ?_
  rintro x2 h v2 Φ_2 F2 ⟨ap2, fr2, rfl, rfl, e2, h2⟩
  refine la rfl <| lq (q_build (vs := [(0, iV 1), (1, iV (wz (1 + x2.1)))]) (C := #[iV 1, iV (wz (1 + x2.1)), .string (⟨#[]⟩ : ByteArray)]) Pl_58 Zr_58 rfl (fill_cons (C' := [iV 1, iV 0, .string ⟨#[]⟩]) rfl rfl rfl rfl rfl (fill_cons (C' := [iV 1, iV (wz (1 + x2.1)), .string ⟨#[]⟩]) rfl rfl rfl rfl rfl (fill_nil)))) rfl <| soN 0 Sz_58 rfl ⟨rfl, rfl, rfl, trivial⟩ rfl ?_
  refine en ?_
  exact rtg [0] hF (resOk.one (rv_cell Tn_58 rfl (fun w1 hw => hw.rgO (i := 0) rfl 0 3 [iV 1, iV (wz (1 + x2.1)), .string (⟨#[]⟩ : ByteArray)] rfl) rfl)) rfl (by cases h; exact fun w1 hw => ⟨rfl, rfl, rfl, h2⟩)
 refine atr 4 [] rfl ?_
 have rc1 : RC RS 1 Φ_1 ([[], []] : List (List Nat)) [.string (⟨#[97]⟩ : ByteArray), .string (⟨#[98]⟩ : ByteArray)] ([(⟨#[97]⟩ : ByteArray), (⟨#[98]⟩ : ByteArray)] : List ByteArray) := RC.cons (c := [.string (⟨#[97]⟩ : ByteArray)]) (cells := [.string (⟨#[98]⟩ : ByteArray)]) ⟨rfl, rfl⟩ rfl (RC.cons (c := [.string (⟨#[98]⟩ : ByteArray)]) (cells := []) ⟨rfl, rfl⟩ rfl (RC.nil _ _ _))
 refine le' (e_lit (vs := [(0, .string (⟨#[97]⟩ : ByteArray)), (1, .string (⟨#[98]⟩ : ByteArray))]) (C := #[.string (⟨#[97]⟩ : ByteArray), .string (⟨#[98]⟩ : ByteArray)]) RS.lasts Sl_68 Zr_9 rfl rfl rfl rfl (fill_made MC_9_2 (fill_cons (C' := [.string (⟨#[97]⟩ : ByteArray), .string ⟨#[]⟩]) rfl rfl rfl rfl rfl (fill_cons (C' := [.string (⟨#[97]⟩ : ByteArray), .string (⟨#[98]⟩ : ByteArray)]) rfl rfl rfl rfl rfl (fill_nil)))) rfl rc1 rfl (by simpa using Kw.nil)) rfl ?_
 rintro v3 Φ_3 D1 ⟨fr3, h3⟩
 replace h3 : OSl RS 9 1 Φ_3 [] v3 ([(⟨#[97]⟩ : ByteArray), (⟨#[98]⟩ : ByteArray)] : List ByteArray) := by simpa using h3
 replace h1 := fr3 _ _ (by simp) h1
 refine kcb [1] h rfl rfl rfl rfl (fun b ap z q => m_s_l1Str_ok N b (⟨p0.b, x1.2.i, x1.2.h⟩ : Tl1Cur) ([(⟨#[97]⟩ : ByteArray), (⟨#[98]⟩ : ByteArray)] : List ByteArray) (ph0_0.y z) h1 (h3.rsl.x (Dj.app (ap.q 0 rfl) dN)) q) ?_
 rintro x3 h v4 Φ_4 F3 ⟨ap3, fr4, rfl, rfl, e3, h4⟩
 refine lq (q_build (vs := [(0, iV 2), (2, .string x3.1)]) (C := #[iV 2, iV 0, .string x3.1]) Pl_58 Zr_58 rfl (fill_cons (C' := [iV 2, iV 0, .string ⟨#[]⟩]) rfl rfl rfl rfl rfl (fill_cons (C' := [iV 2, iV 0, .string x3.1]) rfl rfl rfl rfl rfl (fill_nil)))) rfl <| soN 0 Sz_58 rfl ⟨rfl, rfl, rfl, trivial⟩ rfl ?_
 refine en ?_
 exact rtg [0] hF (resOk.one (rv_cell Tn_58 rfl (fun w1 hw => hw.rgO (i := 0) rfl 0 3 [iV 2, iV 0, .string x3.1] rfl) rfl)) rfl (by cases h; exact fun w1 hw => ⟨rfl, rfl, rfl, h4⟩)
theorem m_s_l6Arg_ok (w0 : Base Ψ Φ [[pb0]].flatten) (p0 : Tl1Cur) (ph0_0 : RSl (RI .u8) 1 Ψ pG0_0 pv0_0 p0.b) (pp0 : Φ pb0 = some (.cells #[pv0_0, iV p0.i, iV p0.h] 107 (0, 0))) {r : TArg × Tl1Cur} (h : m_s_l6Arg N p0 = some r) :
  Calls prog 187 [pQ pb0].toArray w0.w (PostG Φ w0.w [[pb0]].flatten (fun Φ' Fs v => v = .agg [iV r.1.K, .string r.1.S, iV r.1.V.K, iV r.1.V.N, .string r.1.V.S].toArray ∧ Fs = [[pb0]] ∧ r.2.b = p0.b ∧ Φ' pb0 = some (.cells #[pv0_0, iV r.2.i, iV r.2.h] 107 (0, 0)))) := by
 refine eL func187 rfl ntmps187 rfl (L := [[pb0]]) w0 (fun hF => ?_)
 unfold m_s_l6Arg at h
 refine sr <| lnz Zr_60 rfl fun b_1 => arr 5 [] rfl <| kcb [0] h rfl rfl rfl rfl (fun b ap z q => m_s_l1Below_ok N b p0 6 (ph0_0.y z) pp0 q) ?_
 rintro x1 h v1 Φ_1 F1 ⟨ap1, fr1, rfl, rfl, e1, h1⟩
 refine art 7 [] rfl ?_
 refine ch h rfl ?_ ?_ <;> intro h
 ·refine sr <| lq (q_build (vs := [(0, iV 3)]) (C := #[iV 3, .string (⟨#[]⟩ : ByteArray), iV 0, iV 0, .string (⟨#[]⟩ : ByteArray)]) Pl_60 Zr_60 rfl (fill_cons (C' := [iV 3, .string ⟨#[]⟩, iV 0, iV 0, .string ⟨#[]⟩]) rfl rfl rfl rfl rfl (fill_nil))) rfl <| soN 0 Sz_60 rfl ⟨rfl, rfl, rfl, rfl, rfl, trivial⟩ rfl ?_
  refine en ?_
  exact rtg [0] hF (resOk.one (rv_cell Tn_60 rfl (fun w1 hw => hw.rgO (i := 0) rfl 0 5 [iV 3, .string (⟨#[]⟩ : ByteArray), iV 0, iV 0, .string (⟨#[]⟩ : ByteArray)] rfl) rfl)) rfl (by cases h; exact fun w1 hw => ⟨rfl, rfl, rfl, h1⟩)
 refine att 5 [] rfl ?_
 refine ch h rfl ?_ ?_ <;> intro h
 ·refine sr <| la rfl <| kcb [0] h rfl rfl rfl rfl (fun b ap z q => m_s_l3Small_ok N b (⟨p0.b, x1.2.i, x1.2.h⟩ : Tl1Cur) (ph0_0.y z) h1 q) ?_
  rintro x2 h v2 Φ_2 F2 ⟨ap2, fr2, rfl, rfl, e2, h2⟩
  refine qc h (m_s_l6Val_ok N · x2.1 ·) rfl rfl rfl fun x3 h => soN 0 Sz_60 rfl ⟨rfl, rfl, rfl, rfl, rfl, trivial⟩ rfl ?_
  refine en ?_
  exact rtg [0] hF (resOk.one (rv_cell Tn_60 rfl (fun w1 hw => hw.rgO (i := 0) rfl 0 5 [iV x3.K, .string x3.S, iV x3.V.K, iV x3.V.N, .string x3.V.S] rfl) rfl)) rfl (by cases h; exact fun w1 hw => ⟨rfl, rfl, rfl, h2⟩)
 refine atr 5 [] rfl ?_
 have rc1 : RC RS 1 Φ_1 ([[], [], [], []] : List (List Nat)) [.string (⟨#[88]⟩ : ByteArray), .string (⟨#[89]⟩ : ByteArray), .string (⟨#[90]⟩ : ByteArray), .string (⟨#[88]⟩ : ByteArray)] ([(⟨#[88]⟩ : ByteArray), (⟨#[89]⟩ : ByteArray), (⟨#[90]⟩ : ByteArray), (⟨#[88]⟩ : ByteArray)] : List ByteArray) := RC.cons (c := [.string (⟨#[88]⟩ : ByteArray)]) (cells := [.string (⟨#[89]⟩ : ByteArray), .string (⟨#[90]⟩ : ByteArray), .string (⟨#[88]⟩ : ByteArray)]) ⟨rfl, rfl⟩ rfl (RC.cons (c := [.string (⟨#[89]⟩ : ByteArray)]) (cells := [.string (⟨#[90]⟩ : ByteArray), .string (⟨#[88]⟩ : ByteArray)]) ⟨rfl, rfl⟩ rfl (RC.cons (c := [.string (⟨#[90]⟩ : ByteArray)]) (cells := [.string (⟨#[88]⟩ : ByteArray)]) ⟨rfl, rfl⟩ rfl (RC.cons (c := [.string (⟨#[88]⟩ : ByteArray)]) (cells := []) ⟨rfl, rfl⟩ rfl (RC.nil _ _ _))))
 refine le' (e_lit (vs := [(0, .string (⟨#[88]⟩ : ByteArray)), (1, .string (⟨#[89]⟩ : ByteArray)), (2, .string (⟨#[90]⟩ : ByteArray)), (3, .string (⟨#[88]⟩ : ByteArray))]) (C := #[.string (⟨#[88]⟩ : ByteArray), .string (⟨#[89]⟩ : ByteArray), .string (⟨#[90]⟩ : ByteArray), .string (⟨#[88]⟩ : ByteArray)]) RS.lasts Sl_68 Zr_9 rfl rfl rfl rfl (fill_made MC_9_4 (fill_cons (C' := [.string (⟨#[88]⟩ : ByteArray), .string ⟨#[]⟩, .string ⟨#[]⟩, .string ⟨#[]⟩]) rfl rfl rfl rfl rfl (fill_cons (C' := [.string (⟨#[88]⟩ : ByteArray), .string (⟨#[89]⟩ : ByteArray), .string ⟨#[]⟩, .string ⟨#[]⟩]) rfl rfl rfl rfl rfl (fill_cons (C' := [.string (⟨#[88]⟩ : ByteArray), .string (⟨#[89]⟩ : ByteArray), .string (⟨#[90]⟩ : ByteArray), .string ⟨#[]⟩]) rfl rfl rfl rfl rfl (fill_cons (C' := [.string (⟨#[88]⟩ : ByteArray), .string (⟨#[89]⟩ : ByteArray), .string (⟨#[90]⟩ : ByteArray), .string (⟨#[88]⟩ : ByteArray)]) rfl rfl rfl rfl rfl (fill_nil)))))) rfl rc1 rfl (by simpa using Kw.nil)) rfl ?_
 rintro v3 Φ_3 D1 ⟨fr3, h3⟩
 replace h3 : OSl RS 9 1 Φ_3 [] v3 ([(⟨#[88]⟩ : ByteArray), (⟨#[89]⟩ : ByteArray), (⟨#[90]⟩ : ByteArray), (⟨#[88]⟩ : ByteArray)] : List ByteArray) := by simpa using h3
 replace h1 := fr3 _ _ (by simp) h1
 refine kcb [1] h rfl rfl rfl rfl (fun b ap z q => m_s_l1Str_ok N b (⟨p0.b, x1.2.i, x1.2.h⟩ : Tl1Cur) ([(⟨#[88]⟩ : ByteArray), (⟨#[89]⟩ : ByteArray), (⟨#[90]⟩ : ByteArray), (⟨#[88]⟩ : ByteArray)] : List ByteArray) (ph0_0.y z) h1 (h3.rsl.x (Dj.app (ap.q 0 rfl) dN)) q) ?_
 rintro x4 h v4 Φ_4 F3 ⟨ap3, fr4, rfl, rfl, e3, h4⟩
 refine qc h (m_s_l6Var_ok N · x4.1 ·) rfl rfl rfl fun x5 h => soN 0 Sz_60 rfl ⟨rfl, rfl, rfl, rfl, rfl, trivial⟩ rfl ?_
 refine en ?_
 exact rtg [0] hF (resOk.one (rv_cell Tn_60 rfl (fun w1 hw => hw.rgO (i := 0) rfl 0 5 [iV x5.K, .string x5.S, iV x5.V.K, iV x5.V.N, .string x5.V.S] rfl) rfl)) rfl (by cases h; exact fun w1 hw => ⟨rfl, rfl, rfl, h4⟩)
theorem m_s_l6Draw_ok (w0 : Base Ψ Φ [[pb0]].flatten) (p0 : Tl1Cur) (p1 : Bool) (ph0_0 : RSl (RI .u8) 1 Ψ pG0_0 pv0_0 p0.b) (pp0 : Φ pb0 = some (.cells #[pv0_0, iV p0.i, iV p0.h] 107 (0, 0))) {r : TPat × Tl1Cur} (h : m_s_l6Draw N p0 p1 = some r) :
  Calls prog 138 [pQ pb0, .bool p1].toArray w0.w (PostG Φ w0.w [[pb0]].flatten (fun Φ' Fs v => ∃ (sr_0_0 : Value), v = .agg [.string r.1.Kind, sr_0_0, .bool r.1.Not].toArray ∧ Fs = [ob sr_0_0, [pb0]] ∧ OSl RTArg 60 5 Φ' [] sr_0_0 r.1.Args ∧ r.2.b = p0.b ∧ Φ' pb0 = some (.cells #[pv0_0, iV r.2.i, iV r.2.h] 107 (0, 0)))) := by
 refine eL func138 rfl ntmps138 rfl (L := [[pb0]]) w0 (fun hF => ?_)
 unfold m_s_l6Draw at h
 refine sr <| lnz Zr_35 rfl fun b_1 => arr 4 [] rfl ?_
 have rc1 : RC RS 1 Φ ([[], [], [], []] : List (List Nat)) [.string (⟨#[111, 114, 100, 101, 114]⟩ : ByteArray), .string (⟨#[112, 97, 105, 100]⟩ : ByteArray), .string (⟨#[105, 116, 101, 109]⟩ : ByteArray), .string (⟨#[111, 114, 100, 101, 114]⟩ : ByteArray)] ([(⟨#[111, 114, 100, 101, 114]⟩ : ByteArray), (⟨#[112, 97, 105, 100]⟩ : ByteArray), (⟨#[105, 116, 101, 109]⟩ : ByteArray), (⟨#[111, 114, 100, 101, 114]⟩ : ByteArray)] : List ByteArray) := RC.cons (c := [.string (⟨#[111, 114, 100, 101, 114]⟩ : ByteArray)]) (cells := [.string (⟨#[112, 97, 105, 100]⟩ : ByteArray), .string (⟨#[105, 116, 101, 109]⟩ : ByteArray), .string (⟨#[111, 114, 100, 101, 114]⟩ : ByteArray)]) ⟨rfl, rfl⟩ rfl (RC.cons (c := [.string (⟨#[112, 97, 105, 100]⟩ : ByteArray)]) (cells := [.string (⟨#[105, 116, 101, 109]⟩ : ByteArray), .string (⟨#[111, 114, 100, 101, 114]⟩ : ByteArray)]) ⟨rfl, rfl⟩ rfl (RC.cons (c := [.string (⟨#[105, 116, 101, 109]⟩ : ByteArray)]) (cells := [.string (⟨#[111, 114, 100, 101, 114]⟩ : ByteArray)]) ⟨rfl, rfl⟩ rfl (RC.cons (c := [.string (⟨#[111, 114, 100, 101, 114]⟩ : ByteArray)]) (cells := []) ⟨rfl, rfl⟩ rfl (RC.nil _ _ _))))
 refine le' (e_lit (vs := [(0, .string (⟨#[111, 114, 100, 101, 114]⟩ : ByteArray)), (1, .string (⟨#[112, 97, 105, 100]⟩ : ByteArray)), (2, .string (⟨#[105, 116, 101, 109]⟩ : ByteArray)), (3, .string (⟨#[111, 114, 100, 101, 114]⟩ : ByteArray))]) (C := #[.string (⟨#[111, 114, 100, 101, 114]⟩ : ByteArray), .string (⟨#[112, 97, 105, 100]⟩ : ByteArray), .string (⟨#[105, 116, 101, 109]⟩ : ByteArray), .string (⟨#[111, 114, 100, 101, 114]⟩ : ByteArray)]) RS.lasts Sl_68 Zr_9 rfl rfl rfl rfl (fill_made MC_9_4 (fill_cons (C' := [.string (⟨#[111, 114, 100, 101, 114]⟩ : ByteArray), .string ⟨#[]⟩, .string ⟨#[]⟩, .string ⟨#[]⟩]) rfl rfl rfl rfl rfl (fill_cons (C' := [.string (⟨#[111, 114, 100, 101, 114]⟩ : ByteArray), .string (⟨#[112, 97, 105, 100]⟩ : ByteArray), .string ⟨#[]⟩, .string ⟨#[]⟩]) rfl rfl rfl rfl rfl (fill_cons (C' := [.string (⟨#[111, 114, 100, 101, 114]⟩ : ByteArray), .string (⟨#[112, 97, 105, 100]⟩ : ByteArray), .string (⟨#[105, 116, 101, 109]⟩ : ByteArray), .string ⟨#[]⟩]) rfl rfl rfl rfl rfl (fill_cons (C' := [.string (⟨#[111, 114, 100, 101, 114]⟩ : ByteArray), .string (⟨#[112, 97, 105, 100]⟩ : ByteArray), .string (⟨#[105, 116, 101, 109]⟩ : ByteArray), .string (⟨#[111, 114, 100, 101, 114]⟩ : ByteArray)]) rfl rfl rfl rfl rfl (fill_nil)))))) rfl rc1 rfl (by simpa using Kw.nil)) rfl ?_
 rintro v1 Φ_1 D1 ⟨fr1, h1⟩
 replace h1 : OSl RS 9 1 Φ_1 [] v1 ([(⟨#[111, 114, 100, 101, 114]⟩ : ByteArray), (⟨#[112, 97, 105, 100]⟩ : ByteArray), (⟨#[105, 116, 101, 109]⟩ : ByteArray), (⟨#[111, 114, 100, 101, 114]⟩ : ByteArray)] : List ByteArray) := by simpa using h1
 replace pp0 := fr1 _ _ (by simp) pp0
 refine kcb [1] h rfl rfl rfl rfl (fun b ap z q => m_s_l1Str_ok N b p0 ([(⟨#[111, 114, 100, 101, 114]⟩ : ByteArray), (⟨#[112, 97, 105, 100]⟩ : ByteArray), (⟨#[105, 116, 101, 109]⟩ : ByteArray), (⟨#[111, 114, 100, 101, 114]⟩ : ByteArray)] : List ByteArray) (ph0_0.y z) pp0 (h1.rsl.x (Dj.app (ap.q 0 rfl) dN)) q) ?_
 rintro x1 h v2 Φ_2 F1 ⟨ap1, fr2, rfl, rfl, e1, h2⟩
 refine la rfl <| lq (q_build (vs := [(0, .string x1.1), (2, .bool p1)]) (C := #[.string x1.1, .slice none 0 0, .bool p1]) Pl_35 Zr_35 rfl (fill_cons (C' := [.string x1.1, .slice none 0 0, .bool false]) rfl rfl rfl rfl rfl (fill_cons (C' := [.string x1.1, .slice none 0 0, .bool p1]) rfl rfl rfl rfl rfl (fill_nil)))) rfl <| lnz Zr_35 rfl fun b_2 => soN 0 Sz_35 rfl ⟨rfl, rfl, rfl, trivial⟩ rfl ?_
 refine art 12 [0, 0] rfl ?_
 refine cut (σ := Int) (fun s => [(0, pQ pb0), (4, pQ b_1), (5, pQ b_2), (6, iV s)]) (fun s => St w0 Φ_2 [(b_2, .cells #[.string x1.1, .slice none 0 0, .bool p1] 35 (0, 0)), (b_1, .cells #[.string (⟨#[]⟩ : ByteArray), .slice none 0 0, .bool false] 35 (0, 0))] [[pb0]]) (fun s => m_s_l6Draw_j1 N p0 p1 x1 s = some r) (fun s hm => ?_) (fun K => ?_)
 ·clear h
  revert hm; revert s; intro s1 hm
  have h : m_s_l6Draw_j1 N p0 p1 x1 s1 = some r := hm
  show WT _ _ [(0, pQ pb0), (4, pQ b_1), (5, pQ b_2), (6, iV s1)] (St w0 Φ_2 [(b_2, .cells #[.string x1.1, .slice none 0 0, .bool p1] 35 (0, 0)), (b_1, .cells #[.string (⟨#[]⟩ : ByteArray), .slice none 0 0, .bool false] 35 (0, 0))] [[pb0]])
  unfold m_s_l6Draw_j1 at h
  refine att 6 [] rfl <| wtS ?_
  have k1 := OSl.nil RTArg 60 5 Φ_2
  refine lin (σ := Hp × (List TArg) × Value × Int × Int × Int) (fun s => [(0, pQ pb0), (4, pQ b_1), (5, pQ b_2), (6, iV s1), (7, iV s.2.2.2.1)]) (fun s => St w0 s.1 [(b_2, .cells #[.string x1.1, s.2.2.1, .bool p1] 35 (0, 0)), (b_1, .cells #[.string (⟨#[]⟩ : ByteArray), .slice none 0 0, .bool false] 35 (0, 0))] [ob s.2.2.1, [pb0]]) (fun m s => m_s_l6Draw_l2 N p0 p1 x1 s1 m s.2.1 s.2.2.2.1 s.2.2.2.2.1 s.2.2.2.2.2 = some r ∧ (OSl RTArg 60 5 s.1 [] s.2.2.1 s.2.1) ∧ (s.1 pb0 = some (.cells #[pv0_0, iV s.2.2.2.2.1, iV s.2.2.2.2.2] 107 (0, 0)))) (Φ_2, ([] : List TArg), (.slice none 0 0), 0, x1.2.i, x1.2.h) N ⟨h, k1, h2⟩ (sx [0, 0] [0, 0]) (fun n2 ih2 s hm => ?_)
  obtain ⟨Φ_3, s2, u1, s3, s4, s5⟩ := s
  obtain ⟨h, k2, k3⟩ := hm
  dsimp only at h k2 k3 ⊢
  unfold m_s_l6Draw_l2 at h
  refine att 7 [] rfl ?_
  refine ch h rfl ?_ ?_ <;> intro h
  ·refine att 3 [] rfl <| wm [0, 1] [7] rfl <| amm 3 [0, 1, 1, 0, 2] [0, 1] rfl rfl ?_
   obtain ⟨x2, hx2, h⟩ := bs h
   refine WM.one 3 (by kernel_rfl) (mc rfl (fun _ v Φx D w1 hq hw => Kn.of Kf.nil (ai2 0 1 rfl rfl) hw) (k_call (js := [1]) (R := [ob u1]) Fun_187 rfl rfl (fun w1 hw ap hl => m_s_l6Arg_ok N (bx hw ap hl) (⟨p0.b, s4, s5⟩ : Tl1Cur) (ph0_0.y (hw.uo ap)) k3  hx2)) rfl ?_)
   rintro v3 Φ_4 F2 ⟨ap2, fr3, rfl, rfl, e2, h3⟩
   replace k2 := k2.fr fr3 (ap2.q 0 rfl) dN
   have rc2 : RC RTArg 5 Φ_4 ([[]] : List (List Nat)) [iV x2.1.K, .string x2.1.S, iV x2.1.V.K, iV x2.1.V.N, .string x2.1.V.S] ([x2.1] : List TArg) := RC.cons (c := [iV x2.1.K, .string x2.1.S, iV x2.1.V.K, iV x2.1.V.N, .string x2.1.V.S]) (cells := []) ⟨rfl, rfl⟩ rfl (RC.nil _ _ _)
   refine WM.one 4 (by kernel_rfl) (me rfl (fun _ v Φx D w1 hq hw => Kn.of Kf.nil (ai2 0 1 rfl rfl) hw) (e_lit (vs := [(0, .agg [iV x2.1.K, .string x2.1.S, iV x2.1.V.K, iV x2.1.V.N, .string x2.1.V.S].toArray)]) (C := #[iV x2.1.K, .string x2.1.S, iV x2.1.V.K, iV x2.1.V.N, .string x2.1.V.S]) RTArg.lasts Sl_33 Zr_60 rfl rfl rfl rfl (fill_made MC_60_1 (fill_cons (C' := [iV x2.1.K, .string x2.1.S, iV x2.1.V.K, iV x2.1.V.N, .string x2.1.V.S]) rfl rfl rfl rfl rfl (fill_nil))) rfl rc2 rfl (by simpa using Kw.nil)) rfl ?_)
   rintro v4 Φ_5 D2 ⟨fr4, h4⟩
   replace h4 : OSl RTArg 60 5 Φ_5 [] v4 ([x2.1] : List TArg) := by simpa using h4
   replace k2 := k2.f0 fr4
   replace h3 := fr4 _ _ (by simp) h3
   obtain ⟨x3, hx3, h⟩ := bs h
   refine WM.one 5 (by kernel_rfl) (me rfl (fun _ v Φx D w1 hq hw => Kn.of Kf.nil (ai2 0 1 rfl rfl) hw) (e_appF RTArg.lasts RTArg.one RTArg.flat Sl_33 Ei_60 rfl rfl rfl rfl rfl (js := [2]) (Rr := [ob v4, [pb0]]) rfl k2 h4.rsl hx3) rfl ?_)
   rintro v5 Φ_6 D3 ⟨⟨ap3, fr5⟩, h5⟩
   replace h3 := fr5 _ _ ((ap3.q 1 rfl) _ (by simp)) h3
   refine amm 1 [6, 1] [0, 1] rfl rfl ?_
   refine on1 7 (ms1 0 rfl nk Sz_33 rfl h5.one ?_)
   refine WM.nil (by kernel_rfl) <| att 6 [] rfl ?_
   exact lb [0, 1] [0, 0] (ih2 (_, _, _, _, _, _) ⟨h, h5, h3⟩)
  refine atr 4 [3] rfl <| soN 1 Sz_35 rfl ⟨rfl, k2.one, rfl, trivial⟩ rfl ?_
  refine en ?_
  exact rtg [0, 0] hF (resOk.one (rv_cell Tn_35 rfl (fun w1 hw => hw.rgO (i := 1) rfl 0 3 [.string x1.1, u1, .bool p1] rfl) rfl)) rfl (by cases h; exact fun w1 hw => ⟨u1, rfl, rfl, k2, rfl, k3⟩)
 refine ch h rfl ?_ ?_ <;> intro h
 ·refine att 3 [] rfl ?_
  exact wo [0] [0, 0] (K _ h)
 refine WT.skip ?_
 exact wo [0] [0, 0] (K _ h)
theorem m_s_l7Arg_ok (w0 : Base Ψ Φ [[pb0]].flatten) (p0 : Tl1Cur) (ph0_0 : RSl (RI .u8) 1 Ψ pG0_0 pv0_0 p0.b) (pp0 : Φ pb0 = some (.cells #[pv0_0, iV p0.i, iV p0.h] 107 (0, 0))) {r : TArg × Tl1Cur} (h : m_s_l7Arg N p0 = some r) :
  Calls prog 188 [pQ pb0].toArray w0.w (PostG Φ w0.w [[pb0]].flatten (fun Φ' Fs v => v = .agg [iV r.1.K, .string r.1.S, iV r.1.V.K, iV r.1.V.N, .string r.1.V.S].toArray ∧ Fs = [[pb0]] ∧ r.2.b = p0.b ∧ Φ' pb0 = some (.cells #[pv0_0, iV r.2.i, iV r.2.h] 107 (0, 0)))) := by
 refine eL func188 rfl ntmps188 rfl (L := [[pb0]]) w0 (fun hF => ?_)
 unfold m_s_l7Arg at h
 refine sr <| lnz Zr_60 rfl fun b_1 => arr 5 [] rfl <| kcb [0] h rfl rfl rfl rfl (fun b ap z q => m_s_l1Once_ok N b p0 3 (ph0_0.y z) pp0 q) ?_
 rintro x1 h v1 Φ_1 F1 ⟨ap1, fr1, rfl, rfl, e1, h1⟩
 refine en ?_
 refine ch h rfl ?_ ?_ <;> intro h
 ·refine sr <| la rfl <| kcb [0] h rfl rfl rfl rfl (fun b ap z q => m_s_l3Small_ok N b (⟨p0.b, x1.2.i, x1.2.h⟩ : Tl1Cur) (ph0_0.y z) h1 q) ?_
  rintro x2 h v2 Φ_2 F2 ⟨ap2, fr2, rfl, rfl, e2, h2⟩
  refine qc h (m_s_l6Val_ok N · x2.1 ·) rfl rfl rfl fun x3 h => soN 0 Sz_60 rfl ⟨rfl, rfl, rfl, rfl, rfl, trivial⟩ rfl ?_
  refine en ?_
  exact rtg [0] hF (resOk.one (rv_cell Tn_60 rfl (fun w1 hw => hw.rgO (i := 0) rfl 0 5 [iV x3.K, .string x3.S, iV x3.V.K, iV x3.V.N, .string x3.V.S] rfl) rfl)) rfl (by cases h; exact fun w1 hw => ⟨rfl, rfl, rfl, h2⟩)
 refine atr 4 [] rfl ?_
 have rc1 : RC RS 1 Φ_1 ([[], []] : List (List Nat)) [.string (⟨#[88]⟩ : ByteArray), .string (⟨#[89]⟩ : ByteArray)] ([(⟨#[88]⟩ : ByteArray), (⟨#[89]⟩ : ByteArray)] : List ByteArray) := RC.cons (c := [.string (⟨#[88]⟩ : ByteArray)]) (cells := [.string (⟨#[89]⟩ : ByteArray)]) ⟨rfl, rfl⟩ rfl (RC.cons (c := [.string (⟨#[89]⟩ : ByteArray)]) (cells := []) ⟨rfl, rfl⟩ rfl (RC.nil _ _ _))
 refine le' (e_lit (vs := [(0, .string (⟨#[88]⟩ : ByteArray)), (1, .string (⟨#[89]⟩ : ByteArray))]) (C := #[.string (⟨#[88]⟩ : ByteArray), .string (⟨#[89]⟩ : ByteArray)]) RS.lasts Sl_68 Zr_9 rfl rfl rfl rfl (fill_made MC_9_2 (fill_cons (C' := [.string (⟨#[88]⟩ : ByteArray), .string ⟨#[]⟩]) rfl rfl rfl rfl rfl (fill_cons (C' := [.string (⟨#[88]⟩ : ByteArray), .string (⟨#[89]⟩ : ByteArray)]) rfl rfl rfl rfl rfl (fill_nil)))) rfl rc1 rfl (by simpa using Kw.nil)) rfl ?_
 rintro v3 Φ_3 D1 ⟨fr3, h3⟩
 replace h3 : OSl RS 9 1 Φ_3 [] v3 ([(⟨#[88]⟩ : ByteArray), (⟨#[89]⟩ : ByteArray)] : List ByteArray) := by simpa using h3
 replace h1 := fr3 _ _ (by simp) h1
 refine kcb [1] h rfl rfl rfl rfl (fun b ap z q => m_s_l1Str_ok N b (⟨p0.b, x1.2.i, x1.2.h⟩ : Tl1Cur) ([(⟨#[88]⟩ : ByteArray), (⟨#[89]⟩ : ByteArray)] : List ByteArray) (ph0_0.y z) h1 (h3.rsl.x (Dj.app (ap.q 0 rfl) dN)) q) ?_
 rintro x4 h v4 Φ_4 F3 ⟨ap3, fr4, rfl, rfl, e3, h4⟩
 refine qc h (m_s_l6Var_ok N · x4.1 ·) rfl rfl rfl fun x5 h => soN 0 Sz_60 rfl ⟨rfl, rfl, rfl, rfl, rfl, trivial⟩ rfl ?_
 refine en ?_
 exact rtg [0] hF (resOk.one (rv_cell Tn_60 rfl (fun w1 hw => hw.rgO (i := 0) rfl 0 5 [iV x5.K, .string x5.S, iV x5.V.K, iV x5.V.N, .string x5.V.S] rfl) rfl)) rfl (by cases h; exact fun w1 hw => ⟨rfl, rfl, rfl, h4⟩)
theorem m_s_l7Draw_ok (w0 : Base Ψ Φ [[pb0]].flatten) (p0 : Tl1Cur) (ph0_0 : RSl (RI .u8) 1 Ψ pG0_0 pv0_0 p0.b) (pp0 : Φ pb0 = some (.cells #[pv0_0, iV p0.i, iV p0.h] 107 (0, 0))) {r : TCond × Tl1Cur} (h : m_s_l7Draw N p0 = some r) :
  Calls prog 139 [pQ pb0].toArray w0.w (PostG Φ w0.w [[pb0]].flatten (fun Φ' Fs v => v = .agg [iV r.1.Op, iV r.1.L.K, .string r.1.L.S, iV r.1.L.V.K, iV r.1.L.V.N, .string r.1.L.V.S, iV r.1.R.K, .string r.1.R.S, iV r.1.R.V.K, iV r.1.R.V.N, .string r.1.R.V.S].toArray ∧ Fs = [[pb0]] ∧ r.2.b = p0.b ∧ Φ' pb0 = some (.cells #[pv0_0, iV r.2.i, iV r.2.h] 107 (0, 0)))) := by
 refine eL func139 rfl ntmps139 rfl (L := [[pb0]]) w0 (fun hF => ?_)
 unfold m_s_l7Draw at h
 refine sr <| lnz Zr_62 rfl fun b_1 => arr 4 [] rfl <| kcb [0] h rfl rfl rfl rfl (fun b ap z q => m_s_l1Below_ok N b p0 3 (ph0_0.y z) pp0 q) ?_
 rintro x1 h v1 Φ_1 F1 ⟨ap1, fr1, rfl, rfl, e1, h1⟩
 refine arr 2 [] rfl <| kcb [0] h rfl rfl rfl rfl (fun b ap z q => m_s_l7Arg_ok N b (⟨p0.b, x1.2.i, x1.2.h⟩ : Tl1Cur) (ph0_0.y z) h1 q) ?_
 rintro x2 h v2 Φ_2 F2 ⟨ap2, fr2, rfl, rfl, e2, h2⟩
 refine la rfl <| kcb [0] h rfl rfl rfl rfl (fun b ap z q => m_s_l7Arg_ok N b (⟨p0.b, x2.2.i, x2.2.h⟩ : Tl1Cur) (ph0_0.y z) h2 q) ?_
 rintro x3 h v3 Φ_3 F3 ⟨ap3, fr3, rfl, rfl, e3, h3⟩
 refine lq (q_build (vs := [(0, iV (wz (1 + x1.1))), (1, .agg [iV x2.1.K, .string x2.1.S, iV x2.1.V.K, iV x2.1.V.N, .string x2.1.V.S].toArray), (2, .agg [iV x3.1.K, .string x3.1.S, iV x3.1.V.K, iV x3.1.V.N, .string x3.1.V.S].toArray)]) (C := #[iV (wz (1 + x1.1)), iV x2.1.K, .string x2.1.S, iV x2.1.V.K, iV x2.1.V.N, .string x2.1.V.S, iV x3.1.K, .string x3.1.S, iV x3.1.V.K, iV x3.1.V.N, .string x3.1.V.S]) Pl_62 Zr_62 rfl (fill_cons (C' := [iV (wz (1 + x1.1)), iV 0, .string ⟨#[]⟩, iV 0, iV 0, .string ⟨#[]⟩, iV 0, .string ⟨#[]⟩, iV 0, iV 0, .string ⟨#[]⟩]) rfl rfl rfl rfl rfl (fill_cons (C' := [iV (wz (1 + x1.1)), iV x2.1.K, .string x2.1.S, iV x2.1.V.K, iV x2.1.V.N, .string x2.1.V.S, iV 0, .string ⟨#[]⟩, iV 0, iV 0, .string ⟨#[]⟩]) rfl rfl rfl rfl rfl (fill_cons (C' := [iV (wz (1 + x1.1)), iV x2.1.K, .string x2.1.S, iV x2.1.V.K, iV x2.1.V.N, .string x2.1.V.S, iV x3.1.K, .string x3.1.S, iV x3.1.V.K, iV x3.1.V.N, .string x3.1.V.S]) rfl rfl rfl rfl rfl (fill_nil))))) rfl ?_
 refine soN 0 Sz_62 rfl ⟨rfl, rfl, rfl, rfl, rfl, rfl, rfl, rfl, rfl, rfl, rfl, trivial⟩ rfl ?_
 refine en ?_
 exact rtg [0] hF (resOk.one (rv_cell Tn_62 rfl (fun w1 hw => hw.rgO (i := 0) rfl 0 11 [iV (wz (1 + x1.1)), iV x2.1.K, .string x2.1.S, iV x2.1.V.K, iV x2.1.V.N, .string x2.1.V.S, iV x3.1.K, .string x3.1.S, iV x3.1.V.K, iV x3.1.V.N, .string x3.1.V.S] rfl) rfl)) rfl (by cases h; exact fun w1 hw => ⟨rfl, rfl, rfl, h3⟩)
theorem m_s_l9Known_ok (w0 : Base Ψ Φ []) (p0 : TArg) (p1 : (List ByteArray)) (ph1 : RSl RS 1 Ψ pG1 pv1 p1) {r : Bool} (h : m_s_l9Known N p0 p1 = some r) :
  CB w0 prog 94 [.agg [iV p0.K, .string p0.S, iV p0.V.K, iV p0.V.N, .string p0.V.S].toArray, pv1] (.bool r) := by
 refine eN func94 rfl ntmps94 rfl w0 fun hF => ?_
 unfold m_s_l9Known at h
 refine sr <| lbx rfl fun b_1 => arr 8 [0, 0] rfl ?_
 obtain ⟨b1, hb_1, h⟩ := bs h
 refine WL.cutN 5 [(13, .bool b1), (4, .bool false)] ?_ (fun K => ?_)
 rotate_left
 ·refine sp 8 hb_1 rfl (fun hb_1 => ?_) fun hb_1 => ?_
  ·refine arr 5 [] rfl ?_
   cases hb_1
   exact ku K
  ·refine arr 3 [1, 0] rfl <| ly rfl rfl <| qd hb_1 (m_s_l6Has_ok N · p1 p0.S ph1 ·) rfl rfl rfl fun x1 hb_1 => la rfl ?_
   cases hb_1
   exact ku K
 refine la rfl <| en ?_
 exact rt hF h
theorem m_s_l9Fit_ok (w0 : Base Ψ Φ []) (p0 : TArg) (p1 : (List ByteArray)) (ph1 : RSl RS 1 Ψ pG1 pv1 p1) {r : TArg} (h : m_s_l9Fit N p0 p1 = some r) :
  CB w0 prog 140 [.agg [iV p0.K, .string p0.S, iV p0.V.K, iV p0.V.N, .string p0.V.S].toArray, pv1] (.agg [iV r.K, .string r.S, iV r.V.K, iV r.V.N, .string r.V.S].toArray) := by
 refine eN func140 rfl ntmps140 rfl w0 fun hF => ?_
 unfold m_s_l9Fit at h
 refine sr <| lbx rfl fun b_1 => lnz Zr_60 rfl fun b_2 => arr 6 [37] rfl <| qd h (m_s_l9Known_ok N · p0 p1 ph1 ·) rfl rfl rfl fun x1 h => en ?_
 refine ch h rfl ?_ ?_ <;> intro h
 ·refine atr 3 [37] rfl <| soN 0 Sz_60 rfl ⟨rfl, rfl, rfl, rfl, rfl, trivial⟩ rfl ?_
  refine en ?_
  refine WT.ret hF (resOk.one (rv_cell Tn_60 rfl (fun w1 hw => hw.rgO (i := 0) rfl 0 5 [iV p0.K, .string p0.S, iV p0.V.K, iV p0.V.N, .string p0.V.S] rfl) rfl)) (fun w1 hw => ?_)
  cases h
  exact post_of_St hw
 refine atr 5 [] rfl <| lnr ph1 rfl <| la rfl <| en ?_
 refine ch h rfl ?_ ?_ <;> intro h
 ·refine sr <| lq (q_build (vs := [(0, iV 1), (1, iV 1)]) (C := #[iV 1, iV 1, .string (⟨#[]⟩ : ByteArray)]) Pl_58 Zr_58 rfl (fill_cons (C' := [iV 1, iV 0, .string ⟨#[]⟩]) rfl rfl rfl rfl rfl (fill_cons (C' := [iV 1, iV 1, .string ⟨#[]⟩]) rfl rfl rfl rfl rfl (fill_nil)))) rfl <| qc h (m_s_l6Val_ok N · (⟨1, 1, (⟨#[]⟩ : ByteArray)⟩ : TVal) ·) rfl rfl rfl fun x2 h => soN 0 Sz_60 rfl ⟨rfl, rfl, rfl, rfl, rfl, trivial⟩ rfl ?_
  refine en ?_
  refine WT.ret hF (resOk.one (rv_cell Tn_60 rfl (fun w1 hw => hw.rgO (i := 0) rfl 0 5 [iV x2.K, .string x2.S, iV x2.V.K, iV x2.V.N, .string x2.V.S] rfl) rfl)) (fun w1 hw => ?_)
  cases h
  exact post_of_St hw
 refine atr 4 [] rfl ?_
 obtain ⟨x3, hx3, h⟩ := bs h
 obtain ⟨cs1, F1, -, g1, hb1, hs1, r1⟩ := ph1.el (idx_some hx3).2.2
 obtain ⟨rfl, -⟩ := r1
 refine lia ph1 hx3 rfl <| lhx 0 0 g1 rfl <| qc h (m_s_l6Var_ok N · x3 ·) rfl rfl rfl fun x4 h => soN 0 Sz_60 rfl ⟨rfl, rfl, rfl, rfl, rfl, trivial⟩ rfl ?_
 refine en ?_
 refine WT.ret hF (resOk.one (rv_cell Tn_60 rfl (fun w1 hw => hw.rgO (i := 0) rfl 0 5 [iV x4.K, .string x4.S, iV x4.V.K, iV x4.V.N, .string x4.V.S] rfl) rfl)) (fun w1 hw => ?_)
 cases h
 exact post_of_St hw
theorem m_s_l8Expr_ok (w0 : Base Ψ Φ [[pb0]].flatten) (p0 : Tl1Cur) (ph0_0 : RSl (RI .u8) 1 Ψ pG0_0 pv0_0 p0.b) (pp0 : Φ pb0 = some (.cells #[pv0_0, iV p0.i, iV p0.h] 107 (0, 0))) {r : TExpr × Tl1Cur} (h : m_s_l8Expr N p0 = some r) :
  Calls prog 191 [pQ pb0].toArray w0.w (PostG Φ w0.w [[pb0]].flatten (fun Φ' Fs v => v = .agg [.string r.1.Op, iV r.1.L.K, .string r.1.L.S, iV r.1.L.V.K, iV r.1.L.V.N, .string r.1.L.V.S, iV r.1.R.K, .string r.1.R.S, iV r.1.R.V.K, iV r.1.R.V.N, .string r.1.R.V.S].toArray ∧ Fs = [[pb0]] ∧ r.2.b = p0.b ∧ Φ' pb0 = some (.cells #[pv0_0, iV r.2.i, iV r.2.h] 107 (0, 0)))) := by
 refine eL func191 rfl ntmps191 rfl (L := [[pb0]]) w0 (fun hF => ?_)
 unfold m_s_l8Expr at h
 refine sr <| lnz Zr_116 rfl fun b_1 => arr 4 [] rfl <| kcb [0] h rfl rfl rfl rfl (fun b ap z q => m_s_l7Arg_ok N b p0 (ph0_0.y z) pp0 q) ?_
 rintro x1 h v1 Φ_1 F1 ⟨ap1, fr1, rfl, rfl, e1, h1⟩
 refine lq (q_build (vs := [(1, .agg [iV x1.1.K, .string x1.1.S, iV x1.1.V.K, iV x1.1.V.N, .string x1.1.V.S].toArray)]) (C := #[.string (⟨#[]⟩ : ByteArray), iV x1.1.K, .string x1.1.S, iV x1.1.V.K, iV x1.1.V.N, .string x1.1.V.S, iV 0, .string (⟨#[]⟩ : ByteArray), iV 0, iV 0, .string (⟨#[]⟩ : ByteArray)]) Pl_116 Zr_116 rfl (fill_cons (C' := [.string ⟨#[]⟩, iV x1.1.K, .string x1.1.S, iV x1.1.V.K, iV x1.1.V.N, .string x1.1.V.S, iV 0, .string ⟨#[]⟩, iV 0, iV 0, .string ⟨#[]⟩]) rfl rfl rfl rfl rfl (fill_nil))) rfl ?_
 refine lnz Zr_116 rfl fun b_2 => soN 0 Sz_116 rfl ⟨rfl, rfl, rfl, rfl, rfl, rfl, rfl, rfl, rfl, rfl, rfl, trivial⟩ rfl ?_
 refine arr 5 [] rfl <| kcb [0] h rfl rfl rfl rfl (fun b ap z q => m_s_l1Once_ok N b (⟨p0.b, x1.2.i, x1.2.h⟩ : Tl1Cur) 4 (ph0_0.y z) h1 q) ?_
 rintro x2 h v2 Φ_2 F2 ⟨ap2, fr2, rfl, rfl, e2, h2⟩
 refine en ?_
 refine cut (σ := Hp × Int × Int × ByteArray × Int × ByteArray × Int × Int × ByteArray) (fun s => [(2, pQ b_1), (3, pQ b_2)]) (fun s => St w0 s.1 [(b_2, .cells #[.string s.2.2.2.1, iV x1.1.K, .string x1.1.S, iV x1.1.V.K, iV x1.1.V.N, .string x1.1.V.S, iV s.2.2.2.2.1, .string s.2.2.2.2.2.1, iV s.2.2.2.2.2.2.1, iV s.2.2.2.2.2.2.2.1, .string s.2.2.2.2.2.2.2.2] 116 (0, 0)), (b_1, .cells #[.string (⟨#[]⟩ : ByteArray), iV 0, .string (⟨#[]⟩ : ByteArray), iV 0, iV 0, .string (⟨#[]⟩ : ByteArray), iV 0, .string (⟨#[]⟩ : ByteArray), iV 0, iV 0, .string (⟨#[]⟩ : ByteArray)] 116 (0, 0))] [[pb0]]) (fun s => m_s_l8Expr_j1 N p0 x1 s.2.1 s.2.2.1 s.2.2.2.1 s.2.2.2.2.1 s.2.2.2.2.2.1 s.2.2.2.2.2.2.1 s.2.2.2.2.2.2.2.1 s.2.2.2.2.2.2.2.2 = some r ∧ (s.1 pb0 = some (.cells #[pv0_0, iV s.2.1, iV s.2.2.1] 107 (0, 0)))) (fun s hm => ?_) (fun K => ?_)
 ·clear h
  obtain ⟨Φ_3, s1, s2, s3, s4, s5, s6, s7, s8⟩ := s
  obtain ⟨h, k1⟩ := hm
  dsimp only at h k1 ⊢
  unfold m_s_l8Expr_j1 at h
  refine atr 3 [11] rfl <| soN 1 Sz_116 rfl ⟨rfl, rfl, rfl, rfl, rfl, rfl, rfl, rfl, rfl, rfl, rfl, trivial⟩ rfl ?_
  refine en ?_
  exact rtg [0] hF (resOk.one (rv_cell Tn_116 rfl (fun w1 hw => hw.rgO (i := 1) rfl 0 11 [.string s3, iV x1.1.K, .string x1.1.S, iV x1.1.V.K, iV x1.1.V.N, .string x1.1.V.S, iV s4, .string s5, iV s6, iV s7, .string s8] rfl) rfl)) rfl (by cases h; exact fun w1 hw => ⟨rfl, rfl, rfl, k1⟩)
 refine ch h rfl ?_ ?_ <;> intro h
 ·refine sr <| la rfl ?_
  have rc1 : RC RS 1 Φ_2 ([[], []] : List (List Nat)) [.string (⟨#[43]⟩ : ByteArray), .string (⟨#[45]⟩ : ByteArray)] ([(⟨#[43]⟩ : ByteArray), (⟨#[45]⟩ : ByteArray)] : List ByteArray) := RC.cons (c := [.string (⟨#[43]⟩ : ByteArray)]) (cells := [.string (⟨#[45]⟩ : ByteArray)]) ⟨rfl, rfl⟩ rfl (RC.cons (c := [.string (⟨#[45]⟩ : ByteArray)]) (cells := []) ⟨rfl, rfl⟩ rfl (RC.nil _ _ _))
  refine le' (e_lit (vs := [(0, .string (⟨#[43]⟩ : ByteArray)), (1, .string (⟨#[45]⟩ : ByteArray))]) (C := #[.string (⟨#[43]⟩ : ByteArray), .string (⟨#[45]⟩ : ByteArray)]) RS.lasts Sl_68 Zr_9 rfl rfl rfl rfl (fill_made MC_9_2 (fill_cons (C' := [.string (⟨#[43]⟩ : ByteArray), .string ⟨#[]⟩]) rfl rfl rfl rfl rfl (fill_cons (C' := [.string (⟨#[43]⟩ : ByteArray), .string (⟨#[45]⟩ : ByteArray)]) rfl rfl rfl rfl rfl (fill_nil)))) rfl rc1 rfl (by simpa using Kw.nil)) rfl ?_
  rintro v3 Φ_4 D1 ⟨fr3, h3⟩
  replace h3 : OSl RS 9 1 Φ_4 [] v3 ([(⟨#[43]⟩ : ByteArray), (⟨#[45]⟩ : ByteArray)] : List ByteArray) := by simpa using h3
  replace h2 := fr3 _ _ (by simp) h2
  refine kcb [1] h rfl rfl rfl rfl (fun b ap z q => m_s_l1Str_ok N b (⟨p0.b, x2.2.i, x2.2.h⟩ : Tl1Cur) ([(⟨#[43]⟩ : ByteArray), (⟨#[45]⟩ : ByteArray)] : List ByteArray) (ph0_0.y z) h2 (h3.rsl.x (Dj.app (ap.q 0 rfl) dN)) q) ?_
  rintro x3 h v4 Φ_5 F3 ⟨ap3, fr4, rfl, rfl, e3, h4⟩
  refine lf Fld_116_0 rfl rfl rfl <| so1 0 Sz_9 rfl rfl ?_
  refine arr 3 [] rfl <| kcb [0] h rfl rfl rfl rfl (fun b ap z q => m_s_l7Arg_ok N b (⟨p0.b, x3.2.i, x3.2.h⟩ : Tl1Cur) (ph0_0.y z) h4 q) ?_
  rintro x4 h v5 Φ_6 F4 ⟨ap4, fr5, rfl, rfl, e4, h5⟩
  refine lf Fld_116_2 rfl rfl rfl <| soN 0 Sz_60 rfl ⟨rfl, rfl, rfl, rfl, rfl, trivial⟩ rfl ?_
  refine en ?_
  exact wo [0] [0, 0] (K (_, _, _, _, _, _, _, _, _) ⟨h, h5⟩)
 refine WT.skip ?_
 exact wo [0] [0, 0] (K (_, _, _, _, _, _, _, _, _) ⟨h, h2⟩)
theorem m_s_l8Draw_ok (w0 : Base Ψ Φ [[pb0]].flatten) (p0 : Tl1Cur) (p1 : Int) (ph0_0 : RSl (RI .u8) 1 Ψ pG0_0 pv0_0 p0.b) (pp0 : Φ pb0 = some (.cells #[pv0_0, iV p0.i, iV p0.h] 107 (0, 0))) {r : TAct × Tl1Cur} (h : m_s_l8Draw N p0 p1 = some r) :
  Calls prog 141 [pQ pb0, iV p1].toArray w0.w (PostG Φ w0.w [[pb0]].flatten (fun Φ' Fs v => ∃ (sr_0_0 : Value), v = .agg [iV r.1.Kind, .string r.1.Name, sr_0_0, iV r.1.N, .string r.1.Undo].toArray ∧ Fs = [ob sr_0_0, [pb0]] ∧ OSl RTExpr 116 11 Φ' [] sr_0_0 r.1.Args ∧ r.2.b = p0.b ∧ Φ' pb0 = some (.cells #[pv0_0, iV r.2.i, iV r.2.h] 107 (0, 0)))) := by
 refine eL func141 rfl ntmps141 rfl (L := [[pb0]]) w0 (fun hF => ?_)
 unfold m_s_l8Draw at h
 refine sr <| lnz Zr_66 rfl fun b_1 => arr 4 [] rfl ?_
 have rc1 : RC (RI .i64) 1 Φ ([[], [], [], [], [], [], [], []] : List (List Nat)) [iV 1, iV 1, iV 2, iV 3, iV 3, iV 4, iV 5, iV 6] ([1, 1, 2, 3, 3, 4, 5, 6] : List Int) := RC.cons (c := [iV 1]) (cells := [iV 1, iV 2, iV 3, iV 3, iV 4, iV 5, iV 6]) ⟨rfl, rfl⟩ rfl (RC.cons (c := [iV 1]) (cells := [iV 2, iV 3, iV 3, iV 4, iV 5, iV 6]) ⟨rfl, rfl⟩ rfl (RC.cons (c := [iV 2]) (cells := [iV 3, iV 3, iV 4, iV 5, iV 6]) ⟨rfl, rfl⟩ rfl (RC.cons (c := [iV 3]) (cells := [iV 3, iV 4, iV 5, iV 6]) ⟨rfl, rfl⟩ rfl (RC.cons (c := [iV 3]) (cells := [iV 4, iV 5, iV 6]) ⟨rfl, rfl⟩ rfl (RC.cons (c := [iV 4]) (cells := [iV 5, iV 6]) ⟨rfl, rfl⟩ rfl (RC.cons (c := [iV 5]) (cells := [iV 6]) ⟨rfl, rfl⟩ rfl (RC.cons (c := [iV 6]) (cells := []) ⟨rfl, rfl⟩ rfl (RC.nil _ _ _))))))))
 refine le' (e_lit (vs := [(0, iV 1), (1, iV 1), (2, iV 2), (3, iV 3), (4, iV 3), (5, iV 4), (6, iV 5), (7, iV 6)]) (C := #[iV 1, iV 1, iV 2, iV 3, iV 3, iV 4, iV 5, iV 6]) RI.lasts Sl_156 Zr_3 rfl rfl rfl rfl (fill_made MC_3_8 (fill_cons (C' := [iV 1, iV 0, iV 0, iV 0, iV 0, iV 0, iV 0, iV 0]) rfl rfl rfl rfl rfl (fill_cons (C' := [iV 1, iV 1, iV 0, iV 0, iV 0, iV 0, iV 0, iV 0]) rfl rfl rfl rfl rfl (fill_cons (C' := [iV 1, iV 1, iV 2, iV 0, iV 0, iV 0, iV 0, iV 0]) rfl rfl rfl rfl rfl (fill_cons (C' := [iV 1, iV 1, iV 2, iV 3, iV 0, iV 0, iV 0, iV 0]) rfl rfl rfl rfl rfl (fill_cons (C' := [iV 1, iV 1, iV 2, iV 3, iV 3, iV 0, iV 0, iV 0]) rfl rfl rfl rfl rfl (fill_cons (C' := [iV 1, iV 1, iV 2, iV 3, iV 3, iV 4, iV 0, iV 0]) rfl rfl rfl rfl rfl (fill_cons (C' := [iV 1, iV 1, iV 2, iV 3, iV 3, iV 4, iV 5, iV 0]) rfl rfl rfl rfl rfl (fill_cons (C' := [iV 1, iV 1, iV 2, iV 3, iV 3, iV 4, iV 5, iV 6]) rfl rfl rfl rfl rfl (fill_nil)))))))))) rfl rc1 rfl (by simpa using Kw.nil)) rfl ?_
 rintro v1 Φ_1 D1 ⟨fr1, h1⟩
 replace h1 : OSl (RI .i64) 3 1 Φ_1 [] v1 ([1, 1, 2, 3, 3, 4, 5, 6] : List Int) := by simpa using h1
 replace pp0 := fr1 _ _ (by simp) pp0
 refine kcb [1] h rfl rfl rfl rfl (fun b ap z q => m_s_l1Int_ok N b p0 ([1, 1, 2, 3, 3, 4, 5, 6] : List Int) (ph0_0.y z) pp0 (h1.rsl.x (Dj.app (ap.q 0 rfl) dN)) q) ?_
 rintro x1 h v2 Φ_2 F1 ⟨ap1, fr2, rfl, rfl, e1, h2⟩
 refine lq (q_build (vs := [(0, iV x1.1)]) (C := #[iV x1.1, .string (⟨#[]⟩ : ByteArray), .slice none 0 0, iV 0, .string (⟨#[]⟩ : ByteArray)]) Pl_66 Zr_66 rfl (fill_cons (C' := [iV x1.1, .string ⟨#[]⟩, .slice none 0 0, iV 0, .string ⟨#[]⟩]) rfl rfl rfl rfl rfl (fill_nil))) rfl <| lnz Zr_66 rfl fun b_2 => soN 0 Sz_66 rfl ⟨rfl, rfl, rfl, rfl, rfl, trivial⟩ rfl ?_
 refine art 13 [0, 0] rfl ?_
 refine ch h rfl ?_ ?_ <;> intro h
 ·refine atr 4 [] rfl <| kcb [0] h rfl rfl rfl rfl (fun b ap z q => m_s_l1Below_ok N b (⟨p0.b, x1.2.i, x1.2.h⟩ : Tl1Cur) p1 (ph0_0.y z) h2 q) ?_
  rintro x2 h v3 Φ_3 F2 ⟨ap2, fr3, rfl, rfl, e2, h3⟩
  refine lf Fld_66_3 rfl rfl rfl <| so1 0 Sz_3 rfl rfl ?_
  refine arr 4 [5] rfl <| soN 1 Sz_66 rfl ⟨rfl, rfl, rfl, rfl, rfl, trivial⟩ rfl ?_
  refine en ?_
  refine WT.ret hF (resOk.one (rv_cell Tn_66 rfl (fun w1 hw => hw.rgO (i := 1) rfl 0 5 [iV x1.1, .string (⟨#[]⟩ : ByteArray), .slice none 0 0, iV x2.1, .string (⟨#[]⟩ : ByteArray)] rfl) rfl)) (fun w1 hw => ?_)
  cases h
  replace hw := hw.addNil
  refine postG_of_St (js := [0, 0]) hw rfl ⟨.slice none 0 0, rfl, rfl, OSl.nil _ _ _ _, rfl, h3⟩
 refine att 6 [] rfl ?_
 refine cut (σ := Bool) (fun s => [(0, pQ pb0), (4, pQ b_1), (5, pQ b_2), (21, .bool s)]) (fun s => St w0 Φ_2 [(b_2, .cells #[iV x1.1, .string (⟨#[]⟩ : ByteArray), .slice none 0 0, iV 0, .string (⟨#[]⟩ : ByteArray)] 66 (0, 0)), (b_1, .cells #[iV 0, .string (⟨#[]⟩ : ByteArray), .slice none 0 0, iV 0, .string (⟨#[]⟩ : ByteArray)] 66 (0, 0))] [[pb0]]) (fun s => m_s_l8Draw_j1 N p0 x1 s = some r) (fun s hm => ?_) (fun K => ?_)
 ·clear h
  revert hm; revert s; intro s1 hm
  have h : m_s_l8Draw_j1 N p0 x1 s1 = some r := hm
  show WT _ _ [(0, pQ pb0), (4, pQ b_1), (5, pQ b_2), (21, .bool s1)] (St w0 Φ_2 [(b_2, .cells #[iV x1.1, .string (⟨#[]⟩ : ByteArray), .slice none 0 0, iV 0, .string (⟨#[]⟩ : ByteArray)] 66 (0, 0)), (b_1, .cells #[iV 0, .string (⟨#[]⟩ : ByteArray), .slice none 0 0, iV 0, .string (⟨#[]⟩ : ByteArray)] 66 (0, 0))] [[pb0]])
  unfold m_s_l8Draw_j1 at h
  refine ch h rfl ?_ ?_ <;> intro h
  ·refine atr 3 [5] rfl <| soN 1 Sz_66 rfl ⟨rfl, rfl, rfl, rfl, rfl, trivial⟩ rfl ?_
   refine en ?_
   refine WT.ret hF (resOk.one (rv_cell Tn_66 rfl (fun w1 hw => hw.rgO (i := 1) rfl 0 5 [iV x1.1, .string (⟨#[]⟩ : ByteArray), .slice none 0 0, iV 0, .string (⟨#[]⟩ : ByteArray)] rfl) rfl)) (fun w1 hw => ?_)
   cases h
   replace hw := hw.addNil
   refine postG_of_St (js := [0, 0]) hw rfl ⟨.slice none 0 0, rfl, rfl, OSl.nil _ _ _ _, rfl, h2⟩
  refine atr 5 [] rfl ?_
  have rc2 : RC RS 1 Φ_2 ([[], [], [], [], []] : List (List Nat)) [.string (⟨#[111, 114, 100, 101, 114]⟩ : ByteArray), .string (⟨#[112, 97, 105, 100]⟩ : ByteArray), .string (⟨#[105, 116, 101, 109]⟩ : ByteArray), .string (⟨#[115, 104, 105, 112]⟩ : ByteArray), .string (⟨#[99, 104, 97, 114, 103, 101]⟩ : ByteArray)] ([(⟨#[111, 114, 100, 101, 114]⟩ : ByteArray), (⟨#[112, 97, 105, 100]⟩ : ByteArray), (⟨#[105, 116, 101, 109]⟩ : ByteArray), (⟨#[115, 104, 105, 112]⟩ : ByteArray), (⟨#[99, 104, 97, 114, 103, 101]⟩ : ByteArray)] : List ByteArray) := RC.cons (c := [.string (⟨#[111, 114, 100, 101, 114]⟩ : ByteArray)]) (cells := [.string (⟨#[112, 97, 105, 100]⟩ : ByteArray), .string (⟨#[105, 116, 101, 109]⟩ : ByteArray), .string (⟨#[115, 104, 105, 112]⟩ : ByteArray), .string (⟨#[99, 104, 97, 114, 103, 101]⟩ : ByteArray)]) ⟨rfl, rfl⟩ rfl (RC.cons (c := [.string (⟨#[112, 97, 105, 100]⟩ : ByteArray)]) (cells := [.string (⟨#[105, 116, 101, 109]⟩ : ByteArray), .string (⟨#[115, 104, 105, 112]⟩ : ByteArray), .string (⟨#[99, 104, 97, 114, 103, 101]⟩ : ByteArray)]) ⟨rfl, rfl⟩ rfl (RC.cons (c := [.string (⟨#[105, 116, 101, 109]⟩ : ByteArray)]) (cells := [.string (⟨#[115, 104, 105, 112]⟩ : ByteArray), .string (⟨#[99, 104, 97, 114, 103, 101]⟩ : ByteArray)]) ⟨rfl, rfl⟩ rfl (RC.cons (c := [.string (⟨#[115, 104, 105, 112]⟩ : ByteArray)]) (cells := [.string (⟨#[99, 104, 97, 114, 103, 101]⟩ : ByteArray)]) ⟨rfl, rfl⟩ rfl (RC.cons (c := [.string (⟨#[99, 104, 97, 114, 103, 101]⟩ : ByteArray)]) (cells := []) ⟨rfl, rfl⟩ rfl (RC.nil _ _ _)))))
  refine le' (e_lit (vs := [(0, .string (⟨#[111, 114, 100, 101, 114]⟩ : ByteArray)), (1, .string (⟨#[112, 97, 105, 100]⟩ : ByteArray)), (2, .string (⟨#[105, 116, 101, 109]⟩ : ByteArray)), (3, .string (⟨#[115, 104, 105, 112]⟩ : ByteArray)), (4, .string (⟨#[99, 104, 97, 114, 103, 101]⟩ : ByteArray))]) (C := #[.string (⟨#[111, 114, 100, 101, 114]⟩ : ByteArray), .string (⟨#[112, 97, 105, 100]⟩ : ByteArray), .string (⟨#[105, 116, 101, 109]⟩ : ByteArray), .string (⟨#[115, 104, 105, 112]⟩ : ByteArray), .string (⟨#[99, 104, 97, 114, 103, 101]⟩ : ByteArray)]) RS.lasts Sl_68 Zr_9 rfl rfl rfl rfl (fill_made MC_9_5 (fill_cons (C' := [.string (⟨#[111, 114, 100, 101, 114]⟩ : ByteArray), .string ⟨#[]⟩, .string ⟨#[]⟩, .string ⟨#[]⟩, .string ⟨#[]⟩]) rfl rfl rfl rfl rfl (fill_cons (C' := [.string (⟨#[111, 114, 100, 101, 114]⟩ : ByteArray), .string (⟨#[112, 97, 105, 100]⟩ : ByteArray), .string ⟨#[]⟩, .string ⟨#[]⟩, .string ⟨#[]⟩]) rfl rfl rfl rfl rfl (fill_cons (C' := [.string (⟨#[111, 114, 100, 101, 114]⟩ : ByteArray), .string (⟨#[112, 97, 105, 100]⟩ : ByteArray), .string (⟨#[105, 116, 101, 109]⟩ : ByteArray), .string ⟨#[]⟩, .string ⟨#[]⟩]) rfl rfl rfl rfl rfl (fill_cons (C' := [.string (⟨#[111, 114, 100, 101, 114]⟩ : ByteArray), .string (⟨#[112, 97, 105, 100]⟩ : ByteArray), .string (⟨#[105, 116, 101, 109]⟩ : ByteArray), .string (⟨#[115, 104, 105, 112]⟩ : ByteArray), .string ⟨#[]⟩]) rfl rfl rfl rfl rfl (fill_cons (C' := [.string (⟨#[111, 114, 100, 101, 114]⟩ : ByteArray), .string (⟨#[112, 97, 105, 100]⟩ : ByteArray), .string (⟨#[105, 116, 101, 109]⟩ : ByteArray), .string (⟨#[115, 104, 105, 112]⟩ : ByteArray), .string (⟨#[99, 104, 97, 114, 103, 101]⟩ : ByteArray)]) rfl rfl rfl rfl rfl (fill_nil))))))) rfl rc2 rfl (by simpa using Kw.nil)) rfl ?_
  rintro v4 Φ_4 D2 ⟨fr4, h4⟩
  replace h4 : OSl RS 9 1 Φ_4 [] v4 ([(⟨#[111, 114, 100, 101, 114]⟩ : ByteArray), (⟨#[112, 97, 105, 100]⟩ : ByteArray), (⟨#[105, 116, 101, 109]⟩ : ByteArray), (⟨#[115, 104, 105, 112]⟩ : ByteArray), (⟨#[99, 104, 97, 114, 103, 101]⟩ : ByteArray)] : List ByteArray) := by simpa using h4
  replace h2 := fr4 _ _ (by simp) h2
  refine kcb [1] h rfl rfl rfl rfl (fun b ap z q => m_s_l1Str_ok N b (⟨p0.b, x1.2.i, x1.2.h⟩ : Tl1Cur) ([(⟨#[111, 114, 100, 101, 114]⟩ : ByteArray), (⟨#[112, 97, 105, 100]⟩ : ByteArray), (⟨#[105, 116, 101, 109]⟩ : ByteArray), (⟨#[115, 104, 105, 112]⟩ : ByteArray), (⟨#[99, 104, 97, 114, 103, 101]⟩ : ByteArray)] : List ByteArray) (ph0_0.y z) h2 (h4.rsl.x (Dj.app (ap.q 0 rfl) dN)) q) ?_
  rintro x3 h v5 Φ_5 F3 ⟨ap3, fr5, rfl, rfl, e3, h5⟩
  refine lf Fld_66_1 rfl rfl rfl <| so1 0 Sz_9 rfl rfl ?_
  refine art 12 [1, 0] rfl ?_
  refine cut (σ := Int) (fun s => [(0, pQ pb0), (4, pQ b_1), (5, pQ b_2), (6, iV s)]) (fun s => St w0 Φ_5 [(b_2, .cells #[iV x1.1, .string x3.1, .slice none 0 0, iV 0, .string (⟨#[]⟩ : ByteArray)] 66 (0, 0)), (b_1, .cells #[iV 0, .string (⟨#[]⟩ : ByteArray), .slice none 0 0, iV 0, .string (⟨#[]⟩ : ByteArray)] 66 (0, 0))] [[pb0]]) (fun s => m_s_l8Draw_j2 N p0 x1 x3 s = some r) (fun s hm => ?_) (fun K => ?_)
  ·clear h
   revert hm; revert s; intro s2 hm
   have h : m_s_l8Draw_j2 N p0 x1 x3 s2 = some r := hm
   show WT _ _ [(0, pQ pb0), (4, pQ b_1), (5, pQ b_2), (6, iV s2)] (St w0 Φ_5 [(b_2, .cells #[iV x1.1, .string x3.1, .slice none 0 0, iV 0, .string (⟨#[]⟩ : ByteArray)] 66 (0, 0)), (b_1, .cells #[iV 0, .string (⟨#[]⟩ : ByteArray), .slice none 0 0, iV 0, .string (⟨#[]⟩ : ByteArray)] 66 (0, 0))] [[pb0]])
   unfold m_s_l8Draw_j2 at h
   refine att 6 [] rfl <| wtS ?_
   have k1 := OSl.nil RTExpr 116 11 Φ_5
   refine lin (σ := Hp × (List TExpr) × Value × Int × Int × Int) (fun s => [(0, pQ pb0), (4, pQ b_1), (5, pQ b_2), (6, iV s2), (7, iV s.2.2.2.1)]) (fun s => St w0 s.1 [(b_2, .cells #[iV x1.1, .string x3.1, s.2.2.1, iV 0, .string (⟨#[]⟩ : ByteArray)] 66 (0, 0)), (b_1, .cells #[iV 0, .string (⟨#[]⟩ : ByteArray), .slice none 0 0, iV 0, .string (⟨#[]⟩ : ByteArray)] 66 (0, 0))] [ob s.2.2.1, [pb0]]) (fun m s => m_s_l8Draw_l3 N p0 x1 x3 s2 m s.2.1 s.2.2.2.1 s.2.2.2.2.1 s.2.2.2.2.2 = some r ∧ (OSl RTExpr 116 11 s.1 [] s.2.2.1 s.2.1) ∧ (s.1 pb0 = some (.cells #[pv0_0, iV s.2.2.2.2.1, iV s.2.2.2.2.2] 107 (0, 0)))) (Φ_5, ([] : List TExpr), (.slice none 0 0), 0, x3.2.i, x3.2.h) N ⟨h, k1, h5⟩ (sx [0, 0] [0, 0]) (fun n3 ih3 s hm => ?_)
   obtain ⟨Φ_6, s3, u1, s4, s5, s6⟩ := s
   obtain ⟨h, k2, k3⟩ := hm
   dsimp only at h k2 k3 ⊢
   unfold m_s_l8Draw_l3 at h
   refine att 7 [] rfl ?_
   refine ch h rfl ?_ ?_ <;> intro h
   ·refine att 3 [] rfl <| wm [0, 1] [7] rfl <| amm 3 [0, 2, 1, 0, 2] [0, 1] rfl rfl ?_
    obtain ⟨x4, hx4, h⟩ := bs h
    refine WM.one 3 (by kernel_rfl) (mc rfl (fun _ v Φx D w1 hq hw => Kn.of Kf.nil (ai2 0 1 rfl rfl) hw) (k_call (js := [1]) (R := [ob u1]) Fun_191 rfl rfl (fun w1 hw ap hl => m_s_l8Expr_ok N (bx hw ap hl) (⟨p0.b, s5, s6⟩ : Tl1Cur) (ph0_0.y (hw.uo ap)) k3  hx4)) rfl ?_)
    rintro v6 Φ_7 F4 ⟨ap4, fr6, rfl, rfl, e4, h6⟩
    replace k2 := k2.fr fr6 (ap4.q 0 rfl) dN
    have rc3 : RC RTExpr 11 Φ_7 ([[]] : List (List Nat)) [.string x4.1.Op, iV x4.1.L.K, .string x4.1.L.S, iV x4.1.L.V.K, iV x4.1.L.V.N, .string x4.1.L.V.S, iV x4.1.R.K, .string x4.1.R.S, iV x4.1.R.V.K, iV x4.1.R.V.N, .string x4.1.R.V.S] ([x4.1] : List TExpr) := RC.cons (c := [.string x4.1.Op, iV x4.1.L.K, .string x4.1.L.S, iV x4.1.L.V.K, iV x4.1.L.V.N, .string x4.1.L.V.S, iV x4.1.R.K, .string x4.1.R.S, iV x4.1.R.V.K, iV x4.1.R.V.N, .string x4.1.R.V.S]) (cells := []) ⟨rfl, rfl⟩ rfl (RC.nil _ _ _)
    refine WM.one 4 (by kernel_rfl) (me rfl (fun _ v Φx D w1 hq hw => Kn.of Kf.nil (ai2 0 1 rfl rfl) hw) (e_lit (vs := [(0, .agg [.string x4.1.Op, iV x4.1.L.K, .string x4.1.L.S, iV x4.1.L.V.K, iV x4.1.L.V.N, .string x4.1.L.V.S, iV x4.1.R.K, .string x4.1.R.S, iV x4.1.R.V.K, iV x4.1.R.V.N, .string x4.1.R.V.S].toArray)]) (C := #[.string x4.1.Op, iV x4.1.L.K, .string x4.1.L.S, iV x4.1.L.V.K, iV x4.1.L.V.N, .string x4.1.L.V.S, iV x4.1.R.K, .string x4.1.R.S, iV x4.1.R.V.K, iV x4.1.R.V.N, .string x4.1.R.V.S]) RTExpr.lasts Sl_64 Zr_116 rfl rfl rfl rfl (fill_made MC_116_1 (fill_cons (C' := [.string x4.1.Op, iV x4.1.L.K, .string x4.1.L.S, iV x4.1.L.V.K, iV x4.1.L.V.N, .string x4.1.L.V.S, iV x4.1.R.K, .string x4.1.R.S, iV x4.1.R.V.K, iV x4.1.R.V.N, .string x4.1.R.V.S]) rfl rfl rfl rfl rfl (fill_nil))) rfl rc3 rfl (by simpa using Kw.nil)) rfl ?_)
    rintro v7 Φ_8 D3 ⟨fr7, h7⟩
    replace h7 : OSl RTExpr 116 11 Φ_8 [] v7 ([x4.1] : List TExpr) := by simpa using h7
    replace k2 := k2.f0 fr7
    replace h6 := fr7 _ _ (by simp) h6
    obtain ⟨x5, hx5, h⟩ := bs h
    refine WM.one 5 (by kernel_rfl) (me rfl (fun _ v Φx D w1 hq hw => Kn.of Kf.nil (ai2 0 1 rfl rfl) hw) (e_appF RTExpr.lasts RTExpr.one RTExpr.flat Sl_64 Ei_116 rfl rfl rfl rfl rfl (js := [2]) (Rr := [ob v7, [pb0]]) rfl k2 h7.rsl hx5) rfl ?_)
    rintro v8 Φ_9 D4 ⟨⟨ap5, fr8⟩, h8⟩
    replace h6 := fr8 _ _ ((ap5.q 1 rfl) _ (by simp)) h6
    refine amm 1 [6, 2] [0, 1] rfl rfl ?_
    refine on1 7 (ms1 0 rfl nk Sz_64 rfl h8.one ?_)
    refine WM.nil (by kernel_rfl) <| att 6 [] rfl ?_
    exact lb [0, 1] [0, 0] (ih3 (_, _, _, _, _, _) ⟨h, h8, h6⟩)
   refine att 8 [0, 0] rfl ?_
   refine cut (σ := Hp × Int × Int × Int) (fun s => [(0, pQ pb0), (4, pQ b_1), (5, pQ b_2)]) (fun s => St w0 s.1 [(b_2, .cells #[iV x1.1, .string x3.1, u1, iV s.2.2.2, .string (⟨#[]⟩ : ByteArray)] 66 (0, 0)), (b_1, .cells #[iV 0, .string (⟨#[]⟩ : ByteArray), .slice none 0 0, iV 0, .string (⟨#[]⟩ : ByteArray)] 66 (0, 0))] [ob u1, [pb0]]) (fun s => m_s_l8Draw_j4 N p0 x1 x3 s3 s.2.1 s.2.2.1 s.2.2.2 = some r ∧ (OSl RTExpr 116 11 s.1 [] u1 s3) ∧ (s.1 pb0 = some (.cells #[pv0_0, iV s.2.1, iV s.2.2.1] 107 (0, 0)))) (fun s hm => ?_) (fun K => ?_)
   ·clear h
    obtain ⟨Φ_10, s7, s8, s9⟩ := s
    obtain ⟨h, k2, k4⟩ := hm
    dsimp only at h k2 k4 ⊢
    unfold m_s_l8Draw_j4 at h
    refine atr 7 [0, 0] rfl ?_
    refine WL.cutS 3 (σ := Hp × Bool × Int × Int) (fun s => [(0, pQ pb0), (4, pQ b_1), (5, pQ b_2), (57, .bool s.2.1)]) (fun s => St w0 s.1 [(b_2, .cells #[iV x1.1, .string x3.1, u1, iV s9, .string (⟨#[]⟩ : ByteArray)] 66 (0, 0)), (b_1, .cells #[iV 0, .string (⟨#[]⟩ : ByteArray), .slice none 0 0, iV 0, .string (⟨#[]⟩ : ByteArray)] 66 (0, 0))] [ob u1, [pb0]]) (fun s => m_s_l8Draw_j5 N p0 x1 x3 s3 s9 s.2.1 s.2.2.1 s.2.2.2 = some r ∧ (OSl RTExpr 116 11 s.1 [] u1 s3) ∧ (s.1 pb0 = some (.cells #[pv0_0, iV s.2.2.1, iV s.2.2.2] 107 (0, 0)))) (fun s hm => ?_) (fun K => ?_)
    ·clear h
     obtain ⟨Φ_11, s10, s11, s12⟩ := s
     obtain ⟨h, k2, k5⟩ := hm
     replace h : m_s_l8Draw_j5 N p0 x1 x3 s3 s9 s10 s11 s12 = some r := h
     replace k2 : OSl RTExpr 116 11 Φ_11 [] u1 s3 := k2
     replace k5 : Φ_11 pb0 = some (.cells #[pv0_0, iV s11, iV s12] 107 (0, 0)) := k5
     show WL _ _ _ _ [(0, pQ pb0), (4, pQ b_1), (5, pQ b_2), (57, .bool s10)] (St w0 Φ_11 [(b_2, .cells #[iV x1.1, .string x3.1, u1, iV s9, .string (⟨#[]⟩ : ByteArray)] 66 (0, 0)), (b_1, .cells #[iV 0, .string (⟨#[]⟩ : ByteArray), .slice none 0 0, iV 0, .string (⟨#[]⟩ : ByteArray)] 66 (0, 0))] [ob u1, [pb0]])
     unfold m_s_l8Draw_j5 at h
     refine en ?_
     refine cut (σ := Hp × Int × Int × ByteArray) (fun s => [(4, pQ b_1), (5, pQ b_2)]) (fun s => St w0 s.1 [(b_2, .cells #[iV x1.1, .string x3.1, u1, iV s9, .string s.2.2.2] 66 (0, 0)), (b_1, .cells #[iV 0, .string (⟨#[]⟩ : ByteArray), .slice none 0 0, iV 0, .string (⟨#[]⟩ : ByteArray)] 66 (0, 0))] [ob u1, [pb0]]) (fun s => m_s_l8Draw_j6 N p0 x1 x3 s3 s9 s.2.1 s.2.2.1 s.2.2.2 = some r ∧ (OSl RTExpr 116 11 s.1 [] u1 s3) ∧ (s.1 pb0 = some (.cells #[pv0_0, iV s.2.1, iV s.2.2.1] 107 (0, 0)))) (fun s hm => ?_) (fun K => ?_)
     ·clear h
      obtain ⟨Φ_12, s13, s14, s15⟩ := s
      obtain ⟨h, k2, k6⟩ := hm
      dsimp only at h k2 k6 ⊢
      unfold m_s_l8Draw_j6 at h
      refine atr 3 [5] rfl <| soN 1 Sz_66 rfl ⟨rfl, rfl, k2.one, rfl, rfl, trivial⟩ rfl ?_
      refine en ?_
      exact rtg [0, 0] hF (resOk.one (rv_cell Tn_66 rfl (fun w1 hw => hw.rgO (i := 1) rfl 0 5 [iV x1.1, .string x3.1, u1, iV s9, .string s15] rfl) rfl)) rfl (by cases h; exact fun w1 hw => ⟨u1, rfl, rfl, k2, rfl, k6⟩)
     refine ch h rfl ?_ ?_ <;> intro h
     ·refine atr 2 [] rfl ?_
      have rc4 : RC RS 1 Φ_11 ([[], []] : List (List Nat)) [.string (⟨#[114, 101, 102, 117, 110, 100]⟩ : ByteArray), .string (⟨#[99, 97, 110, 99, 101, 108]⟩ : ByteArray)] ([(⟨#[114, 101, 102, 117, 110, 100]⟩ : ByteArray), (⟨#[99, 97, 110, 99, 101, 108]⟩ : ByteArray)] : List ByteArray) := RC.cons (c := [.string (⟨#[114, 101, 102, 117, 110, 100]⟩ : ByteArray)]) (cells := [.string (⟨#[99, 97, 110, 99, 101, 108]⟩ : ByteArray)]) ⟨rfl, rfl⟩ rfl (RC.cons (c := [.string (⟨#[99, 97, 110, 99, 101, 108]⟩ : ByteArray)]) (cells := []) ⟨rfl, rfl⟩ rfl (RC.nil _ _ _))
      refine le' (e_lit (vs := [(0, .string (⟨#[114, 101, 102, 117, 110, 100]⟩ : ByteArray)), (1, .string (⟨#[99, 97, 110, 99, 101, 108]⟩ : ByteArray))]) (C := #[.string (⟨#[114, 101, 102, 117, 110, 100]⟩ : ByteArray), .string (⟨#[99, 97, 110, 99, 101, 108]⟩ : ByteArray)]) RS.lasts Sl_68 Zr_9 rfl rfl rfl rfl (fill_made MC_9_2 (fill_cons (C' := [.string (⟨#[114, 101, 102, 117, 110, 100]⟩ : ByteArray), .string ⟨#[]⟩]) rfl rfl rfl rfl rfl (fill_cons (C' := [.string (⟨#[114, 101, 102, 117, 110, 100]⟩ : ByteArray), .string (⟨#[99, 97, 110, 99, 101, 108]⟩ : ByteArray)]) rfl rfl rfl rfl rfl (fill_nil)))) rfl rc4 rfl (by simpa using Kw.nil)) rfl ?_
      rintro v9 Φ_13 D5 ⟨fr9, h9⟩
      replace h9 : OSl RS 9 1 Φ_13 [] v9 ([(⟨#[114, 101, 102, 117, 110, 100]⟩ : ByteArray), (⟨#[99, 97, 110, 99, 101, 108]⟩ : ByteArray)] : List ByteArray) := by simpa using h9
      replace k2 := k2.f0 fr9
      replace k5 := fr9 _ _ (by simp) k5
      refine kcb [2] h rfl rfl rfl rfl (fun b ap z q => m_s_l1Str_ok N b (⟨p0.b, s11, s12⟩ : Tl1Cur) ([(⟨#[114, 101, 102, 117, 110, 100]⟩ : ByteArray), (⟨#[99, 97, 110, 99, 101, 108]⟩ : ByteArray)] : List ByteArray) (ph0_0.y z) k5 (h9.rsl.x (Dj.app (ap.q 0 rfl) dN)) q) ?_
      rintro x6 h v10 Φ_14 F5 ⟨ap6, fr10, rfl, rfl, e5, h10⟩
      replace k2 := k2.fr fr10 (ap6.q 1 rfl) dN
      refine lf Fld_66_4 rfl rfl rfl <| so1 0 Sz_9 rfl rfl ?_
      refine en ?_
      exact wo [2, 0] [0, 0] (K (_, _, _, _) ⟨h, k2, h10⟩)
     refine WT.skip ?_
     exact wo [0, 0] [0, 0] (K (_, _, _, _) ⟨h, k2, k5⟩)
    refine sp 54 h rfl (fun h => ?_) fun h => ?_
    ·refine ly rfl rfl <| la rfl <| ly rfl rfl <| kcb [1] h rfl rfl rfl rfl (fun b ap z q => m_s_l1Once_ok N b (⟨p0.b, s7, s8⟩ : Tl1Cur) 2 (ph0_0.y z) k4 q) ?_
     rintro x7 h v11 Φ_15 F6 ⟨ap7, fr11, rfl, rfl, e6, h11⟩
     replace k2 := k2.fr fr11 (ap7.q 0 rfl) dN
     refine la rfl <| WL.mono (l' := [(0, pQ pb0), (4, pQ b_1), (5, pQ b_2), (57, .bool x7.1)]) (S' := St w0 Φ_15 [(b_2, .cells #[iV x1.1, .string x3.1, u1, iV s9, .string (⟨#[]⟩ : ByteArray)] 66 (0, 0)), (b_1, .cells #[iV 0, .string (⟨#[]⟩ : ByteArray), .slice none 0 0, iV 0, .string (⟨#[]⟩ : ByteArray)] 66 (0, 0))] [ob u1, [pb0]]) (by exact ⟨rfl, rfl, rfl, rfl, trivial⟩) (sx [1, 0] [0, 0]) ?_
     exact K (Φ_15, x7.1, x7.2.i, x7.2.h) ⟨h, k2, h11⟩
    refine arr 3 [] rfl <| WL.mono (l' := [(0, pQ pb0), (4, pQ b_1), (5, pQ b_2), (57, .bool false)]) (S' := St w0 Φ_10 [(b_2, .cells #[iV x1.1, .string x3.1, u1, iV s9, .string (⟨#[]⟩ : ByteArray)] 66 (0, 0)), (b_1, .cells #[iV 0, .string (⟨#[]⟩ : ByteArray), .slice none 0 0, iV 0, .string (⟨#[]⟩ : ByteArray)] 66 (0, 0))] [ob u1, [pb0]]) (by exact ⟨rfl, rfl, rfl, rfl, trivial⟩) (sx [0, 0] [0, 0]) ?_
    exact K (Φ_10, false, s7, s8) ⟨h, k2, k4⟩
   refine ch h rfl ?_ ?_ <;> intro h
   ·refine atr 2 [] rfl ?_
    have rc5 : RC (RI .i64) 1 Φ_6 ([[], [], [], []] : List (List Nat)) [iV 0, iV 1, iV 5, iV 100000] ([0, 1, 5, 100000] : List Int) := RC.cons (c := [iV 0]) (cells := [iV 1, iV 5, iV 100000]) ⟨rfl, rfl⟩ rfl (RC.cons (c := [iV 1]) (cells := [iV 5, iV 100000]) ⟨rfl, rfl⟩ rfl (RC.cons (c := [iV 5]) (cells := [iV 100000]) ⟨rfl, rfl⟩ rfl (RC.cons (c := [iV 100000]) (cells := []) ⟨rfl, rfl⟩ rfl (RC.nil _ _ _))))
    refine le' (e_lit (vs := [(0, iV 0), (1, iV 1), (2, iV 5), (3, iV 100000)]) (C := #[iV 0, iV 1, iV 5, iV 100000]) RI.lasts Sl_156 Zr_3 rfl rfl rfl rfl (fill_made MC_3_4 (fill_cons (C' := [iV 0, iV 0, iV 0, iV 0]) rfl rfl rfl rfl rfl (fill_cons (C' := [iV 0, iV 1, iV 0, iV 0]) rfl rfl rfl rfl rfl (fill_cons (C' := [iV 0, iV 1, iV 5, iV 0]) rfl rfl rfl rfl rfl (fill_cons (C' := [iV 0, iV 1, iV 5, iV 100000]) rfl rfl rfl rfl rfl (fill_nil)))))) rfl rc5 rfl (by simpa using Kw.nil)) rfl ?_
    rintro v12 Φ_16 D6 ⟨fr12, h12⟩
    replace h12 : OSl (RI .i64) 3 1 Φ_16 [] v12 ([0, 1, 5, 100000] : List Int) := by simpa using h12
    replace k2 := k2.f0 fr12
    replace k3 := fr12 _ _ (by simp) k3
    refine kcb [2] h rfl rfl rfl rfl (fun b ap z q => m_s_l1Int_ok N b (⟨p0.b, s5, s6⟩ : Tl1Cur) ([0, 1, 5, 100000] : List Int) (ph0_0.y z) k3 (h12.rsl.x (Dj.app (ap.q 0 rfl) dN)) q) ?_
    rintro x8 h v13 Φ_17 F7 ⟨ap8, fr13, rfl, rfl, e7, h13⟩
    replace k2 := k2.fr fr13 (ap8.q 1 rfl) dN
    refine lf Fld_66_3 rfl rfl rfl <| so1 0 Sz_3 rfl rfl ?_
    refine en ?_
    exact wo [2, 0] [0, 0] (K (_, _, _, _) ⟨h, k2, h13⟩)
   refine WT.skip ?_
   exact wo [0, 0] [0, 0] (K (_, _, _, _) ⟨h, k2, k3⟩)
  refine ch h rfl ?_ ?_ <;> intro h
  ·refine att 3 [] rfl ?_
   exact wo [0] [0, 0] (K _ h)
  refine WT.skip ?_
  exact wo [0] [0, 0] (K _ h)
 refine ch h rfl ?_ ?_ <;> intro h
 ·refine WT.skip ?_
  exact wo [0] [0, 0] (K _ h)
 refine att 4 [] rfl ?_
 exact wo [0] [0, 0] (K _ h)
end Go.Proofs.YteipbimepilcfaaGreatDoor
