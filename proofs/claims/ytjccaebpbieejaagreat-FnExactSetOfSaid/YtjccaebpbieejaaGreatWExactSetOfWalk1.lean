/- Printed by a program of ours: each Go function computes its Lean function. -/
import Derived.Test.YtjccaebpbieejaaGreatProg
import Derived.Test.YtjccaebpbieejaaGreatWExactSetOfMod
import Derived.Test.YtjccaebpbieejaaGreatEP
import Derived.Test.YtjccaebpbieejaaGreatEV
namespace Go.Proofs.YtjccaebpbieejaaGreat
open Eng Tryz
open Go.RowKit (Below)
set_option linter.unusedVariables false
set_option linter.unusedSimpArgs false

set_option maxRecDepth 100000
set_option maxHeartbeats 1000000
theorem mixed : prog.follows .mixedOrders = true := by kernel_rfl
theorem T1_9 : T1 prog 9 = true := by kernel_rfl
theorem Str_9 : Str prog 9 = true := by kernel_rfl
theorem Sl_77 : Sl prog 77 3 1 = true := by kernel_rfl
theorem T1_77 : T1 prog 77 = true := by kernel_rfl
theorem Zr_127 : (prog.info? 127).map (·.zero) = some (some (.agg #[.string ⟨#[]⟩, .slice none 0 0])) := by kernel_rfl
theorem Sl_125 : Sl prog 125 133 3 = true := by kernel_rfl
theorem Zr_133 : (prog.info? 133).map (·.zero) = some (some (.agg #[iV 0, iV 0, .string ⟨#[]⟩])) := by kernel_rfl
theorem Fld_127_1 : Fld prog 127 1 1 = true := by kernel_rfl
theorem T1_125 : T1 prog 125 = true := by kernel_rfl
theorem Ei_133 : (prog.info? 133).map (fun i => (i.zero, i.size, i.bytes)) = some (some (.agg #[iV 0, iV 0, .string ⟨#[]⟩]), 3, 32) := by kernel_rfl
theorem Sz_125 : Sz prog 125 1 = true := by kernel_rfl
theorem Tn_127 : Tn prog 127 2 = true := by kernel_rfl
theorem Sz_127 : Sz prog 127 2 = true := by kernel_rfl
theorem Fld_48_0 : Fld prog 48 0 0 = true := by kernel_rfl
theorem Sl_46 : Sl prog 46 143 3 = true := by kernel_rfl
theorem Fld_143_0 : Fld prog 143 0 0 = true := by kernel_rfl
theorem T1_3 : T1 prog 3 = true := by kernel_rfl
theorem Fld_143_1 : Fld prog 143 1 1 = true := by kernel_rfl
theorem Pl_127 : Pl prog 127 #[(0, 1), (1, 1)] = true := by kernel_rfl
theorem Sl_69 : Sl prog 69 164 4 = true := by kernel_rfl
theorem Fld_164_0 : Fld prog 164 0 0 = true := by kernel_rfl
theorem Fld_164_1 : Fld prog 164 1 1 = true := by kernel_rfl
theorem Tn_133 : Tn prog 133 3 = true := by kernel_rfl
theorem Sz_133 : Sz prog 133 3 = true := by kernel_rfl
theorem Pl_133 : Pl prog 133 #[(0, 1), (1, 1), (2, 1)] = true := by kernel_rfl
theorem Zr_164 : (prog.info? 164).map (·.zero) = some (some (.agg #[.string ⟨#[]⟩, iV 0, iV 0, .string ⟨#[]⟩])) := by kernel_rfl
theorem Ei_164 : (prog.info? 164).map (fun i => (i.zero, i.size, i.bytes)) = some (some (.agg #[.string ⟨#[]⟩, iV 0, iV 0, .string ⟨#[]⟩]), 4, 48) := by kernel_rfl
theorem Fld_124_0 : Fld prog 124 0 0 = true := by kernel_rfl
theorem Fld_124_1 : Fld prog 124 1 1 = true := by kernel_rfl
theorem Sl_122 : Sl prog 122 135 5 = true := by kernel_rfl
theorem Tn_135 : Tn prog 135 5 = true := by kernel_rfl
theorem Zr_135 : (prog.info? 135).map (·.zero) = some (some (.agg #[iV 0, .string ⟨#[]⟩, iV 0, iV 0, .string ⟨#[]⟩])) := by kernel_rfl
theorem Sz_135 : Sz prog 135 5 = true := by kernel_rfl
theorem Fld_135_1 : Fld prog 135 1 1 = true := by kernel_rfl
theorem Fld_135_0 : Fld prog 135 0 0 = true := by kernel_rfl
theorem Fld_135_2 : Fld prog 135 2 2 = true := by kernel_rfl
theorem EqT_133 : EqT prog 133 [.i .i64, .i .i64, .s] = true := by kernel_rfl
theorem Pl_164 : Pl prog 164 #[(0, 1), (1, 3)] = true := by kernel_rfl
theorem MC_164_1 : madeCells (Value.agg #[.string ⟨#[]⟩, iV 0, iV 0, .string ⟨#[]⟩] : Value).cells (1 * 4) = #[.string ⟨#[]⟩, iV 0, iV 0, .string ⟨#[]⟩] := by kernel_rfl
theorem Fld_76_2 : Fld prog 76 2 2 = true := by kernel_rfl
theorem Sl_72 : Sl prog 72 124 3 = true := by kernel_rfl
theorem Fld_124_2 : Fld prog 124 2 2 = true := by kernel_rfl
theorem Tn_48 : Tn prog 48 2 = true := by kernel_rfl
theorem Fun_56 : Fun prog 56 = true := by kernel_rfl
theorem Tn_124 : Tn prog 124 3 = true := by kernel_rfl
theorem Fun_57 : Fun prog 57 = true := by kernel_rfl
theorem Fld_79_1 : Fld prog 79 1 1 = true := by kernel_rfl
theorem Fld_133_0 : Fld prog 133 0 0 = true := by kernel_rfl
theorem Fld_133_1 : Fld prog 133 1 1 = true := by kernel_rfl
theorem Fld_133_2 : Fld prog 133 2 2 = true := by kernel_rfl
theorem Fld_137_1 : Fld prog 137 1 1 = true := by kernel_rfl
theorem Fld_137_2 : Fld prog 137 2 6 = true := by kernel_rfl
theorem Fld_137_0 : Fld prog 137 0 0 = true := by kernel_rfl
theorem Sl_73 : Sl prog 73 137 11 = true := by kernel_rfl
theorem Tn_137 : Tn prog 137 11 = true := by kernel_rfl
theorem Fld_84_0 : Fld prog 84 0 0 = true := by kernel_rfl
theorem Fld_84_1 : Fld prog 84 1 1 = true := by kernel_rfl
theorem Tn_84 : Tn prog 84 3 = true := by kernel_rfl
theorem MC_84_1 : madeCells (Value.agg #[iV 0, .slice none 0 0, .slice none 0 0] : Value).cells (1 * 3) = #[iV 0, .slice none 0 0, .slice none 0 0] := by kernel_rfl
theorem Sl_35 : Sl prog 35 84 3 = true := by kernel_rfl
theorem Zr_84 : (prog.info? 84).map (·.zero) = some (some (.agg #[iV 0, .slice none 0 0, .slice none 0 0])) := by kernel_rfl
theorem Ei_84 : (prog.info? 84).map (fun i => (i.zero, i.size, i.bytes)) = some (some (.agg #[iV 0, .slice none 0 0, .slice none 0 0]), 3, 56) := by kernel_rfl
theorem Fun_59 : Fun prog 59 = true := by kernel_rfl
theorem Sz_84 : Sz prog 84 3 = true := by kernel_rfl
theorem MC_84_0 : madeCells (Value.agg #[iV 0, .slice none 0 0, .slice none 0 0] : Value).cells (0 * 3) = #[] := by kernel_rfl
theorem Fld_39_1 : Fld prog 39 1 1 = true := by kernel_rfl
theorem Sl_37 : Sl prog 37 76 5 = true := by kernel_rfl
theorem Fld_44_1 : Fld prog 44 1 1 = true := by kernel_rfl
theorem Sl_42 : Sl prog 42 65 1 = true := by kernel_rfl
theorem Fld_65_0 : Fld prog 65 0 0 = true := by kernel_rfl
theorem Sl_63 : Sl prog 63 68 1 = true := by kernel_rfl
theorem Fld_68_0 : Fld prog 68 0 0 = true := by kernel_rfl
theorem Sl_66 : Sl prog 66 79 2 = true := by kernel_rfl
theorem Tn_76 : Tn prog 76 5 = true := by kernel_rfl
theorem Fld_79_0 : Fld prog 79 0 0 = true := by kernel_rfl
theorem Fun_25 : Fun prog 25 = true := by kernel_rfl
theorem Tn_79 : Tn prog 79 2 = true := by kernel_rfl
theorem Fld_76_3 : Fld prog 76 3 3 = true := by kernel_rfl
theorem Zr_3 : (prog.info? 3).map (·.zero) = some (some (iV 0)) := by kernel_rfl
theorem Ei_3 : (prog.info? 3).map (fun i => (i.zero, i.size, i.bytes)) = some (some (iV 0), 1, 8) := by kernel_rfl
theorem Pl_84 : Pl prog 84 #[(0, 1), (1, 1), (2, 1)] = true := by kernel_rfl
theorem Sz_3 : Sz prog 3 1 = true := by kernel_rfl
theorem Sz_9 : Sz prog 9 1 = true := by kernel_rfl
theorem By_135 : By prog 135 56 = true := by kernel_rfl
theorem Zr_124 : (prog.info? 124).map (·.zero) = some (some (.agg #[.string ⟨#[]⟩, .slice none 0 0, .bool false])) := by kernel_rfl
theorem Sz_122 : Sz prog 122 1 = true := by kernel_rfl
theorem Sz_4 : Sz prog 4 1 = true := by kernel_rfl
theorem Sz_124 : Sz prog 124 3 = true := by kernel_rfl
theorem By_124 : By prog 124 48 = true := by kernel_rfl
theorem Zr_137 : (prog.info? 137).map (·.zero) = some (some (.agg #[iV 0, iV 0, .string ⟨#[]⟩, iV 0, iV 0, .string ⟨#[]⟩, iV 0, .string ⟨#[]⟩, iV 0, iV 0, .string ⟨#[]⟩])) := by kernel_rfl
theorem Sz_137 : Sz prog 137 11 = true := by kernel_rfl
theorem By_137 : By prog 137 120 = true := by kernel_rfl
theorem Zr_229 : (prog.info? 229).map (·.zero) = some (some (.agg #[.string ⟨#[]⟩, iV 0, .string ⟨#[]⟩, iV 0, iV 0, .string ⟨#[]⟩, iV 0, .string ⟨#[]⟩, iV 0, iV 0, .string ⟨#[]⟩])) := by kernel_rfl
theorem Fld_229_0 : Fld prog 229 0 0 = true := by kernel_rfl
theorem Fld_229_1 : Fld prog 229 1 1 = true := by kernel_rfl
theorem Fld_229_2 : Fld prog 229 2 6 = true := by kernel_rfl
theorem Tn_229 : Tn prog 229 11 = true := by kernel_rfl
theorem Sz_229 : Sz prog 229 11 = true := by kernel_rfl
theorem Sl_191 : Sl prog 191 229 11 = true := by kernel_rfl
theorem By_229 : By prog 229 128 = true := by kernel_rfl
theorem Zr_193 : (prog.info? 193).map (·.zero) = some (some (.agg #[iV 0, .string ⟨#[]⟩, .slice none 0 0, iV 0, .string ⟨#[]⟩])) := by kernel_rfl
theorem Fld_193_0 : Fld prog 193 0 0 = true := by kernel_rfl
theorem Fld_193_1 : Fld prog 193 1 1 = true := by kernel_rfl
theorem Fld_193_2 : Fld prog 193 2 2 = true := by kernel_rfl
theorem Sz_191 : Sz prog 191 1 = true := by kernel_rfl
theorem Fld_193_3 : Fld prog 193 3 3 = true := by kernel_rfl
theorem Fld_193_4 : Fld prog 193 4 4 = true := by kernel_rfl
theorem Tn_193 : Tn prog 193 5 = true := by kernel_rfl
theorem Sz_193 : Sz prog 193 5 = true := by kernel_rfl
theorem Sl_74 : Sl prog 74 193 5 = true := by kernel_rfl
theorem By_193 : By prog 193 72 = true := by kernel_rfl
theorem Zr_76 : (prog.info? 76).map (·.zero) = some (some (.agg #[.string ⟨#[]⟩, iV 0, .slice none 0 0, .slice none 0 0, .slice none 0 0])) := by kernel_rfl
theorem Fld_76_0 : Fld prog 76 0 0 = true := by kernel_rfl
theorem Fld_76_1 : Fld prog 76 1 1 = true := by kernel_rfl
theorem Sz_72 : Sz prog 72 1 = true := by kernel_rfl
theorem Sz_73 : Sz prog 73 1 = true := by kernel_rfl
theorem Fld_76_4 : Fld prog 76 4 4 = true := by kernel_rfl
theorem Sz_74 : Sz prog 74 1 = true := by kernel_rfl
theorem Sz_76 : Sz prog 76 5 = true := by kernel_rfl
theorem By_76 : By prog 76 96 = true := by kernel_rfl
theorem Zr_39 : (prog.info? 39).map (·.zero) = some (some (.agg #[.string ⟨#[]⟩, .slice none 0 0])) := by kernel_rfl
theorem Sz_37 : Sz prog 37 1 = true := by kernel_rfl
theorem Tn_39 : Tn prog 39 2 = true := by kernel_rfl
theorem Sz_39 : Sz prog 39 2 = true := by kernel_rfl
theorem By_3 : By prog 3 8 = true := by kernel_rfl
theorem Zr_139 : (prog.info? 139).map (·.zero) = some (some (.agg #[.slice none 0 0])) := by kernel_rfl
theorem Fld_139_0 : Fld prog 139 0 0 = true := by kernel_rfl
theorem Sz_77 : Sz prog 77 1 = true := by kernel_rfl
theorem Tn_139 : Tn prog 139 1 = true := by kernel_rfl
theorem Sz_139 : Sz prog 139 1 = true := by kernel_rfl
theorem Sl_41 : Sl prog 41 139 1 = true := by kernel_rfl
theorem By_139 : By prog 139 24 = true := by kernel_rfl
theorem Zr_79 : (prog.info? 79).map (·.zero) = some (some (.agg #[.slice none 0 0, .slice none 0 0])) := by kernel_rfl
theorem Sz_79 : Sz prog 79 2 = true := by kernel_rfl
theorem By_79 : By prog 79 48 = true := by kernel_rfl
theorem Zr_68 : (prog.info? 68).map (·.zero) = some (some (.agg #[.slice none 0 0])) := by kernel_rfl
theorem Sz_66 : Sz prog 66 1 = true := by kernel_rfl
theorem Tn_68 : Tn prog 68 1 = true := by kernel_rfl
theorem Sz_68 : Sz prog 68 1 = true := by kernel_rfl
theorem By_68 : By prog 68 24 = true := by kernel_rfl
theorem Zr_65 : (prog.info? 65).map (·.zero) = some (some (.agg #[.slice none 0 0])) := by kernel_rfl
theorem Sz_63 : Sz prog 63 1 = true := by kernel_rfl
theorem Tn_65 : Tn prog 65 1 = true := by kernel_rfl
theorem Sz_65 : Sz prog 65 1 = true := by kernel_rfl
theorem By_65 : By prog 65 24 = true := by kernel_rfl
theorem Zr_44 : (prog.info? 44).map (·.zero) = some (some (.agg #[.slice none 0 0, .slice none 0 0])) := by kernel_rfl
theorem Fld_44_0 : Fld prog 44 0 0 = true := by kernel_rfl
theorem Sz_41 : Sz prog 41 1 = true := by kernel_rfl
theorem Sz_42 : Sz prog 42 1 = true := by kernel_rfl
theorem Tn_44 : Tn prog 44 2 = true := by kernel_rfl
theorem Sz_44 : Sz prog 44 2 = true := by kernel_rfl
theorem By_133 : By prog 133 32 = true := by kernel_rfl
theorem Zr_143 : (prog.info? 143).map (·.zero) = some (some (.agg #[iV 0, .string ⟨#[]⟩, .slice none 0 0])) := by kernel_rfl
theorem Tn_143 : Tn prog 143 3 = true := by kernel_rfl
theorem Sz_143 : Sz prog 143 3 = true := by kernel_rfl
theorem By_143 : By prog 143 48 = true := by kernel_rfl
theorem Zr_48 : (prog.info? 48).map (·.zero) = some (some (.agg #[.slice none 0 0, iV 0])) := by kernel_rfl
theorem Sz_46 : Sz prog 46 1 = true := by kernel_rfl
theorem Sz_48 : Sz prog 48 2 = true := by kernel_rfl
theorem Bo_4 : Bo prog 4 = true := by kernel_rfl
theorem MC_124_1 : madeCells (Value.agg #[.string ⟨#[]⟩, .slice none 0 0, .bool false] : Value).cells (1 * 3) = #[.string ⟨#[]⟩, .slice none 0 0, .bool false] := by kernel_rfl
theorem Ei_124 : (prog.info? 124).map (fun i => (i.zero, i.size, i.bytes)) = some (some (.agg #[.string ⟨#[]⟩, .slice none 0 0, .bool false]), 3, 48) := by kernel_rfl
theorem Fun_146 : Fun prog 146 = true := by kernel_rfl
theorem Tn_164 : Tn prog 164 4 = true := by kernel_rfl
theorem Sz_164 : Sz prog 164 4 = true := by kernel_rfl
theorem Fun_100 : Fun prog 100 = true := by kernel_rfl
theorem MC_3_3 : madeCells (Value.int .i64 0 : Value).cells (3 * 1) = #[iV 0, iV 0, iV 0] := by kernel_rfl
theorem Fun_148 : Fun prog 148 = true := by kernel_rfl
theorem Ik_3 : Ik prog 3 .i64 = true := by kernel_rfl
theorem Ik_222 : Ik prog 222 .u64 = true := by kernel_rfl
theorem Fun_104 : Fun prog 104 = true := by kernel_rfl
theorem Fun_129 : Fun prog 129 = true := by kernel_rfl
theorem Fun_103 : Fun prog 103 = true := by kernel_rfl
theorem Fun_67 : Fun prog 67 = true := by kernel_rfl
theorem MC_3_2 : madeCells (Value.int .i64 0 : Value).cells (2 * 1) = #[iV 0, iV 0] := by kernel_rfl
theorem Fun_38 : Fun prog 38 = true := by kernel_rfl
theorem Fun_130 : Fun prog 130 = true := by kernel_rfl
theorem Fun_106 : Fun prog 106 = true := by kernel_rfl
theorem Fld_84_2 : Fld prog 84 2 2 = true := by kernel_rfl
theorem Fun_39 : Fun prog 39 = true := by kernel_rfl
theorem Fun_150 : Fun prog 150 = true := by kernel_rfl
theorem Fun_131 : Fun prog 131 = true := by kernel_rfl
theorem Fun_132 : Fun prog 132 = true := by kernel_rfl
theorem Fun_158 : Fun prog 158 = true := by kernel_rfl
theorem Fun_133 : Fun prog 133 = true := by kernel_rfl
theorem Fun_73 : Fun prog 73 = true := by kernel_rfl
theorem Fun_74 : Fun prog 74 = true := by kernel_rfl
theorem Fun_159 : Fun prog 159 = true := by kernel_rfl
theorem Fun_134 : Fun prog 134 = true := by kernel_rfl
theorem Fun_75 : Fun prog 75 = true := by kernel_rfl
theorem Fun_76 : Fun prog 76 = true := by kernel_rfl
theorem Ik_5 : Ik prog 5 .u8 = true := by kernel_rfl
theorem MC_5_1 : madeCells (Value.int .u8 0 : Value).cells (1 * 1) = #[.int .u8 0] := by kernel_rfl
theorem Sl_189 : Sl prog 189 5 1 = true := by kernel_rfl
theorem Zr_5 : (prog.info? 5).map (·.zero) = some (some (.int .u8 0)) := by kernel_rfl
theorem Fun_77 : Fun prog 77 = true := by kernel_rfl
theorem Fun_8 : Fun prog 8 = true := by kernel_rfl
theorem Fun_9 : Fun prog 9 = true := by kernel_rfl
theorem Fun_10 : Fun prog 10 = true := by kernel_rfl
theorem Fun_7 : Fun prog 7 = true := by kernel_rfl
theorem Fun_11 : Fun prog 11 = true := by kernel_rfl
variable {Ψ Φ : Hp} {pv0 pv0_0 pv0_1 pv0_2 pv1_0 pv2 pv1 pv1_1 : Value} {pG0 pG0_0 pG0_1 pG0_2 pG1_0 pG2 pG1 pG1_1 : List Nat} (N : Nat)
theorem m_l_szVal_ok  (w0 : Base Ψ Φ []) (p0 : TVal) (p1 : Int)  {r : Int} (h : m_l_szVal N p0 p1 = some r) :
  CB w0 prog 140 [.agg [iV p0.K, iV p0.N, .string p0.S].toArray, iV p1] (iV r) := by
 refine eN func140 rfl ntmps140 rfl w0 fun hF => ?_
 unfold m_l_szVal at h
 refine sr <| lbx rfl fun b_1 => arr 7 [2, 0] rfl <| lq (q_lenS Str_9 rfl rfl) rfl <| art 9 [] rfl ?_
 refine ch h rfl ?_ ?_ <;> intro h
 ·refine att 4 [] rfl ?_
  exact rt hF h
 refine att 6 [] rfl ?_
 exact rt hF h
theorem m_l_szArg_ok  (w0 : Base Ψ Φ []) (p0 : TArg) (p1 : Int)  {r : Int} (h : m_l_szArg N p0 p1 = some r) :
  CB w0 prog 137 [.agg [iV p0.K, .string p0.S, iV p0.V.K, iV p0.V.N, .string p0.V.S].toArray, iV p1] (iV r) := by
 refine eN func137 rfl ntmps137 rfl w0 fun hF => ?_
 unfold m_l_szArg at h
 refine sr <| lbx rfl fun b_1 => arr 7 [1, 0] rfl <| lq (q_lenS Str_9 rfl rfl) rfl <| art 9 [] rfl ?_
 refine ch h rfl ?_ ?_ <;> intro h
 ·refine att 4 [] rfl ?_
  exact rt hF h
 refine atr 6 [2, 3] rfl <| qc h (m_l_szVal_ok N · p0.V (wz (p1 - (p0.S.size : Int))) ·) rfl rfl rfl fun x1 h => art 8 [] rfl ?_
 refine ch h rfl ?_ ?_ <;> intro h
 ·refine att 4 [] rfl ?_
  exact rt hF h
 refine att 6 [] rfl ?_
 exact rt hF h
theorem m_l_szArgS_ok (w0 : Base Ψ Φ []) (p0 : (List TArg)) (p1 : Int) (ph0 : RSl RTArg 5 Ψ pG0 pv0 p0) {r : Int} (h : m_l_szArgS N p0 p1 = some r) :
  CB w0 prog 136 [pv0, iV p1] (iV r) := by
 refine eN func136 rfl ntmps136 rfl w0 fun hF => ?_
 unfold m_l_szArgS at h
 refine atr 8 [] rfl <| lnr ph0 rfl <| art 9 [] rfl ?_
 refine ch h rfl ?_ ?_ <;> intro h
 ·refine att 4 [] rfl ?_
  exact rt hF h
 refine att 7 [] rfl ?_
 refine lin (σ := Int × Int) (fun s => [(0, pv0), (1, iV s.1), (5, iV s.2)]) (fun s => St w0 Φ [] []) (fun m s => m_l_szArgS_l1 N p0 m s.1 s.2 = some r) (wz (p1 - (p0.length : Int)), 0) N h (sx [] []) (fun n1 ih1 s hm => ?_)
 obtain ⟨s1, s2⟩ := s
 have h : m_l_szArgS_l1 N p0 (n1 + 1) s1 s2 = some r := hm
 show WT _ _ [(0, pv0), (1, iV s1), (5, iV s2)] (St w0 Φ [] [])
 unfold m_l_szArgS_l1 at h
 refine atr 5 [] rfl <| lnr ph0 rfl <| la rfl <| en ?_
 refine ch h rfl ?_ ?_ <;> intro h
 ·refine atr 7 [] rfl ?_
  obtain ⟨x1, hx1, h⟩ := bs h
  obtain ⟨cs1, F1, -, g1, hb1, hs1, r1⟩ := ph0.el (idx_some hx1).2.2
  obtain ⟨rfl, -⟩ := r1
  refine lia ph0 hx1 rfl <| lhx 0 5 g1 rfl <| la rfl <| qc h (m_l_szArg_ok N · x1 s1 ·) rfl rfl rfl fun x2 h => art 7 [] rfl ?_
  refine ch h rfl ?_ ?_ <;> intro h
  ·refine att 4 [] rfl ?_
   exact rt hF h
  refine att 7 [] rfl ?_
  exact lb [] [] (ih1 (_, _) h)
 refine att 6 [] rfl ?_
 exact rt hF h
theorem m_l_szPat_ok (w0 : Base Ψ Φ []) (p0 : TPat) (p1 : Int) (ph0_0 : RSl RTArg 5 Ψ pG0_0 pv0_0 p0.Args) {r : Int} (h : m_l_szPat N p0 p1 = some r) :
  CB w0 prog 115 [.agg [.string p0.Kind, pv0_0, .bool p0.Not].toArray, iV p1] (iV r) := by
 refine eN func115 rfl ntmps115 rfl w0 fun hF => ?_
 unfold m_l_szPat at h
 refine sr <| lbx rfl fun b_1 => arr 7 [0, 0] rfl <| lq (q_lenS Str_9 rfl rfl) rfl <| art 9 [] rfl ?_
 refine ch h rfl ?_ ?_ <;> intro h
 ·refine att 4 [] rfl ?_
  exact rt hF h
 refine atr 6 [1, 0] rfl <| qd h (m_l_szArgS_ok N · p0.Args (wz (p1 - (p0.Kind.size : Int))) ph0_0 ·) rfl rfl rfl fun x1 h => art 8 [] rfl ?_
 refine ch h rfl ?_ ?_ <;> intro h
 ·refine att 4 [] rfl ?_
  exact rt hF h
 refine att 6 [] rfl ?_
 exact rt hF h
theorem m_l_szPatS_ok (w0 : Base Ψ Φ []) (p0 : (List TPat)) (p1 : Int) (ph0 : RSl RTPat 3 Ψ pG0 pv0 p0) {r : Int} (h : m_l_szPatS N p0 p1 = some r) :
  CB w0 prog 83 [pv0, iV p1] (iV r) := by
 refine eN func83 rfl ntmps83 rfl w0 fun hF => ?_
 unfold m_l_szPatS at h
 refine atr 8 [] rfl <| lnr ph0 rfl <| art 9 [] rfl ?_
 refine ch h rfl ?_ ?_ <;> intro h
 ·refine att 4 [] rfl ?_
  exact rt hF h
 refine att 7 [] rfl ?_
 refine lin (σ := Int × Int) (fun s => [(0, pv0), (1, iV s.1), (5, iV s.2)]) (fun s => St w0 Φ [] []) (fun m s => m_l_szPatS_l1 N p0 m s.1 s.2 = some r) (wz (p1 - (p0.length : Int)), 0) N h (sx [] []) (fun n1 ih1 s hm => ?_)
 obtain ⟨s1, s2⟩ := s
 have h : m_l_szPatS_l1 N p0 (n1 + 1) s1 s2 = some r := hm
 show WT _ _ [(0, pv0), (1, iV s1), (5, iV s2)] (St w0 Φ [] [])
 unfold m_l_szPatS_l1 at h
 refine atr 5 [] rfl <| lnr ph0 rfl <| la rfl <| en ?_
 refine ch h rfl ?_ ?_ <;> intro h
 ·refine atr 7 [] rfl ?_
  obtain ⟨x1, hx1, h⟩ := bs h
  obtain ⟨cs1, F1, -, g1, hb1, hs1, r1⟩ := ph0.el (idx_some hx1).2.2
  obtain ⟨v1, G1, rfl, hq1, h1⟩ := r1
  obtain rfl := hq1.symm
  refine lia ph0 hx1 rfl <| lhx 0 3 g1 rfl <| la rfl <| qd h (m_l_szPat_ok N · x1 s1 h1 ·) rfl rfl rfl fun x2 h => art 7 [] rfl ?_
  refine ch h rfl ?_ ?_ <;> intro h
  ·refine att 4 [] rfl ?_
   exact rt hF h
  refine att 7 [] rfl ?_
  exact lb [] [] (ih1 (_, _) h)
 refine att 6 [] rfl ?_
 exact rt hF h
theorem m_l_szCond_ok  (w0 : Base Ψ Φ []) (p0 : TCond) (p1 : Int)  {r : Int} (h : m_l_szCond N p0 p1 = some r) :
  CB w0 prog 116 [.agg [iV p0.Op, iV p0.L.K, .string p0.L.S, iV p0.L.V.K, iV p0.L.V.N, .string p0.L.V.S, iV p0.R.K, .string p0.R.S, iV p0.R.V.K, iV p0.R.V.N, .string p0.R.V.S].toArray, iV p1] (iV r) := by
 refine eN func116 rfl ntmps116 rfl w0 fun hF => ?_
 unfold m_l_szCond at h
 refine sr <| lbx rfl fun b_1 => arr 7 [1, 5] rfl <| qc h (m_l_szArg_ok N · p0.L p1 ·) rfl rfl rfl fun x1 h => art 8 [] rfl ?_
 refine ch h rfl ?_ ?_ <;> intro h
 ·refine att 4 [] rfl ?_
  exact rt hF h
 refine atr 6 [6, 5] rfl <| qc h (m_l_szArg_ok N · p0.R x1 ·) rfl rfl rfl fun x2 h => art 8 [] rfl ?_
 refine ch h rfl ?_ ?_ <;> intro h
 ·refine att 4 [] rfl ?_
  exact rt hF h
 refine att 6 [] rfl ?_
 exact rt hF h
theorem m_l_szCondS_ok (w0 : Base Ψ Φ []) (p0 : (List TCond)) (p1 : Int) (ph0 : RSl RTCond 11 Ψ pG0 pv0 p0) {r : Int} (h : m_l_szCondS N p0 p1 = some r) :
  CB w0 prog 84 [pv0, iV p1] (iV r) := by
 refine eN func84 rfl ntmps84 rfl w0 fun hF => ?_
 unfold m_l_szCondS at h
 refine atr 8 [] rfl <| lnr ph0 rfl <| art 9 [] rfl ?_
 refine ch h rfl ?_ ?_ <;> intro h
 ·refine att 4 [] rfl ?_
  exact rt hF h
 refine att 7 [] rfl ?_
 refine lin (σ := Int × Int) (fun s => [(0, pv0), (1, iV s.1), (5, iV s.2)]) (fun s => St w0 Φ [] []) (fun m s => m_l_szCondS_l1 N p0 m s.1 s.2 = some r) (wz (p1 - (p0.length : Int)), 0) N h (sx [] []) (fun n1 ih1 s hm => ?_)
 obtain ⟨s1, s2⟩ := s
 have h : m_l_szCondS_l1 N p0 (n1 + 1) s1 s2 = some r := hm
 show WT _ _ [(0, pv0), (1, iV s1), (5, iV s2)] (St w0 Φ [] [])
 unfold m_l_szCondS_l1 at h
 refine atr 5 [] rfl <| lnr ph0 rfl <| la rfl <| en ?_
 refine ch h rfl ?_ ?_ <;> intro h
 ·refine atr 7 [] rfl ?_
  obtain ⟨x1, hx1, h⟩ := bs h
  obtain ⟨cs1, F1, -, g1, hb1, hs1, r1⟩ := ph0.el (idx_some hx1).2.2
  obtain ⟨rfl, -⟩ := r1
  refine lia ph0 hx1 rfl <| lhx 0 11 g1 rfl <| la rfl <| qc h (m_l_szCond_ok N · x1 s1 ·) rfl rfl rfl fun x2 h => art 7 [] rfl ?_
  refine ch h rfl ?_ ?_ <;> intro h
  ·refine att 4 [] rfl ?_
   exact rt hF h
  refine att 7 [] rfl ?_
  exact lb [] [] (ih1 (_, _) h)
 refine att 6 [] rfl ?_
 exact rt hF h
theorem m_l_szExpr_ok  (w0 : Base Ψ Φ []) (p0 : TExpr) (p1 : Int)  {r : Int} (h : m_l_szExpr N p0 p1 = some r) :
  CB w0 prog 153 [.agg [.string p0.Op, iV p0.L.K, .string p0.L.S, iV p0.L.V.K, iV p0.L.V.N, .string p0.L.V.S, iV p0.R.K, .string p0.R.S, iV p0.R.V.K, iV p0.R.V.N, .string p0.R.V.S].toArray, iV p1] (iV r) := by
 refine eN func153 rfl ntmps153 rfl w0 fun hF => ?_
 unfold m_l_szExpr at h
 refine sr <| lbx rfl fun b_1 => arr 7 [0, 0] rfl <| lq (q_lenS Str_9 rfl rfl) rfl <| art 9 [] rfl ?_
 refine ch h rfl ?_ ?_ <;> intro h
 ·refine att 4 [] rfl ?_
  exact rt hF h
 refine atr 6 [1, 5] rfl <| qc h (m_l_szArg_ok N · p0.L (wz (p1 - (p0.Op.size : Int))) ·) rfl rfl rfl fun x1 h => art 8 [] rfl ?_
 refine ch h rfl ?_ ?_ <;> intro h
 ·refine att 4 [] rfl ?_
  exact rt hF h
 refine atr 6 [6, 5] rfl <| qc h (m_l_szArg_ok N · p0.R x1 ·) rfl rfl rfl fun x2 h => art 8 [] rfl ?_
 refine ch h rfl ?_ ?_ <;> intro h
 ·refine att 4 [] rfl ?_
  exact rt hF h
 refine att 6 [] rfl ?_
 exact rt hF h
theorem m_l_szExprS_ok (w0 : Base Ψ Φ []) (p0 : (List TExpr)) (p1 : Int) (ph0 : RSl RTExpr 11 Ψ pG0 pv0 p0) {r : Int} (h : m_l_szExprS N p0 p1 = some r) :
  CB w0 prog 138 [pv0, iV p1] (iV r) := by
 refine eN func138 rfl ntmps138 rfl w0 fun hF => ?_
 unfold m_l_szExprS at h
 refine atr 8 [] rfl <| lnr ph0 rfl <| art 9 [] rfl ?_
 refine ch h rfl ?_ ?_ <;> intro h
 ·refine att 4 [] rfl ?_
  exact rt hF h
 refine att 7 [] rfl ?_
 refine lin (σ := Int × Int) (fun s => [(0, pv0), (1, iV s.1), (5, iV s.2)]) (fun s => St w0 Φ [] []) (fun m s => m_l_szExprS_l1 N p0 m s.1 s.2 = some r) (wz (p1 - (p0.length : Int)), 0) N h (sx [] []) (fun n1 ih1 s hm => ?_)
 obtain ⟨s1, s2⟩ := s
 have h : m_l_szExprS_l1 N p0 (n1 + 1) s1 s2 = some r := hm
 show WT _ _ [(0, pv0), (1, iV s1), (5, iV s2)] (St w0 Φ [] [])
 unfold m_l_szExprS_l1 at h
 refine atr 5 [] rfl <| lnr ph0 rfl <| la rfl <| en ?_
 refine ch h rfl ?_ ?_ <;> intro h
 ·refine atr 7 [] rfl ?_
  obtain ⟨x1, hx1, h⟩ := bs h
  obtain ⟨cs1, F1, -, g1, hb1, hs1, r1⟩ := ph0.el (idx_some hx1).2.2
  obtain ⟨rfl, -⟩ := r1
  refine lia ph0 hx1 rfl <| lhx 0 11 g1 rfl <| la rfl <| qc h (m_l_szExpr_ok N · x1 s1 ·) rfl rfl rfl fun x2 h => art 7 [] rfl ?_
  refine ch h rfl ?_ ?_ <;> intro h
  ·refine att 4 [] rfl ?_
   exact rt hF h
  refine att 7 [] rfl ?_
  exact lb [] [] (ih1 (_, _) h)
 refine att 6 [] rfl ?_
 exact rt hF h
theorem m_l_szAct_ok (w0 : Base Ψ Φ []) (p0 : TAct) (p1 : Int) (ph0_0 : RSl RTExpr 11 Ψ pG0_0 pv0_0 p0.Args) {r : Int} (h : m_l_szAct N p0 p1 = some r) :
  CB w0 prog 117 [.agg [iV p0.Kind, .string p0.Name, pv0_0, iV p0.N, .string p0.Undo].toArray, iV p1] (iV r) := by
 refine eN func117 rfl ntmps117 rfl w0 fun hF => ?_
 unfold m_l_szAct at h
 refine sr <| lbx rfl fun b_1 => arr 7 [1, 0] rfl <| lq (q_lenS Str_9 rfl rfl) rfl <| art 9 [] rfl ?_
 refine ch h rfl ?_ ?_ <;> intro h
 ·refine att 4 [] rfl ?_
  exact rt hF h
 refine atr 6 [2, 0] rfl <| qd h (m_l_szExprS_ok N · p0.Args (wz (p1 - (p0.Name.size : Int))) ph0_0 ·) rfl rfl rfl fun x1 h => art 8 [] rfl ?_
 refine ch h rfl ?_ ?_ <;> intro h
 ·refine att 4 [] rfl ?_
  exact rt hF h
 refine atr 6 [4, 0] rfl <| lq (q_lenS Str_9 rfl rfl) rfl <| art 9 [] rfl ?_
 refine ch h rfl ?_ ?_ <;> intro h
 ·refine att 4 [] rfl ?_
  exact rt hF h
 refine att 6 [] rfl ?_
 exact rt hF h
theorem m_l_szActS_ok (w0 : Base Ψ Φ []) (p0 : (List TAct)) (p1 : Int) (ph0 : RSl RTAct 5 Ψ pG0 pv0 p0) {r : Int} (h : m_l_szActS N p0 p1 = some r) :
  CB w0 prog 85 [pv0, iV p1] (iV r) := by
 refine eN func85 rfl ntmps85 rfl w0 fun hF => ?_
 unfold m_l_szActS at h
 refine atr 8 [] rfl <| lnr ph0 rfl <| art 9 [] rfl ?_
 refine ch h rfl ?_ ?_ <;> intro h
 ·refine att 4 [] rfl ?_
  exact rt hF h
 refine att 7 [] rfl ?_
 refine lin (σ := Int × Int) (fun s => [(0, pv0), (1, iV s.1), (5, iV s.2)]) (fun s => St w0 Φ [] []) (fun m s => m_l_szActS_l1 N p0 m s.1 s.2 = some r) (wz (p1 - (p0.length : Int)), 0) N h (sx [] []) (fun n1 ih1 s hm => ?_)
 obtain ⟨s1, s2⟩ := s
 have h : m_l_szActS_l1 N p0 (n1 + 1) s1 s2 = some r := hm
 show WT _ _ [(0, pv0), (1, iV s1), (5, iV s2)] (St w0 Φ [] [])
 unfold m_l_szActS_l1 at h
 refine atr 5 [] rfl <| lnr ph0 rfl <| la rfl <| en ?_
 refine ch h rfl ?_ ?_ <;> intro h
 ·refine atr 7 [] rfl ?_
  obtain ⟨x1, hx1, h⟩ := bs h
  obtain ⟨cs1, F1, -, g1, hb1, hs1, r1⟩ := ph0.el (idx_some hx1).2.2
  obtain ⟨v1, G1, rfl, hq1, h1⟩ := r1
  obtain rfl := hq1.symm
  refine lia ph0 hx1 rfl <| lhx 0 5 g1 rfl <| la rfl <| qd h (m_l_szAct_ok N · x1 s1 h1 ·) rfl rfl rfl fun x2 h => art 7 [] rfl ?_
  refine ch h rfl ?_ ?_ <;> intro h
  ·refine att 4 [] rfl ?_
   exact rt hF h
  refine att 7 [] rfl ?_
  exact lb [] [] (ih1 (_, _) h)
 refine att 6 [] rfl ?_
 exact rt hF h
theorem m_l_szRule_ok (w0 : Base Ψ Φ []) (p0 : TRule) (p1 : Int) (ph0_0 : RSl RTPat 3 Ψ pG0_0 pv0_0 p0.Pats) (ph0_1 : RSl RTCond 11 Ψ pG0_1 pv0_1 p0.Conds) (ph0_2 : RSl RTAct 5 Ψ pG0_2 pv0_2 p0.Acts) {r : Int} (h : m_l_szRule N p0 p1 = some r) :
  CB w0 prog 52 [.agg [.string p0.Name, iV p0.Sal, pv0_0, pv0_1, pv0_2].toArray, iV p1] (iV r) := by
 refine eN func52 rfl ntmps52 rfl w0 fun hF => ?_
 unfold m_l_szRule at h
 refine sr <| lbx rfl fun b_1 => arr 7 [0, 0] rfl <| lq (q_lenS Str_9 rfl rfl) rfl <| art 9 [] rfl ?_
 refine ch h rfl ?_ ?_ <;> intro h
 ·refine att 4 [] rfl ?_
  exact rt hF h
 refine atr 6 [2, 0] rfl <| qd h (m_l_szPatS_ok N · p0.Pats (wz (p1 - (p0.Name.size : Int))) ph0_0 ·) rfl rfl rfl fun x1 h => art 8 [] rfl ?_
 refine ch h rfl ?_ ?_ <;> intro h
 ·refine att 4 [] rfl ?_
  exact rt hF h
 refine atr 6 [3, 0] rfl <| qd h (m_l_szCondS_ok N · p0.Conds x1 ph0_1 ·) rfl rfl rfl fun x2 h => art 8 [] rfl ?_
 refine ch h rfl ?_ ?_ <;> intro h
 ·refine att 4 [] rfl ?_
  exact rt hF h
 refine atr 6 [4, 0] rfl <| qd h (m_l_szActS_ok N · p0.Acts x2 ph0_2 ·) rfl rfl rfl fun x3 h => art 8 [] rfl ?_
 refine ch h rfl ?_ ?_ <;> intro h
 ·refine att 4 [] rfl ?_
  exact rt hF h
 refine att 6 [] rfl ?_
 exact rt hF h
theorem m_l_szRuleS_ok (w0 : Base Ψ Φ []) (p0 : (List TRule)) (p1 : Int) (ph0 : RSl RTRule 5 Ψ pG0 pv0 p0) {r : Int} (h : m_l_szRuleS N p0 p1 = some r) :
  CB w0 prog 21 [pv0, iV p1] (iV r) := by
 refine eN func21 rfl ntmps21 rfl w0 fun hF => ?_
 unfold m_l_szRuleS at h
 refine atr 8 [] rfl <| lnr ph0 rfl <| art 9 [] rfl ?_
 refine ch h rfl ?_ ?_ <;> intro h
 ·refine att 4 [] rfl ?_
  exact rt hF h
 refine att 7 [] rfl ?_
 refine lin (σ := Int × Int) (fun s => [(0, pv0), (1, iV s.1), (5, iV s.2)]) (fun s => St w0 Φ [] []) (fun m s => m_l_szRuleS_l1 N p0 m s.1 s.2 = some r) (wz (p1 - (p0.length : Int)), 0) N h (sx [] []) (fun n1 ih1 s hm => ?_)
 obtain ⟨s1, s2⟩ := s
 have h : m_l_szRuleS_l1 N p0 (n1 + 1) s1 s2 = some r := hm
 show WT _ _ [(0, pv0), (1, iV s1), (5, iV s2)] (St w0 Φ [] [])
 unfold m_l_szRuleS_l1 at h
 refine atr 5 [] rfl <| lnr ph0 rfl <| la rfl <| en ?_
 refine ch h rfl ?_ ?_ <;> intro h
 ·refine atr 7 [] rfl ?_
  obtain ⟨x1, hx1, h⟩ := bs h
  obtain ⟨cs1, F1, -, g1, hb1, hs1, r1⟩ := ph0.el (idx_some hx1).2.2
  obtain ⟨v1, G1, v2, G2, v3, G3, rfl, rfl, h1, h2, h3⟩ := r1
  refine lia ph0 hx1 rfl <| lhx 0 5 g1 rfl <| la rfl <| qd h (m_l_szRule_ok N · x1 s1 h1 h2 h3 ·) rfl rfl rfl fun x2 h => art 7 [] rfl ?_
  refine ch h rfl ?_ ?_ <;> intro h
  ·refine att 4 [] rfl ?_
   exact rt hF h
  refine att 7 [] rfl ?_
  exact lb [] [] (ih1 (_, _) h)
 refine att 6 [] rfl ?_
 exact rt hF h
theorem m_l_szDef_ok (w0 : Base Ψ Φ []) (p0 : TDef) (p1 : Int) (ph0_0 : RSl RTRule 5 Ψ pG0_0 pv0_0 p0.Rules) {r : Int} (h : m_l_szDef N p0 p1 = some r) :
  CB w0 prog 4 [.agg [.string p0.Name, pv0_0].toArray, iV p1] (iV r) := by
 refine eN func4 rfl ntmps4 rfl w0 fun hF => ?_
 unfold m_l_szDef at h
 refine sr <| lbx rfl fun b_1 => arr 7 [0, 0] rfl <| lq (q_lenS Str_9 rfl rfl) rfl <| art 9 [] rfl ?_
 refine ch h rfl ?_ ?_ <;> intro h
 ·refine att 4 [] rfl ?_
  exact rt hF h
 refine atr 6 [1, 0] rfl <| qd h (m_l_szRuleS_ok N · p0.Rules (wz (p1 - (p0.Name.size : Int))) ph0_0 ·) rfl rfl rfl fun x1 h => art 8 [] rfl ?_
 refine ch h rfl ?_ ?_ <;> intro h
 ·refine att 4 [] rfl ?_
  exact rt hF h
 refine att 6 [] rfl ?_
 exact rt hF h
theorem m_l_szIntS_ok (w0 : Base Ψ Φ []) (p0 : (List Int)) (p1 : Int) (ph0 : RSl (RI .i64) 1 Ψ pG0 pv0 p0) {r : Int} (h : m_l_szIntS N p0 p1 = some r) :
  CB w0 prog 86 [pv0, iV p1] (iV r) := by
 refine eN func86 rfl ntmps86 rfl w0 fun hF => ?_
 unfold m_l_szIntS at h
 refine atr 8 [] rfl <| lnr ph0 rfl <| art 9 [] rfl ?_
 refine ch h rfl ?_ ?_ <;> intro h
 ·refine att 4 [] rfl ?_
  exact rt hF h
 refine att 6 [] rfl ?_
 exact rt hF h
theorem m_l_szIds_ok (w0 : Base Ψ Φ []) (p0 : TIds) (p1 : Int) (ph0_0 : RSl (RI .i64) 1 Ψ pG0_0 pv0_0 p0.L) {r : Int} (h : m_l_szIds N p0 p1 = some r) :
  CB w0 prog 53 [.agg [pv0_0].toArray, iV p1] (iV r) := by
 refine eN func53 rfl ntmps53 rfl w0 fun hF => ?_
 unfold m_l_szIds at h
 refine sr ?_
 refine ln (n_box (C := #[pv0_0]) rfl rfl) rfl (fun b_1 => ?_)
 refine arr 7 [0, 0] rfl <| qd h (m_l_szIntS_ok N · p0.L p1 ph0_0 ·) rfl rfl rfl fun x1 h => art 8 [] rfl ?_
 refine ch h rfl ?_ ?_ <;> intro h
 ·refine att 4 [] rfl ?_
  exact rt hF h
 refine att 6 [] rfl ?_
 exact rt hF h
theorem m_l_szIdsS_ok (w0 : Base Ψ Φ []) (p0 : (List TIds)) (p1 : Int) (ph0 : RSl RTIds 1 Ψ pG0 pv0 p0) {r : Int} (h : m_l_szIdsS N p0 p1 = some r) :
  CB w0 prog 22 [pv0, iV p1] (iV r) := by
 refine eN func22 rfl ntmps22 rfl w0 fun hF => ?_
 unfold m_l_szIdsS at h
 refine atr 8 [] rfl <| lnr ph0 rfl <| art 9 [] rfl ?_
 refine ch h rfl ?_ ?_ <;> intro h
 ·refine att 4 [] rfl ?_
  exact rt hF h
 refine att 7 [] rfl ?_
 refine lin (σ := Int × Int) (fun s => [(0, pv0), (1, iV s.1), (5, iV s.2)]) (fun s => St w0 Φ [] []) (fun m s => m_l_szIdsS_l1 N p0 m s.1 s.2 = some r) (wz (p1 - (p0.length : Int)), 0) N h (sx [] []) (fun n1 ih1 s hm => ?_)
 obtain ⟨s1, s2⟩ := s
 have h : m_l_szIdsS_l1 N p0 (n1 + 1) s1 s2 = some r := hm
 show WT _ _ [(0, pv0), (1, iV s1), (5, iV s2)] (St w0 Φ [] [])
 unfold m_l_szIdsS_l1 at h
 refine atr 5 [] rfl <| lnr ph0 rfl <| la rfl <| en ?_
 refine ch h rfl ?_ ?_ <;> intro h
 ·refine atr 7 [] rfl ?_
  obtain ⟨x1, hx1, h⟩ := bs h
  obtain ⟨cs1, F1, -, g1, hb1, hs1, r1⟩ := ph0.el (idx_some hx1).2.2
  obtain ⟨v1, G1, rfl, hq1, h1⟩ := r1
  obtain rfl := hq1.symm
  refine lia ph0 hx1 rfl <| lhx 0 1 g1 rfl <| la rfl <| qd h (m_l_szIds_ok N · x1 s1 h1 ·) rfl rfl rfl fun x2 h => art 7 [] rfl ?_
  refine ch h rfl ?_ ?_ <;> intro h
  ·refine att 4 [] rfl ?_
   exact rt hF h
  refine att 7 [] rfl ?_
  exact lb [] [] (ih1 (_, _) h)
 refine att 6 [] rfl ?_
 exact rt hF h
theorem m_l_szTok_ok (w0 : Base Ψ Φ []) (p0 : TTok) (p1 : Int) (ph0_0 : RSl (RI .i64) 1 Ψ pG0_0 pv0_0 p0.Ids) (ph0_1 : RSl (RI .i64) 1 Ψ pG0_1 pv0_1 p0.Hits) {r : Int} (h : m_l_szTok N p0 p1 = some r) :
  CB w0 prog 154 [.agg [pv0_0, pv0_1].toArray, iV p1] (iV r) := by
 refine eN func154 rfl ntmps154 rfl w0 fun hF => ?_
 unfold m_l_szTok at h
 refine sr <| lbx rfl fun b_1 => arr 7 [0, 0] rfl <| qd h (m_l_szIntS_ok N · p0.Ids p1 ph0_0 ·) rfl rfl rfl fun x1 h => art 8 [] rfl ?_
 refine ch h rfl ?_ ?_ <;> intro h
 ·refine att 4 [] rfl ?_
  exact rt hF h
 refine atr 6 [1, 0] rfl <| qd h (m_l_szIntS_ok N · p0.Hits x1 ph0_1 ·) rfl rfl rfl fun x2 h => art 8 [] rfl ?_
 refine ch h rfl ?_ ?_ <;> intro h
 ·refine att 4 [] rfl ?_
  exact rt hF h
 refine att 6 [] rfl ?_
 exact rt hF h
theorem m_l_szTokS_ok (w0 : Base Ψ Φ []) (p0 : (List TTok)) (p1 : Int) (ph0 : RSl RTTok 2 Ψ pG0 pv0 p0) {r : Int} (h : m_l_szTokS N p0 p1 = some r) :
  CB w0 prog 139 [pv0, iV p1] (iV r) := by
 refine eN func139 rfl ntmps139 rfl w0 fun hF => ?_
 unfold m_l_szTokS at h
 refine atr 8 [] rfl <| lnr ph0 rfl <| art 9 [] rfl ?_
 refine ch h rfl ?_ ?_ <;> intro h
 ·refine att 4 [] rfl ?_
  exact rt hF h
 refine att 7 [] rfl ?_
 refine lin (σ := Int × Int) (fun s => [(0, pv0), (1, iV s.1), (5, iV s.2)]) (fun s => St w0 Φ [] []) (fun m s => m_l_szTokS_l1 N p0 m s.1 s.2 = some r) (wz (p1 - (p0.length : Int)), 0) N h (sx [] []) (fun n1 ih1 s hm => ?_)
 obtain ⟨s1, s2⟩ := s
 have h : m_l_szTokS_l1 N p0 (n1 + 1) s1 s2 = some r := hm
 show WT _ _ [(0, pv0), (1, iV s1), (5, iV s2)] (St w0 Φ [] [])
 unfold m_l_szTokS_l1 at h
 refine atr 5 [] rfl <| lnr ph0 rfl <| la rfl <| en ?_
 refine ch h rfl ?_ ?_ <;> intro h
 ·refine atr 7 [] rfl ?_
  obtain ⟨x1, hx1, h⟩ := bs h
  obtain ⟨cs1, F1, -, g1, hb1, hs1, r1⟩ := ph0.el (idx_some hx1).2.2
  obtain ⟨v1, G1, v2, G2, rfl, rfl, h1, h2⟩ := r1
  refine lia ph0 hx1 rfl <| lhx 0 2 g1 rfl <| la rfl <| qd h (m_l_szTok_ok N · x1 s1 h1 h2 ·) rfl rfl rfl fun x2 h => art 7 [] rfl ?_
  refine ch h rfl ?_ ?_ <;> intro h
  ·refine att 4 [] rfl ?_
   exact rt hF h
  refine att 7 [] rfl ?_
  exact lb [] [] (ih1 (_, _) h)
 refine att 6 [] rfl ?_
 exact rt hF h
theorem m_l_szLevel_ok (w0 : Base Ψ Φ []) (p0 : TLevel) (p1 : Int) (ph0_0 : RSl RTTok 2 Ψ pG0_0 pv0_0 p0.Toks) {r : Int} (h : m_l_szLevel N p0 p1 = some r) :
  CB w0 prog 118 [.agg [pv0_0].toArray, iV p1] (iV r) := by
 refine eN func118 rfl ntmps118 rfl w0 fun hF => ?_
 unfold m_l_szLevel at h
 refine sr ?_
 refine ln (n_box (C := #[pv0_0]) rfl rfl) rfl (fun b_1 => ?_)
 refine arr 7 [0, 0] rfl <| qd h (m_l_szTokS_ok N · p0.Toks p1 ph0_0 ·) rfl rfl rfl fun x1 h => art 8 [] rfl ?_
 refine ch h rfl ?_ ?_ <;> intro h
 ·refine att 4 [] rfl ?_
  exact rt hF h
 refine att 6 [] rfl ?_
 exact rt hF h
theorem m_l_szLevelS_ok (w0 : Base Ψ Φ []) (p0 : (List TLevel)) (p1 : Int) (ph0 : RSl RTLevel 1 Ψ pG0 pv0 p0) {r : Int} (h : m_l_szLevelS N p0 p1 = some r) :
  CB w0 prog 87 [pv0, iV p1] (iV r) := by
 refine eN func87 rfl ntmps87 rfl w0 fun hF => ?_
 unfold m_l_szLevelS at h
 refine atr 8 [] rfl <| lnr ph0 rfl <| art 9 [] rfl ?_
 refine ch h rfl ?_ ?_ <;> intro h
 ·refine att 4 [] rfl ?_
  exact rt hF h
 refine att 7 [] rfl ?_
 refine lin (σ := Int × Int) (fun s => [(0, pv0), (1, iV s.1), (5, iV s.2)]) (fun s => St w0 Φ [] []) (fun m s => m_l_szLevelS_l1 N p0 m s.1 s.2 = some r) (wz (p1 - (p0.length : Int)), 0) N h (sx [] []) (fun n1 ih1 s hm => ?_)
 obtain ⟨s1, s2⟩ := s
 have h : m_l_szLevelS_l1 N p0 (n1 + 1) s1 s2 = some r := hm
 show WT _ _ [(0, pv0), (1, iV s1), (5, iV s2)] (St w0 Φ [] [])
 unfold m_l_szLevelS_l1 at h
 refine atr 5 [] rfl <| lnr ph0 rfl <| la rfl <| en ?_
 refine ch h rfl ?_ ?_ <;> intro h
 ·refine atr 7 [] rfl ?_
  obtain ⟨x1, hx1, h⟩ := bs h
  obtain ⟨cs1, F1, -, g1, hb1, hs1, r1⟩ := ph0.el (idx_some hx1).2.2
  obtain ⟨v1, G1, rfl, hq1, h1⟩ := r1
  obtain rfl := hq1.symm
  refine lia ph0 hx1 rfl <| lhx 0 1 g1 rfl <| la rfl <| qd h (m_l_szLevel_ok N · x1 s1 h1 ·) rfl rfl rfl fun x2 h => art 7 [] rfl ?_
  refine ch h rfl ?_ ?_ <;> intro h
  ·refine att 4 [] rfl ?_
   exact rt hF h
  refine att 7 [] rfl ?_
  exact lb [] [] (ih1 (_, _) h)
 refine att 6 [] rfl ?_
 exact rt hF h
theorem m_l_szRow_ok (w0 : Base Ψ Φ []) (p0 : TRow) (p1 : Int) (ph0_0 : RSl RTLevel 1 Ψ pG0_0 pv0_0 p0.Levels) {r : Int} (h : m_l_szRow N p0 p1 = some r) :
  CB w0 prog 54 [.agg [pv0_0].toArray, iV p1] (iV r) := by
 refine eN func54 rfl ntmps54 rfl w0 fun hF => ?_
 unfold m_l_szRow at h
 refine sr ?_
 refine ln (n_box (C := #[pv0_0]) rfl rfl) rfl (fun b_1 => ?_)
 refine arr 7 [0, 0] rfl <| qd h (m_l_szLevelS_ok N · p0.Levels p1 ph0_0 ·) rfl rfl rfl fun x1 h => art 8 [] rfl ?_
 refine ch h rfl ?_ ?_ <;> intro h
 ·refine att 4 [] rfl ?_
  exact rt hF h
 refine att 6 [] rfl ?_
 exact rt hF h
theorem m_l_szRowS_ok (w0 : Base Ψ Φ []) (p0 : (List TRow)) (p1 : Int) (ph0 : RSl RTRow 1 Ψ pG0 pv0 p0) {r : Int} (h : m_l_szRowS N p0 p1 = some r) :
  CB w0 prog 23 [pv0, iV p1] (iV r) := by
 refine eN func23 rfl ntmps23 rfl w0 fun hF => ?_
 unfold m_l_szRowS at h
 refine atr 8 [] rfl <| lnr ph0 rfl <| art 9 [] rfl ?_
 refine ch h rfl ?_ ?_ <;> intro h
 ·refine att 4 [] rfl ?_
  exact rt hF h
 refine att 7 [] rfl ?_
 refine lin (σ := Int × Int) (fun s => [(0, pv0), (1, iV s.1), (5, iV s.2)]) (fun s => St w0 Φ [] []) (fun m s => m_l_szRowS_l1 N p0 m s.1 s.2 = some r) (wz (p1 - (p0.length : Int)), 0) N h (sx [] []) (fun n1 ih1 s hm => ?_)
 obtain ⟨s1, s2⟩ := s
 have h : m_l_szRowS_l1 N p0 (n1 + 1) s1 s2 = some r := hm
 show WT _ _ [(0, pv0), (1, iV s1), (5, iV s2)] (St w0 Φ [] [])
 unfold m_l_szRowS_l1 at h
 refine atr 5 [] rfl <| lnr ph0 rfl <| la rfl <| en ?_
 refine ch h rfl ?_ ?_ <;> intro h
 ·refine atr 7 [] rfl ?_
  obtain ⟨x1, hx1, h⟩ := bs h
  obtain ⟨cs1, F1, -, g1, hb1, hs1, r1⟩ := ph0.el (idx_some hx1).2.2
  obtain ⟨v1, G1, rfl, hq1, h1⟩ := r1
  obtain rfl := hq1.symm
  refine lia ph0 hx1 rfl <| lhx 0 1 g1 rfl <| la rfl <| qd h (m_l_szRow_ok N · x1 s1 h1 ·) rfl rfl rfl fun x2 h => art 7 [] rfl ?_
  refine ch h rfl ?_ ?_ <;> intro h
  ·refine att 4 [] rfl ?_
   exact rt hF h
  refine att 7 [] rfl ?_
  exact lb [] [] (ih1 (_, _) h)
 refine att 6 [] rfl ?_
 exact rt hF h
theorem m_l_szMem_ok (w0 : Base Ψ Φ []) (p0 : TMem) (p1 : Int) (ph0_0 : RSl RTIds 1 Ψ pG0_0 pv0_0 p0.Alphas) (ph0_1 : RSl RTRow 1 Ψ pG0_1 pv0_1 p0.Rules) {r : Int} (h : m_l_szMem N p0 p1 = some r) :
  CB w0 prog 5 [.agg [pv0_0, pv0_1].toArray, iV p1] (iV r) := by
 refine eN func5 rfl ntmps5 rfl w0 fun hF => ?_
 unfold m_l_szMem at h
 refine sr <| lbx rfl fun b_1 => arr 7 [0, 0] rfl <| qd h (m_l_szIdsS_ok N · p0.Alphas p1 ph0_0 ·) rfl rfl rfl fun x1 h => art 8 [] rfl ?_
 refine ch h rfl ?_ ?_ <;> intro h
 ·refine att 4 [] rfl ?_
  exact rt hF h
 refine atr 6 [1, 0] rfl <| qd h (m_l_szRowS_ok N · p0.Rules x1 ph0_1 ·) rfl rfl rfl fun x2 h => art 8 [] rfl ?_
 refine ch h rfl ?_ ?_ <;> intro h
 ·refine att 4 [] rfl ?_
  exact rt hF h
 refine att 6 [] rfl ?_
 exact rt hF h
theorem m_l_szValS_ok (w0 : Base Ψ Φ []) (p0 : (List TVal)) (p1 : Int) (ph0 : RSl RTVal 3 Ψ pG0 pv0 p0) {r : Int} (h : m_l_szValS N p0 p1 = some r) :
  CB w0 prog 119 [pv0, iV p1] (iV r) := by
 refine eN func119 rfl ntmps119 rfl w0 fun hF => ?_
 unfold m_l_szValS at h
 refine atr 8 [] rfl <| lnr ph0 rfl <| art 9 [] rfl ?_
 refine ch h rfl ?_ ?_ <;> intro h
 ·refine att 4 [] rfl ?_
  exact rt hF h
 refine att 7 [] rfl ?_
 refine lin (σ := Int × Int) (fun s => [(0, pv0), (1, iV s.1), (5, iV s.2)]) (fun s => St w0 Φ [] []) (fun m s => m_l_szValS_l1 N p0 m s.1 s.2 = some r) (wz (p1 - (p0.length : Int)), 0) N h (sx [] []) (fun n1 ih1 s hm => ?_)
 obtain ⟨s1, s2⟩ := s
 have h : m_l_szValS_l1 N p0 (n1 + 1) s1 s2 = some r := hm
 show WT _ _ [(0, pv0), (1, iV s1), (5, iV s2)] (St w0 Φ [] [])
 unfold m_l_szValS_l1 at h
 refine atr 5 [] rfl <| lnr ph0 rfl <| la rfl <| en ?_
 refine ch h rfl ?_ ?_ <;> intro h
 ·refine atr 7 [] rfl ?_
  obtain ⟨x1, hx1, h⟩ := bs h
  obtain ⟨cs1, F1, -, g1, hb1, hs1, r1⟩ := ph0.el (idx_some hx1).2.2
  obtain ⟨rfl, -⟩ := r1
  refine lia ph0 hx1 rfl <| lhx 0 3 g1 rfl <| la rfl <| qc h (m_l_szVal_ok N · x1 s1 ·) rfl rfl rfl fun x2 h => art 7 [] rfl ?_
  refine ch h rfl ?_ ?_ <;> intro h
  ·refine att 4 [] rfl ?_
   exact rt hF h
  refine att 7 [] rfl ?_
  exact lb [] [] (ih1 (_, _) h)
 refine att 6 [] rfl ?_
 exact rt hF h
theorem m_l_szFact_ok (w0 : Base Ψ Φ []) (p0 : TFact) (p1 : Int) (ph0_0 : RSl RTVal 3 Ψ pG0_0 pv0_0 p0.Fields) {r : Int} (h : m_l_szFact N p0 p1 = some r) :
  CB w0 prog 88 [.agg [.string p0.Kind, pv0_0].toArray, iV p1] (iV r) := by
 refine eN func88 rfl ntmps88 rfl w0 fun hF => ?_
 unfold m_l_szFact at h
 refine sr <| lbx rfl fun b_1 => arr 7 [0, 0] rfl <| lq (q_lenS Str_9 rfl rfl) rfl <| art 9 [] rfl ?_
 refine ch h rfl ?_ ?_ <;> intro h
 ·refine att 4 [] rfl ?_
  exact rt hF h
 refine atr 6 [1, 0] rfl <| qd h (m_l_szValS_ok N · p0.Fields (wz (p1 - (p0.Kind.size : Int))) ph0_0 ·) rfl rfl rfl fun x1 h => art 8 [] rfl ?_
 refine ch h rfl ?_ ?_ <;> intro h
 ·refine att 4 [] rfl ?_
  exact rt hF h
 refine att 6 [] rfl ?_
 exact rt hF h
theorem m_l_szItem_ok (w0 : Base Ψ Φ []) (p0 : TItem) (p1 : Int) (ph0_0 : RSl RTVal 3 Ψ pG0_0 pv0_0 p0.F.Fields) {r : Int} (h : m_l_szItem N p0 p1 = some r) :
  CB w0 prog 55 [.agg [iV p0.Id, .string p0.F.Kind, pv0_0].toArray, iV p1] (iV r) := by
 refine eN func55 rfl ntmps55 rfl w0 fun hF => ?_
 unfold m_l_szItem at h
 refine sr <| lbx rfl fun b_1 => arr 7 [1, 2] rfl <| qd h (m_l_szFact_ok N · p0.F p1 ph0_0 ·) rfl rfl rfl fun x1 h => art 8 [] rfl ?_
 refine ch h rfl ?_ ?_ <;> intro h
 ·refine att 4 [] rfl ?_
  exact rt hF h
 refine att 6 [] rfl ?_
 exact rt hF h
theorem m_l_szItemS_ok (w0 : Base Ψ Φ []) (p0 : (List TItem)) (p1 : Int) (ph0 : RSl RTItem 3 Ψ pG0 pv0 p0) {r : Int} (h : m_l_szItemS N p0 p1 = some r) :
  CB w0 prog 24 [pv0, iV p1] (iV r) := by
 refine eN func24 rfl ntmps24 rfl w0 fun hF => ?_
 unfold m_l_szItemS at h
 refine atr 8 [] rfl <| lnr ph0 rfl <| art 9 [] rfl ?_
 refine ch h rfl ?_ ?_ <;> intro h
 ·refine att 4 [] rfl ?_
  exact rt hF h
 refine att 7 [] rfl ?_
 refine lin (σ := Int × Int) (fun s => [(0, pv0), (1, iV s.1), (5, iV s.2)]) (fun s => St w0 Φ [] []) (fun m s => m_l_szItemS_l1 N p0 m s.1 s.2 = some r) (wz (p1 - (p0.length : Int)), 0) N h (sx [] []) (fun n1 ih1 s hm => ?_)
 obtain ⟨s1, s2⟩ := s
 have h : m_l_szItemS_l1 N p0 (n1 + 1) s1 s2 = some r := hm
 show WT _ _ [(0, pv0), (1, iV s1), (5, iV s2)] (St w0 Φ [] [])
 unfold m_l_szItemS_l1 at h
 refine atr 5 [] rfl <| lnr ph0 rfl <| la rfl <| en ?_
 refine ch h rfl ?_ ?_ <;> intro h
 ·refine atr 7 [] rfl ?_
  obtain ⟨x1, hx1, h⟩ := bs h
  obtain ⟨cs1, F1, -, g1, hb1, hs1, r1⟩ := ph0.el (idx_some hx1).2.2
  obtain ⟨v1, G1, rfl, hq1, h1⟩ := r1
  obtain rfl := hq1.symm
  refine lia ph0 hx1 rfl <| lhx 0 3 g1 rfl <| la rfl <| qd h (m_l_szItem_ok N · x1 s1 h1 ·) rfl rfl rfl fun x2 h => art 7 [] rfl ?_
  refine ch h rfl ?_ ?_ <;> intro h
  ·refine att 4 [] rfl ?_
   exact rt hF h
  refine att 7 [] rfl ?_
  exact lb [] [] (ih1 (_, _) h)
 refine att 6 [] rfl ?_
 exact rt hF h
theorem m_l_szStore_ok (w0 : Base Ψ Φ []) (p0 : TStore) (p1 : Int) (ph0_0 : RSl RTItem 3 Ψ pG0_0 pv0_0 p0.Items) {r : Int} (h : m_l_szStore N p0 p1 = some r) :
  CB w0 prog 6 [.agg [pv0_0, iV p0.Next].toArray, iV p1] (iV r) := by
 refine eN func6 rfl ntmps6 rfl w0 fun hF => ?_
 unfold m_l_szStore at h
 refine sr <| lbx rfl fun b_1 => arr 7 [0, 0] rfl <| qd h (m_l_szItemS_ok N · p0.Items p1 ph0_0 ·) rfl rfl rfl fun x1 h => art 8 [] rfl ?_
 refine ch h rfl ?_ ?_ <;> intro h
 ·refine att 4 [] rfl ?_
  exact rt hF h
 refine att 6 [] rfl ?_
 exact rt hF h
theorem m_s_l3Copy_ok (w0 : Base Ψ Φ []) (p0 : TFact) (ph0_0 : RSl RTVal 3 Ψ pG0_0 pv0_0 p0.Fields) {r : TFact} (h : m_s_l3Copy N p0 = some r) :
  Calls prog 89 [.agg [.string p0.Kind, pv0_0].toArray].toArray w0.w (PostG Φ w0.w [] (fun Φ' Fs v => ∃ (sr_0_0 : Value), v = .agg [.string r.Kind, sr_0_0].toArray ∧ Fs = [ob sr_0_0] ∧ OSl RTVal 133 3 Φ' [] sr_0_0 r.Fields)) := by
 refine eN func89 rfl ntmps89 rfl w0 fun hF => ?_
 unfold m_s_l3Copy at h
 refine sr <| lbx rfl fun b_1 => lnz Zr_127 rfl fun b_2 => en <| sr <| le' (e_lit0 RTVal.lasts Sl_125 Zr_133 rfl rfl) rfl ?_
 rintro v1 Φ_1 D1 ⟨fr1, h1⟩
 refine arr 2 [1, 32] rfl <| lu0 ph0_0 fun h2 => ?_
 obtain ⟨x1, hx1, h⟩ := bs h
 refine le' (e_appF RTVal.lasts RTVal.one RTVal.flat Sl_125 Ei_133 rfl rfl rfl rfl rfl (js := [0]) (Rr := []) rfl h1 h2 hx1) rfl ?_
 rintro v2 Φ_2 D2 ⟨⟨ap1, fr2⟩, h3⟩
 refine lf Fld_127_1 rfl rfl rfl <| so1 1 Sz_125 rfl h3.one ?_
 refine arr 4 [34] rfl <| soN 0 Sz_127 rfl ⟨rfl, h3.one, trivial⟩ rfl ?_
 refine en ?_
 exact rtg [0] hF (resOk.one (rv_cell Tn_127 rfl (fun w1 hw => hw.rgO (i := 0) rfl 0 2 [.string p0.Kind, v2] rfl) rfl)) rfl (by cases h; exact fun w1 hw => ⟨v2, rfl, rfl, h3⟩)
theorem m_s_FactOf_ok (w0 : Base Ψ Φ []) (p0 : TStore) (p1 : Int) (ph0_0 : RSl RTItem 3 Ψ pG0_0 pv0_0 p0.Items) {r : TFact × Bool} (h : m_s_FactOf N p0 p1 = some r) :
  Calls prog 56 [.agg [pv0_0, iV p0.Next].toArray, iV p1].toArray w0.w (PostG Φ w0.w [] (fun Φ' Fs v => ∃ (sr_0_0 : Value), v = .tuple #[.agg [.string r.1.Kind, sr_0_0].toArray, .bool r.2] ∧ Fs = [ob sr_0_0] ∧ OSl RTVal 133 3 Φ' [] sr_0_0 r.1.Fields)) := by
 refine eN func56 rfl ntmps56 rfl w0 fun hF => ?_
 unfold m_s_FactOf at h
 refine sr <| lbx rfl fun b_1 => lnz Zr_127 rfl fun b_2 => art 8 [] rfl ?_
 refine lin (σ := Int) (fun s => [(1, iV p1), (2, pQ b_1), (4, pQ b_2), (6, iV s)]) (fun s => St w0 Φ [(b_2, .cells #[.string (⟨#[]⟩ : ByteArray), .slice none 0 0] 127 (0, 0)), (b_1, .cells #[pv0_0, iV p0.Next] 48 (0, 0))] []) (fun m s => m_s_FactOf_l1 N p0 p1 m s = some r) (0) N h (sx [] [0, 0]) (fun n1 ih1 s hm => ?_)
 revert hm; revert s; intro s1 hm
 have h : m_s_FactOf_l1 N p0 p1 (n1 + 1) s1 = some r := hm
 show WT _ _ [(1, iV p1), (2, pQ b_1), (4, pQ b_2), (6, iV s1)] (St w0 Φ [(b_2, .cells #[.string (⟨#[]⟩ : ByteArray), .slice none 0 0] 127 (0, 0)), (b_1, .cells #[pv0_0, iV p0.Next] 48 (0, 0))] [])
 unfold m_s_FactOf_l1 at h
 refine atr 6 [0, 32] rfl <| lnr ph0_0 rfl <| la rfl <| en ?_
 refine ch h rfl ?_ ?_ <;> intro h
 ·refine atr 8 [0, 32] rfl ?_
  obtain ⟨x1, hx1, h⟩ := bs h
  obtain ⟨cs1, F1, -, g1, hb1, hs1, r1⟩ := ph0_0.el (idx_some hx1).2.2
  obtain ⟨v1, G1, rfl, hq1, h1⟩ := r1
  obtain rfl := hq1.symm
  refine lia ph0_0 hx1 rfl <| lf Fld_143_0 rfl rfl rfl <| lhx 0 0 g1 rfl <| art 3 [] rfl ?_
  refine ch h rfl ?_ ?_ <;> intro h
  ·refine atr 5 [0, 32] rfl ?_
   obtain ⟨x2, hx2, h⟩ := bs h
   obtain ⟨cs2, F2, -, g2, hb2, hs2, r2⟩ := ph0_0.el (idx_some hx2).2.2
   obtain ⟨v2, G2, rfl, hq2, h2⟩ := r2
   obtain rfl := hq2.symm
   refine lia ph0_0 hx2 rfl <| lf Fld_143_1 rfl rfl rfl <| lhx 1 2 g2 rfl <| kab h rfl rfl rfl (fun b z q => m_s_l3Copy_ok N b x2.F (h2.y z) q) ?_
   rintro x3 h v3 Φ_1 F3 ⟨ap1, fr1, v4, rfl, rfl, h3⟩
   refine soN 0 Sz_127 rfl ⟨rfl, h3.one, trivial⟩ rfl ?_
   refine la rfl <| en ?_
   exact rtg [0] hF (resOk.two (rv_cell Tn_127 rfl (fun w1 hw => hw.rgO (i := 0) rfl 0 2 [.string x3.Kind, v4] rfl) rfl) rfl) rfl (by cases h; exact fun w1 hw => ⟨v4, rfl, rfl, h3⟩)
  refine att 7 [] rfl ?_
  exact lb [] [0, 0] (ih1 _ h)
 refine xt rfl <| sr <| lq (q_build (vs := []) (C := #[.string (⟨#[]⟩ : ByteArray), .slice none 0 0]) Pl_127 Zr_127 rfl (fill_nil)) rfl <| soN 0 Sz_127 rfl ⟨rfl, rfl, trivial⟩ rfl ?_
 refine la rfl <| en ?_
 refine WT.ret hF (resOk.two (rv_cell Tn_127 rfl (fun w1 hw => hw.rgO (i := 0) rfl 0 2 [.string (⟨#[]⟩ : ByteArray), .slice none 0 0] rfl) rfl) rfl) (fun w1 hw => ?_)
 cases h
 replace hw := hw.addNil
 refine postG_of_St (js := [0]) hw rfl ⟨.slice none 0 0, rfl, rfl, OSl.nil _ _ _ _⟩
theorem m_s_BindOf_ok (w0 : Base Ψ Φ []) (p0 : (List TBind)) (p1 : ByteArray) (ph0 : RSl RTBind 4 Ψ pG0 pv0 p0) {r : TVal × Bool} (h : m_s_BindOf N p0 p1 = some r) :
  CB w0 prog 90 [pv0, .string p1] (.tuple #[.agg [iV r.1.K, iV r.1.N, .string r.1.S].toArray, .bool r.2]) := by
 refine eN func90 rfl ntmps90 rfl w0 fun hF => ?_
 unfold m_s_BindOf at h
 refine sr <| lnz Zr_133 rfl fun b_1 => art 8 [] rfl ?_
 refine lin (σ := Int) (fun s => [(0, pv0), (1, .string p1), (4, pQ b_1), (6, iV s)]) (fun s => St w0 Φ [(b_1, .cells #[iV 0, iV 0, .string (⟨#[]⟩ : ByteArray)] 133 (0, 0))] []) (fun m s => m_s_BindOf_l1 N p0 p1 m s = some r) (0) N h (sx [] [0]) (fun n1 ih1 s hm => ?_)
 revert hm; revert s; intro s1 hm
 have h : m_s_BindOf_l1 N p0 p1 (n1 + 1) s1 = some r := hm
 show WT _ _ [(0, pv0), (1, .string p1), (4, pQ b_1), (6, iV s1)] (St w0 Φ [(b_1, .cells #[iV 0, iV 0, .string (⟨#[]⟩ : ByteArray)] 133 (0, 0))] [])
 unfold m_s_BindOf_l1 at h
 refine atr 5 [] rfl <| lnr ph0 rfl <| la rfl <| en ?_
 refine ch h rfl ?_ ?_ <;> intro h
 ·refine atr 7 [] rfl ?_
  obtain ⟨x1, hx1, h⟩ := bs h
  obtain ⟨cs1, F1, -, g1, hb1, hs1, r1⟩ := ph0.el (idx_some hx1).2.2
  obtain ⟨rfl, -⟩ := r1
  refine lia ph0 hx1 rfl <| lf Fld_164_0 rfl rfl rfl <| lhx 0 0 g1 rfl <| art 3 [] rfl ?_
  refine ch h rfl ?_ ?_ <;> intro h
  ·refine atr 4 [] rfl ?_
   obtain ⟨x2, hx2, h⟩ := bs h
   obtain ⟨cs2, F2, -, g2, hb2, hs2, r2⟩ := ph0.el (idx_some hx2).2.2
   obtain ⟨rfl, -⟩ := r2
   refine lia ph0 hx2 rfl <| lf Fld_164_1 rfl rfl rfl <| lhx 1 3 g2 rfl <| soN 0 Sz_133 rfl ⟨rfl, rfl, rfl, trivial⟩ rfl ?_
   refine la rfl <| en ?_
   refine WT.ret hF (resOk.two (rv_cell Tn_133 rfl (fun w1 hw => hw.rgO (i := 0) rfl 0 3 [iV x2.V.K, iV x2.V.N, .string x2.V.S] rfl) rfl) rfl) (fun w1 hw => ?_)
   cases h
   exact post_of_St hw
  refine att 7 [] rfl ?_
  exact lb [] [0] (ih1 _ h)
 refine xt rfl <| sr <| lq (q_build (vs := []) (C := #[iV 0, iV 0, .string (⟨#[]⟩ : ByteArray)]) Pl_133 Zr_133 rfl (fill_nil)) rfl <| soN 0 Sz_133 rfl ⟨rfl, rfl, rfl, trivial⟩ rfl ?_
 refine la rfl <| en ?_
 refine WT.ret hF (resOk.two (rv_cell Tn_133 rfl (fun w1 hw => hw.rgO (i := 0) rfl 0 3 [iV 0, iV 0, .string (⟨#[]⟩ : ByteArray)] rfl) rfl) rfl) (fun w1 hw => ?_)
 cases h
 exact post_of_St hw
theorem m_s_MatchPat_ok (w0 : Base Ψ Φ []) (p0 : TPat) (p1 : TFact) (p2 : (List TBind)) (ph0_0 : RSl RTArg 5 Ψ pG0_0 pv0_0 p0.Args) (ph1_0 : RSl RTVal 3 Ψ pG1_0 pv1_0 p1.Fields) (ph2 : RSl RTBind 4 Ψ pG2 pv2 p2) {r : (List TBind) × Bool} (h : m_s_MatchPat N p0 p1 p2 = some r) :
  Calls prog 57 [.agg [.string p0.Kind, pv0_0, .bool p0.Not].toArray, .agg [.string p1.Kind, pv1_0].toArray, pv2].toArray w0.w (PostG Φ w0.w [] (fun Φ' Fs v => ∃ (sr_0_0 : Value), v = .tuple #[sr_0_0, .bool r.2] ∧ Fs = [ob sr_0_0] ∧ OSl RTBind 164 4 Φ' [] sr_0_0 r.1)) := by
 refine eN func57 rfl ntmps57 rfl w0 fun hF => ?_
 unfold m_s_MatchPat at h
 refine sr <| lbx rfl fun b_1 => lbx rfl fun b_2 => arr 5 [] rfl <| le' (e_lit0 RTBind.lasts Sl_69 Zr_164 rfl rfl) rfl ?_
 rintro v1 Φ_1 D1 ⟨fr1, h1⟩
 refine la rfl <| lu0 ph2 fun h2 => ?_
 obtain ⟨x1, hx1, h⟩ := bs h
 refine le' (e_appF RTBind.lasts RTBind.one RTBind.flat Sl_69 Ei_164 rfl rfl rfl rfl rfl (js := [0]) (Rr := []) rfl h1 h2 hx1) rfl ?_
 rintro v2 Φ_2 D2 ⟨⟨ap1, fr2⟩, h3⟩
 refine arr 11 [0, 32, 0, 0] rfl ?_
 obtain ⟨b1, hb_1, h⟩ := bs h
 refine WL.cutN 8 [(29, .bool b1), (2, pv2), (3, pQ b_1), (4, pQ b_2), (8, v2)] ?_ (fun K => ?_)
 rotate_left
 ·refine sp 21 hb_1 rfl (fun hb_1 => ?_) fun hb_1 => ?_
  ·refine arr 8 [] rfl ?_
   cases hb_1
   exact ku K
  ·refine arr 2 [1, 32] rfl <| ly rfl rfl <| lnr ph0_0 rfl <| arr 2 [1, 0] rfl <| ly rfl rfl <| lnr ph1_0 rfl <| arr 2 [] rfl ?_
   cases hb_1
   exact ku K
 refine en ?_
 refine ch h rfl ?_ ?_ <;> intro h
 ·refine att 6 [] rfl ?_
  exact rtg [0] hF (resOk.two rfl rfl) rfl (by cases h; exact fun w1 hw => ⟨v2, rfl, rfl, h3⟩)
 refine att 7 [] rfl ?_
 refine lin (σ := Hp × (List TBind) × Value × Int) (fun s => [(2, pv2), (3, pQ b_1), (4, pQ b_2), (8, s.2.2.1), (9, iV s.2.2.2)]) (fun s => St w0 s.1 [(b_2, .cells #[.string p1.Kind, pv1_0] 127 (0, 0)), (b_1, .cells #[.string p0.Kind, pv0_0, .bool p0.Not] 124 (0, 0))] [ob s.2.2.1]) (fun m s => m_s_MatchPat_l1 N p0 p1 p2 m s.2.1 s.2.2.2 = some r ∧ (OSl RTBind 164 4 s.1 [] s.2.2.1 s.2.1)) (Φ_2, x1, v2, 0) N ⟨h, h3⟩ (sx [0] [0, 0]) (fun n1 ih1 s hm => ?_)
 obtain ⟨Φ_3, s1, u1, s2⟩ := s
 obtain ⟨h, k1⟩ := hm
 dsimp only at h k1 ⊢
 unfold m_s_MatchPat_l1 at h
 refine atr 6 [1, 32] rfl <| lnr ph0_0 rfl <| la rfl <| en ?_
 refine ch h rfl ?_ ?_ <;> intro h
 ·refine atr 8 [1, 32] rfl ?_
  obtain ⟨x2, hx2, h⟩ := bs h
  obtain ⟨cs1, F1, -, g1, hb1, hs1, r1⟩ := ph0_0.el (idx_some hx2).2.2
  obtain ⟨rfl, -⟩ := r1
  refine lia ph0_0 hx2 rfl <| lhx 0 5 g1 rfl <| lnz Zr_135 rfl fun b_3 => soN 0 Sz_135 rfl ⟨rfl, rfl, rfl, rfl, rfl, trivial⟩ rfl ?_
  refine arr 6 [1, 0] rfl <| qc h (m_s_BindOf_ok N · s1 x2.S k1.rsl ·) rfl rfl rfl fun x3 h => arr 3 [] rfl <| lnz Zr_133 rfl fun b_4 => soN 0 Sz_133 rfl ⟨rfl, rfl, rfl, trivial⟩ rfl ?_
  refine art 4 [] rfl <| WT.draw mixed (by kernel_rfl) (fun _ h => h.drew) <| aqq 4 [0, 32] rfl ?_
  obtain ⟨b2, hb_2, h⟩ := bs h
  refine WQ.cutN 9 [(62, .bool b2), (2, pv2), (3, pQ b_1), (4, pQ b_2), (8, u1), (9, iV s2), (10, pQ b_3), (11, pQ b_4), (12, .bool x3.2)] ?_ (fun K => ?_)
  rotate_left
  ·refine WQ.split (d := 53) rfl (fun c4 => ?_) (fun c4 => ?_)
   ·replace hb_2 := ite_t hb_2 c4
    refine aqq 5 [2, 35, 1, 64] rfl <| WQ.yes rfl rfl ?_
    obtain ⟨x4, hx4, hb_2⟩ := bs hb_2
    obtain ⟨cs2, F2, -, g2, hb2, hs2, r2⟩ := ph1_0.el (idx_some hx4).2.2
    obtain ⟨rfl, -⟩ := r2
    refine qq (q_indexAddr Sl_125 rfl rfl ph1_0 hx4) rfl <| WQ.yes rfl rfl <| qq (q_loadN Tn_133 rfl (fun w1 hw => (g2.of_eq 0 3 rfl rfl : rg _ _ _ [iV x4.K, iV x4.N, .string x4.S]).rangeAt hw.in0) rfl) rfl <| WQ.yes rfl rfl <| qq (q_neA EqT_133 rfl rfl rfl (r := eqT_TVal x2.V x4) rfl) rfl <| WQ.q (q_pick1 rfl rfl) rfl rfl rfl ?_
    cases hb_2
    exact kq K
   ·replace hb_2 := ite_f hb_2 c4
    refine aqq 9 [] rfl ?_
    cases hb_2
    exact kq K
  refine qq (q_move rfl) rfl ?_
  obtain ⟨b3, hb_3, h⟩ := bs h
  refine WQ.cutN 16 [(79, .bool b3), (2, pv2), (3, pQ b_1), (4, pQ b_2), (8, u1), (9, iV s2), (10, pQ b_3), (12, .bool x3.2)] ?_ (fun K => ?_)
  rotate_left
  ·refine WQ.split (d := 63) rfl (fun c5 => ?_) (fun c5 => ?_)
   ·replace hb_3 := ite_t hb_3 c5
    refine aqq 16 [] rfl ?_
    cases hb_3
    exact kq K
   ·replace hb_3 := ite_f hb_3 c5
    refine aqq 4 [0, 32] rfl ?_
    obtain ⟨b4, hb_4, hb_3⟩ := bs hb_3
    refine WQ.cutN 2 [(69, .bool b4), (2, pv2), (3, pQ b_1), (4, pQ b_2), (8, u1), (9, iV s2), (10, pQ b_3), (11, pQ b_4), (12, .bool x3.2), (63, .bool false)] ?_ (fun K => ?_)
    rotate_left
    ·refine WQ.split (d := 67) rfl (fun c6 => ?_) (fun c6 => ?_)
     ·replace hb_4 := ite_t hb_4 c6
      refine aqq 2 [] rfl ?_
      cases hb_4
      exact kq K
     ·replace hb_4 := ite_f hb_4 c6
      refine aqq 2 [] rfl ?_
      cases hb_4
      exact kq K
    refine WQ.yes rfl rfl <| qq (q_move rfl) rfl ?_
    obtain ⟨b5, hb_5, hb_3⟩ := bs hb_3
    refine WQ.cutN 8 [(78, .bool b5), (2, pv2), (3, pQ b_1), (4, pQ b_2), (8, u1), (9, iV s2), (10, pQ b_3), (12, .bool x3.2), (63, .bool false)] ?_ (fun K => ?_)
    rotate_left
    ·refine WQ.split (d := 70) rfl (fun c7 => ?_) (fun c7 => ?_)
     ·replace hb_5 := ite_t hb_5 c7
      refine aqq 4 [3, 1, 64] rfl <| WQ.yes rfl rfl ?_
      obtain ⟨x5, hx5, hb_5⟩ := bs hb_5
      obtain ⟨cs3, F3, -, g3, hb3, hs3, r3⟩ := ph1_0.el (idx_some hx5).2.2
      obtain ⟨rfl, -⟩ := r3
      refine qq (q_indexAddr Sl_125 rfl rfl ph1_0 hx5) rfl <| WQ.yes rfl rfl <| qq (q_loadN Tn_133 rfl (fun w1 hw => (g3.of_eq 0 3 rfl rfl : rg _ _ _ [iV x5.K, iV x5.N, .string x5.S]).rangeAt hw.in0) rfl) rfl <| WQ.yes rfl rfl <| qq (q_neA EqT_133 rfl rfl rfl (r := eqT_TVal x3.1 x5) rfl) rfl <| WQ.yes rfl rfl <| WQ.q (q_pick1 rfl rfl) rfl rfl rfl ?_
      cases hb_5
      exact kq K
     ·replace hb_5 := ite_f hb_5 c7
      refine aqq 8 [] rfl ?_
      cases hb_5
      exact kq K
    refine WQ.q (q_pick0 rfl rfl) rfl rfl rfl ?_
    cases hb_3
    exact kq K
  refine WQ.nil ?_
  refine ch h rfl ?_ ?_ <;> intro h
  ·refine sr <| le' (e_lit0 RTBind.lasts Sl_69 Zr_164 rfl rfl) rfl ?_
   rintro v3 Φ_4 D3 ⟨fr3, h4⟩
   refine la rfl <| lu0 ph2 fun h5 => ?_
   obtain ⟨x6, hx6, h⟩ := bs h
   refine le' (e_appF RTBind.lasts RTBind.one RTBind.flat Sl_69 Ei_164 rfl rfl rfl rfl rfl (js := [0]) (Rr := [ob u1]) rfl h4 h5 hx6) rfl ?_
   rintro v4 Φ_5 D4 ⟨⟨ap2, fr4⟩, h6⟩
   refine art 3 [] rfl ?_
   exact rtg [0] hF (resOk.two rfl rfl) rfl (by cases h; exact fun w1 hw => ⟨v4, rfl, rfl, h6⟩)
  refine atr 7 [0, 32] rfl ?_
  obtain ⟨b6, hb_6, h⟩ := bs h
  refine WL.cutN 3 [(89, .bool b6), (2, pv2), (3, pQ b_1), (4, pQ b_2), (8, u1), (9, iV s2), (10, pQ b_3)] ?_ (fun K => ?_)
  rotate_left
  ·refine sp 86 hb_6 rfl (fun hb_6 => ?_) fun hb_6 => ?_
   ·refine arr 3 [] rfl ?_
    cases hb_6
    exact ku K
   ·refine arr 3 [] rfl ?_
    cases hb_6
    exact ku K
  refine en ?_
  refine ch h rfl ?_ ?_ <;> intro h
  ·refine wm [0, 1, 2, 3] [] rfl <| amm 6 [0, 1, 1, 2, 32, 3, 1, 4, 64, 5] [0, 1, 2, 3] rfl rfl ?_
   obtain ⟨x7, hx7, h⟩ := bs h
   obtain ⟨cs4, F4, -, g4, hb4, hs4, r4⟩ := ph1_0.el (idx_some hx7).2.2
   obtain ⟨rfl, -⟩ := r4
   refine mq 6 rfl (by kernel_rfl) (kN [0, 1, 2, 3]) (q_indexAddr Sl_125 rfl rfl ph1_0 hx7) rfl <| mq 7 rfl (by kernel_rfl) (kN [0, 1, 2, 3]) (q_loadN Tn_133 rfl (fun w1 hw => (g4.of_eq 0 3 rfl rfl : rg _ _ _ [iV x7.K, iV x7.N, .string x7.S]).rangeAt hw.1) rfl) rfl ?_
   refine mq 8 rfl (by kernel_rfl) (kN [0, 1, 2, 3]) (q_build (vs := [(0, .string x2.S), (1, .agg [iV x7.K, iV x7.N, .string x7.S].toArray)]) (C := #[.string x2.S, iV x7.K, iV x7.N, .string x7.S]) Pl_164 Zr_164 rfl (fill_cons (C' := [.string x2.S, iV 0, iV 0, .string ⟨#[]⟩]) rfl rfl rfl rfl rfl (fill_cons (C' := [.string x2.S, iV x7.K, iV x7.N, .string x7.S]) rfl rfl rfl rfl rfl (fill_nil)))) rfl ?_
   have rc3 : RC RTBind 4 Φ_3 ([[]] : List (List Nat)) [.string x2.S, iV x7.K, iV x7.N, .string x7.S] ([(⟨x2.S, x7⟩ : TBind)] : List TBind) := RC.cons (c := [.string x2.S, iV x7.K, iV x7.N, .string x7.S]) (cells := []) ⟨rfl, rfl⟩ rfl (RC.nil _ _ _)
   refine WM.one 9 (by kernel_rfl) (me rfl (fun _ v Φx D w1 hq hw => Kn.of Kf.nil (am [0, 1, 2, 3] rfl) hw) (e_lit (vs := [(0, .agg [.string x2.S, iV x7.K, iV x7.N, .string x7.S].toArray)]) (C := #[.string x2.S, iV x7.K, iV x7.N, .string x7.S]) RTBind.lasts Sl_69 Zr_164 rfl rfl rfl rfl (fill_made MC_164_1 (fill_cons (C' := [.string x2.S, iV x7.K, iV x7.N, .string x7.S]) rfl rfl rfl rfl rfl (fill_nil))) rfl rc3 rfl (by simpa using Kw.nil)) rfl ?_)
   rintro v5 Φ_6 D5 ⟨fr5, h7⟩
   replace h7 : OSl RTBind 164 4 Φ_6 [] v5 ([(⟨x2.S, x7⟩ : TBind)] : List TBind) := by simpa using h7
   replace k1 := k1.f0 fr5
   obtain ⟨x8, hx8, h⟩ := bs h
   refine WM.one 10 (by kernel_rfl) (me rfl (fun _ v Φx D w1 hq hw => Kn.of Kf.nil (am [0, 1, 2, 3] rfl) hw) (e_appF RTBind.lasts RTBind.one RTBind.flat Sl_69 Ei_164 rfl rfl rfl rfl rfl (js := [1]) (Rr := [ob v5]) rfl k1 h7.rsl hx8) rfl ?_)
   rintro v6 Φ_7 D6 ⟨⟨ap3, fr6⟩, h8⟩
   refine amm 1 [11] [0, 1, 2, 3] rfl rfl <| WM.nil (by kernel_rfl) <| att 6 [] rfl ?_
   exact lb [0] [2, 2] (ih1 (_, _, _, _) ⟨h, h8⟩)
  refine att 7 [] rfl ?_
  exact lb [0] [2, 2] (ih1 (_, _, _, _) ⟨h, k1⟩)
 refine att 7 [] rfl ?_
 exact rtg [0] hF (resOk.two rfl rfl) rfl (by cases h; exact fun w1 hw => ⟨u1, rfl, rfl, k1⟩)
theorem m_s_BindsFor_ok (w0 : Base Ψ Φ []) (p0 : TRule) (p1 : TStore) (p2 : (List Int)) (ph0_0 : RSl RTPat 3 Ψ pG0_0 pv0_0 p0.Pats) (ph0_1 : RSl RTCond 11 Ψ pG0_1 pv0_1 p0.Conds) (ph0_2 : RSl RTAct 5 Ψ pG0_2 pv0_2 p0.Acts) (ph1_0 : RSl RTItem 3 Ψ pG1_0 pv1_0 p1.Items) (ph2 : RSl (RI .i64) 1 Ψ pG2 pv2 p2) {r : (List TBind) × Bool} (h : m_s_BindsFor N p0 p1 p2 = some r) :
  Calls prog 25 [.agg [.string p0.Name, iV p0.Sal, pv0_0, pv0_1, pv0_2].toArray, .agg [pv1_0, iV p1.Next].toArray, pv2].toArray w0.w (PostG Φ w0.w [] (fun Φ' Fs v => ∃ (sr_0_0 : Value), v = .tuple #[sr_0_0, .bool r.2] ∧ Fs = [ob sr_0_0] ∧ OSl RTBind 164 4 Φ' [] sr_0_0 r.1)) := by
 refine eN func25 rfl ntmps25 rfl w0 fun hF => ?_
 unfold m_s_BindsFor at h
 refine sr <| lbx rfl fun b_1 => lbx rfl fun b_2 => arr 5 [] rfl <| le' (e_lit0 RTBind.lasts Sl_69 Zr_164 rfl rfl) rfl ?_
 rintro v1 Φ_1 D1 ⟨fr1, h1⟩
 refine art 12 [] rfl ?_
 refine lin (σ := Hp × (List TBind) × Value × Int × Int) (fun s => [(2, pv2), (3, pQ b_1), (4, pQ b_2), (8, s.2.2.1), (9, iV s.2.2.2.1), (10, iV s.2.2.2.2)]) (fun s => St w0 s.1 [(b_2, .cells #[pv1_0, iV p1.Next] 48 (0, 0)), (b_1, .cells #[.string p0.Name, iV p0.Sal, pv0_0, pv0_1, pv0_2] 76 (0, 0))] [ob s.2.2.1]) (fun m s => m_s_BindsFor_l1 N p0 p1 p2 m s.2.1 s.2.2.2.1 s.2.2.2.2 = some r ∧ (OSl RTBind 164 4 s.1 [] s.2.2.1 s.2.1)) (Φ_1, ([] : List TBind), v1, 0, 0) N ⟨h, h1⟩ (sx [0] [0, 0]) (fun n1 ih1 s hm => ?_)
 obtain ⟨Φ_2, s1, u1, s2, s3⟩ := s
 obtain ⟨h, k1⟩ := hm
 dsimp only at h k1 ⊢
 unfold m_s_BindsFor_l1 at h
 refine atr 6 [2, 32] rfl <| lnr ph0_0 rfl <| la rfl <| en ?_
 refine ch h rfl ?_ ?_ <;> intro h
 ·refine atr 9 [2, 32] rfl ?_
  obtain ⟨x1, hx1, h⟩ := bs h
  obtain ⟨cs1, F1, -, g1, hb1, hs1, r1⟩ := ph0_0.el (idx_some hx1).2.2
  obtain ⟨v2, G1, rfl, hq1, h2⟩ := r1
  obtain rfl := hq1.symm
  refine lia ph0_0 hx1 rfl <| lf Fld_124_2 rfl rfl rfl <| lhx 2 0 g1 rfl <| en ?_
  refine ch h rfl ?_ ?_ <;> intro h
  ·refine att 6 [] rfl ?_
   exact lb [0] [0, 0] (ih1 (_, _, _, _, _) ⟨h, k1⟩)
  refine atr 6 [] rfl <| lnr ph2 rfl <| la rfl <| en ?_
  refine ch h rfl ?_ ?_ <;> intro h
  ·refine sr <| le' (e_lit0 RTBind.lasts Sl_69 Zr_164 rfl rfl) rfl ?_
   rintro v3 Φ_3 D2 ⟨fr2, h3⟩
   refine art 3 [] rfl ?_
   exact rtg [0] hF (resOk.two rfl rfl) rfl (by cases h; exact fun w1 hw => ⟨v3, rfl, rfl, h3⟩)
  refine att 2 [] rfl ?_
  refine cut (σ := Hp × Nat × (List TVal) × Value × Bool × ByteArray) (fun s => [(2, pv2), (3, pQ b_1), (4, pQ b_2), (8, u1), (9, iV s2), (10, iV s3), (11, .pointer (some ⟨s.2.1, 0, none⟩)), (12, .bool s.2.2.2.2.1)]) (fun s => St w0 s.1 [(s.2.1, .cells #[.string s.2.2.2.2.2, s.2.2.2.1] 127 (0, 0)), (b_2, .cells #[pv1_0, iV p1.Next] 48 (0, 0)), (b_1, .cells #[.string p0.Name, iV p0.Sal, pv0_0, pv0_1, pv0_2] 76 (0, 0))] [ob s.2.2.2.1, ob u1]) (fun s => m_s_BindsFor_j2 N p0 s1 s2 s3 (m_s_BindsFor_l1 N p0 p1 p2 n1) s.2.2.1 s.2.2.2.2.1 s.2.2.2.2.2 = some r ∧ (OSl RTBind 164 4 s.1 [] u1 s1) ∧ (OSl RTVal 133 3 s.1 [] s.2.2.2.1 s.2.2.1)) (fun s hm => ?_) (fun K => ?_)
  ·clear h
   obtain ⟨Φ_5, b_4, s4, u2, s5, s6⟩ := s
   obtain ⟨h, k1, k2⟩ := hm
   dsimp only at h k1 k2 ⊢
   unfold m_s_BindsFor_j2 at h
   refine sq <| wm [0, 1, 2] [] rfl <| amm 3 [0, 2, 1, 64, 2] [0, 1, 2] rfl rfl ?_
   obtain ⟨x4, hx4, h⟩ := bs h
   obtain ⟨cs3, F4, -, g3, hb3, hs3, r3⟩ := ph0_0.el (idx_some hx4).2.2
   obtain ⟨v6, G2, rfl, hq2, h5⟩ := r3
   obtain rfl := hq2.symm
   refine mq 3 rfl (by kernel_rfl) (kN [0, 1, 2]) (q_indexAddr Sl_72 rfl rfl ph0_0 hx4) rfl <| mq 4 rfl (by kernel_rfl) (kN [0, 1, 2]) (q_loadN Tn_124 rfl (fun w1 hw => (g3.of_eq 0 3 rfl rfl : rg _ _ _ [.string x4.Kind, v6, .bool x4.Not]).rangeAt hw.1) rfl) rfl <| amm 2 [5, 2, 6] [0, 1, 2] rfl rfl ?_
   obtain ⟨x5, hx5, h⟩ := bs h
   refine WM.one 7 (by kernel_rfl) (mc rfl (fun _ v Φx D w1 hq hw => Kn.of Kf.nil (ai3 0 1 2 rfl rfl rfl) hw) (k_call (js := []) (R := [ob u2, ob u1]) Fun_57 rfl rfl (fun w1 hw ap hl => m_s_MatchPat_ok N (ba hw.fro) x4 (⟨s6, s4⟩ : TFact) s1 (h5.y hw.up) k2.rsl k1.rsl  hx5)) rfl ?_)
   rintro v7 Φ_6 F5 ⟨ap2, fr4, v8, rfl, rfl, h6⟩
   refine amm 5 [8, 9, 10, 11, 12] [0, 1, 2] rfl rfl <| WM.nil (by kernel_rfl) <| atr 6 [] rfl ?_
   obtain ⟨b1, hb_1, h⟩ := bs h
   refine WL.cutN 3 [(59, .bool b1), (2, pv2), (3, pQ b_1), (4, pQ b_2), (9, iV s2), (10, iV s3), (13, v8)] ?_ (fun K => ?_)
   rotate_left
   ·refine sp 56 hb_1 rfl (fun hb_1 => ?_) fun hb_1 => ?_
    ·refine arr 3 [] rfl ?_
     cases hb_1
     exact ku K
    ·refine arr 3 [] rfl ?_
     cases hb_1
     exact ku K
   refine en ?_
   refine ch h rfl ?_ ?_ <;> intro h
   ·refine sr <| le' (e_lit0 RTBind.lasts Sl_69 Zr_164 rfl rfl) rfl ?_
    rintro v9 Φ_7 D3 ⟨fr5, h7⟩
    refine art 3 [] rfl ?_
    exact rtg [0] hF (resOk.two rfl rfl) rfl (by cases h; exact fun w1 hw => ⟨v9, rfl, rfl, h7⟩)
   refine att 17 [] rfl ?_
   exact lb [0] [1, 1] (ih1 (_, _, _, _, _) ⟨h, h6⟩)
  refine wm [0, 1] [] rfl <| amm 3 [0, 2, 1, 2] [0, 1] rfl rfl ?_
  obtain ⟨x6, hx6, h⟩ := bs h
  obtain ⟨cs4, F6, -, g4, hb4, hs4, r4⟩ := ph2.el (idx_some hx6).2.2
  obtain ⟨rfl, -⟩ := r4
  refine mq 3 rfl (by kernel_rfl) (kN [0, 1]) (q_indexAddr Sl_77 rfl rfl ph2 hx6) rfl <| mq 4 rfl (by kernel_rfl) (kN [0, 1]) (q_load1 T1_3 rfl (fun w1 hw => (g4.of_eq 0 1 rfl rfl : rg _ _ _ [iV x6]).rangeAt hw.1)) rfl ?_
  refine WM.two 5 9 (by kernel_rfl) ?_ ?_
  ·obtain ⟨x7, hx7, h⟩ := bs h
   refine mc rfl (fun _ v Φx D w1 hq hw => Kn.of Kf.nil (ai2 0 1 rfl rfl) hw) (k_call (js := []) (R := [ob u1]) Fun_56 rfl rfl (fun w1 hw ap hl => m_s_FactOf_ok N (ba hw.fro) p1 x6 (ph1_0.y hw.up)  hx7)) rfl ?_
   rintro v10 Φ_8 F7 ⟨ap3, fr6, v11, rfl, rfl, h8⟩
   replace k1 := k1.fr fr6 (ap3.q 0 rfl) dN
   refine amm 3 [6, 7, 8] [0, 1] rfl rfl ?_
   refine on1 9 (mn rfl (kB [1, 2]) (nz Zr_127) rfl (fun b_5 => ?_))
   refine on1 10 (msK 0 [1, 2] rfl Sz_127 rfl ⟨rfl, h8.one, trivial⟩ rfl rfl ?_)
   refine amm 1 [11] [1, 2] rfl rfl <| WM.nil (by kernel_rfl) ?_
   exact wo [0, 0] [0, 0, 0] (K (_, _, _, _, _, _) ⟨h, k1, h8⟩)
  refine mn rfl (fun _ b w1 hw => Kn.of Kf.nil (ai2 1 2 rfl rfl) hw) (nz Zr_127) rfl (fun b_6 => ?_)
  obtain ⟨x8, hx8, h⟩ := bs h
  refine WM.one 5 (by kernel_rfl) (mc rfl (fun _ v Φx D w1 hq hw => Kn.of Kf.nil (ai2 1 2 rfl rfl) hw) (k_call (js := []) (R := [ob u1]) Fun_56 rfl rfl (fun w1 hw ap hl => m_s_FactOf_ok N (ba hw.fro) p1 x6 (ph1_0.y hw.up)  hx8)) rfl ?_)
  rintro v12 Φ_9 F8 ⟨ap4, fr7, v13, rfl, rfl, h9⟩
  replace k1 := k1.fr fr7 (ap4.q 0 rfl) dN
  refine amm 3 [6, 7, 8] [1, 2] rfl rfl ?_
  refine on1 10 (msK 0 [1, 2] rfl Sz_127 rfl ⟨rfl, h9.one, trivial⟩ rfl rfl ?_)
  refine amm 1 [11] [1, 2] rfl rfl <| WM.nil (by kernel_rfl) ?_
  exact wo [0, 0] [0, 0, 0] (K (_, _, _, _, _, _) ⟨h, k1, h9⟩)
 refine atr 6 [] rfl <| lnr ph2 rfl <| la rfl <| en ?_
 refine ch h rfl ?_ ?_ <;> intro h
 ·refine sr <| le' (e_lit0 RTBind.lasts Sl_69 Zr_164 rfl rfl) rfl ?_
  rintro v14 Φ_10 D4 ⟨fr8, h10⟩
  refine art 3 [] rfl ?_
  exact rtg [0] hF (resOk.two rfl rfl) rfl (by cases h; exact fun w1 hw => ⟨v14, rfl, rfl, h10⟩)
 refine att 7 [] rfl ?_
 exact rtg [0] hF (resOk.two rfl rfl) rfl (by cases h; exact fun w1 hw => ⟨u1, rfl, rfl, k1⟩)
theorem m_s_l14Free_ok (w0 : Base Ψ Φ []) (p0 : TTok) (ph0_0 : RSl (RI .i64) 1 Ψ pG0_0 pv0_0 p0.Ids) (ph0_1 : RSl (RI .i64) 1 Ψ pG0_1 pv0_1 p0.Hits) {r : Bool} (h : m_s_l14Free N p0 = some r) :
  CB w0 prog 26 [.agg [pv0_0, pv0_1].toArray] (.bool r) := by
 refine eN func26 rfl ntmps26 rfl w0 fun hF => ?_
 unfold m_s_l14Free at h
 refine sr <| lbx rfl fun b_1 => art 8 [] rfl ?_
 refine lin (σ := Int) (fun s => [(1, pQ b_1), (3, iV s)]) (fun s => St w0 Φ [(b_1, .cells #[pv0_0, pv0_1] 79 (0, 0))] []) (fun m s => m_s_l14Free_l1 N p0 m s = some r) (0) N h (sx [] [0]) (fun n1 ih1 s hm => ?_)
 revert hm; revert s; intro s1 hm
 have h : m_s_l14Free_l1 N p0 (n1 + 1) s1 = some r := hm
 show WT _ _ [(1, pQ b_1), (3, iV s1)] (St w0 Φ [(b_1, .cells #[pv0_0, pv0_1] 79 (0, 0))] [])
 unfold m_s_l14Free_l1 at h
 refine atr 6 [1, 0] rfl <| lnr ph0_1 rfl <| la rfl <| en ?_
 refine ch h rfl ?_ ?_ <;> intro h
 ·refine atr 8 [1, 0] rfl ?_
  obtain ⟨x1, hx1, h⟩ := bs h
  obtain ⟨cs1, F1, -, g1, hb1, hs1, r1⟩ := ph0_1.el (idx_some hx1).2.2
  obtain ⟨rfl, -⟩ := r1
  refine lia ph0_1 hx1 rfl <| lhx 0 0 g1 rfl <| la rfl <| en ?_
  refine ch h rfl ?_ ?_ <;> intro h
  ·refine att 4 [] rfl ?_
   exact rt hF h
  refine att 7 [] rfl ?_
  exact lb [] [0] (ih1 _ h)
 refine att 5 [] rfl ?_
 exact rt hF h
theorem m_s_ArgVal_ok (w0 : Base Ψ Φ []) (p0 : TArg) (p1 : (List TBind)) (ph1 : RSl RTBind 4 Ψ pG1 pv1 p1) {r : TVal × Bool} (h : m_s_ArgVal N p0 p1 = some r) :
  CB w0 prog 91 [.agg [iV p0.K, .string p0.S, iV p0.V.K, iV p0.V.N, .string p0.V.S].toArray, pv1] (.tuple #[.agg [iV r.1.K, iV r.1.N, .string r.1.S].toArray, .bool r.2]) := by
 refine eN func91 rfl ntmps91 rfl w0 fun hF => ?_
 unfold m_s_ArgVal at h
 refine sr <| lbx rfl fun b_1 => lnz Zr_133 rfl fun b_2 => art 14 [0, 32] rfl ?_
 refine ch h rfl ?_ ?_ <;> intro h
 ·refine atr 4 [2, 35] rfl <| soN 0 Sz_133 rfl ⟨rfl, rfl, rfl, trivial⟩ rfl ?_
  refine la rfl <| en ?_
  refine WT.ret hF (resOk.two (rv_cell Tn_133 rfl (fun w1 hw => hw.rgO (i := 0) rfl 0 3 [iV p0.V.K, iV p0.V.N, .string p0.V.S] rfl) rfl) rfl) (fun w1 hw => ?_)
  cases h
  exact post_of_St hw
 refine att 5 [] rfl ?_
 refine ch h rfl ?_ ?_ <;> intro h
 ·refine atr 5 [1, 32] rfl <| qd h (m_s_BindOf_ok N · p1 p0.S ph1 ·) rfl rfl rfl fun x1 h => arr 2 [] rfl <| soN 0 Sz_133 rfl ⟨rfl, rfl, rfl, trivial⟩ rfl ?_
  refine la rfl <| en ?_
  refine WT.ret hF (resOk.two (rv_cell Tn_133 rfl (fun w1 hw => hw.rgO (i := 0) rfl 0 3 [iV x1.1.K, iV x1.1.N, .string x1.1.S] rfl) rfl) rfl) (fun w1 hw => ?_)
  cases h
  exact post_of_St hw
 refine atr 4 [] rfl <| lq (q_build (vs := []) (C := #[iV 0, iV 0, .string (⟨#[]⟩ : ByteArray)]) Pl_133 Zr_133 rfl (fill_nil)) rfl <| soN 0 Sz_133 rfl ⟨rfl, rfl, rfl, trivial⟩ rfl ?_
 refine la rfl <| en ?_
 refine WT.ret hF (resOk.two (rv_cell Tn_133 rfl (fun w1 hw => hw.rgO (i := 0) rfl 0 3 [iV 0, iV 0, .string (⟨#[]⟩ : ByteArray)] rfl) rfl) rfl) (fun w1 hw => ?_)
 cases h
 exact post_of_St hw
theorem m_s_LessVal_ok  (w0 : Base Ψ Φ []) (p0 : TVal) (p1 : TVal)  {r : Bool} (h : m_s_LessVal N p0 p1 = some r) :
  CB w0 prog 92 [.agg [iV p0.K, iV p0.N, .string p0.S].toArray, .agg [iV p1.K, iV p1.N, .string p1.S].toArray] (.bool r) := by
 refine eN func92 rfl ntmps92 rfl w0 fun hF => ?_
 unfold m_s_LessVal at h
 refine sr <| lbx rfl fun b_1 => lbx rfl fun b_2 => art 13 [0, 32, 0, 0] rfl ?_
 refine ch h rfl ?_ ?_ <;> intro h
 ·refine att 9 [0, 32, 0, 0] rfl ?_
  exact rt hF h
 refine att 9 [1, 32, 1, 0] rfl ?_
 refine ch h rfl ?_ ?_ <;> intro h
 ·refine att 9 [1, 32, 1, 0] rfl ?_
  exact rt hF h
 refine atr 8 [2, 32, 2, 0] rfl <| lq (q_slt rfl rfl) rfl <| la rfl <| en ?_
 exact rt hF h
theorem m_s_Holds_ok (w0 : Base Ψ Φ []) (p0 : TCond) (p1 : (List TBind)) (ph1 : RSl RTBind 4 Ψ pG1 pv1 p1) {r : Bool} (h : m_s_Holds N p0 p1 = some r) :
  CB w0 prog 58 [.agg [iV p0.Op, iV p0.L.K, .string p0.L.S, iV p0.L.V.K, iV p0.L.V.N, .string p0.L.V.S, iV p0.R.K, .string p0.R.S, iV p0.R.V.K, iV p0.R.V.N, .string p0.R.V.S].toArray, pv1] (.bool r) := by
 refine eN func58 rfl ntmps58 rfl w0 fun hF => ?_
 unfold m_s_Holds at h
 refine sr <| lbx rfl fun b_1 => arr 7 [1, 5] rfl <| qd h (m_s_ArgVal_ok N · p0.L p1 ph1 ·) rfl rfl rfl fun x1 h => arr 3 [] rfl <| lnz Zr_133 rfl fun b_2 => soN 0 Sz_133 rfl ⟨rfl, rfl, rfl, trivial⟩ rfl ?_
 refine arr 7 [6, 37] rfl <| qd h (m_s_ArgVal_ok N · p0.R p1 ph1 ·) rfl rfl rfl fun x2 h => arr 3 [] rfl <| lnz Zr_133 rfl fun b_3 => soN 0 Sz_133 rfl ⟨rfl, rfl, rfl, trivial⟩ rfl ?_
 refine arr 8 [] rfl ?_
 obtain ⟨b1, hb_1, h⟩ := bs h
 refine WL.cutN 3 [(28, .bool b1), (2, pQ b_1), (5, pQ b_2), (7, pQ b_3)] ?_ (fun K => ?_)
 rotate_left
 ·refine sp 25 hb_1 rfl (fun hb_1 => ?_) fun hb_1 => ?_
  ·refine arr 3 [] rfl ?_
   cases hb_1
   exact ku K
  ·refine arr 3 [] rfl ?_
   cases hb_1
   exact ku K
 refine en ?_
 refine ch h rfl ?_ ?_ <;> intro h
 ·refine att 4 [] rfl ?_
  exact rt hF h
 refine att 13 [0, 64] rfl ?_
 refine ch h rfl ?_ ?_ <;> intro h
 ·refine atr 4 [35, 3] rfl <| lq (q_eqA EqT_133 rfl rfl rfl (r := eqT_TVal x1.1 x2.1) rfl) rfl <| la rfl <| en ?_
  exact rt hF h
 refine att 5 [] rfl ?_
 refine ch h rfl ?_ ?_ <;> intro h
 ·refine atr 4 [35, 3] rfl <| lq (q_neA EqT_133 rfl rfl rfl (r := eqT_TVal x1.1 x2.1) rfl) rfl <| la rfl <| en ?_
  exact rt hF h
 refine att 5 [] rfl ?_
 refine ch h rfl ?_ ?_ <;> intro h
 ·refine atr 4 [35, 3] rfl <| qc h (m_s_LessVal_ok N · x1.1 x2.1 ·) rfl rfl rfl fun x3 h => la rfl <| en ?_
  exact rt hF h
 refine att 6 [] rfl ?_
 exact rt hF h
theorem m_s_HoldAll_ok (w0 : Base Ψ Φ []) (p0 : (List TCond)) (p1 : (List TBind)) (ph0 : RSl RTCond 11 Ψ pG0 pv0 p0) (ph1 : RSl RTBind 4 Ψ pG1 pv1 p1) {r : Bool} (h : m_s_HoldAll N p0 p1 = some r) :
  CB w0 prog 27 [pv0, pv1] (.bool r) := by
 refine eN func27 rfl ntmps27 rfl w0 fun hF => ?_
 unfold m_s_HoldAll at h
 refine att 10 [] rfl ?_
 refine lin (σ := Int) (fun s => [(0, pv0), (1, pv1), (5, iV s)]) (fun s => St w0 Φ [] []) (fun m s => m_s_HoldAll_l1 N p0 p1 m s = some r) (0) N h (sx [] []) (fun n1 ih1 s hm => ?_)
 revert hm; revert s; intro s1 hm
 have h : m_s_HoldAll_l1 N p0 p1 (n1 + 1) s1 = some r := hm
 show WT _ _ [(0, pv0), (1, pv1), (5, iV s1)] (St w0 Φ [] [])
 unfold m_s_HoldAll_l1 at h
 refine atr 5 [] rfl <| lnr ph0 rfl <| la rfl <| en ?_
 refine ch h rfl ?_ ?_ <;> intro h
 ·refine atr 7 [] rfl ?_
  obtain ⟨x1, hx1, h⟩ := bs h
  obtain ⟨cs1, F1, -, g1, hb1, hs1, r1⟩ := ph0.el (idx_some hx1).2.2
  obtain ⟨rfl, -⟩ := r1
  refine lia ph0 hx1 rfl <| lhx 0 11 g1 rfl <| la rfl <| qd h (m_s_Holds_ok N · x1 p1 ph1 ·) rfl rfl rfl fun x2 h => la rfl <| en ?_
  refine ch h rfl ?_ ?_ <;> intro h
  ·refine att 4 [] rfl ?_
   exact rt hF h
  refine att 7 [] rfl ?_
  exact lb [] [] (ih1 _ h)
 refine att 5 [] rfl ?_
 exact rt hF h
theorem m_s_LessMatch_ok (w0 : Base Ψ Φ []) (p0 : TMatch) (p1 : TMatch) (ph0_0 : RSl (RI .i64) 1 Ψ pG0_0 pv0_0 p0.Ids) (ph0_1 : RSl RTBind 4 Ψ pG0_1 pv0_1 p0.Binds) (ph1_0 : RSl (RI .i64) 1 Ψ pG1_0 pv1_0 p1.Ids) (ph1_1 : RSl RTBind 4 Ψ pG1_1 pv1_1 p1.Binds) {r : Bool} (h : m_s_LessMatch N p0 p1 = some r) :
  CB w0 prog 59 [.agg [iV p0.Rule, pv0_0, pv0_1].toArray, .agg [iV p1.Rule, pv1_0, pv1_1].toArray] (.bool r) := by
 refine eN func59 rfl ntmps59 rfl w0 fun hF => ?_
 unfold m_s_LessMatch at h
 refine sr <| lbx rfl fun b_1 => lbx rfl fun b_2 => art 13 [0, 32, 0, 0] rfl ?_
 refine ch h rfl ?_ ?_ <;> intro h
 ·refine att 9 [0, 32, 0, 0] rfl ?_
  exact rt hF h
 refine atr 4 [1, 32] rfl <| lnr ph0_0 rfl <| arr 2 [1, 0] rfl <| lnr ph1_0 rfl <| art 3 [] rfl ?_
 refine ch h rfl ?_ ?_ <;> intro h
 ·refine atr 4 [1, 32] rfl <| lnr ph0_0 rfl <| arr 2 [1, 0] rfl <| lnr ph1_0 rfl <| art 3 [] rfl ?_
  exact rt hF h
 refine att 8 [] rfl ?_
 refine lin (σ := Int) (fun s => [(2, pQ b_1), (3, pQ b_2), (5, iV s)]) (fun s => St w0 Φ [(b_2, .cells #[iV p1.Rule, pv1_0, pv1_1] 84 (0, 0)), (b_1, .cells #[iV p0.Rule, pv0_0, pv0_1] 84 (0, 0))] []) (fun m s => m_s_LessMatch_l1 N p0 p1 m s = some r) (0) N h (sx [] [0, 0]) (fun n1 ih1 s hm => ?_)
 revert hm; revert s; intro s1 hm
 have h : m_s_LessMatch_l1 N p0 p1 (n1 + 1) s1 = some r := hm
 show WT _ _ [(2, pQ b_1), (3, pQ b_2), (5, iV s1)] (St w0 Φ [(b_2, .cells #[iV p1.Rule, pv1_0, pv1_1] 84 (0, 0)), (b_1, .cells #[iV p0.Rule, pv0_0, pv0_1] 84 (0, 0))] [])
 unfold m_s_LessMatch_l1 at h
 refine atr 6 [1, 32] rfl <| lnr ph0_0 rfl <| la rfl <| en ?_
 refine ch h rfl ?_ ?_ <;> intro h
 ·refine att 4 [] rfl <| WT.draw mixed (by kernel_rfl) (fun _ h => h.drew) <| aqq 3 [1, 32] rfl ?_
  obtain ⟨x1, hx1, h⟩ := bs h
  obtain ⟨cs1, F1, -, g1, hb1, hs1, r1⟩ := ph0_0.el (idx_some hx1).2.2
  obtain ⟨rfl, -⟩ := r1
  refine qq (q_indexAddr Sl_77 rfl rfl ph0_0 hx1) rfl <| qq (q_load1 T1_3 rfl (fun w1 hw => (g1.of_eq 0 1 rfl rfl : rg _ _ _ [iV x1]).rangeAt hw.in0)) rfl <| aqq 3 [1, 0] rfl ?_
  obtain ⟨x2, hx2, h⟩ := bs h
  obtain ⟨cs2, F2, -, g2, hb2, hs2, r2⟩ := ph1_0.el (idx_some hx2).2.2
  obtain ⟨rfl, -⟩ := r2
  refine qq (q_indexAddr Sl_77 rfl rfl ph1_0 hx2) rfl <| qq (q_load1 T1_3 rfl (fun w1 hw => (g2.of_eq 0 1 rfl rfl : rg _ _ _ [iV x2]).rangeAt hw.in0)) rfl <| aqt 2 [] rfl ?_
  refine ch h rfl ?_ ?_ <;> intro h
  ·refine sq <| WT.draw mixed (by kernel_rfl) (fun _ h => h.drew) <| aqq 3 [1, 32] rfl ?_
   obtain ⟨x3, hx3, h⟩ := bs h
   obtain ⟨cs3, F3, -, g3, hb3, hs3, r3⟩ := ph0_0.el (idx_some hx3).2.2
   obtain ⟨rfl, -⟩ := r3
   refine qq (q_indexAddr Sl_77 rfl rfl ph0_0 hx3) rfl <| qq (q_load1 T1_3 rfl (fun w1 hw => (g3.of_eq 0 1 rfl rfl : rg _ _ _ [iV x3]).rangeAt hw.in0)) rfl <| aqq 3 [1, 0] rfl ?_
   obtain ⟨x4, hx4, h⟩ := bs h
   obtain ⟨cs4, F4, -, g4, hb4, hs4, r4⟩ := ph1_0.el (idx_some hx4).2.2
   obtain ⟨rfl, -⟩ := r4
   refine qq (q_indexAddr Sl_77 rfl rfl ph1_0 hx4) rfl <| qq (q_load1 T1_3 rfl (fun w1 hw => (g4.of_eq 0 1 rfl rfl : rg _ _ _ [iV x4]).rangeAt hw.in0)) rfl <| aqt 3 [] rfl ?_
   exact rt hF h
  refine att 7 [] rfl ?_
  exact lb [] [0, 0] (ih1 _ h)
 refine att 5 [] rfl ?_
 exact rt hF h
end Go.Proofs.YtjccaebpbieejaaGreat
