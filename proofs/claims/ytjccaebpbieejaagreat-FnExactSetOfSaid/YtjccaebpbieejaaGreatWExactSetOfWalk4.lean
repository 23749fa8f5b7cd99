/- Printed by a program of ours: each Go function computes its Lean function. -/
import Derived.Test.YtjccaebpbieejaaGreatProg
import Derived.Test.YtjccaebpbieejaaGreatWExactSetOfWalk3
namespace Go.Proofs.YtjccaebpbieejaaGreat
open Eng Tryz
open Go.RowKit (Below)
set_option linter.unusedVariables false
set_option linter.unusedSimpArgs false

set_option maxRecDepth 100000
set_option maxHeartbeats 1000000
variable {Ψ Φ : Hp} {pv0 pv1 pv0_0 pv1_0 pv0_1 pv0_2 pv1_1 pv1_2 : Value} {pG0 pG1 pG0_0 pG1_0 pG0_1 pG0_2 pG1_1 pG1_2 pD0 pD0_0 pD0_1 : List Nat} (N : Nat)
theorem m_l_eqCond_ok  (w0 : Base Ψ Φ []) (p0 : TCond) (p1 : TCond)  {r : Bool} (h : m_l_eqCond N p0 p1 = some r) :
  CB w0 prog 132 [.agg [iV p0.Op, iV p0.L.K, .string p0.L.S, iV p0.L.V.K, iV p0.L.V.N, .string p0.L.V.S, iV p0.R.K, .string p0.R.S, iV p0.R.V.K, iV p0.R.V.N, .string p0.R.V.S].toArray, .agg [iV p1.Op, iV p1.L.K, .string p1.L.S, iV p1.L.V.K, iV p1.L.V.N, .string p1.L.V.S, iV p1.R.K, .string p1.R.S, iV p1.R.V.K, iV p1.R.V.N, .string p1.R.V.S].toArray] (.bool r) := by
 refine eN func132 rfl ntmps132 rfl w0 fun hF => ?_
 unfold m_l_eqCond at h
 refine sr <| lbx rfl fun b_1 => lbx rfl fun b_2 => art 11 [0, 32, 0, 0] rfl ?_
 refine ch h rfl ?_ ?_ <;> intro h
 ·refine att 4 [] rfl ?_
  exact rt hF h
 refine atr 8 [1, 37, 1, 5] rfl <| qc h (m_l_eqArg_ok N · p0.L p1.L ·) rfl rfl rfl fun x1 h => la rfl <| en ?_
 refine ch h rfl ?_ ?_ <;> intro h
 ·refine att 4 [] rfl ?_
  exact rt hF h
 refine atr 8 [6, 37, 6, 5] rfl <| qc h (m_l_eqArg_ok N · p0.R p1.R ·) rfl rfl rfl fun x2 h => la rfl <| en ?_
 refine ch h rfl ?_ ?_ <;> intro h
 ·refine att 4 [] rfl ?_
  exact rt hF h
 refine att 5 [] rfl ?_
 exact rt hF h
theorem m_l_eqCondS_ok (w0 : Base Ψ Φ []) (p0 : (List TCond)) (p1 : (List TCond)) (ph0 : RSl RTCond 11 Ψ pG0 pv0 p0) (ph1 : RSl RTCond 11 Ψ pG1 pv1 p1) {r : Bool} (h : m_l_eqCondS N p0 p1 = some r) :
  CB w0 prog 108 [pv0, pv1] (.bool r) := by
 refine eN func108 rfl ntmps108 rfl w0 fun hF => ?_
 unfold m_l_eqCondS at h
 refine atr 8 [] rfl <| lnr ph0 rfl <| la rfl <| lnr ph1 rfl <| la rfl <| en ?_
 refine ch h rfl ?_ ?_ <;> intro h
 ·refine att 4 [] rfl ?_
  exact rt hF h
 refine att 7 [] rfl ?_
 refine lin (σ := Int) (fun s => [(0, pv0), (1, pv1), (5, iV s)]) (fun s => St w0 Φ [] []) (fun m s => m_l_eqCondS_l1 N p0 p1 m s = some r) (0) N h (sx [] []) (fun n1 ih1 s hm => ?_)
 revert hm; revert s; intro s1 hm
 have h : m_l_eqCondS_l1 N p0 p1 (n1 + 1) s1 = some r := hm
 show WT _ _ [(0, pv0), (1, pv1), (5, iV s1)] (St w0 Φ [] [])
 unfold m_l_eqCondS_l1 at h
 refine atr 5 [] rfl <| lnr ph0 rfl <| la rfl <| en ?_
 refine ch h rfl ?_ ?_ <;> intro h
 ·refine att 4 [] rfl <| WT.draw mixed (by kernel_rfl) (fun _ h => h.drew) <| aqq 2 [] rfl ?_
  obtain ⟨x1, hx1, h⟩ := bs h
  obtain ⟨cs1, F1, -, g1, hb1, hs1, r1⟩ := ph0.el (idx_some hx1).2.2
  obtain ⟨rfl, -⟩ := r1
  refine qq (q_indexAddr Sl_73 rfl rfl ph0 hx1) rfl <| qq (q_loadN Tn_137 rfl (fun w1 hw => (g1.of_eq 0 11 rfl rfl : rg _ _ _ [iV x1.Op, iV x1.L.K, .string x1.L.S, iV x1.L.V.K, iV x1.L.V.N, .string x1.L.V.S, iV x1.R.K, .string x1.R.S, iV x1.R.V.K, iV x1.R.V.N, .string x1.R.V.S]).rangeAt hw.in0) rfl) rfl <| aqq 2 [] rfl ?_
  obtain ⟨x2, hx2, h⟩ := bs h
  obtain ⟨cs2, F2, -, g2, hb2, hs2, r2⟩ := ph1.el (idx_some hx2).2.2
  obtain ⟨rfl, -⟩ := r2
  refine qq (q_indexAddr Sl_73 rfl rfl ph1 hx2) rfl <| qq (q_loadN Tn_137 rfl (fun w1 hw => (g2.of_eq 0 11 rfl rfl : rg _ _ _ [iV x2.Op, iV x2.L.K, .string x2.L.S, iV x2.L.V.K, iV x2.L.V.N, .string x2.L.V.S, iV x2.R.K, .string x2.R.S, iV x2.R.V.K, iV x2.R.V.N, .string x2.R.V.S]).rangeAt hw.in0) rfl) rfl ?_
  obtain ⟨x3, hx3, h⟩ := bs h
  refine qp (p_call Fun_132 rfl (fun w1 hw => m_l_eqCond_ok N (ba hw.fro) x1 x2 hx3)) rfl <| aqt 2 [] rfl ?_
  refine ch h rfl ?_ ?_ <;> intro h
  ·refine att 4 [] rfl ?_
   exact rt hF h
  refine att 7 [] rfl ?_
  exact lb [] [] (ih1 _ h)
 refine att 5 [] rfl ?_
 exact rt hF h
theorem m_l_eqExpr_ok  (w0 : Base Ψ Φ []) (p0 : TExpr) (p1 : TExpr)  {r : Bool} (h : m_l_eqExpr N p0 p1 = some r) :
  CB w0 prog 158 [.agg [.string p0.Op, iV p0.L.K, .string p0.L.S, iV p0.L.V.K, iV p0.L.V.N, .string p0.L.V.S, iV p0.R.K, .string p0.R.S, iV p0.R.V.K, iV p0.R.V.N, .string p0.R.V.S].toArray, .agg [.string p1.Op, iV p1.L.K, .string p1.L.S, iV p1.L.V.K, iV p1.L.V.N, .string p1.L.V.S, iV p1.R.K, .string p1.R.S, iV p1.R.V.K, iV p1.R.V.N, .string p1.R.V.S].toArray] (.bool r) := by
 refine eN func158 rfl ntmps158 rfl w0 fun hF => ?_
 unfold m_l_eqExpr at h
 refine sr <| lbx rfl fun b_1 => lbx rfl fun b_2 => art 11 [0, 32, 0, 0] rfl ?_
 refine ch h rfl ?_ ?_ <;> intro h
 ·refine att 4 [] rfl ?_
  exact rt hF h
 refine atr 8 [1, 37, 1, 5] rfl <| qc h (m_l_eqArg_ok N · p0.L p1.L ·) rfl rfl rfl fun x1 h => la rfl <| en ?_
 refine ch h rfl ?_ ?_ <;> intro h
 ·refine att 4 [] rfl ?_
  exact rt hF h
 refine atr 8 [6, 37, 6, 5] rfl <| qc h (m_l_eqArg_ok N · p0.R p1.R ·) rfl rfl rfl fun x2 h => la rfl <| en ?_
 refine ch h rfl ?_ ?_ <;> intro h
 ·refine att 4 [] rfl ?_
  exact rt hF h
 refine att 5 [] rfl ?_
 exact rt hF h
theorem m_l_eqExprS_ok (w0 : Base Ψ Φ []) (p0 : (List TExpr)) (p1 : (List TExpr)) (ph0 : RSl RTExpr 11 Ψ pG0 pv0 p0) (ph1 : RSl RTExpr 11 Ψ pG1 pv1 p1) {r : Bool} (h : m_l_eqExprS N p0 p1 = some r) :
  CB w0 prog 151 [pv0, pv1] (.bool r) := by
 refine eN func151 rfl ntmps151 rfl w0 fun hF => ?_
 unfold m_l_eqExprS at h
 refine atr 8 [] rfl <| lnr ph0 rfl <| la rfl <| lnr ph1 rfl <| la rfl <| en ?_
 refine ch h rfl ?_ ?_ <;> intro h
 ·refine att 4 [] rfl ?_
  exact rt hF h
 refine att 7 [] rfl ?_
 refine lin (σ := Int) (fun s => [(0, pv0), (1, pv1), (5, iV s)]) (fun s => St w0 Φ [] []) (fun m s => m_l_eqExprS_l1 N p0 p1 m s = some r) (0) N h (sx [] []) (fun n1 ih1 s hm => ?_)
 revert hm; revert s; intro s1 hm
 have h : m_l_eqExprS_l1 N p0 p1 (n1 + 1) s1 = some r := hm
 show WT _ _ [(0, pv0), (1, pv1), (5, iV s1)] (St w0 Φ [] [])
 unfold m_l_eqExprS_l1 at h
 refine atr 5 [] rfl <| lnr ph0 rfl <| la rfl <| en ?_
 refine ch h rfl ?_ ?_ <;> intro h
 ·refine att 4 [] rfl <| WT.draw mixed (by kernel_rfl) (fun _ h => h.drew) <| aqq 2 [] rfl ?_
  obtain ⟨x1, hx1, h⟩ := bs h
  obtain ⟨cs1, F1, -, g1, hb1, hs1, r1⟩ := ph0.el (idx_some hx1).2.2
  obtain ⟨rfl, -⟩ := r1
  refine qq (q_indexAddr Sl_191 rfl rfl ph0 hx1) rfl <| qq (q_loadN Tn_229 rfl (fun w1 hw => (g1.of_eq 0 11 rfl rfl : rg _ _ _ [.string x1.Op, iV x1.L.K, .string x1.L.S, iV x1.L.V.K, iV x1.L.V.N, .string x1.L.V.S, iV x1.R.K, .string x1.R.S, iV x1.R.V.K, iV x1.R.V.N, .string x1.R.V.S]).rangeAt hw.in0) rfl) rfl <| aqq 2 [] rfl ?_
  obtain ⟨x2, hx2, h⟩ := bs h
  obtain ⟨cs2, F2, -, g2, hb2, hs2, r2⟩ := ph1.el (idx_some hx2).2.2
  obtain ⟨rfl, -⟩ := r2
  refine qq (q_indexAddr Sl_191 rfl rfl ph1 hx2) rfl <| qq (q_loadN Tn_229 rfl (fun w1 hw => (g2.of_eq 0 11 rfl rfl : rg _ _ _ [.string x2.Op, iV x2.L.K, .string x2.L.S, iV x2.L.V.K, iV x2.L.V.N, .string x2.L.V.S, iV x2.R.K, .string x2.R.S, iV x2.R.V.K, iV x2.R.V.N, .string x2.R.V.S]).rangeAt hw.in0) rfl) rfl ?_
  obtain ⟨x3, hx3, h⟩ := bs h
  refine qp (p_call Fun_158 rfl (fun w1 hw => m_l_eqExpr_ok N (ba hw.fro) x1 x2 hx3)) rfl <| aqt 2 [] rfl ?_
  refine ch h rfl ?_ ?_ <;> intro h
  ·refine att 4 [] rfl ?_
   exact rt hF h
  refine att 7 [] rfl ?_
  exact lb [] [] (ih1 _ h)
 refine att 5 [] rfl ?_
 exact rt hF h
theorem m_l_eqAct_ok (w0 : Base Ψ Φ []) (p0 : TAct) (p1 : TAct) (ph0_0 : RSl RTExpr 11 Ψ pG0_0 pv0_0 p0.Args) (ph1_0 : RSl RTExpr 11 Ψ pG1_0 pv1_0 p1.Args) {r : Bool} (h : m_l_eqAct N p0 p1 = some r) :
  CB w0 prog 133 [.agg [iV p0.Kind, .string p0.Name, pv0_0, iV p0.N, .string p0.Undo].toArray, .agg [iV p1.Kind, .string p1.Name, pv1_0, iV p1.N, .string p1.Undo].toArray] (.bool r) := by
 refine eN func133 rfl ntmps133 rfl w0 fun hF => ?_
 unfold m_l_eqAct at h
 refine sr <| lbx rfl fun b_1 => lbx rfl fun b_2 => art 11 [0, 32, 0, 0] rfl ?_
 refine ch h rfl ?_ ?_ <;> intro h
 ·refine att 4 [] rfl ?_
  exact rt hF h
 refine att 10 [1, 32, 1, 0] rfl ?_
 refine ch h rfl ?_ ?_ <;> intro h
 ·refine att 4 [] rfl ?_
  exact rt hF h
 refine atr 8 [2, 32, 2, 0] rfl <| qd h (m_l_eqExprS_ok N · p0.Args p1.Args ph0_0 ph1_0 ·) rfl rfl rfl fun x1 h => la rfl <| en ?_
 refine ch h rfl ?_ ?_ <;> intro h
 ·refine att 4 [] rfl ?_
  exact rt hF h
 refine att 10 [3, 32, 3, 0] rfl ?_
 refine ch h rfl ?_ ?_ <;> intro h
 ·refine att 4 [] rfl ?_
  exact rt hF h
 refine att 10 [4, 32, 4, 0] rfl ?_
 refine ch h rfl ?_ ?_ <;> intro h
 ·refine att 4 [] rfl ?_
  exact rt hF h
 refine att 5 [] rfl ?_
 exact rt hF h
theorem m_l_eqActS_ok (w0 : Base Ψ Φ []) (p0 : (List TAct)) (p1 : (List TAct)) (ph0 : RSl RTAct 5 Ψ pG0 pv0 p0) (ph1 : RSl RTAct 5 Ψ pG1 pv1 p1) {r : Bool} (h : m_l_eqActS N p0 p1 = some r) :
  CB w0 prog 109 [pv0, pv1] (.bool r) := by
 refine eN func109 rfl ntmps109 rfl w0 fun hF => ?_
 unfold m_l_eqActS at h
 refine atr 8 [] rfl <| lnr ph0 rfl <| la rfl <| lnr ph1 rfl <| la rfl <| en ?_
 refine ch h rfl ?_ ?_ <;> intro h
 ·refine att 4 [] rfl ?_
  exact rt hF h
 refine att 7 [] rfl ?_
 refine lin (σ := Int) (fun s => [(0, pv0), (1, pv1), (5, iV s)]) (fun s => St w0 Φ [] []) (fun m s => m_l_eqActS_l1 N p0 p1 m s = some r) (0) N h (sx [] []) (fun n1 ih1 s hm => ?_)
 revert hm; revert s; intro s1 hm
 have h : m_l_eqActS_l1 N p0 p1 (n1 + 1) s1 = some r := hm
 show WT _ _ [(0, pv0), (1, pv1), (5, iV s1)] (St w0 Φ [] [])
 unfold m_l_eqActS_l1 at h
 refine atr 5 [] rfl <| lnr ph0 rfl <| la rfl <| en ?_
 refine ch h rfl ?_ ?_ <;> intro h
 ·refine att 4 [] rfl <| WT.draw mixed (by kernel_rfl) (fun _ h => h.drew) <| aqq 2 [] rfl ?_
  obtain ⟨x1, hx1, h⟩ := bs h
  obtain ⟨cs1, F1, -, g1, hb1, hs1, r1⟩ := ph0.el (idx_some hx1).2.2
  obtain ⟨v1, G1, rfl, hq1, h1⟩ := r1
  obtain rfl := hq1.symm
  refine qq (q_indexAddr Sl_74 rfl rfl ph0 hx1) rfl <| qq (q_loadN Tn_193 rfl (fun w1 hw => (g1.of_eq 0 5 rfl rfl : rg _ _ _ [iV x1.Kind, .string x1.Name, v1, iV x1.N, .string x1.Undo]).rangeAt hw.in0) rfl) rfl <| aqq 2 [] rfl ?_
  obtain ⟨x2, hx2, h⟩ := bs h
  obtain ⟨cs2, F2, -, g2, hb2, hs2, r2⟩ := ph1.el (idx_some hx2).2.2
  obtain ⟨v2, G2, rfl, hq2, h2⟩ := r2
  obtain rfl := hq2.symm
  refine qq (q_indexAddr Sl_74 rfl rfl ph1 hx2) rfl <| qq (q_loadN Tn_193 rfl (fun w1 hw => (g2.of_eq 0 5 rfl rfl : rg _ _ _ [iV x2.Kind, .string x2.Name, v2, iV x2.N, .string x2.Undo]).rangeAt hw.in0) rfl) rfl ?_
  obtain ⟨x3, hx3, h⟩ := bs h
  refine qp (p_call Fun_133 rfl (fun w1 hw => m_l_eqAct_ok N (ba hw.in0) x1 x2 h1 h2 hx3)) rfl <| aqt 2 [] rfl ?_
  refine ch h rfl ?_ ?_ <;> intro h
  ·refine att 4 [] rfl ?_
   exact rt hF h
  refine att 7 [] rfl ?_
  exact lb [] [] (ih1 _ h)
 refine att 5 [] rfl ?_
 exact rt hF h
theorem m_l_eqRule_ok (w0 : Base Ψ Φ []) (p0 : TRule) (p1 : TRule) (ph0_0 : RSl RTPat 3 Ψ pG0_0 pv0_0 p0.Pats) (ph0_1 : RSl RTCond 11 Ψ pG0_1 pv0_1 p0.Conds) (ph0_2 : RSl RTAct 5 Ψ pG0_2 pv0_2 p0.Acts) (ph1_0 : RSl RTPat 3 Ψ pG1_0 pv1_0 p1.Pats) (ph1_1 : RSl RTCond 11 Ψ pG1_1 pv1_1 p1.Conds) (ph1_2 : RSl RTAct 5 Ψ pG1_2 pv1_2 p1.Acts) {r : Bool} (h : m_l_eqRule N p0 p1 = some r) :
  CB w0 prog 73 [.agg [.string p0.Name, iV p0.Sal, pv0_0, pv0_1, pv0_2].toArray, .agg [.string p1.Name, iV p1.Sal, pv1_0, pv1_1, pv1_2].toArray] (.bool r) := by
 refine eN func73 rfl ntmps73 rfl w0 fun hF => ?_
 unfold m_l_eqRule at h
 refine sr <| lbx rfl fun b_1 => lbx rfl fun b_2 => art 11 [0, 32, 0, 0] rfl ?_
 refine ch h rfl ?_ ?_ <;> intro h
 ·refine att 4 [] rfl ?_
  exact rt hF h
 refine att 10 [1, 32, 1, 0] rfl ?_
 refine ch h rfl ?_ ?_ <;> intro h
 ·refine att 4 [] rfl ?_
  exact rt hF h
 refine atr 8 [2, 32, 2, 0] rfl <| qd h (m_l_eqPatS_ok N · p0.Pats p1.Pats ph0_0 ph1_0 ·) rfl rfl rfl fun x1 h => la rfl <| en ?_
 refine ch h rfl ?_ ?_ <;> intro h
 ·refine att 4 [] rfl ?_
  exact rt hF h
 refine atr 8 [3, 32, 3, 0] rfl <| qd h (m_l_eqCondS_ok N · p0.Conds p1.Conds ph0_1 ph1_1 ·) rfl rfl rfl fun x2 h => la rfl <| en ?_
 refine ch h rfl ?_ ?_ <;> intro h
 ·refine att 4 [] rfl ?_
  exact rt hF h
 refine atr 8 [4, 32, 4, 0] rfl <| qd h (m_l_eqActS_ok N · p0.Acts p1.Acts ph0_2 ph1_2 ·) rfl rfl rfl fun x3 h => la rfl <| en ?_
 refine ch h rfl ?_ ?_ <;> intro h
 ·refine att 4 [] rfl ?_
  exact rt hF h
 refine att 5 [] rfl ?_
 exact rt hF h
theorem m_l_eqRuleS_ok (w0 : Base Ψ Φ []) (p0 : (List TRule)) (p1 : (List TRule)) (ph0 : RSl RTRule 5 Ψ pG0 pv0 p0) (ph1 : RSl RTRule 5 Ψ pG1 pv1 p1) {r : Bool} (h : m_l_eqRuleS N p0 p1 = some r) :
  CB w0 prog 40 [pv0, pv1] (.bool r) := by
 refine eN func40 rfl ntmps40 rfl w0 fun hF => ?_
 unfold m_l_eqRuleS at h
 refine atr 8 [] rfl <| lnr ph0 rfl <| la rfl <| lnr ph1 rfl <| la rfl <| en ?_
 refine ch h rfl ?_ ?_ <;> intro h
 ·refine att 4 [] rfl ?_
  exact rt hF h
 refine att 7 [] rfl ?_
 refine lin (σ := Int) (fun s => [(0, pv0), (1, pv1), (5, iV s)]) (fun s => St w0 Φ [] []) (fun m s => m_l_eqRuleS_l1 N p0 p1 m s = some r) (0) N h (sx [] []) (fun n1 ih1 s hm => ?_)
 revert hm; revert s; intro s1 hm
 have h : m_l_eqRuleS_l1 N p0 p1 (n1 + 1) s1 = some r := hm
 show WT _ _ [(0, pv0), (1, pv1), (5, iV s1)] (St w0 Φ [] [])
 unfold m_l_eqRuleS_l1 at h
 refine atr 5 [] rfl <| lnr ph0 rfl <| la rfl <| en ?_
 refine ch h rfl ?_ ?_ <;> intro h
 ·refine att 4 [] rfl <| WT.draw mixed (by kernel_rfl) (fun _ h => h.drew) <| aqq 2 [] rfl ?_
  obtain ⟨x1, hx1, h⟩ := bs h
  obtain ⟨cs1, F1, -, g1, hb1, hs1, r1⟩ := ph0.el (idx_some hx1).2.2
  obtain ⟨v1, G1, v2, G2, v3, G3, rfl, rfl, h1, h2, h3⟩ := r1
  refine qq (q_indexAddr Sl_37 rfl rfl ph0 hx1) rfl <| qq (q_loadN Tn_76 rfl (fun w1 hw => (g1.of_eq 0 5 rfl rfl : rg _ _ _ [.string x1.Name, iV x1.Sal, v1, v2, v3]).rangeAt hw.in0) rfl) rfl <| aqq 2 [] rfl ?_
  obtain ⟨x2, hx2, h⟩ := bs h
  obtain ⟨cs2, F2, -, g2, hb2, hs2, r2⟩ := ph1.el (idx_some hx2).2.2
  obtain ⟨v4, G4, v5, G5, v6, G6, rfl, rfl, h4, h5, h6⟩ := r2
  refine qq (q_indexAddr Sl_37 rfl rfl ph1 hx2) rfl <| qq (q_loadN Tn_76 rfl (fun w1 hw => (g2.of_eq 0 5 rfl rfl : rg _ _ _ [.string x2.Name, iV x2.Sal, v4, v5, v6]).rangeAt hw.in0) rfl) rfl ?_
  obtain ⟨x3, hx3, h⟩ := bs h
  refine qp (p_call Fun_73 rfl (fun w1 hw => m_l_eqRule_ok N (ba hw.in0) x1 x2 h1 h2 h3 h4 h5 h6 hx3)) rfl <| aqt 2 [] rfl ?_
  refine ch h rfl ?_ ?_ <;> intro h
  ·refine att 4 [] rfl ?_
   exact rt hF h
  refine att 7 [] rfl ?_
  exact lb [] [] (ih1 _ h)
 refine att 5 [] rfl ?_
 exact rt hF h
theorem m_l_eqDef_ok (w0 : Base Ψ Φ []) (p0 : TDef) (p1 : TDef) (ph0_0 : RSl RTRule 5 Ψ pG0_0 pv0_0 p0.Rules) (ph1_0 : RSl RTRule 5 Ψ pG1_0 pv1_0 p1.Rules) {r : Bool} (h : m_l_eqDef N p0 p1 = some r) :
  CB w0 prog 13 [.agg [.string p0.Name, pv0_0].toArray, .agg [.string p1.Name, pv1_0].toArray] (.bool r) := by
 refine eN func13 rfl ntmps13 rfl w0 fun hF => ?_
 unfold m_l_eqDef at h
 refine sr <| lbx rfl fun b_1 => lbx rfl fun b_2 => art 11 [0, 32, 0, 0] rfl ?_
 refine ch h rfl ?_ ?_ <;> intro h
 ·refine att 4 [] rfl ?_
  exact rt hF h
 refine atr 8 [1, 32, 1, 0] rfl <| qd h (m_l_eqRuleS_ok N · p0.Rules p1.Rules ph0_0 ph1_0 ·) rfl rfl rfl fun x1 h => la rfl <| en ?_
 refine ch h rfl ?_ ?_ <;> intro h
 ·refine att 4 [] rfl ?_
  exact rt hF h
 refine att 5 [] rfl ?_
 exact rt hF h
theorem m_l_eqIds_ok (w0 : Base Ψ Φ []) (p0 : TIds) (p1 : TIds) (ph0_0 : RSl (RI .i64) 1 Ψ pG0_0 pv0_0 p0.L) (ph1_0 : RSl (RI .i64) 1 Ψ pG1_0 pv1_0 p1.L) {r : Bool} (h : m_l_eqIds N p0 p1 = some r) :
  CB w0 prog 74 [.agg [pv0_0].toArray, .agg [pv1_0].toArray] (.bool r) := by
 refine eN func74 rfl ntmps74 rfl w0 fun hF => ?_
 unfold m_l_eqIds at h
 refine sr ?_
 refine ln (n_box (C := #[pv0_0]) rfl rfl) rfl (fun b_1 => ?_)
 refine ln (n_box (C := #[pv1_0]) rfl rfl) rfl (fun b_2 => ?_)
 refine arr 9 [0, 32, 0, 0] rfl <| qd h (m_l_eqIntS_ok N · p0.L p1.L ph0_0 ph1_0 ·) rfl rfl rfl fun x1 h => la rfl <| en ?_
 refine ch h rfl ?_ ?_ <;> intro h
 ·refine att 4 [] rfl ?_
  exact rt hF h
 refine att 5 [] rfl ?_
 exact rt hF h
theorem m_l_eqIdsS_ok (w0 : Base Ψ Φ []) (p0 : (List TIds)) (p1 : (List TIds)) (ph0 : RSl RTIds 1 Ψ pG0 pv0 p0) (ph1 : RSl RTIds 1 Ψ pG1 pv1 p1) {r : Bool} (h : m_l_eqIdsS N p0 p1 = some r) :
  CB w0 prog 41 [pv0, pv1] (.bool r) := by
 refine eN func41 rfl ntmps41 rfl w0 fun hF => ?_
 unfold m_l_eqIdsS at h
 refine atr 8 [] rfl <| lnr ph0 rfl <| la rfl <| lnr ph1 rfl <| la rfl <| en ?_
 refine ch h rfl ?_ ?_ <;> intro h
 ·refine att 4 [] rfl ?_
  exact rt hF h
 refine att 7 [] rfl ?_
 refine lin (σ := Int) (fun s => [(0, pv0), (1, pv1), (5, iV s)]) (fun s => St w0 Φ [] []) (fun m s => m_l_eqIdsS_l1 N p0 p1 m s = some r) (0) N h (sx [] []) (fun n1 ih1 s hm => ?_)
 revert hm; revert s; intro s1 hm
 have h : m_l_eqIdsS_l1 N p0 p1 (n1 + 1) s1 = some r := hm
 show WT _ _ [(0, pv0), (1, pv1), (5, iV s1)] (St w0 Φ [] [])
 unfold m_l_eqIdsS_l1 at h
 refine atr 5 [] rfl <| lnr ph0 rfl <| la rfl <| en ?_
 refine ch h rfl ?_ ?_ <;> intro h
 ·refine att 4 [] rfl <| WT.draw mixed (by kernel_rfl) (fun _ h => h.drew) <| aqq 2 [] rfl ?_
  obtain ⟨x1, hx1, h⟩ := bs h
  obtain ⟨cs1, F1, -, g1, hb1, hs1, r1⟩ := ph0.el (idx_some hx1).2.2
  obtain ⟨v1, G1, rfl, hq1, h1⟩ := r1
  obtain rfl := hq1.symm
  refine qq (q_indexAddr Sl_41 rfl rfl ph0 hx1) rfl <| qq (q_loadN Tn_139 rfl (fun w1 hw => (g1.of_eq 0 1 rfl rfl : rg _ _ _ [v1]).rangeAt hw.in0) rfl) rfl <| aqq 2 [] rfl ?_
  obtain ⟨x2, hx2, h⟩ := bs h
  obtain ⟨cs2, F2, -, g2, hb2, hs2, r2⟩ := ph1.el (idx_some hx2).2.2
  obtain ⟨v2, G2, rfl, hq2, h2⟩ := r2
  obtain rfl := hq2.symm
  refine qq (q_indexAddr Sl_41 rfl rfl ph1 hx2) rfl <| qq (q_loadN Tn_139 rfl (fun w1 hw => (g2.of_eq 0 1 rfl rfl : rg _ _ _ [v2]).rangeAt hw.in0) rfl) rfl ?_
  obtain ⟨x3, hx3, h⟩ := bs h
  refine qp (p_call Fun_74 rfl (fun w1 hw => m_l_eqIds_ok N (ba hw.in0) x1 x2 h1 h2 hx3)) rfl <| aqt 2 [] rfl ?_
  refine ch h rfl ?_ ?_ <;> intro h
  ·refine att 4 [] rfl ?_
   exact rt hF h
  refine att 7 [] rfl ?_
  exact lb [] [] (ih1 _ h)
 refine att 5 [] rfl ?_
 exact rt hF h
theorem m_l_eqTok_ok (w0 : Base Ψ Φ []) (p0 : TTok) (p1 : TTok) (ph0_0 : RSl (RI .i64) 1 Ψ pG0_0 pv0_0 p0.Ids) (ph0_1 : RSl (RI .i64) 1 Ψ pG0_1 pv0_1 p0.Hits) (ph1_0 : RSl (RI .i64) 1 Ψ pG1_0 pv1_0 p1.Ids) (ph1_1 : RSl (RI .i64) 1 Ψ pG1_1 pv1_1 p1.Hits) {r : Bool} (h : m_l_eqTok N p0 p1 = some r) :
  CB w0 prog 159 [.agg [pv0_0, pv0_1].toArray, .agg [pv1_0, pv1_1].toArray] (.bool r) := by
 refine eN func159 rfl ntmps159 rfl w0 fun hF => ?_
 unfold m_l_eqTok at h
 refine sr <| lbx rfl fun b_1 => lbx rfl fun b_2 => arr 9 [0, 32, 0, 0] rfl <| qd h (m_l_eqIntS_ok N · p0.Ids p1.Ids ph0_0 ph1_0 ·) rfl rfl rfl fun x1 h => la rfl <| en ?_
 refine ch h rfl ?_ ?_ <;> intro h
 ·refine att 4 [] rfl ?_
  exact rt hF h
 refine atr 8 [1, 32, 1, 0] rfl <| qd h (m_l_eqIntS_ok N · p0.Hits p1.Hits ph0_1 ph1_1 ·) rfl rfl rfl fun x2 h => la rfl <| en ?_
 refine ch h rfl ?_ ?_ <;> intro h
 ·refine att 4 [] rfl ?_
  exact rt hF h
 refine att 5 [] rfl ?_
 exact rt hF h
theorem m_l_eqTokS_ok (w0 : Base Ψ Φ []) (p0 : (List TTok)) (p1 : (List TTok)) (ph0 : RSl RTTok 2 Ψ pG0 pv0 p0) (ph1 : RSl RTTok 2 Ψ pG1 pv1 p1) {r : Bool} (h : m_l_eqTokS N p0 p1 = some r) :
  CB w0 prog 152 [pv0, pv1] (.bool r) := by
 refine eN func152 rfl ntmps152 rfl w0 fun hF => ?_
 unfold m_l_eqTokS at h
 refine atr 8 [] rfl <| lnr ph0 rfl <| la rfl <| lnr ph1 rfl <| la rfl <| en ?_
 refine ch h rfl ?_ ?_ <;> intro h
 ·refine att 4 [] rfl ?_
  exact rt hF h
 refine att 7 [] rfl ?_
 refine lin (σ := Int) (fun s => [(0, pv0), (1, pv1), (5, iV s)]) (fun s => St w0 Φ [] []) (fun m s => m_l_eqTokS_l1 N p0 p1 m s = some r) (0) N h (sx [] []) (fun n1 ih1 s hm => ?_)
 revert hm; revert s; intro s1 hm
 have h : m_l_eqTokS_l1 N p0 p1 (n1 + 1) s1 = some r := hm
 show WT _ _ [(0, pv0), (1, pv1), (5, iV s1)] (St w0 Φ [] [])
 unfold m_l_eqTokS_l1 at h
 refine atr 5 [] rfl <| lnr ph0 rfl <| la rfl <| en ?_
 refine ch h rfl ?_ ?_ <;> intro h
 ·refine att 4 [] rfl <| WT.draw mixed (by kernel_rfl) (fun _ h => h.drew) <| aqq 2 [] rfl ?_
  obtain ⟨x1, hx1, h⟩ := bs h
  obtain ⟨cs1, F1, -, g1, hb1, hs1, r1⟩ := ph0.el (idx_some hx1).2.2
  obtain ⟨v1, G1, v2, G2, rfl, rfl, h1, h2⟩ := r1
  refine qq (q_indexAddr Sl_66 rfl rfl ph0 hx1) rfl <| qq (q_loadN Tn_79 rfl (fun w1 hw => (g1.of_eq 0 2 rfl rfl : rg _ _ _ [v1, v2]).rangeAt hw.in0) rfl) rfl <| aqq 2 [] rfl ?_
  obtain ⟨x2, hx2, h⟩ := bs h
  obtain ⟨cs2, F2, -, g2, hb2, hs2, r2⟩ := ph1.el (idx_some hx2).2.2
  obtain ⟨v3, G3, v4, G4, rfl, rfl, h3, h4⟩ := r2
  refine qq (q_indexAddr Sl_66 rfl rfl ph1 hx2) rfl <| qq (q_loadN Tn_79 rfl (fun w1 hw => (g2.of_eq 0 2 rfl rfl : rg _ _ _ [v3, v4]).rangeAt hw.in0) rfl) rfl ?_
  obtain ⟨x3, hx3, h⟩ := bs h
  refine qp (p_call Fun_159 rfl (fun w1 hw => m_l_eqTok_ok N (ba hw.in0) x1 x2 h1 h2 h3 h4 hx3)) rfl <| aqt 2 [] rfl ?_
  refine ch h rfl ?_ ?_ <;> intro h
  ·refine att 4 [] rfl ?_
   exact rt hF h
  refine att 7 [] rfl ?_
  exact lb [] [] (ih1 _ h)
 refine att 5 [] rfl ?_
 exact rt hF h
theorem m_l_eqLevel_ok (w0 : Base Ψ Φ []) (p0 : TLevel) (p1 : TLevel) (ph0_0 : RSl RTTok 2 Ψ pG0_0 pv0_0 p0.Toks) (ph1_0 : RSl RTTok 2 Ψ pG1_0 pv1_0 p1.Toks) {r : Bool} (h : m_l_eqLevel N p0 p1 = some r) :
  CB w0 prog 134 [.agg [pv0_0].toArray, .agg [pv1_0].toArray] (.bool r) := by
 refine eN func134 rfl ntmps134 rfl w0 fun hF => ?_
 unfold m_l_eqLevel at h
 refine sr ?_
 refine ln (n_box (C := #[pv0_0]) rfl rfl) rfl (fun b_1 => ?_)
 refine ln (n_box (C := #[pv1_0]) rfl rfl) rfl (fun b_2 => ?_)
 refine arr 9 [0, 32, 0, 0] rfl <| qd h (m_l_eqTokS_ok N · p0.Toks p1.Toks ph0_0 ph1_0 ·) rfl rfl rfl fun x1 h => la rfl <| en ?_
 refine ch h rfl ?_ ?_ <;> intro h
 ·refine att 4 [] rfl ?_
  exact rt hF h
 refine att 5 [] rfl ?_
 exact rt hF h
theorem m_l_eqLevelS_ok (w0 : Base Ψ Φ []) (p0 : (List TLevel)) (p1 : (List TLevel)) (ph0 : RSl RTLevel 1 Ψ pG0 pv0 p0) (ph1 : RSl RTLevel 1 Ψ pG1 pv1 p1) {r : Bool} (h : m_l_eqLevelS N p0 p1 = some r) :
  CB w0 prog 110 [pv0, pv1] (.bool r) := by
 refine eN func110 rfl ntmps110 rfl w0 fun hF => ?_
 unfold m_l_eqLevelS at h
 refine atr 8 [] rfl <| lnr ph0 rfl <| la rfl <| lnr ph1 rfl <| la rfl <| en ?_
 refine ch h rfl ?_ ?_ <;> intro h
 ·refine att 4 [] rfl ?_
  exact rt hF h
 refine att 7 [] rfl ?_
 refine lin (σ := Int) (fun s => [(0, pv0), (1, pv1), (5, iV s)]) (fun s => St w0 Φ [] []) (fun m s => m_l_eqLevelS_l1 N p0 p1 m s = some r) (0) N h (sx [] []) (fun n1 ih1 s hm => ?_)
 revert hm; revert s; intro s1 hm
 have h : m_l_eqLevelS_l1 N p0 p1 (n1 + 1) s1 = some r := hm
 show WT _ _ [(0, pv0), (1, pv1), (5, iV s1)] (St w0 Φ [] [])
 unfold m_l_eqLevelS_l1 at h
 refine atr 5 [] rfl <| lnr ph0 rfl <| la rfl <| en ?_
 refine ch h rfl ?_ ?_ <;> intro h
 ·refine att 4 [] rfl <| WT.draw mixed (by kernel_rfl) (fun _ h => h.drew) <| aqq 2 [] rfl ?_
  obtain ⟨x1, hx1, h⟩ := bs h
  obtain ⟨cs1, F1, -, g1, hb1, hs1, r1⟩ := ph0.el (idx_some hx1).2.2
  obtain ⟨v1, G1, rfl, hq1, h1⟩ := r1
  obtain rfl := hq1.symm
  refine qq (q_indexAddr Sl_63 rfl rfl ph0 hx1) rfl <| qq (q_loadN Tn_68 rfl (fun w1 hw => (g1.of_eq 0 1 rfl rfl : rg _ _ _ [v1]).rangeAt hw.in0) rfl) rfl <| aqq 2 [] rfl ?_
  obtain ⟨x2, hx2, h⟩ := bs h
  obtain ⟨cs2, F2, -, g2, hb2, hs2, r2⟩ := ph1.el (idx_some hx2).2.2
  obtain ⟨v2, G2, rfl, hq2, h2⟩ := r2
  obtain rfl := hq2.symm
  refine qq (q_indexAddr Sl_63 rfl rfl ph1 hx2) rfl <| qq (q_loadN Tn_68 rfl (fun w1 hw => (g2.of_eq 0 1 rfl rfl : rg _ _ _ [v2]).rangeAt hw.in0) rfl) rfl ?_
  obtain ⟨x3, hx3, h⟩ := bs h
  refine qp (p_call Fun_134 rfl (fun w1 hw => m_l_eqLevel_ok N (ba hw.in0) x1 x2 h1 h2 hx3)) rfl <| aqt 2 [] rfl ?_
  refine ch h rfl ?_ ?_ <;> intro h
  ·refine att 4 [] rfl ?_
   exact rt hF h
  refine att 7 [] rfl ?_
  exact lb [] [] (ih1 _ h)
 refine att 5 [] rfl ?_
 exact rt hF h
theorem m_l_eqRow_ok (w0 : Base Ψ Φ []) (p0 : TRow) (p1 : TRow) (ph0_0 : RSl RTLevel 1 Ψ pG0_0 pv0_0 p0.Levels) (ph1_0 : RSl RTLevel 1 Ψ pG1_0 pv1_0 p1.Levels) {r : Bool} (h : m_l_eqRow N p0 p1 = some r) :
  CB w0 prog 75 [.agg [pv0_0].toArray, .agg [pv1_0].toArray] (.bool r) := by
 refine eN func75 rfl ntmps75 rfl w0 fun hF => ?_
 unfold m_l_eqRow at h
 refine sr ?_
 refine ln (n_box (C := #[pv0_0]) rfl rfl) rfl (fun b_1 => ?_)
 refine ln (n_box (C := #[pv1_0]) rfl rfl) rfl (fun b_2 => ?_)
 refine arr 9 [0, 32, 0, 0] rfl <| qd h (m_l_eqLevelS_ok N · p0.Levels p1.Levels ph0_0 ph1_0 ·) rfl rfl rfl fun x1 h => la rfl <| en ?_
 refine ch h rfl ?_ ?_ <;> intro h
 ·refine att 4 [] rfl ?_
  exact rt hF h
 refine att 5 [] rfl ?_
 exact rt hF h
theorem m_l_eqRowS_ok (w0 : Base Ψ Φ []) (p0 : (List TRow)) (p1 : (List TRow)) (ph0 : RSl RTRow 1 Ψ pG0 pv0 p0) (ph1 : RSl RTRow 1 Ψ pG1 pv1 p1) {r : Bool} (h : m_l_eqRowS N p0 p1 = some r) :
  CB w0 prog 42 [pv0, pv1] (.bool r) := by
 refine eN func42 rfl ntmps42 rfl w0 fun hF => ?_
 unfold m_l_eqRowS at h
 refine atr 8 [] rfl <| lnr ph0 rfl <| la rfl <| lnr ph1 rfl <| la rfl <| en ?_
 refine ch h rfl ?_ ?_ <;> intro h
 ·refine att 4 [] rfl ?_
  exact rt hF h
 refine att 7 [] rfl ?_
 refine lin (σ := Int) (fun s => [(0, pv0), (1, pv1), (5, iV s)]) (fun s => St w0 Φ [] []) (fun m s => m_l_eqRowS_l1 N p0 p1 m s = some r) (0) N h (sx [] []) (fun n1 ih1 s hm => ?_)
 revert hm; revert s; intro s1 hm
 have h : m_l_eqRowS_l1 N p0 p1 (n1 + 1) s1 = some r := hm
 show WT _ _ [(0, pv0), (1, pv1), (5, iV s1)] (St w0 Φ [] [])
 unfold m_l_eqRowS_l1 at h
 refine atr 5 [] rfl <| lnr ph0 rfl <| la rfl <| en ?_
 refine ch h rfl ?_ ?_ <;> intro h
 ·refine att 4 [] rfl <| WT.draw mixed (by kernel_rfl) (fun _ h => h.drew) <| aqq 2 [] rfl ?_
  obtain ⟨x1, hx1, h⟩ := bs h
  obtain ⟨cs1, F1, -, g1, hb1, hs1, r1⟩ := ph0.el (idx_some hx1).2.2
  obtain ⟨v1, G1, rfl, hq1, h1⟩ := r1
  obtain rfl := hq1.symm
  refine qq (q_indexAddr Sl_42 rfl rfl ph0 hx1) rfl <| qq (q_loadN Tn_65 rfl (fun w1 hw => (g1.of_eq 0 1 rfl rfl : rg _ _ _ [v1]).rangeAt hw.in0) rfl) rfl <| aqq 2 [] rfl ?_
  obtain ⟨x2, hx2, h⟩ := bs h
  obtain ⟨cs2, F2, -, g2, hb2, hs2, r2⟩ := ph1.el (idx_some hx2).2.2
  obtain ⟨v2, G2, rfl, hq2, h2⟩ := r2
  obtain rfl := hq2.symm
  refine qq (q_indexAddr Sl_42 rfl rfl ph1 hx2) rfl <| qq (q_loadN Tn_65 rfl (fun w1 hw => (g2.of_eq 0 1 rfl rfl : rg _ _ _ [v2]).rangeAt hw.in0) rfl) rfl ?_
  obtain ⟨x3, hx3, h⟩ := bs h
  refine qp (p_call Fun_75 rfl (fun w1 hw => m_l_eqRow_ok N (ba hw.in0) x1 x2 h1 h2 hx3)) rfl <| aqt 2 [] rfl ?_
  refine ch h rfl ?_ ?_ <;> intro h
  ·refine att 4 [] rfl ?_
   exact rt hF h
  refine att 7 [] rfl ?_
  exact lb [] [] (ih1 _ h)
 refine att 5 [] rfl ?_
 exact rt hF h
theorem m_l_eqMem_ok (w0 : Base Ψ Φ []) (p0 : TMem) (p1 : TMem) (ph0_0 : RSl RTIds 1 Ψ pG0_0 pv0_0 p0.Alphas) (ph0_1 : RSl RTRow 1 Ψ pG0_1 pv0_1 p0.Rules) (ph1_0 : RSl RTIds 1 Ψ pG1_0 pv1_0 p1.Alphas) (ph1_1 : RSl RTRow 1 Ψ pG1_1 pv1_1 p1.Rules) {r : Bool} (h : m_l_eqMem N p0 p1 = some r) :
  CB w0 prog 14 [.agg [pv0_0, pv0_1].toArray, .agg [pv1_0, pv1_1].toArray] (.bool r) := by
 refine eN func14 rfl ntmps14 rfl w0 fun hF => ?_
 unfold m_l_eqMem at h
 refine sr <| lbx rfl fun b_1 => lbx rfl fun b_2 => arr 9 [0, 32, 0, 0] rfl <| qd h (m_l_eqIdsS_ok N · p0.Alphas p1.Alphas ph0_0 ph1_0 ·) rfl rfl rfl fun x1 h => la rfl <| en ?_
 refine ch h rfl ?_ ?_ <;> intro h
 ·refine att 4 [] rfl ?_
  exact rt hF h
 refine atr 8 [1, 32, 1, 0] rfl <| qd h (m_l_eqRowS_ok N · p0.Rules p1.Rules ph0_1 ph1_1 ·) rfl rfl rfl fun x2 h => la rfl <| en ?_
 refine ch h rfl ?_ ?_ <;> intro h
 ·refine att 4 [] rfl ?_
  exact rt hF h
 refine att 5 [] rfl ?_
 exact rt hF h
theorem m_l_eqValS_ok (w0 : Base Ψ Φ []) (p0 : (List TVal)) (p1 : (List TVal)) (ph0 : RSl RTVal 3 Ψ pG0 pv0 p0) (ph1 : RSl RTVal 3 Ψ pG1 pv1 p1) {r : Bool} (h : m_l_eqValS N p0 p1 = some r) :
  CB w0 prog 135 [pv0, pv1] (.bool r) := by
 refine eN func135 rfl ntmps135 rfl w0 fun hF => ?_
 unfold m_l_eqValS at h
 refine atr 8 [] rfl <| lnr ph0 rfl <| la rfl <| lnr ph1 rfl <| la rfl <| en ?_
 refine ch h rfl ?_ ?_ <;> intro h
 ·refine att 4 [] rfl ?_
  exact rt hF h
 refine att 7 [] rfl ?_
 refine lin (σ := Int) (fun s => [(0, pv0), (1, pv1), (5, iV s)]) (fun s => St w0 Φ [] []) (fun m s => m_l_eqValS_l1 N p0 p1 m s = some r) (0) N h (sx [] []) (fun n1 ih1 s hm => ?_)
 revert hm; revert s; intro s1 hm
 have h : m_l_eqValS_l1 N p0 p1 (n1 + 1) s1 = some r := hm
 show WT _ _ [(0, pv0), (1, pv1), (5, iV s1)] (St w0 Φ [] [])
 unfold m_l_eqValS_l1 at h
 refine atr 5 [] rfl <| lnr ph0 rfl <| la rfl <| en ?_
 refine ch h rfl ?_ ?_ <;> intro h
 ·refine att 4 [] rfl <| WT.draw mixed (by kernel_rfl) (fun _ h => h.drew) <| aqq 2 [] rfl ?_
  obtain ⟨x1, hx1, h⟩ := bs h
  obtain ⟨cs1, F1, -, g1, hb1, hs1, r1⟩ := ph0.el (idx_some hx1).2.2
  obtain ⟨rfl, -⟩ := r1
  refine qq (q_indexAddr Sl_125 rfl rfl ph0 hx1) rfl <| qq (q_loadN Tn_133 rfl (fun w1 hw => (g1.of_eq 0 3 rfl rfl : rg _ _ _ [iV x1.K, iV x1.N, .string x1.S]).rangeAt hw.in0) rfl) rfl <| aqq 2 [] rfl ?_
  obtain ⟨x2, hx2, h⟩ := bs h
  obtain ⟨cs2, F2, -, g2, hb2, hs2, r2⟩ := ph1.el (idx_some hx2).2.2
  obtain ⟨rfl, -⟩ := r2
  refine qq (q_indexAddr Sl_125 rfl rfl ph1 hx2) rfl <| qq (q_loadN Tn_133 rfl (fun w1 hw => (g2.of_eq 0 3 rfl rfl : rg _ _ _ [iV x2.K, iV x2.N, .string x2.S]).rangeAt hw.in0) rfl) rfl ?_
  obtain ⟨x3, hx3, h⟩ := bs h
  refine qp (p_call Fun_130 rfl (fun w1 hw => m_l_eqVal_ok N (ba hw.fro) x1 x2 hx3)) rfl <| aqt 2 [] rfl ?_
  refine ch h rfl ?_ ?_ <;> intro h
  ·refine att 4 [] rfl ?_
   exact rt hF h
  refine att 7 [] rfl ?_
  exact lb [] [] (ih1 _ h)
 refine att 5 [] rfl ?_
 exact rt hF h
theorem m_l_eqFact_ok (w0 : Base Ψ Φ []) (p0 : TFact) (p1 : TFact) (ph0_0 : RSl RTVal 3 Ψ pG0_0 pv0_0 p0.Fields) (ph1_0 : RSl RTVal 3 Ψ pG1_0 pv1_0 p1.Fields) {r : Bool} (h : m_l_eqFact N p0 p1 = some r) :
  CB w0 prog 111 [.agg [.string p0.Kind, pv0_0].toArray, .agg [.string p1.Kind, pv1_0].toArray] (.bool r) := by
 refine eN func111 rfl ntmps111 rfl w0 fun hF => ?_
 unfold m_l_eqFact at h
 refine sr <| lbx rfl fun b_1 => lbx rfl fun b_2 => art 11 [0, 32, 0, 0] rfl ?_
 refine ch h rfl ?_ ?_ <;> intro h
 ·refine att 4 [] rfl ?_
  exact rt hF h
 refine atr 8 [1, 32, 1, 0] rfl <| qd h (m_l_eqValS_ok N · p0.Fields p1.Fields ph0_0 ph1_0 ·) rfl rfl rfl fun x1 h => la rfl <| en ?_
 refine ch h rfl ?_ ?_ <;> intro h
 ·refine att 4 [] rfl ?_
  exact rt hF h
 refine att 5 [] rfl ?_
 exact rt hF h
theorem m_l_eqItem_ok (w0 : Base Ψ Φ []) (p0 : TItem) (p1 : TItem) (ph0_0 : RSl RTVal 3 Ψ pG0_0 pv0_0 p0.F.Fields) (ph1_0 : RSl RTVal 3 Ψ pG1_0 pv1_0 p1.F.Fields) {r : Bool} (h : m_l_eqItem N p0 p1 = some r) :
  CB w0 prog 76 [.agg [iV p0.Id, .string p0.F.Kind, pv0_0].toArray, .agg [iV p1.Id, .string p1.F.Kind, pv1_0].toArray] (.bool r) := by
 refine eN func76 rfl ntmps76 rfl w0 fun hF => ?_
 unfold m_l_eqItem at h
 refine sr <| lbx rfl fun b_1 => lbx rfl fun b_2 => art 11 [0, 32, 0, 0] rfl ?_
 refine ch h rfl ?_ ?_ <;> intro h
 ·refine att 4 [] rfl ?_
  exact rt hF h
 refine atr 8 [1, 34, 1, 2] rfl <| qd h (m_l_eqFact_ok N · p0.F p1.F ph0_0 ph1_0 ·) rfl rfl rfl fun x1 h => la rfl <| en ?_
 refine ch h rfl ?_ ?_ <;> intro h
 ·refine att 4 [] rfl ?_
  exact rt hF h
 refine att 5 [] rfl ?_
 exact rt hF h
theorem m_l_eqItemS_ok (w0 : Base Ψ Φ []) (p0 : (List TItem)) (p1 : (List TItem)) (ph0 : RSl RTItem 3 Ψ pG0 pv0 p0) (ph1 : RSl RTItem 3 Ψ pG1 pv1 p1) {r : Bool} (h : m_l_eqItemS N p0 p1 = some r) :
  CB w0 prog 43 [pv0, pv1] (.bool r) := by
 refine eN func43 rfl ntmps43 rfl w0 fun hF => ?_
 unfold m_l_eqItemS at h
 refine atr 8 [] rfl <| lnr ph0 rfl <| la rfl <| lnr ph1 rfl <| la rfl <| en ?_
 refine ch h rfl ?_ ?_ <;> intro h
 ·refine att 4 [] rfl ?_
  exact rt hF h
 refine att 7 [] rfl ?_
 refine lin (σ := Int) (fun s => [(0, pv0), (1, pv1), (5, iV s)]) (fun s => St w0 Φ [] []) (fun m s => m_l_eqItemS_l1 N p0 p1 m s = some r) (0) N h (sx [] []) (fun n1 ih1 s hm => ?_)
 revert hm; revert s; intro s1 hm
 have h : m_l_eqItemS_l1 N p0 p1 (n1 + 1) s1 = some r := hm
 show WT _ _ [(0, pv0), (1, pv1), (5, iV s1)] (St w0 Φ [] [])
 unfold m_l_eqItemS_l1 at h
 refine atr 5 [] rfl <| lnr ph0 rfl <| la rfl <| en ?_
 refine ch h rfl ?_ ?_ <;> intro h
 ·refine att 4 [] rfl <| WT.draw mixed (by kernel_rfl) (fun _ h => h.drew) <| aqq 2 [] rfl ?_
  obtain ⟨x1, hx1, h⟩ := bs h
  obtain ⟨cs1, F1, -, g1, hb1, hs1, r1⟩ := ph0.el (idx_some hx1).2.2
  obtain ⟨v1, G1, rfl, hq1, h1⟩ := r1
  obtain rfl := hq1.symm
  refine qq (q_indexAddr Sl_46 rfl rfl ph0 hx1) rfl <| qq (q_loadN Tn_143 rfl (fun w1 hw => (g1.of_eq 0 3 rfl rfl : rg _ _ _ [iV x1.Id, .string x1.F.Kind, v1]).rangeAt hw.in0) rfl) rfl <| aqq 2 [] rfl ?_
  obtain ⟨x2, hx2, h⟩ := bs h
  obtain ⟨cs2, F2, -, g2, hb2, hs2, r2⟩ := ph1.el (idx_some hx2).2.2
  obtain ⟨v2, G2, rfl, hq2, h2⟩ := r2
  obtain rfl := hq2.symm
  refine qq (q_indexAddr Sl_46 rfl rfl ph1 hx2) rfl <| qq (q_loadN Tn_143 rfl (fun w1 hw => (g2.of_eq 0 3 rfl rfl : rg _ _ _ [iV x2.Id, .string x2.F.Kind, v2]).rangeAt hw.in0) rfl) rfl ?_
  obtain ⟨x3, hx3, h⟩ := bs h
  refine qp (p_call Fun_76 rfl (fun w1 hw => m_l_eqItem_ok N (ba hw.in0) x1 x2 h1 h2 hx3)) rfl <| aqt 2 [] rfl ?_
  refine ch h rfl ?_ ?_ <;> intro h
  ·refine att 4 [] rfl ?_
   exact rt hF h
  refine att 7 [] rfl ?_
  exact lb [] [] (ih1 _ h)
 refine att 5 [] rfl ?_
 exact rt hF h
theorem m_l_eqStore_ok (w0 : Base Ψ Φ []) (p0 : TStore) (p1 : TStore) (ph0_0 : RSl RTItem 3 Ψ pG0_0 pv0_0 p0.Items) (ph1_0 : RSl RTItem 3 Ψ pG1_0 pv1_0 p1.Items) {r : Bool} (h : m_l_eqStore N p0 p1 = some r) :
  CB w0 prog 15 [.agg [pv0_0, iV p0.Next].toArray, .agg [pv1_0, iV p1.Next].toArray] (.bool r) := by
 refine eN func15 rfl ntmps15 rfl w0 fun hF => ?_
 unfold m_l_eqStore at h
 refine sr <| lbx rfl fun b_1 => lbx rfl fun b_2 => arr 9 [0, 32, 0, 0] rfl <| qd h (m_l_eqItemS_ok N · p0.Items p1.Items ph0_0 ph1_0 ·) rfl rfl rfl fun x1 h => la rfl <| en ?_
 refine ch h rfl ?_ ?_ <;> intro h
 ·refine att 4 [] rfl ?_
  exact rt hF h
 refine att 10 [1, 32, 1, 0] rfl ?_
 refine ch h rfl ?_ ?_ <;> intro h
 ·refine att 4 [] rfl ?_
  exact rt hF h
 refine att 5 [] rfl ?_
 exact rt hF h
theorem m_l_markText_ok  (w0 : Base Ψ Φ []) (p0 : Int)  {r : ByteArray} (h : m_l_markText N p0 = some r) :
  CB w0 prog 77 [iV p0] (.string r) := by
 refine eN func77 rfl ntmps77 rfl w0 fun hF => ?_
 unfold m_l_markText at h
 refine att 10 [] rfl ?_
 refine ch h rfl ?_ ?_ <;> intro h
 ·refine att 4 [] rfl ?_
  exact rt hF h
 refine att 7 [] rfl ?_
 refine lin (σ := Hp × Int × ByteArray) (fun s => [(0, iV s.2.1), (3, .string s.2.2)]) (fun s => St w0 s.1 [] []) (fun m s => m_l_markText_l1 N m s.2.1 s.2.2 = some r) (Φ, p0, (⟨#[]⟩ : ByteArray)) N h (sx [] []) (fun n1 ih1 s hm => ?_)
 obtain ⟨Φ_1, s1, s2⟩ := s
 have h : m_l_markText_l1 N (n1 + 1) s1 s2 = some r := hm
 show WT _ _ [(0, iV s1), (3, .string s2)] (St w0 Φ_1 [] [])
 unfold m_l_markText_l1 at h
 refine att 6 [] rfl ?_
 refine ch h rfl ?_ ?_ <;> intro h
 ·refine atr 5 [] rfl <| lq (q_rem rfl rfl (by decide)) rfl <| la rfl <| lq (q_convI Ik_3 Ik_5 rfl) rfl ?_
  have rc1 : RC (RI .u8) 1 Φ_1 ([[]] : List (List Nat)) [.int .u8 (IntKind.u8.wrap (wz (48 + (s1.tmod 10))))] ([(IntKind.u8.wrap (wz (48 + (s1.tmod 10))))] : List Int) := RC.cons (c := [.int .u8 (IntKind.u8.wrap (wz (48 + (s1.tmod 10))))]) (cells := []) ⟨rfl, rfl⟩ rfl (RC.nil _ _ _)
  refine le' (e_lit (vs := [(0, .int .u8 (IntKind.u8.wrap (wz (48 + (s1.tmod 10)))))]) (C := #[.int .u8 (IntKind.u8.wrap (wz (48 + (s1.tmod 10))))]) RI.lasts Sl_189 Zr_5 rfl rfl rfl rfl (fill_made MC_5_1 (fill_cons (C' := [.int .u8 (IntKind.u8.wrap (wz (48 + (s1.tmod 10))))]) rfl rfl rfl rfl rfl (fill_nil))) rfl rc1 rfl (by simpa using Kw.nil)) rfl ?_
  rintro v1 Φ_2 D1 ⟨fr1, h1⟩
  replace h1 : OSl (RI .u8) 5 1 Φ_2 [] v1 ([(IntKind.u8.wrap (wz (48 + (s1.tmod 10))))] : List Int) := by simpa using h1
  refine lq (q_convB Sl_189 Ik_5 Str_9 rfl (fun w1 hw => h1.rsl)) rfl <| la rfl ?_
  obtain ⟨z1, hz1, h⟩ := bs h
  refine lq (q_cat rfl rfl hz1) rfl <| arr 4 [] rfl <| lq (q_quo rfl rfl (by decide)) rfl <| art 3 [] rfl ?_
  exact lb [] [] (ih1 (_, _, _) h)
 refine atr 4 [] rfl ?_
 obtain ⟨z2, hz2, h⟩ := bs h
 refine lq (q_cat rfl rfl hz2) rfl <| la rfl <| en ?_
 exact rt hF h
theorem m_l_markArgS_ok (w0 : Base Ψ Φ [ob pv0].flatten) (p0 : (List TArg)) (p1 : Int) (ph0 : OSl RTArg 135 5 Φ [] pv0 p0) {r : Int × (List TArg)} (h : m_l_markArgS N p0 p1 = some r) :
  Calls prog 112 [pv0, iV p1].toArray w0.w (PostG Φ w0.w [ob pv0].flatten (fun Φ' Fs v => v = iV r.1 ∧ Fs = [ob pv0] ∧ OSl RTArg 135 5 Φ' [] pv0 r.2)) := by
 refine eL func112 rfl ntmps112 rfl (L := [ob pv0]) w0 (fun hF => ?_)
 unfold m_l_markArgS at h
 refine att 10 [] rfl ?_
 refine lin (σ := Hp × (List TArg) × Int × Int) (fun s => [(0, pv0), (1, iV s.2.2.1), (5, iV s.2.2.2)]) (fun s => St w0 s.1 [] [ob pv0]) (fun m s => m_l_markArgS_l1 N m s.2.1 s.2.2.1 s.2.2.2 = some r ∧ (OSl RTArg 135 5 s.1 [] pv0 s.2.1)) (Φ, p0, p1, 0) N ⟨h, ph0⟩ (sx [0] []) (fun n1 ih1 s hm => ?_)
 obtain ⟨Φ_1, s1, s2, s3⟩ := s
 obtain ⟨h, k1⟩ := hm
 dsimp only at h k1 ⊢
 unfold m_l_markArgS_l1 at h
 refine atr 5 [] rfl <| lno k1 rfl <| la rfl <| en ?_
 refine ch h rfl ?_ ?_ <;> intro h
 ·refine atr 8 [] rfl ?_
  obtain ⟨x1, hx1, h⟩ := bs h
  obtain ⟨cs1, F1, h1, r1⟩ := k1.focusF RTArg.flat hx1
  obtain ⟨rfl, -⟩ := r1
  refine lih h1 hx1 rfl <| lf Fld_135_0 rfl rfl rfl <| lu (us [0] [] 0 RTArg.lasts Sz_3 rfl rfl rfl rfl h1 rfl (fun ap => dN)) rfl ?_
  rintro Φ_2 D2 ⟨⟨ap1, fr1⟩, h2⟩
  refine arr 12 [] rfl <| qc h (m_l_markText_ok N · (wz (s2 + 1)) ·) rfl rfl rfl fun x2 h => lih h2 hx1 rfl <| lf Fld_135_1 rfl rfl rfl <| lu (us [0] [] 1 RTArg.lasts Sz_9 rfl rfl rfl rfl h2 rfl (fun ap => dN)) rfl ?_
  rintro Φ_3 D3 ⟨⟨ap2, fr2⟩, h3⟩
  refine arr 12 [] rfl <| lih h3 hx1 rfl <| arr 2 [2, 0] rfl <| lu (us [0] [] 2 RTArg.lasts Sz_3 rfl rfl rfl rfl h3 rfl (fun ap => dN)) rfl ?_
  rintro Φ_4 D4 ⟨⟨ap3, fr3⟩, h4⟩
  refine arr 12 [] rfl <| lih h4 hx1 rfl <| arr 2 [2, 1] rfl <| lu (us [0] [] 3 RTArg.lasts Sz_3 rfl rfl rfl rfl h4 rfl (fun ap => dN)) rfl ?_
  rintro Φ_5 D5 ⟨⟨ap4, fr4⟩, h5⟩
  refine arr 12 [] rfl <| qc h (m_l_markText_ok N · (wz ((wz ((wz ((wz (s2 + 1)) + 1)) + 1)) + 1)) ·) rfl rfl rfl fun x3 h => lih h5 hx1 rfl <| arr 2 [2, 2] rfl <| lu (us [0] [] 4 RTArg.lasts Sz_9 rfl rfl rfl rfl h5 rfl (fun ap => dN)) rfl ?_
  rintro Φ_6 D6 ⟨⟨ap5, fr5⟩, h6⟩
  refine art 12 [] rfl ?_
  have h7 := h6.unfocusF RTArg.flat (x' := (⟨s2, x2, (⟨wz ((wz (s2 + 1)) + 1), wz ((wz ((wz (s2 + 1)) + 1)) + 1), x3⟩ : TVal)⟩ : TArg)) ⟨rfl, rfl⟩
  exact lb [0] [] (ih1 (_, _, _, _) ⟨h, h7⟩)
 refine att 6 [] rfl ?_
 exact rtg [0] hF (resOk.one rfl) rfl (by cases h; exact fun w1 hw => ⟨rfl, rfl, k1⟩)
theorem m_l_markPatS_ok (w0 : Base Ψ Φ [ob pv0, pD0].flatten) (p0 : (List TPat)) (p1 : Int) (ph0 : OSl OTPat 124 3 Φ pD0 pv0 p0) {r : Int × (List TPat)} (h : m_l_markPatS N p0 p1 = some r) :
  Calls prog 78 [pv0, iV p1].toArray w0.w (PostG Φ w0.w [ob pv0, pD0].flatten (fun Φ' Fs v => ∃ (Do_0_0 : List Nat), v = iV r.1 ∧ Fs = [ob pv0, Do_0_0] ∧ OSl OTPat 124 3 Φ' Do_0_0 pv0 r.2)) := by
 refine eL func78 rfl ntmps78 rfl (L := [ob pv0, pD0]) w0 (fun hF => ?_)
 unfold m_l_markPatS at h
 refine att 10 [] rfl ?_
 refine lin (σ := Hp × (List TPat) × List Nat × Int × Int) (fun s => [(0, pv0), (1, iV s.2.2.2.1), (5, iV s.2.2.2.2)]) (fun s => St w0 s.1 [] [ob pv0, s.2.2.1]) (fun m s => m_l_markPatS_l1 N m s.2.1 s.2.2.2.1 s.2.2.2.2 = some r ∧ (OSl OTPat 124 3 s.1 s.2.2.1 pv0 s.2.1)) (Φ, p0, pD0, p1, 0) N ⟨h, ph0⟩ (sx [0, 0] []) (fun n1 ih1 s hm => ?_)
 obtain ⟨Φ_1, s1, D1, s2, s3⟩ := s
 obtain ⟨h, k1⟩ := hm
 dsimp only at h k1 ⊢
 unfold m_l_markPatS_l1 at h
 refine atr 5 [] rfl <| lno k1 rfl <| la rfl <| en ?_
 refine ch h rfl ?_ ?_ <;> intro h
 ·refine atr 8 [] rfl <| qc h (m_l_markText_ok N · s2 ·) rfl rfl rfl fun x1 h => ?_
  obtain ⟨x2, hx2, h⟩ := bs h
  obtain ⟨cs1, F1, D2, h1, r1, kf1, sp1⟩ := k1.focus hx2
  obtain ⟨v1, rfl, rfl, h2⟩ := r1
  refine wlL [ob v1, D2, ob pv0] (sre [1] [ob v1, D2] rfl (by simpa [List.append_assoc] using sp1)) <| lih h1 hx2 rfl <| lf Fld_124_0 rfl rfl rfl <| lu (us [2] [ob v1, D2] 0 OTPat.lasts Sz_9 rfl rfl rfl rfl h1 rfl (fun ap => ap.q 1 rfl)) rfl ?_
  rintro Φ_2 D3 ⟨⟨ap1, fr1⟩, h3⟩
  replace h2 := h2.fr fr1 (ap1.q 0 rfl) dN
  refine arr 11 [] rfl <| lih h3 hx2 rfl <| lf Fld_124_1 rfl rfl rfl <| lgx 1 0 h3.rg rfl <| la rfl <| kcb [1] h rfl rfl rfl rfl (fun b ap z q => m_l_markArgS_ok N b x2.Args (wz (s2 + 1)) h2 q) ?_
  rintro x3 h v2 Φ_3 F2 ⟨ap2, fr2, rfl, rfl, h4⟩
  replace h3 := h3.fr fr2 (ap2.q 0 rfl) (ap2.q 1 rfl)
  refine arr 7 [] rfl <| lq (q_rem rfl rfl (by decide)) rfl <| la rfl <| lih h3 hx2 rfl <| lf Fld_124_2 rfl rfl rfl <| lu (us [1] [ob v1, D2] 2 OTPat.lasts Sz_4 rfl rfl rfl rfl h3 rfl (fun ap => ap.q 1 rfl)) rfl ?_
  rintro Φ_4 D4 ⟨⟨ap3, fr3⟩, h5⟩
  replace h4 := h4.fr fr3 (ap3.q 0 rfl) dN
  refine art 12 [] rfl ?_
  have r2 : OTPat Φ_4 _ [.string x1, v1, .bool (decide ((x3.1.tmod 3) = 0))] (⟨x1, x3.2, decide ((x3.1.tmod 3) = 0)⟩ : TPat) := ⟨v1, rfl, rfl, h4⟩
  obtain ⟨D5, h6, sp2⟩ := h5.unfocus r2 (OTPat.knows _ _ _ _ r2)
  refine wtL [D5, ob pv0] (smg [1, 1] rfl (by simpa [List.append_assoc, ob_nil] using sp2)) ?_
  exact lb [1, 0] [] (ih1 (_, _, _, _, _) ⟨h, h6⟩)
 refine att 6 [] rfl ?_
 exact rtg [0, 0] hF (resOk.one rfl) rfl (by cases h; exact fun w1 hw => ⟨D1, rfl, rfl, k1⟩)
theorem m_l_markCondS_ok (w0 : Base Ψ Φ [ob pv0].flatten) (p0 : (List TCond)) (p1 : Int) (ph0 : OSl RTCond 137 11 Φ [] pv0 p0) {r : Int × (List TCond)} (h : m_l_markCondS N p0 p1 = some r) :
  Calls prog 79 [pv0, iV p1].toArray w0.w (PostG Φ w0.w [ob pv0].flatten (fun Φ' Fs v => v = iV r.1 ∧ Fs = [ob pv0] ∧ OSl RTCond 137 11 Φ' [] pv0 r.2)) := by
 refine eL func79 rfl ntmps79 rfl (L := [ob pv0]) w0 (fun hF => ?_)
 unfold m_l_markCondS at h
 refine att 10 [] rfl ?_
 refine lin (σ := Hp × (List TCond) × Int × Int) (fun s => [(0, pv0), (1, iV s.2.2.1), (5, iV s.2.2.2)]) (fun s => St w0 s.1 [] [ob pv0]) (fun m s => m_l_markCondS_l1 N m s.2.1 s.2.2.1 s.2.2.2 = some r ∧ (OSl RTCond 137 11 s.1 [] pv0 s.2.1)) (Φ, p0, p1, 0) N ⟨h, ph0⟩ (sx [0] []) (fun n1 ih1 s hm => ?_)
 obtain ⟨Φ_1, s1, s2, s3⟩ := s
 obtain ⟨h, k1⟩ := hm
 dsimp only at h k1 ⊢
 unfold m_l_markCondS_l1 at h
 refine atr 5 [] rfl <| lno k1 rfl <| la rfl <| en ?_
 refine ch h rfl ?_ ?_ <;> intro h
 ·refine atr 8 [] rfl ?_
  obtain ⟨x1, hx1, h⟩ := bs h
  obtain ⟨cs1, F1, h1, r1⟩ := k1.focusF RTCond.flat hx1
  obtain ⟨rfl, -⟩ := r1
  refine lih h1 hx1 rfl <| lf Fld_137_0 rfl rfl rfl <| lu (us [0] [] 0 RTCond.lasts Sz_3 rfl rfl rfl rfl h1 rfl (fun ap => dN)) rfl ?_
  rintro Φ_2 D2 ⟨⟨ap1, fr1⟩, h2⟩
  refine arr 12 [] rfl <| lih h2 hx1 rfl <| arr 2 [1, 0] rfl <| lu (us [0] [] 1 RTCond.lasts Sz_3 rfl rfl rfl rfl h2 rfl (fun ap => dN)) rfl ?_
  rintro Φ_3 D3 ⟨⟨ap2, fr2⟩, h3⟩
  refine arr 12 [] rfl <| qc h (m_l_markText_ok N · (wz ((wz (s2 + 1)) + 1)) ·) rfl rfl rfl fun x2 h => lih h3 hx1 rfl <| arr 2 [1, 1] rfl <| lu (us [0] [] 2 RTCond.lasts Sz_9 rfl rfl rfl rfl h3 rfl (fun ap => dN)) rfl ?_
  rintro Φ_4 D4 ⟨⟨ap3, fr3⟩, h4⟩
  refine arr 12 [] rfl <| lih h4 hx1 rfl <| arr 3 [1, 2, 0] rfl <| lu (us [0] [] 3 RTCond.lasts Sz_3 rfl rfl rfl rfl h4 rfl (fun ap => dN)) rfl ?_
  rintro Φ_5 D5 ⟨⟨ap4, fr4⟩, h5⟩
  refine arr 12 [] rfl <| lih h5 hx1 rfl <| arr 3 [1, 2, 1] rfl <| lu (us [0] [] 4 RTCond.lasts Sz_3 rfl rfl rfl rfl h5 rfl (fun ap => dN)) rfl ?_
  rintro Φ_6 D6 ⟨⟨ap5, fr5⟩, h6⟩
  refine arr 12 [] rfl <| qc h (m_l_markText_ok N · (wz ((wz ((wz ((wz ((wz (s2 + 1)) + 1)) + 1)) + 1)) + 1)) ·) rfl rfl rfl fun x3 h => lih h6 hx1 rfl <| arr 3 [1, 2, 2] rfl <| lu (us [0] [] 5 RTCond.lasts Sz_9 rfl rfl rfl rfl h6 rfl (fun ap => dN)) rfl ?_
  rintro Φ_7 D7 ⟨⟨ap6, fr6⟩, h7⟩
  refine arr 12 [] rfl <| lih h7 hx1 rfl <| arr 2 [6, 0] rfl <| lu (us [0] [] 6 RTCond.lasts Sz_3 rfl rfl rfl rfl h7 rfl (fun ap => dN)) rfl ?_
  rintro Φ_8 D8 ⟨⟨ap7, fr7⟩, h8⟩
  refine arr 12 [] rfl <| qc h (m_l_markText_ok N · (wz ((wz ((wz ((wz ((wz ((wz ((wz (s2 + 1)) + 1)) + 1)) + 1)) + 1)) + 1)) + 1)) ·) rfl rfl rfl fun x4 h => lih h8 hx1 rfl <| arr 2 [6, 1] rfl <| lu (us [0] [] 7 RTCond.lasts Sz_9 rfl rfl rfl rfl h8 rfl (fun ap => dN)) rfl ?_
  rintro Φ_9 D9 ⟨⟨ap8, fr8⟩, h9⟩
  refine arr 12 [] rfl <| lih h9 hx1 rfl <| arr 3 [6, 2, 0] rfl <| lu (us [0] [] 8 RTCond.lasts Sz_3 rfl rfl rfl rfl h9 rfl (fun ap => dN)) rfl ?_
  rintro Φ_10 D10 ⟨⟨ap9, fr9⟩, h10⟩
  refine arr 12 [] rfl <| lih h10 hx1 rfl <| arr 3 [6, 2, 1] rfl <| lu (us [0] [] 9 RTCond.lasts Sz_3 rfl rfl rfl rfl h10 rfl (fun ap => dN)) rfl ?_
  rintro Φ_11 D11 ⟨⟨ap10, fr10⟩, h11⟩
  refine arr 12 [] rfl <| qc h (m_l_markText_ok N · (wz ((wz ((wz ((wz ((wz ((wz ((wz ((wz ((wz ((wz (s2 + 1)) + 1)) + 1)) + 1)) + 1)) + 1)) + 1)) + 1)) + 1)) + 1)) ·) rfl rfl rfl fun x5 h => lih h11 hx1 rfl <| arr 3 [6, 2, 2] rfl <| lu (us [0] [] 10 RTCond.lasts Sz_9 rfl rfl rfl rfl h11 rfl (fun ap => dN)) rfl ?_
  rintro Φ_12 D12 ⟨⟨ap11, fr11⟩, h12⟩
  refine art 12 [] rfl ?_
  have h13 := h12.unfocusF RTCond.flat (x' := (⟨s2, (⟨wz (s2 + 1), x2, (⟨wz ((wz ((wz (s2 + 1)) + 1)) + 1), wz ((wz ((wz ((wz (s2 + 1)) + 1)) + 1)) + 1), x3⟩ : TVal)⟩ : TArg), (⟨wz ((wz ((wz ((wz ((wz ((wz (s2 + 1)) + 1)) + 1)) + 1)) + 1)) + 1), x4, (⟨wz ((wz ((wz ((wz ((wz ((wz ((wz ((wz (s2 + 1)) + 1)) + 1)) + 1)) + 1)) + 1)) + 1)) + 1), wz ((wz ((wz ((wz ((wz ((wz ((wz ((wz ((wz (s2 + 1)) + 1)) + 1)) + 1)) + 1)) + 1)) + 1)) + 1)) + 1), x5⟩ : TVal)⟩ : TArg)⟩ : TCond)) ⟨rfl, rfl⟩
  exact lb [0] [] (ih1 (_, _, _, _) ⟨h, h13⟩)
 refine att 6 [] rfl ?_
 exact rtg [0] hF (resOk.one rfl) rfl (by cases h; exact fun w1 hw => ⟨rfl, rfl, k1⟩)
theorem m_l_markExprS_ok (w0 : Base Ψ Φ [ob pv0].flatten) (p0 : (List TExpr)) (p1 : Int) (ph0 : OSl RTExpr 229 11 Φ [] pv0 p0) {r : Int × (List TExpr)} (h : m_l_markExprS N p0 p1 = some r) :
  Calls prog 113 [pv0, iV p1].toArray w0.w (PostG Φ w0.w [ob pv0].flatten (fun Φ' Fs v => v = iV r.1 ∧ Fs = [ob pv0] ∧ OSl RTExpr 229 11 Φ' [] pv0 r.2)) := by
 refine eL func113 rfl ntmps113 rfl (L := [ob pv0]) w0 (fun hF => ?_)
 unfold m_l_markExprS at h
 refine att 10 [] rfl ?_
 refine lin (σ := Hp × (List TExpr) × Int × Int) (fun s => [(0, pv0), (1, iV s.2.2.1), (5, iV s.2.2.2)]) (fun s => St w0 s.1 [] [ob pv0]) (fun m s => m_l_markExprS_l1 N m s.2.1 s.2.2.1 s.2.2.2 = some r ∧ (OSl RTExpr 229 11 s.1 [] pv0 s.2.1)) (Φ, p0, p1, 0) N ⟨h, ph0⟩ (sx [0] []) (fun n1 ih1 s hm => ?_)
 obtain ⟨Φ_1, s1, s2, s3⟩ := s
 obtain ⟨h, k1⟩ := hm
 dsimp only at h k1 ⊢
 unfold m_l_markExprS_l1 at h
 refine atr 5 [] rfl <| lno k1 rfl <| la rfl <| en ?_
 refine ch h rfl ?_ ?_ <;> intro h
 ·refine atr 8 [] rfl <| qc h (m_l_markText_ok N · s2 ·) rfl rfl rfl fun x1 h => ?_
  obtain ⟨x2, hx2, h⟩ := bs h
  obtain ⟨cs1, F1, h1, r1⟩ := k1.focusF RTExpr.flat hx2
  obtain ⟨rfl, -⟩ := r1
  refine lih h1 hx2 rfl <| lf Fld_229_0 rfl rfl rfl <| lu (us [0] [] 0 RTExpr.lasts Sz_9 rfl rfl rfl rfl h1 rfl (fun ap => dN)) rfl ?_
  rintro Φ_2 D2 ⟨⟨ap1, fr1⟩, h2⟩
  refine arr 12 [] rfl <| lih h2 hx2 rfl <| arr 2 [1, 0] rfl <| lu (us [0] [] 1 RTExpr.lasts Sz_3 rfl rfl rfl rfl h2 rfl (fun ap => dN)) rfl ?_
  rintro Φ_3 D3 ⟨⟨ap2, fr2⟩, h3⟩
  refine arr 12 [] rfl <| qc h (m_l_markText_ok N · (wz ((wz (s2 + 1)) + 1)) ·) rfl rfl rfl fun x3 h => lih h3 hx2 rfl <| arr 2 [1, 1] rfl <| lu (us [0] [] 2 RTExpr.lasts Sz_9 rfl rfl rfl rfl h3 rfl (fun ap => dN)) rfl ?_
  rintro Φ_4 D4 ⟨⟨ap3, fr3⟩, h4⟩
  refine arr 12 [] rfl <| lih h4 hx2 rfl <| arr 3 [1, 2, 0] rfl <| lu (us [0] [] 3 RTExpr.lasts Sz_3 rfl rfl rfl rfl h4 rfl (fun ap => dN)) rfl ?_
  rintro Φ_5 D5 ⟨⟨ap4, fr4⟩, h5⟩
  refine arr 12 [] rfl <| lih h5 hx2 rfl <| arr 3 [1, 2, 1] rfl <| lu (us [0] [] 4 RTExpr.lasts Sz_3 rfl rfl rfl rfl h5 rfl (fun ap => dN)) rfl ?_
  rintro Φ_6 D6 ⟨⟨ap5, fr5⟩, h6⟩
  refine arr 12 [] rfl <| qc h (m_l_markText_ok N · (wz ((wz ((wz ((wz ((wz (s2 + 1)) + 1)) + 1)) + 1)) + 1)) ·) rfl rfl rfl fun x4 h => lih h6 hx2 rfl <| arr 3 [1, 2, 2] rfl <| lu (us [0] [] 5 RTExpr.lasts Sz_9 rfl rfl rfl rfl h6 rfl (fun ap => dN)) rfl ?_
  rintro Φ_7 D7 ⟨⟨ap6, fr6⟩, h7⟩
  refine arr 12 [] rfl <| lih h7 hx2 rfl <| arr 2 [6, 0] rfl <| lu (us [0] [] 6 RTExpr.lasts Sz_3 rfl rfl rfl rfl h7 rfl (fun ap => dN)) rfl ?_
  rintro Φ_8 D8 ⟨⟨ap7, fr7⟩, h8⟩
  refine arr 12 [] rfl <| qc h (m_l_markText_ok N · (wz ((wz ((wz ((wz ((wz ((wz ((wz (s2 + 1)) + 1)) + 1)) + 1)) + 1)) + 1)) + 1)) ·) rfl rfl rfl fun x5 h => lih h8 hx2 rfl <| arr 2 [6, 1] rfl <| lu (us [0] [] 7 RTExpr.lasts Sz_9 rfl rfl rfl rfl h8 rfl (fun ap => dN)) rfl ?_
  rintro Φ_9 D9 ⟨⟨ap8, fr8⟩, h9⟩
  refine arr 12 [] rfl <| lih h9 hx2 rfl <| arr 3 [6, 2, 0] rfl <| lu (us [0] [] 8 RTExpr.lasts Sz_3 rfl rfl rfl rfl h9 rfl (fun ap => dN)) rfl ?_
  rintro Φ_10 D10 ⟨⟨ap9, fr9⟩, h10⟩
  refine arr 12 [] rfl <| lih h10 hx2 rfl <| arr 3 [6, 2, 1] rfl <| lu (us [0] [] 9 RTExpr.lasts Sz_3 rfl rfl rfl rfl h10 rfl (fun ap => dN)) rfl ?_
  rintro Φ_11 D11 ⟨⟨ap10, fr10⟩, h11⟩
  refine arr 12 [] rfl <| qc h (m_l_markText_ok N · (wz ((wz ((wz ((wz ((wz ((wz ((wz ((wz ((wz ((wz (s2 + 1)) + 1)) + 1)) + 1)) + 1)) + 1)) + 1)) + 1)) + 1)) + 1)) ·) rfl rfl rfl fun x6 h => lih h11 hx2 rfl <| arr 3 [6, 2, 2] rfl <| lu (us [0] [] 10 RTExpr.lasts Sz_9 rfl rfl rfl rfl h11 rfl (fun ap => dN)) rfl ?_
  rintro Φ_12 D12 ⟨⟨ap11, fr11⟩, h12⟩
  refine art 12 [] rfl ?_
  have h13 := h12.unfocusF RTExpr.flat (x' := (⟨x1, (⟨wz (s2 + 1), x3, (⟨wz ((wz ((wz (s2 + 1)) + 1)) + 1), wz ((wz ((wz ((wz (s2 + 1)) + 1)) + 1)) + 1), x4⟩ : TVal)⟩ : TArg), (⟨wz ((wz ((wz ((wz ((wz ((wz (s2 + 1)) + 1)) + 1)) + 1)) + 1)) + 1), x5, (⟨wz ((wz ((wz ((wz ((wz ((wz ((wz ((wz (s2 + 1)) + 1)) + 1)) + 1)) + 1)) + 1)) + 1)) + 1), wz ((wz ((wz ((wz ((wz ((wz ((wz ((wz ((wz (s2 + 1)) + 1)) + 1)) + 1)) + 1)) + 1)) + 1)) + 1)) + 1), x6⟩ : TVal)⟩ : TArg)⟩ : TExpr)) ⟨rfl, rfl⟩
  exact lb [0] [] (ih1 (_, _, _, _) ⟨h, h13⟩)
 refine att 6 [] rfl ?_
 exact rtg [0] hF (resOk.one rfl) rfl (by cases h; exact fun w1 hw => ⟨rfl, rfl, k1⟩)
theorem m_l_markActS_ok (w0 : Base Ψ Φ [ob pv0, pD0].flatten) (p0 : (List TAct)) (p1 : Int) (ph0 : OSl OTAct 193 5 Φ pD0 pv0 p0) {r : Int × (List TAct)} (h : m_l_markActS N p0 p1 = some r) :
  Calls prog 80 [pv0, iV p1].toArray w0.w (PostG Φ w0.w [ob pv0, pD0].flatten (fun Φ' Fs v => ∃ (Do_0_0 : List Nat), v = iV r.1 ∧ Fs = [ob pv0, Do_0_0] ∧ OSl OTAct 193 5 Φ' Do_0_0 pv0 r.2)) := by
 refine eL func80 rfl ntmps80 rfl (L := [ob pv0, pD0]) w0 (fun hF => ?_)
 unfold m_l_markActS at h
 refine att 10 [] rfl ?_
 refine lin (σ := Hp × (List TAct) × List Nat × Int × Int) (fun s => [(0, pv0), (1, iV s.2.2.2.1), (5, iV s.2.2.2.2)]) (fun s => St w0 s.1 [] [ob pv0, s.2.2.1]) (fun m s => m_l_markActS_l1 N m s.2.1 s.2.2.2.1 s.2.2.2.2 = some r ∧ (OSl OTAct 193 5 s.1 s.2.2.1 pv0 s.2.1)) (Φ, p0, pD0, p1, 0) N ⟨h, ph0⟩ (sx [0, 0] []) (fun n1 ih1 s hm => ?_)
 obtain ⟨Φ_1, s1, D1, s2, s3⟩ := s
 obtain ⟨h, k1⟩ := hm
 dsimp only at h k1 ⊢
 unfold m_l_markActS_l1 at h
 refine atr 5 [] rfl <| lno k1 rfl <| la rfl <| en ?_
 refine ch h rfl ?_ ?_ <;> intro h
 ·refine atr 8 [] rfl ?_
  obtain ⟨x1, hx1, h⟩ := bs h
  obtain ⟨cs1, F1, D2, h1, r1, kf1, sp1⟩ := k1.focus hx1
  obtain ⟨v1, rfl, rfl, h2⟩ := r1
  refine wlL [ob v1, D2, ob pv0] (sre [1] [ob v1, D2] rfl (by simpa [List.append_assoc] using sp1)) <| lih h1 hx1 rfl <| lf Fld_193_0 rfl rfl rfl <| lu (us [2] [ob v1, D2] 0 OTAct.lasts Sz_3 rfl rfl rfl rfl h1 rfl (fun ap => ap.q 1 rfl)) rfl ?_
  rintro Φ_2 D3 ⟨⟨ap1, fr1⟩, h3⟩
  replace h2 := h2.fr fr1 (ap1.q 0 rfl) dN
  refine arr 12 [] rfl <| qc h (m_l_markText_ok N · (wz (s2 + 1)) ·) rfl rfl rfl fun x2 h => lih h3 hx1 rfl <| lf Fld_193_1 rfl rfl rfl <| lu (us [0] [ob v1, D2] 1 OTAct.lasts Sz_9 rfl rfl rfl rfl h3 rfl (fun ap => ap.q 1 rfl)) rfl ?_
  rintro Φ_3 D4 ⟨⟨ap2, fr2⟩, h4⟩
  replace h2 := h2.fr fr2 (ap2.q 0 rfl) dN
  refine arr 11 [] rfl <| lih h4 hx1 rfl <| lf Fld_193_2 rfl rfl rfl <| lgx 2 0 h4.rg rfl <| la rfl <| kcb [1] h rfl rfl rfl rfl (fun b ap z q => m_l_markExprS_ok N b x1.Args (wz ((wz (s2 + 1)) + 1)) h2 q) ?_
  rintro x3 h v2 Φ_4 F2 ⟨ap3, fr3, rfl, rfl, h5⟩
  replace h4 := h4.fr fr3 (ap3.q 0 rfl) (ap3.q 1 rfl)
  refine arr 7 [] rfl <| lih h4 hx1 rfl <| lf Fld_193_3 rfl rfl rfl <| lu (us [1] [ob v1, D2] 3 OTAct.lasts Sz_3 rfl rfl rfl rfl h4 rfl (fun ap => ap.q 1 rfl)) rfl ?_
  rintro Φ_5 D5 ⟨⟨ap4, fr4⟩, h6⟩
  replace h5 := h5.fr fr4 (ap4.q 0 rfl) dN
  refine arr 12 [] rfl <| qc h (m_l_markText_ok N · (wz (x3.1 + 1)) ·) rfl rfl rfl fun x4 h => lih h6 hx1 rfl <| lf Fld_193_4 rfl rfl rfl <| lu (us [0] [ob v1, D2] 4 OTAct.lasts Sz_9 rfl rfl rfl rfl h6 rfl (fun ap => ap.q 1 rfl)) rfl ?_
  rintro Φ_6 D6 ⟨⟨ap5, fr5⟩, h7⟩
  replace h5 := h5.fr fr5 (ap5.q 0 rfl) dN
  refine art 12 [] rfl ?_
  have r2 : OTAct Φ_6 _ [iV s2, .string x2, v1, iV x3.1, .string x4] (⟨s2, x2, x3.2, x3.1, x4⟩ : TAct) := ⟨v1, rfl, rfl, h5⟩
  obtain ⟨D7, h8, sp2⟩ := h7.unfocus r2 (OTAct.knows _ _ _ _ r2)
  refine wtL [D7, ob pv0] (smg [1, 1] rfl (by simpa [List.append_assoc, ob_nil] using sp2)) ?_
  exact lb [1, 0] [] (ih1 (_, _, _, _, _) ⟨h, h8⟩)
 refine att 6 [] rfl ?_
 exact rtg [0, 0] hF (resOk.one rfl) rfl (by cases h; exact fun w1 hw => ⟨D1, rfl, rfl, k1⟩)
theorem m_l_markRuleS_ok (w0 : Base Ψ Φ [ob pv0, pD0].flatten) (p0 : (List TRule)) (p1 : Int) (ph0 : OSl OTRule 76 5 Φ pD0 pv0 p0) {r : Int × (List TRule)} (h : m_l_markRuleS N p0 p1 = some r) :
  Calls prog 44 [pv0, iV p1].toArray w0.w (PostG Φ w0.w [ob pv0, pD0].flatten (fun Φ' Fs v => ∃ (Do_0_0 : List Nat), v = iV r.1 ∧ Fs = [ob pv0, Do_0_0] ∧ OSl OTRule 76 5 Φ' Do_0_0 pv0 r.2)) := by
 refine eL func44 rfl ntmps44 rfl (L := [ob pv0, pD0]) w0 (fun hF => ?_)
 unfold m_l_markRuleS at h
 refine att 10 [] rfl ?_
 refine lin (σ := Hp × (List TRule) × List Nat × Int × Int) (fun s => [(0, pv0), (1, iV s.2.2.2.1), (5, iV s.2.2.2.2)]) (fun s => St w0 s.1 [] [ob pv0, s.2.2.1]) (fun m s => m_l_markRuleS_l1 N m s.2.1 s.2.2.2.1 s.2.2.2.2 = some r ∧ (OSl OTRule 76 5 s.1 s.2.2.1 pv0 s.2.1)) (Φ, p0, pD0, p1, 0) N ⟨h, ph0⟩ (sx [0, 0] []) (fun n1 ih1 s hm => ?_)
 obtain ⟨Φ_1, s1, D1, s2, s3⟩ := s
 obtain ⟨h, k1⟩ := hm
 dsimp only at h k1 ⊢
 unfold m_l_markRuleS_l1 at h
 refine atr 5 [] rfl <| lno k1 rfl <| la rfl <| en ?_
 refine ch h rfl ?_ ?_ <;> intro h
 ·refine atr 8 [] rfl <| qc h (m_l_markText_ok N · s2 ·) rfl rfl rfl fun x1 h => ?_
  obtain ⟨x2, hx2, h⟩ := bs h
  obtain ⟨cs1, F1, D2, h1, r1, kf1, sp1⟩ := k1.focus hx2
  obtain ⟨v1, D3, v2, v3, D4, rfl, rfl, h2, h3, h4⟩ := r1
  refine wlL [ob v1, D3, ob v2, ob v3, D4, D2, ob pv0] (sre [1] [ob v1, D3, ob v2, ob v3, D4, D2] rfl (by simpa [List.append_assoc] using sp1)) <| lih h1 hx2 rfl <| lf Fld_76_0 rfl rfl rfl <| lu (us [6] [ob v1, D3, ob v2, ob v3, D4, D2] 0 OTRule.lasts Sz_9 rfl rfl rfl rfl h1 rfl (fun ap => ap.q 5 rfl)) rfl ?_
  rintro Φ_2 D5 ⟨⟨ap1, fr1⟩, h5⟩
  replace h2 := h2.fr fr1 (ap1.q 0 rfl) (ap1.q 1 rfl)
  replace h3 := h3.fr fr1 (ap1.q 2 rfl) dN
  replace h4 := h4.fr fr1 (ap1.q 3 rfl) (ap1.q 4 rfl)
  refine arr 12 [] rfl <| lih h5 hx2 rfl <| lf Fld_76_1 rfl rfl rfl <| lu (us [0] [ob v1, D3, ob v2, ob v3, D4, D2] 1 OTRule.lasts Sz_3 rfl rfl rfl rfl h5 rfl (fun ap => ap.q 5 rfl)) rfl ?_
  rintro Φ_3 D6 ⟨⟨ap2, fr2⟩, h6⟩
  replace h2 := h2.fr fr2 (ap2.q 0 rfl) (ap2.q 1 rfl)
  replace h3 := h3.fr fr2 (ap2.q 2 rfl) dN
  replace h4 := h4.fr fr2 (ap2.q 3 rfl) (ap2.q 4 rfl)
  refine arr 11 [] rfl <| lih h6 hx2 rfl <| lf Fld_76_2 rfl rfl rfl <| lgx 2 0 h6.rg rfl <| la rfl <| kcb [1, 1] h rfl rfl rfl rfl (fun b ap z q => m_l_markPatS_ok N b x2.Pats (wz ((wz (s2 + 1)) + 1)) h2 q) ?_
  rintro x3 h v4 Φ_4 F2 ⟨ap3, fr3, D7, rfl, rfl, h7⟩
  replace h6 := h6.fr fr3 (ap3.q 0 rfl) (ap3.q 4 rfl)
  replace h3 := h3.fr fr3 (ap3.q 1 rfl) dN
  replace h4 := h4.fr fr3 (ap3.q 2 rfl) (ap3.q 3 rfl)
  refine arr 6 [] rfl <| lih h6 hx2 rfl <| lf Fld_76_3 rfl rfl rfl <| lgx 3 0 h6.rg rfl <| la rfl <| kcb [3] h rfl rfl rfl rfl (fun b ap z q => m_l_markCondS_ok N b x2.Conds x3.1 h3 q) ?_
  rintro x4 h v5 Φ_5 F3 ⟨ap4, fr4, rfl, rfl, h8⟩
  replace h6 := h6.fr fr4 (ap4.q 2 rfl) (ap4.q 5 rfl)
  replace h7 := h7.fr fr4 (ap4.q 0 rfl) (ap4.q 1 rfl)
  replace h4 := h4.fr fr4 (ap4.q 3 rfl) (ap4.q 4 rfl)
  refine arr 5 [] rfl <| lih h6 hx2 rfl <| lf Fld_76_4 rfl rfl rfl <| lgx 4 0 h6.rg rfl <| la rfl <| kcb [4, 4] h rfl rfl rfl rfl (fun b ap z q => m_l_markActS_ok N b x2.Acts x4.1 h4 q) ?_
  rintro x5 h v6 Φ_6 F4 ⟨ap5, fr5, D8, rfl, rfl, h9⟩
  replace h6 := h6.fr fr5 (ap5.q 3 rfl) (ap5.q 4 rfl)
  replace h7 := h7.fr fr5 (ap5.q 1 rfl) (ap5.q 2 rfl)
  replace h8 := h8.fr fr5 (ap5.q 0 rfl) dN
  refine art 8 [] rfl ?_
  have r2 : OTRule Φ_6 _ [.string x1, iV (wz (s2 + 1)), v1, v2, v3] (⟨x1, wz (s2 + 1), x3.2, x4.2, x5.2⟩ : TRule) := ⟨v1, D7, v2, v3, D8, rfl, rfl, h7, h8, h9⟩
  obtain ⟨D9, h10, sp2⟩ := h6.unfocus r2 (OTRule.knows _ _ _ _ r2)
  refine wtL [D9, ob pv0] (smg [3, 3, 2, 0, 0, 1] rfl (by simpa [List.append_assoc, ob_nil] using sp2)) ?_
  exact lb [1, 0] [] (ih1 (_, _, _, _, _) ⟨h, h10⟩)
 refine att 6 [] rfl ?_
 exact rtg [0, 0] hF (resOk.one rfl) rfl (by cases h; exact fun w1 hw => ⟨D1, rfl, rfl, k1⟩)
theorem m_l_markDef_ok (w0 : Base Ψ Φ [ob pv0_0, pD0_0].flatten) (p0 : TDef) (p1 : Int) (ph0_0 : OSl OTRule 76 5 Φ pD0_0 pv0_0 p0.Rules) {r : Int × (List TRule)} (h : m_l_markDef N p0 p1 = some r) :
  Calls prog 16 [.agg [.string p0.Name, pv0_0].toArray, iV p1].toArray w0.w (PostG Φ w0.w [ob pv0_0, pD0_0].flatten (fun Φ' Fs v => ∃ (Do_0_0 : List Nat), v = iV r.1 ∧ Fs = [ob pv0_0, Do_0_0] ∧ OSl OTRule 76 5 Φ' Do_0_0 pv0_0 r.2)) := by
 refine eL func16 rfl ntmps16 rfl (L := [ob pv0_0, pD0_0]) w0 (fun hF => ?_)
 unfold m_l_markDef at h
 refine sr <| lbx rfl fun b_1 => arr 7 [1, 0] rfl <| kcb [0, 0] h rfl rfl rfl rfl (fun b ap z q => m_l_markRuleS_ok N b p0.Rules p1 ph0_0 q) ?_
 rintro x1 h v1 Φ_1 F1 ⟨ap1, fr1, D1, rfl, rfl, h1⟩
 refine art 7 [] rfl ?_
 exact rtg [0, 0] hF (resOk.one rfl) rfl (by cases h; exact fun w1 hw => ⟨D1, rfl, rfl, h1⟩)
theorem m_l_markIntS_ok (w0 : Base Ψ Φ [ob pv0].flatten) (p0 : (List Int)) (p1 : Int) (ph0 : OSl (RI .i64) 3 1 Φ [] pv0 p0) {r : Int × (List Int)} (h : m_l_markIntS N p0 p1 = some r) :
  Calls prog 48 [pv0, iV p1].toArray w0.w (PostG Φ w0.w [ob pv0].flatten (fun Φ' Fs v => v = iV r.1 ∧ Fs = [ob pv0] ∧ OSl (RI .i64) 3 1 Φ' [] pv0 r.2)) := by
 refine eL func48 rfl ntmps48 rfl (L := [ob pv0]) w0 (fun hF => ?_)
 unfold m_l_markIntS at h
 refine att 10 [] rfl ?_
 refine lin (σ := Hp × (List Int) × Int × Int) (fun s => [(0, pv0), (1, iV s.2.2.1), (5, iV s.2.2.2)]) (fun s => St w0 s.1 [] [ob pv0]) (fun m s => m_l_markIntS_l1 N m s.2.1 s.2.2.1 s.2.2.2 = some r ∧ (OSl (RI .i64) 3 1 s.1 [] pv0 s.2.1)) (Φ, p0, p1, 0) N ⟨h, ph0⟩ (sx [0] []) (fun n1 ih1 s hm => ?_)
 obtain ⟨Φ_1, s1, s2, s3⟩ := s
 obtain ⟨h, k1⟩ := hm
 dsimp only at h k1 ⊢
 unfold m_l_markIntS_l1 at h
 refine atr 5 [] rfl <| lno k1 rfl <| la rfl <| en ?_
 refine ch h rfl ?_ ?_ <;> intro h
 ·refine atr 8 [] rfl ?_
  obtain ⟨x1, hx1, h⟩ := bs h
  obtain ⟨cs1, F1, -, g1, hb1, hs1, r1⟩ := k1.elS (idx_some hx1).2.2
  obtain ⟨rfl, -⟩ := r1
  refine lio k1 hx1 rfl <| lu (u_setF (js := [0]) (Rr := []) (vs := [iV s2]) (x' := s2) RI.lasts RI.flat Sz_3 rfl rfl rfl rfl ⟨rfl, trivial⟩ rfl k1 (idx_lt hx1) ⟨rfl, rfl⟩) rfl ?_
  rintro Φ_2 D1 ⟨⟨ap1, fr1⟩, h1⟩
  refine art 12 [] rfl ?_
  exact lb [0] [] (ih1 (_, _, _, _) ⟨h, h1⟩)
 refine att 6 [] rfl ?_
 exact rtg [0] hF (resOk.one rfl) rfl (by cases h; exact fun w1 hw => ⟨rfl, rfl, k1⟩)
theorem m_l_markIdsS_ok (w0 : Base Ψ Φ [ob pv0, pD0].flatten) (p0 : (List TIds)) (p1 : Int) (ph0 : OSl OTIds 139 1 Φ pD0 pv0 p0) {r : Int × (List TIds)} (h : m_l_markIdsS N p0 p1 = some r) :
  Calls prog 45 [pv0, iV p1].toArray w0.w (PostG Φ w0.w [ob pv0, pD0].flatten (fun Φ' Fs v => ∃ (Do_0_0 : List Nat), v = iV r.1 ∧ Fs = [ob pv0, Do_0_0] ∧ OSl OTIds 139 1 Φ' Do_0_0 pv0 r.2)) := by
 refine eL func45 rfl ntmps45 rfl (L := [ob pv0, pD0]) w0 (fun hF => ?_)
 unfold m_l_markIdsS at h
 refine att 10 [] rfl ?_
 refine lin (σ := Hp × (List TIds) × List Nat × Int × Int) (fun s => [(0, pv0), (1, iV s.2.2.2.1), (5, iV s.2.2.2.2)]) (fun s => St w0 s.1 [] [ob pv0, s.2.2.1]) (fun m s => m_l_markIdsS_l1 N m s.2.1 s.2.2.2.1 s.2.2.2.2 = some r ∧ (OSl OTIds 139 1 s.1 s.2.2.1 pv0 s.2.1)) (Φ, p0, pD0, p1, 0) N ⟨h, ph0⟩ (sx [0, 0] []) (fun n1 ih1 s hm => ?_)
 obtain ⟨Φ_1, s1, D1, s2, s3⟩ := s
 obtain ⟨h, k1⟩ := hm
 dsimp only at h k1 ⊢
 unfold m_l_markIdsS_l1 at h
 refine atr 5 [] rfl <| lno k1 rfl <| la rfl <| en ?_
 refine ch h rfl ?_ ?_ <;> intro h
 ·refine atr 6 [] rfl ?_
  obtain ⟨x1, hx1, h⟩ := bs h
  obtain ⟨cs1, F1, D2, h1, r1, kf1, sp1⟩ := k1.focus hx1
  obtain ⟨v1, rfl, rfl, h2⟩ := r1
  refine wlL [ob v1, D2, ob pv0] (sre [1] [ob v1, D2] rfl (by simpa [List.append_assoc] using sp1)) <| lih h1 hx1 rfl <| lf Fld_139_0 rfl rfl rfl <| lgx 0 0 h1.rg rfl <| la rfl <| kcb [0] h rfl rfl rfl rfl (fun b ap z q => m_l_markIntS_ok N b x1.L s2 h2 q) ?_
  rintro x2 h v2 Φ_2 F2 ⟨ap1, fr1, rfl, rfl, h3⟩
  replace h1 := h1.fr fr1 (ap1.q 1 rfl) (ap1.q 0 rfl)
  refine art 8 [] rfl ?_
  have r2 : OTIds Φ_2 _ [v1] (⟨x2.2⟩ : TIds) := ⟨v1, rfl, rfl, h3⟩
  obtain ⟨D3, h4, sp2⟩ := h1.unfocus r2 (OTIds.knows _ _ _ _ r2)
  refine wtL [D3, ob pv0] (smg [0, 0] rfl (by simpa [List.append_assoc, ob_nil] using sp2)) ?_
  exact lb [1, 0] [] (ih1 (_, _, _, _, _) ⟨h, h4⟩)
 refine att 6 [] rfl ?_
 exact rtg [0, 0] hF (resOk.one rfl) rfl (by cases h; exact fun w1 hw => ⟨D1, rfl, rfl, k1⟩)
theorem m_l_markTokS_ok (w0 : Base Ψ Φ [ob pv0, pD0].flatten) (p0 : (List TTok)) (p1 : Int) (ph0 : OSl OTTok 79 2 Φ pD0 pv0 p0) {r : Int × (List TTok)} (h : m_l_markTokS N p0 p1 = some r) :
  Calls prog 114 [pv0, iV p1].toArray w0.w (PostG Φ w0.w [ob pv0, pD0].flatten (fun Φ' Fs v => ∃ (Do_0_0 : List Nat), v = iV r.1 ∧ Fs = [ob pv0, Do_0_0] ∧ OSl OTTok 79 2 Φ' Do_0_0 pv0 r.2)) := by
 refine eL func114 rfl ntmps114 rfl (L := [ob pv0, pD0]) w0 (fun hF => ?_)
 unfold m_l_markTokS at h
 refine att 10 [] rfl ?_
 refine lin (σ := Hp × (List TTok) × List Nat × Int × Int) (fun s => [(0, pv0), (1, iV s.2.2.2.1), (5, iV s.2.2.2.2)]) (fun s => St w0 s.1 [] [ob pv0, s.2.2.1]) (fun m s => m_l_markTokS_l1 N m s.2.1 s.2.2.2.1 s.2.2.2.2 = some r ∧ (OSl OTTok 79 2 s.1 s.2.2.1 pv0 s.2.1)) (Φ, p0, pD0, p1, 0) N ⟨h, ph0⟩ (sx [0, 0] []) (fun n1 ih1 s hm => ?_)
 obtain ⟨Φ_1, s1, D1, s2, s3⟩ := s
 obtain ⟨h, k1⟩ := hm
 dsimp only at h k1 ⊢
 unfold m_l_markTokS_l1 at h
 refine atr 5 [] rfl <| lno k1 rfl <| la rfl <| en ?_
 refine ch h rfl ?_ ?_ <;> intro h
 ·refine atr 7 [] rfl ?_
  obtain ⟨x1, hx1, h⟩ := bs h
  obtain ⟨cs1, F1, D2, h1, r1, kf1, sp1⟩ := k1.focus hx1
  obtain ⟨v1, v2, rfl, rfl, h2, h3⟩ := r1
  refine wlL [ob v1, ob v2, D2, ob pv0] (sre [1] [ob v1, ob v2, D2] rfl (by simpa [List.append_assoc] using sp1)) <| lih h1 hx1 rfl <| lf Fld_79_0 rfl rfl rfl <| lgx 0 0 h1.rg rfl <| la rfl <| kcb [0] h rfl rfl rfl rfl (fun b ap z q => m_l_markIntS_ok N b x1.Ids s2 h2 q) ?_
  rintro x2 h v3 Φ_2 F2 ⟨ap1, fr1, rfl, rfl, h4⟩
  replace h1 := h1.fr fr1 (ap1.q 2 rfl) (ap1.q 1 rfl)
  replace h3 := h3.fr fr1 (ap1.q 0 rfl) dN
  refine arr 5 [] rfl <| lih h1 hx1 rfl <| lf Fld_79_1 rfl rfl rfl <| lgx 1 0 h1.rg rfl <| la rfl <| kcb [1] h rfl rfl rfl rfl (fun b ap z q => m_l_markIntS_ok N b x1.Hits x2.1 h3 q) ?_
  rintro x3 h v4 Φ_3 F3 ⟨ap2, fr2, rfl, rfl, h5⟩
  replace h1 := h1.fr fr2 (ap2.q 2 rfl) (ap2.q 1 rfl)
  replace h4 := h4.fr fr2 (ap2.q 0 rfl) dN
  refine art 8 [] rfl ?_
  have r2 : OTTok Φ_3 _ [v1, v2] (⟨x2.2, x3.2⟩ : TTok) := ⟨v1, v2, rfl, rfl, h4, h5⟩
  obtain ⟨D3, h6, sp2⟩ := h1.unfocus r2 (OTTok.knows _ _ _ _ r2)
  refine wtL [D3, ob pv0] (smg [1, 0, 0] rfl (by simpa [List.append_assoc, ob_nil] using sp2)) ?_
  exact lb [1, 0] [] (ih1 (_, _, _, _, _) ⟨h, h6⟩)
 refine att 6 [] rfl ?_
 exact rtg [0, 0] hF (resOk.one rfl) rfl (by cases h; exact fun w1 hw => ⟨D1, rfl, rfl, k1⟩)
theorem m_l_markLevelS_ok (w0 : Base Ψ Φ [ob pv0, pD0].flatten) (p0 : (List TLevel)) (p1 : Int) (ph0 : OSl OTLevel 68 1 Φ pD0 pv0 p0) {r : Int × (List TLevel)} (h : m_l_markLevelS N p0 p1 = some r) :
  Calls prog 81 [pv0, iV p1].toArray w0.w (PostG Φ w0.w [ob pv0, pD0].flatten (fun Φ' Fs v => ∃ (Do_0_0 : List Nat), v = iV r.1 ∧ Fs = [ob pv0, Do_0_0] ∧ OSl OTLevel 68 1 Φ' Do_0_0 pv0 r.2)) := by
 refine eL func81 rfl ntmps81 rfl (L := [ob pv0, pD0]) w0 (fun hF => ?_)
 unfold m_l_markLevelS at h
 refine att 10 [] rfl ?_
 refine lin (σ := Hp × (List TLevel) × List Nat × Int × Int) (fun s => [(0, pv0), (1, iV s.2.2.2.1), (5, iV s.2.2.2.2)]) (fun s => St w0 s.1 [] [ob pv0, s.2.2.1]) (fun m s => m_l_markLevelS_l1 N m s.2.1 s.2.2.2.1 s.2.2.2.2 = some r ∧ (OSl OTLevel 68 1 s.1 s.2.2.1 pv0 s.2.1)) (Φ, p0, pD0, p1, 0) N ⟨h, ph0⟩ (sx [0, 0] []) (fun n1 ih1 s hm => ?_)
 obtain ⟨Φ_1, s1, D1, s2, s3⟩ := s
 obtain ⟨h, k1⟩ := hm
 dsimp only at h k1 ⊢
 unfold m_l_markLevelS_l1 at h
 refine atr 5 [] rfl <| lno k1 rfl <| la rfl <| en ?_
 refine ch h rfl ?_ ?_ <;> intro h
 ·refine atr 6 [] rfl ?_
  obtain ⟨x1, hx1, h⟩ := bs h
  obtain ⟨cs1, F1, D2, h1, r1, kf1, sp1⟩ := k1.focus hx1
  obtain ⟨v1, D3, rfl, rfl, h2⟩ := r1
  refine wlL [ob v1, D3, D2, ob pv0] (sre [1] [ob v1, D3, D2] rfl (by simpa [List.append_assoc] using sp1)) <| lih h1 hx1 rfl <| lf Fld_68_0 rfl rfl rfl <| lgx 0 0 h1.rg rfl <| la rfl <| kcb [0, 0] h rfl rfl rfl rfl (fun b ap z q => m_l_markTokS_ok N b x1.Toks s2 h2 q) ?_
  rintro x2 h v2 Φ_2 F2 ⟨ap1, fr1, D4, rfl, rfl, h3⟩
  replace h1 := h1.fr fr1 (ap1.q 1 rfl) (ap1.q 0 rfl)
  refine art 8 [] rfl ?_
  have r2 : OTLevel Φ_2 _ [v1] (⟨x2.2⟩ : TLevel) := ⟨v1, D4, rfl, rfl, h3⟩
  obtain ⟨D5, h4, sp2⟩ := h1.unfocus r2 (OTLevel.knows _ _ _ _ r2)
  refine wtL [D5, ob pv0] (smg [0, 0, 0] rfl (by simpa [List.append_assoc, ob_nil] using sp2)) ?_
  exact lb [1, 0] [] (ih1 (_, _, _, _, _) ⟨h, h4⟩)
 refine att 6 [] rfl ?_
 exact rtg [0, 0] hF (resOk.one rfl) rfl (by cases h; exact fun w1 hw => ⟨D1, rfl, rfl, k1⟩)
theorem m_l_markRowS_ok (w0 : Base Ψ Φ [ob pv0, pD0].flatten) (p0 : (List TRow)) (p1 : Int) (ph0 : OSl OTRow 65 1 Φ pD0 pv0 p0) {r : Int × (List TRow)} (h : m_l_markRowS N p0 p1 = some r) :
  Calls prog 46 [pv0, iV p1].toArray w0.w (PostG Φ w0.w [ob pv0, pD0].flatten (fun Φ' Fs v => ∃ (Do_0_0 : List Nat), v = iV r.1 ∧ Fs = [ob pv0, Do_0_0] ∧ OSl OTRow 65 1 Φ' Do_0_0 pv0 r.2)) := by
 refine eL func46 rfl ntmps46 rfl (L := [ob pv0, pD0]) w0 (fun hF => ?_)
 unfold m_l_markRowS at h
 refine att 10 [] rfl ?_
 refine lin (σ := Hp × (List TRow) × List Nat × Int × Int) (fun s => [(0, pv0), (1, iV s.2.2.2.1), (5, iV s.2.2.2.2)]) (fun s => St w0 s.1 [] [ob pv0, s.2.2.1]) (fun m s => m_l_markRowS_l1 N m s.2.1 s.2.2.2.1 s.2.2.2.2 = some r ∧ (OSl OTRow 65 1 s.1 s.2.2.1 pv0 s.2.1)) (Φ, p0, pD0, p1, 0) N ⟨h, ph0⟩ (sx [0, 0] []) (fun n1 ih1 s hm => ?_)
 obtain ⟨Φ_1, s1, D1, s2, s3⟩ := s
 obtain ⟨h, k1⟩ := hm
 dsimp only at h k1 ⊢
 unfold m_l_markRowS_l1 at h
 refine atr 5 [] rfl <| lno k1 rfl <| la rfl <| en ?_
 refine ch h rfl ?_ ?_ <;> intro h
 ·refine atr 6 [] rfl ?_
  obtain ⟨x1, hx1, h⟩ := bs h
  obtain ⟨cs1, F1, D2, h1, r1, kf1, sp1⟩ := k1.focus hx1
  obtain ⟨v1, D3, rfl, rfl, h2⟩ := r1
  refine wlL [ob v1, D3, D2, ob pv0] (sre [1] [ob v1, D3, D2] rfl (by simpa [List.append_assoc] using sp1)) <| lih h1 hx1 rfl <| lf Fld_65_0 rfl rfl rfl <| lgx 0 0 h1.rg rfl <| la rfl <| kcb [0, 0] h rfl rfl rfl rfl (fun b ap z q => m_l_markLevelS_ok N b x1.Levels s2 h2 q) ?_
  rintro x2 h v2 Φ_2 F2 ⟨ap1, fr1, D4, rfl, rfl, h3⟩
  replace h1 := h1.fr fr1 (ap1.q 1 rfl) (ap1.q 0 rfl)
  refine art 8 [] rfl ?_
  have r2 : OTRow Φ_2 _ [v1] (⟨x2.2⟩ : TRow) := ⟨v1, D4, rfl, rfl, h3⟩
  obtain ⟨D5, h4, sp2⟩ := h1.unfocus r2 (OTRow.knows _ _ _ _ r2)
  refine wtL [D5, ob pv0] (smg [0, 0, 0] rfl (by simpa [List.append_assoc, ob_nil] using sp2)) ?_
  exact lb [1, 0] [] (ih1 (_, _, _, _, _) ⟨h, h4⟩)
 refine att 6 [] rfl ?_
 exact rtg [0, 0] hF (resOk.one rfl) rfl (by cases h; exact fun w1 hw => ⟨D1, rfl, rfl, k1⟩)
theorem m_l_markMem_ok (w0 : Base Ψ Φ [ob pv0_0, pD0_0, ob pv0_1, pD0_1].flatten) (p0 : TMem) (p1 : Int) (ph0_0 : OSl OTIds 139 1 Φ pD0_0 pv0_0 p0.Alphas) (ph0_1 : OSl OTRow 65 1 Φ pD0_1 pv0_1 p0.Rules) {r : Int × (List TIds) × (List TRow)} (h : m_l_markMem N p0 p1 = some r) :
  Calls prog 17 [.agg [pv0_0, pv0_1].toArray, iV p1].toArray w0.w (PostG Φ w0.w [ob pv0_0, pD0_0, ob pv0_1, pD0_1].flatten (fun Φ' Fs v => ∃ (Do_0_0 : List Nat) (Do_1_0 : List Nat), v = iV r.1 ∧ Fs = [ob pv0_0, Do_0_0, ob pv0_1, Do_1_0] ∧ OSl OTIds 139 1 Φ' Do_0_0 pv0_0 r.2.1 ∧ OSl OTRow 65 1 Φ' Do_1_0 pv0_1 r.2.2)) := by
 refine eL func17 rfl ntmps17 rfl (L := [ob pv0_0, pD0_0, ob pv0_1, pD0_1]) w0 (fun hF => ?_)
 unfold m_l_markMem at h
 refine sr <| lbx rfl fun b_1 => arr 7 [0, 0] rfl <| kcb [0, 0] h rfl rfl rfl rfl (fun b ap z q => m_l_markIdsS_ok N b p0.Alphas p1 ph0_0 q) ?_
 rintro x1 h v1 Φ_1 F1 ⟨ap1, fr1, D1, rfl, rfl, h1⟩
 replace ph0_1 := ph0_1.fr fr1 (ap1.q 0 rfl) (ap1.q 1 rfl)
 refine arr 7 [1, 0] rfl <| kcb [2, 2] h rfl rfl rfl rfl (fun b ap z q => m_l_markRowS_ok N b p0.Rules x1.1 ph0_1 q) ?_
 rintro x2 h v2 Φ_2 F2 ⟨ap2, fr2, D2, rfl, rfl, h2⟩
 replace h1 := h1.fr fr2 (ap2.q 0 rfl) (ap2.q 1 rfl)
 refine art 7 [] rfl ?_
 exact rtg [2, 2, 0, 0] hF (resOk.one rfl) rfl (by cases h; exact fun w1 hw => ⟨D1, D2, rfl, rfl, h1, h2⟩)
theorem m_l_markValS_ok (w0 : Base Ψ Φ [ob pv0].flatten) (p0 : (List TVal)) (p1 : Int) (ph0 : OSl RTVal 133 3 Φ [] pv0 p0) {r : Int × (List TVal)} (h : m_l_markValS N p0 p1 = some r) :
  Calls prog 82 [pv0, iV p1].toArray w0.w (PostG Φ w0.w [ob pv0].flatten (fun Φ' Fs v => v = iV r.1 ∧ Fs = [ob pv0] ∧ OSl RTVal 133 3 Φ' [] pv0 r.2)) := by
 refine eL func82 rfl ntmps82 rfl (L := [ob pv0]) w0 (fun hF => ?_)
 unfold m_l_markValS at h
 refine att 10 [] rfl ?_
 refine lin (σ := Hp × (List TVal) × Int × Int) (fun s => [(0, pv0), (1, iV s.2.2.1), (5, iV s.2.2.2)]) (fun s => St w0 s.1 [] [ob pv0]) (fun m s => m_l_markValS_l1 N m s.2.1 s.2.2.1 s.2.2.2 = some r ∧ (OSl RTVal 133 3 s.1 [] pv0 s.2.1)) (Φ, p0, p1, 0) N ⟨h, ph0⟩ (sx [0] []) (fun n1 ih1 s hm => ?_)
 obtain ⟨Φ_1, s1, s2, s3⟩ := s
 obtain ⟨h, k1⟩ := hm
 dsimp only at h k1 ⊢
 unfold m_l_markValS_l1 at h
 refine atr 5 [] rfl <| lno k1 rfl <| la rfl <| en ?_
 refine ch h rfl ?_ ?_ <;> intro h
 ·refine atr 8 [] rfl ?_
  obtain ⟨x1, hx1, h⟩ := bs h
  obtain ⟨cs1, F1, h1, r1⟩ := k1.focusF RTVal.flat hx1
  obtain ⟨rfl, -⟩ := r1
  refine lih h1 hx1 rfl <| lf Fld_133_0 rfl rfl rfl <| lu (us [0] [] 0 RTVal.lasts Sz_3 rfl rfl rfl rfl h1 rfl (fun ap => dN)) rfl ?_
  rintro Φ_2 D2 ⟨⟨ap1, fr1⟩, h2⟩
  refine arr 12 [] rfl <| lih h2 hx1 rfl <| lf Fld_133_1 rfl rfl rfl <| lu (us [0] [] 1 RTVal.lasts Sz_3 rfl rfl rfl rfl h2 rfl (fun ap => dN)) rfl ?_
  rintro Φ_3 D3 ⟨⟨ap2, fr2⟩, h3⟩
  refine arr 12 [] rfl <| qc h (m_l_markText_ok N · (wz ((wz (s2 + 1)) + 1)) ·) rfl rfl rfl fun x2 h => lih h3 hx1 rfl <| lf Fld_133_2 rfl rfl rfl <| lu (us [0] [] 2 RTVal.lasts Sz_9 rfl rfl rfl rfl h3 rfl (fun ap => dN)) rfl ?_
  rintro Φ_4 D4 ⟨⟨ap3, fr3⟩, h4⟩
  refine art 12 [] rfl ?_
  have h5 := h4.unfocusF RTVal.flat (x' := (⟨s2, wz (s2 + 1), x2⟩ : TVal)) ⟨rfl, rfl⟩
  exact lb [0] [] (ih1 (_, _, _, _) ⟨h, h5⟩)
 refine att 6 [] rfl ?_
 exact rtg [0] hF (resOk.one rfl) rfl (by cases h; exact fun w1 hw => ⟨rfl, rfl, k1⟩)
theorem m_l_markItemS_ok (w0 : Base Ψ Φ [ob pv0, pD0].flatten) (p0 : (List TItem)) (p1 : Int) (ph0 : OSl OTItem 143 3 Φ pD0 pv0 p0) {r : Int × (List TItem)} (h : m_l_markItemS N p0 p1 = some r) :
  Calls prog 47 [pv0, iV p1].toArray w0.w (PostG Φ w0.w [ob pv0, pD0].flatten (fun Φ' Fs v => ∃ (Do_0_0 : List Nat), v = iV r.1 ∧ Fs = [ob pv0, Do_0_0] ∧ OSl OTItem 143 3 Φ' Do_0_0 pv0 r.2)) := by
 refine eL func47 rfl ntmps47 rfl (L := [ob pv0, pD0]) w0 (fun hF => ?_)
 unfold m_l_markItemS at h
 refine att 10 [] rfl ?_
 refine lin (σ := Hp × (List TItem) × List Nat × Int × Int) (fun s => [(0, pv0), (1, iV s.2.2.2.1), (5, iV s.2.2.2.2)]) (fun s => St w0 s.1 [] [ob pv0, s.2.2.1]) (fun m s => m_l_markItemS_l1 N m s.2.1 s.2.2.2.1 s.2.2.2.2 = some r ∧ (OSl OTItem 143 3 s.1 s.2.2.1 pv0 s.2.1)) (Φ, p0, pD0, p1, 0) N ⟨h, ph0⟩ (sx [0, 0] []) (fun n1 ih1 s hm => ?_)
 obtain ⟨Φ_1, s1, D1, s2, s3⟩ := s
 obtain ⟨h, k1⟩ := hm
 dsimp only at h k1 ⊢
 unfold m_l_markItemS_l1 at h
 refine atr 5 [] rfl <| lno k1 rfl <| la rfl <| en ?_
 refine ch h rfl ?_ ?_ <;> intro h
 ·refine atr 8 [] rfl ?_
  obtain ⟨x1, hx1, h⟩ := bs h
  obtain ⟨cs1, F1, D2, h1, r1, kf1, sp1⟩ := k1.focus hx1
  obtain ⟨v1, rfl, rfl, h2⟩ := r1
  refine wlL [ob v1, D2, ob pv0] (sre [1] [ob v1, D2] rfl (by simpa [List.append_assoc] using sp1)) <| lih h1 hx1 rfl <| lf Fld_143_0 rfl rfl rfl <| lu (us [2] [ob v1, D2] 0 OTItem.lasts Sz_3 rfl rfl rfl rfl h1 rfl (fun ap => ap.q 1 rfl)) rfl ?_
  rintro Φ_2 D3 ⟨⟨ap1, fr1⟩, h3⟩
  replace h2 := h2.fr fr1 (ap1.q 0 rfl) dN
  refine arr 12 [] rfl <| qc h (m_l_markText_ok N · (wz (s2 + 1)) ·) rfl rfl rfl fun x2 h => lih h3 hx1 rfl <| arr 2 [1, 0] rfl <| lu (us [0] [ob v1, D2] 1 OTItem.lasts Sz_9 rfl rfl rfl rfl h3 rfl (fun ap => ap.q 1 rfl)) rfl ?_
  rintro Φ_3 D4 ⟨⟨ap2, fr2⟩, h4⟩
  replace h2 := h2.fr fr2 (ap2.q 0 rfl) dN
  refine arr 10 [] rfl <| lih h4 hx1 rfl <| arr 2 [1, 1] rfl <| lq (q_load1 T1_125 rfl (fun w1 hw => (h4.rg.of_eq 2 1 (by omega) rfl : rg _ _ _ [v1]).rangeAt hw.fro)) rfl <| la rfl <| kcb [1] h rfl rfl rfl rfl (fun b ap z q => m_l_markValS_ok N b x1.F.Fields (wz ((wz (s2 + 1)) + 1)) h2 q) ?_
  rintro x3 h v2 Φ_4 F2 ⟨ap3, fr3, rfl, rfl, h5⟩
  replace h4 := h4.fr fr3 (ap3.q 0 rfl) (ap3.q 1 rfl)
  refine art 8 [] rfl ?_
  have r2 : OTItem Φ_4 _ [iV s2, .string x2, v1] (⟨s2, (⟨x2, x3.2⟩ : TFact)⟩ : TItem) := ⟨v1, rfl, rfl, h5⟩
  obtain ⟨D5, h6, sp2⟩ := h4.unfocus r2 (OTItem.knows _ _ _ _ r2)
  refine wtL [D5, ob pv0] (smg [0, 1] rfl (by simpa [List.append_assoc, ob_nil] using sp2)) ?_
  exact lb [1, 0] [] (ih1 (_, _, _, _, _) ⟨h, h6⟩)
 refine att 6 [] rfl ?_
 exact rtg [0, 0] hF (resOk.one rfl) rfl (by cases h; exact fun w1 hw => ⟨D1, rfl, rfl, k1⟩)
theorem m_l_markStore_ok (w0 : Base Ψ Φ [ob pv0_0, pD0_0].flatten) (p0 : TStore) (p1 : Int) (ph0_0 : OSl OTItem 143 3 Φ pD0_0 pv0_0 p0.Items) {r : Int × (List TItem)} (h : m_l_markStore N p0 p1 = some r) :
  Calls prog 18 [.agg [pv0_0, iV p0.Next].toArray, iV p1].toArray w0.w (PostG Φ w0.w [ob pv0_0, pD0_0].flatten (fun Φ' Fs v => ∃ (Do_0_0 : List Nat), v = iV r.1 ∧ Fs = [ob pv0_0, Do_0_0] ∧ OSl OTItem 143 3 Φ' Do_0_0 pv0_0 r.2)) := by
 refine eL func18 rfl ntmps18 rfl (L := [ob pv0_0, pD0_0]) w0 (fun hF => ?_)
 unfold m_l_markStore at h
 refine sr <| lbx rfl fun b_1 => arr 7 [0, 0] rfl <| kcb [0, 0] h rfl rfl rfl rfl (fun b ap z q => m_l_markItemS_ok N b p0.Items p1 ph0_0 q) ?_
 rintro x1 h v1 Φ_1 F1 ⟨ap1, fr1, D1, rfl, rfl, h1⟩
 refine art 7 [] rfl ?_
 exact rtg [0, 0] hF (resOk.one rfl) rfl (by cases h; exact fun w1 hw => ⟨D1, rfl, rfl, h1⟩)
theorem m_l_markBindS_ok (w0 : Base Ψ Φ [ob pv0].flatten) (p0 : (List TBind)) (p1 : Int) (ph0 : OSl RTBind 164 4 Φ [] pv0 p0) {r : Int × (List TBind)} (h : m_l_markBindS N p0 p1 = some r) :
  Calls prog 49 [pv0, iV p1].toArray w0.w (PostG Φ w0.w [ob pv0].flatten (fun Φ' Fs v => v = iV r.1 ∧ Fs = [ob pv0] ∧ OSl RTBind 164 4 Φ' [] pv0 r.2)) := by
 refine eL func49 rfl ntmps49 rfl (L := [ob pv0]) w0 (fun hF => ?_)
 unfold m_l_markBindS at h
 refine att 10 [] rfl ?_
 refine lin (σ := Hp × (List TBind) × Int × Int) (fun s => [(0, pv0), (1, iV s.2.2.1), (5, iV s.2.2.2)]) (fun s => St w0 s.1 [] [ob pv0]) (fun m s => m_l_markBindS_l1 N m s.2.1 s.2.2.1 s.2.2.2 = some r ∧ (OSl RTBind 164 4 s.1 [] pv0 s.2.1)) (Φ, p0, p1, 0) N ⟨h, ph0⟩ (sx [0] []) (fun n1 ih1 s hm => ?_)
 obtain ⟨Φ_1, s1, s2, s3⟩ := s
 obtain ⟨h, k1⟩ := hm
 dsimp only at h k1 ⊢
 unfold m_l_markBindS_l1 at h
 refine atr 5 [] rfl <| lno k1 rfl <| la rfl <| en ?_
 refine ch h rfl ?_ ?_ <;> intro h
 ·refine atr 8 [] rfl <| qc h (m_l_markText_ok N · s2 ·) rfl rfl rfl fun x1 h => ?_
  obtain ⟨x2, hx2, h⟩ := bs h
  obtain ⟨cs1, F1, h1, r1⟩ := k1.focusF RTBind.flat hx2
  obtain ⟨rfl, -⟩ := r1
  refine lih h1 hx2 rfl <| lf Fld_164_0 rfl rfl rfl <| lu (us [0] [] 0 RTBind.lasts Sz_9 rfl rfl rfl rfl h1 rfl (fun ap => dN)) rfl ?_
  rintro Φ_2 D2 ⟨⟨ap1, fr1⟩, h2⟩
  refine arr 12 [] rfl <| lih h2 hx2 rfl <| arr 2 [1, 0] rfl <| lu (us [0] [] 1 RTBind.lasts Sz_3 rfl rfl rfl rfl h2 rfl (fun ap => dN)) rfl ?_
  rintro Φ_3 D3 ⟨⟨ap2, fr2⟩, h3⟩
  refine arr 12 [] rfl <| lih h3 hx2 rfl <| arr 2 [1, 1] rfl <| lu (us [0] [] 2 RTBind.lasts Sz_3 rfl rfl rfl rfl h3 rfl (fun ap => dN)) rfl ?_
  rintro Φ_4 D4 ⟨⟨ap3, fr3⟩, h4⟩
  refine arr 12 [] rfl <| qc h (m_l_markText_ok N · (wz ((wz ((wz (s2 + 1)) + 1)) + 1)) ·) rfl rfl rfl fun x3 h => lih h4 hx2 rfl <| arr 2 [1, 2] rfl <| lu (us [0] [] 3 RTBind.lasts Sz_9 rfl rfl rfl rfl h4 rfl (fun ap => dN)) rfl ?_
  rintro Φ_5 D5 ⟨⟨ap4, fr4⟩, h5⟩
  refine art 12 [] rfl ?_
  have h6 := h5.unfocusF RTBind.flat (x' := (⟨x1, (⟨wz (s2 + 1), wz ((wz (s2 + 1)) + 1), x3⟩ : TVal)⟩ : TBind)) ⟨rfl, rfl⟩
  exact lb [0] [] (ih1 (_, _, _, _) ⟨h, h6⟩)
 refine att 6 [] rfl ?_
 exact rtg [0] hF (resOk.one rfl) rfl (by cases h; exact fun w1 hw => ⟨rfl, rfl, k1⟩)
theorem m_l_markMatchS_ok (w0 : Base Ψ Φ [ob pv0, pD0].flatten) (p0 : (List TMatch)) (p1 : Int) (ph0 : OSl OTMatch 84 3 Φ pD0 pv0 p0) {r : Int × (List TMatch)} (h : m_l_markMatchS N p0 p1 = some r) :
  Calls prog 19 [pv0, iV p1].toArray w0.w (PostG Φ w0.w [ob pv0, pD0].flatten (fun Φ' Fs v => ∃ (Do_0_0 : List Nat), v = iV r.1 ∧ Fs = [ob pv0, Do_0_0] ∧ OSl OTMatch 84 3 Φ' Do_0_0 pv0 r.2)) := by
 refine eL func19 rfl ntmps19 rfl (L := [ob pv0, pD0]) w0 (fun hF => ?_)
 unfold m_l_markMatchS at h
 refine att 10 [] rfl ?_
 refine lin (σ := Hp × (List TMatch) × List Nat × Int × Int) (fun s => [(0, pv0), (1, iV s.2.2.2.1), (5, iV s.2.2.2.2)]) (fun s => St w0 s.1 [] [ob pv0, s.2.2.1]) (fun m s => m_l_markMatchS_l1 N m s.2.1 s.2.2.2.1 s.2.2.2.2 = some r ∧ (OSl OTMatch 84 3 s.1 s.2.2.1 pv0 s.2.1)) (Φ, p0, pD0, p1, 0) N ⟨h, ph0⟩ (sx [0, 0] []) (fun n1 ih1 s hm => ?_)
 obtain ⟨Φ_1, s1, D1, s2, s3⟩ := s
 obtain ⟨h, k1⟩ := hm
 dsimp only at h k1 ⊢
 unfold m_l_markMatchS_l1 at h
 refine atr 5 [] rfl <| lno k1 rfl <| la rfl <| en ?_
 refine ch h rfl ?_ ?_ <;> intro h
 ·refine atr 8 [] rfl ?_
  obtain ⟨x1, hx1, h⟩ := bs h
  obtain ⟨cs1, F1, D2, h1, r1, kf1, sp1⟩ := k1.focus hx1
  obtain ⟨v1, v2, rfl, rfl, h2, h3⟩ := r1
  refine wlL [ob v1, ob v2, D2, ob pv0] (sre [1] [ob v1, ob v2, D2] rfl (by simpa [List.append_assoc] using sp1)) <| lih h1 hx1 rfl <| lf Fld_84_0 rfl rfl rfl <| lu (us [3] [ob v1, ob v2, D2] 0 OTMatch.lasts Sz_3 rfl rfl rfl rfl h1 rfl (fun ap => ap.q 2 rfl)) rfl ?_
  rintro Φ_2 D3 ⟨⟨ap1, fr1⟩, h4⟩
  replace h2 := h2.fr fr1 (ap1.q 0 rfl) dN
  replace h3 := h3.fr fr1 (ap1.q 1 rfl) dN
  refine arr 11 [] rfl <| lih h4 hx1 rfl <| lf Fld_84_1 rfl rfl rfl <| lgx 1 0 h4.rg rfl <| la rfl <| kcb [1] h rfl rfl rfl rfl (fun b ap z q => m_l_markIntS_ok N b x1.Ids (wz (s2 + 1)) h2 q) ?_
  rintro x2 h v3 Φ_3 F2 ⟨ap2, fr2, rfl, rfl, h5⟩
  replace h4 := h4.fr fr2 (ap2.q 0 rfl) (ap2.q 2 rfl)
  replace h3 := h3.fr fr2 (ap2.q 1 rfl) dN
  refine arr 5 [] rfl <| lih h4 hx1 rfl <| lf Fld_84_2 rfl rfl rfl <| lgx 2 0 h4.rg rfl <| la rfl <| kcb [2] h rfl rfl rfl rfl (fun b ap z q => m_l_markBindS_ok N b x1.Binds x2.1 h3 q) ?_
  rintro x3 h v4 Φ_4 F3 ⟨ap3, fr3, rfl, rfl, h6⟩
  replace h4 := h4.fr fr3 (ap3.q 1 rfl) (ap3.q 2 rfl)
  replace h5 := h5.fr fr3 (ap3.q 0 rfl) dN
  refine art 8 [] rfl ?_
  have r2 : OTMatch Φ_4 _ [iV s2, v1, v2] (⟨s2, x2.2, x3.2⟩ : TMatch) := ⟨v1, v2, rfl, rfl, h5, h6⟩
  obtain ⟨D4, h7, sp2⟩ := h4.unfocus r2 (OTMatch.knows _ _ _ _ r2)
  refine wtL [D4, ob pv0] (smg [1, 0, 1] rfl (by simpa [List.append_assoc, ob_nil] using sp2)) ?_
  exact lb [1, 0] [] (ih1 (_, _, _, _, _) ⟨h, h7⟩)
 refine att 6 [] rfl ?_
 exact rtg [0, 0] hF (resOk.one rfl) rfl (by cases h; exact fun w1 hw => ⟨D1, rfl, rfl, k1⟩)
theorem m_l_heldIntS_ok (w0 : Base Ψ Φ []) (p0 : (List Int)) (p1 : Int) (ph0 : RSl (RI .i64) 1 Ψ pG0 pv0 p0) {r : Int} (h : m_l_heldIntS N p0 p1 = some r) :
  CB w0 prog 50 [pv0, iV p1] (iV r) := by
 refine eN func50 rfl ntmps50 rfl w0 fun hF => ?_
 unfold m_l_heldIntS at h
 refine att 10 [] rfl ?_
 refine lin (σ := Int × Int) (fun s => [(0, pv0), (1, iV s.1), (5, iV s.2)]) (fun s => St w0 Φ [] []) (fun m s => m_l_heldIntS_l1 N p0 m s.1 s.2 = some r) (p1, 0) N h (sx [] []) (fun n1 ih1 s hm => ?_)
 obtain ⟨s1, s2⟩ := s
 have h : m_l_heldIntS_l1 N p0 (n1 + 1) s1 s2 = some r := hm
 show WT _ _ [(0, pv0), (1, iV s1), (5, iV s2)] (St w0 Φ [] [])
 unfold m_l_heldIntS_l1 at h
 refine atr 5 [] rfl <| lnr ph0 rfl <| la rfl <| en ?_
 refine ch h rfl ?_ ?_ <;> intro h
 ·refine atr 8 [] rfl ?_
  obtain ⟨x1, hx1, h⟩ := bs h
  obtain ⟨cs1, F1, -, g1, hb1, hs1, r1⟩ := ph0.el (idx_some hx1).2.2
  obtain ⟨rfl, -⟩ := r1
  refine lia ph0 hx1 rfl <| lhx 0 0 g1 rfl <| art 3 [] rfl ?_
  refine ch h rfl ?_ ?_ <;> intro h
  ·refine att 4 [] rfl ?_
   exact rt hF h
  refine att 12 [] rfl ?_
  exact lb [] [] (ih1 (_, _) h)
 refine att 6 [] rfl ?_
 exact rt hF h
end Go.Proofs.YtjccaebpbieejaaGreat
