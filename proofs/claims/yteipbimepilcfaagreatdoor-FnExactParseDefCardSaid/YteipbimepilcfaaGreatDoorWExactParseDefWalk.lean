/- Printed by a program of ours: each Go function computes its Lean function. -/
import Derived.Test.YteipbimepilcfaaGreatDoorProg
import Derived.Test.YteipbimepilcfaaGreatDoorWExactParseDefWalk5
namespace Go.Proofs.YteipbimepilcfaaGreatDoor
open Eng Tryz
open Go.RowKit (Below)
set_option linter.unusedVariables false
set_option linter.unusedSimpArgs false

set_option maxRecDepth 100000
set_option maxHeartbeats 1000000
variable {Ψ Φ : Hp} {pv0 pv0_0 : Value} {pG0 pG0_0 : List Nat} (N : Nat)
theorem m_l_heldArgS_ok (w0 : Base Ψ Φ []) (p0 : (List TArg)) (p1 : Int) (ph0 : RSl RTArg 5 Ψ pG0 pv0 p0) {r : Int} (h : m_l_heldArgS N p0 p1 = some r) :
  CB w0 prog 185 [pv0, iV p1] (iV r) := by
 refine eN func185 rfl ntmps185 rfl w0 fun hF => ?_
 unfold m_l_heldArgS at h
 refine att 10 [] rfl ?_
 refine lin (σ := Int × Int) (fun s => [(0, pv0), (1, iV s.1), (5, iV s.2)]) (fun s => St w0 Φ [] []) (fun m s => m_l_heldArgS_l1 N p0 m s.1 s.2 = some r) (p1, 0) N h (sx [] []) (fun n1 ih1 s hm => ?_)
 obtain ⟨s1, s2⟩ := s
 have h : m_l_heldArgS_l1 N p0 (n1 + 1) s1 s2 = some r := hm
 show WT _ _ [(0, pv0), (1, iV s1), (5, iV s2)] (St w0 Φ [] [])
 unfold m_l_heldArgS_l1 at h
 refine atr 5 [] rfl <| lnr ph0 rfl <| la rfl <| en ?_
 refine ch h rfl ?_ ?_ <;> intro h
 ·refine atr 8 [] rfl ?_
  obtain ⟨x1, hx1, h⟩ := bs h
  obtain ⟨cs1, F1, -, g1, hb1, hs1, r1⟩ := ph0.el (idx_some hx1).2.2
  obtain ⟨rfl, -⟩ := r1
  refine lia ph0 hx1 rfl <| lf Fld_60_0 rfl rfl rfl <| lhx 0 0 g1 rfl <| art 3 [] rfl ?_
  refine ch h rfl ?_ ?_ <;> intro h
  ·refine att 4 [] rfl ?_
   exact rt hF h
  refine att 9 [] rfl <| WT.draw mixed (by kernel_rfl) (fun _ h => h.drew) <| aqq 2 [] rfl ?_
  obtain ⟨x2, hx2, h⟩ := bs h
  obtain ⟨cs2, F2, -, g2, hb2, hs2, r2⟩ := ph0.el (idx_some hx2).2.2
  obtain ⟨rfl, -⟩ := r2
  refine qq (q_indexAddr Sl_33 rfl rfl ph0 hx2) rfl <| qq (q_fieldAddr Fld_60_1 rfl) rfl <| qq (q_load1 T1_9 rfl (fun w1 hw => (g2.of_eq 1 1 rfl rfl : rg _ _ _ [.string x2.S]).rangeAt hw.in0)) rfl <| qq (q_move rfl) rfl ?_
  obtain ⟨x3, hx3, h⟩ := bs h
  refine qp (p_call Fun_130 rfl (fun w1 hw => m_l_markText_ok N (ba hw.fro) (wz (s1 + 1)) hx3)) rfl <| aqt 2 [] rfl ?_
  refine ch h rfl ?_ ?_ <;> intro h
  ·refine att 4 [] rfl ?_
   exact rt hF h
  refine atr 12 [] rfl ?_
  obtain ⟨x4, hx4, h⟩ := bs h
  obtain ⟨cs3, F3, -, g3, hb3, hs3, r3⟩ := ph0.el (idx_some hx4).2.2
  obtain ⟨rfl, -⟩ := r3
  refine lia ph0 hx4 rfl <| arr 2 [2, 0] rfl <| lq (q_load1 T1_3 rfl (fun w1 hw => (g3.of_eq 2 1 (by omega) rfl : rg _ _ _ [iV x4.V.K]).rangeAt hw.in0)) rfl <| art 3 [] rfl ?_
  refine ch h rfl ?_ ?_ <;> intro h
  ·refine att 4 [] rfl ?_
   exact rt hF h
  refine atr 12 [] rfl ?_
  obtain ⟨x5, hx5, h⟩ := bs h
  obtain ⟨cs4, F4, -, g4, hb4, hs4, r4⟩ := ph0.el (idx_some hx5).2.2
  obtain ⟨rfl, -⟩ := r4
  refine lia ph0 hx5 rfl <| arr 2 [2, 1] rfl <| lq (q_load1 T1_3 rfl (fun w1 hw => (g4.of_eq 3 1 (by omega) rfl : rg _ _ _ [iV x5.V.N]).rangeAt hw.in0)) rfl <| art 3 [] rfl ?_
  refine ch h rfl ?_ ?_ <;> intro h
  ·refine att 4 [] rfl ?_
   exact rt hF h
  refine att 9 [] rfl <| WT.draw mixed (by kernel_rfl) (fun _ h => h.drew) <| aqq 2 [] rfl ?_
  obtain ⟨x6, hx6, h⟩ := bs h
  obtain ⟨cs5, F5, -, g5, hb5, hs5, r5⟩ := ph0.el (idx_some hx6).2.2
  obtain ⟨rfl, -⟩ := r5
  refine qq (q_indexAddr Sl_33 rfl rfl ph0 hx6) rfl <| aqq 2 [2, 2] rfl <| qq (q_load1 T1_9 rfl (fun w1 hw => (g5.of_eq 4 1 (by omega) rfl : rg _ _ _ [.string x6.V.S]).rangeAt hw.in0)) rfl <| qq (q_move rfl) rfl ?_
  obtain ⟨x7, hx7, h⟩ := bs h
  refine qp (p_call Fun_130 rfl (fun w1 hw => m_l_markText_ok N (ba hw.fro) (wz ((wz ((wz ((wz (s1 + 1)) + 1)) + 1)) + 1)) hx7)) rfl <| aqt 2 [] rfl ?_
  refine ch h rfl ?_ ?_ <;> intro h
  ·refine att 4 [] rfl ?_
   exact rt hF h
  refine att 12 [] rfl ?_
  exact lb [] [] (ih1 (_, _) h)
 refine att 6 [] rfl ?_
 exact rt hF h
theorem m_l_heldPatS_ok (w0 : Base Ψ Φ []) (p0 : (List TPat)) (p1 : Int) (ph0 : RSl RTPat 3 Ψ pG0 pv0 p0) {r : Int} (h : m_l_heldPatS N p0 p1 = some r) :
  CB w0 prog 134 [pv0, iV p1] (iV r) := by
 refine eN func134 rfl ntmps134 rfl w0 fun hF => ?_
 unfold m_l_heldPatS at h
 refine att 10 [] rfl ?_
 refine lin (σ := Int × Int) (fun s => [(0, pv0), (1, iV s.1), (5, iV s.2)]) (fun s => St w0 Φ [] []) (fun m s => m_l_heldPatS_l1 N p0 m s.1 s.2 = some r) (p1, 0) N h (sx [] []) (fun n1 ih1 s hm => ?_)
 obtain ⟨s1, s2⟩ := s
 have h : m_l_heldPatS_l1 N p0 (n1 + 1) s1 s2 = some r := hm
 show WT _ _ [(0, pv0), (1, iV s1), (5, iV s2)] (St w0 Φ [] [])
 unfold m_l_heldPatS_l1 at h
 refine atr 5 [] rfl <| lnr ph0 rfl <| la rfl <| en ?_
 refine ch h rfl ?_ ?_ <;> intro h
 ·refine att 5 [] rfl <| WT.draw mixed (by kernel_rfl) (fun _ h => h.drew) <| aqq 2 [] rfl ?_
  obtain ⟨x1, hx1, h⟩ := bs h
  obtain ⟨cs1, F1, -, g1, hb1, hs1, r1⟩ := ph0.el (idx_some hx1).2.2
  obtain ⟨v1, G1, rfl, hq1, h1⟩ := r1
  obtain rfl := hq1.symm
  refine qq (q_indexAddr Sl_24 rfl rfl ph0 hx1) rfl <| qq (q_fieldAddr Fld_35_0 rfl) rfl <| qq (q_load1 T1_9 rfl (fun w1 hw => (g1.of_eq 0 1 rfl rfl : rg _ _ _ [.string x1.Kind]).rangeAt hw.in0)) rfl <| qq (q_move rfl) rfl ?_
  obtain ⟨x2, hx2, h⟩ := bs h
  refine qp (p_call Fun_130 rfl (fun w1 hw => m_l_markText_ok N (ba hw.fro) s1 hx2)) rfl <| aqt 2 [] rfl ?_
  refine ch h rfl ?_ ?_ <;> intro h
  ·refine att 4 [] rfl ?_
   exact rt hF h
  refine atr 11 [] rfl ?_
  obtain ⟨x3, hx3, h⟩ := bs h
  obtain ⟨cs2, F2, -, g2, hb2, hs2, r2⟩ := ph0.el (idx_some hx3).2.2
  obtain ⟨v2, G2, rfl, hq2, h2⟩ := r2
  obtain rfl := hq2.symm
  refine lia ph0 hx3 rfl <| lf Fld_35_1 rfl rfl rfl <| lhx 1 0 g2 rfl <| la rfl <| qd h (m_l_heldArgS_ok N · x3.Args (wz (s1 + 1)) h2 ·) rfl rfl rfl fun x4 h => art 8 [] rfl ?_
  refine ch h rfl ?_ ?_ <;> intro h
  ·refine att 4 [] rfl ?_
   exact rt hF h
  refine atr 6 [] rfl ?_
  obtain ⟨x5, hx5, h⟩ := bs h
  obtain ⟨cs3, F3, -, g3, hb3, hs3, r3⟩ := ph0.el (idx_some hx5).2.2
  obtain ⟨v3, G3, rfl, hq3, h3⟩ := r3
  obtain rfl := hq3.symm
  refine lia ph0 hx5 rfl <| lf Fld_35_2 rfl rfl rfl <| lhx 2 0 g3 rfl <| la rfl <| lq (q_rem rfl rfl (by decide)) rfl <| la rfl <| lq (q_bne Bo_4 rfl rfl) rfl <| en ?_
  refine ch h rfl ?_ ?_ <;> intro h
  ·refine att 4 [] rfl ?_
   exact rt hF h
  refine att 12 [] rfl ?_
  exact lb [] [] (ih1 (_, _) h)
 refine att 6 [] rfl ?_
 exact rt hF h
theorem m_l_heldCondS_ok (w0 : Base Ψ Φ []) (p0 : (List TCond)) (p1 : Int) (ph0 : RSl RTCond 11 Ψ pG0 pv0 p0) {r : Int} (h : m_l_heldCondS N p0 p1 = some r) :
  CB w0 prog 135 [pv0, iV p1] (iV r) := by
 refine eN func135 rfl ntmps135 rfl w0 fun hF => ?_
 unfold m_l_heldCondS at h
 refine att 10 [] rfl ?_
 refine lin (σ := Int × Int) (fun s => [(0, pv0), (1, iV s.1), (5, iV s.2)]) (fun s => St w0 Φ [] []) (fun m s => m_l_heldCondS_l1 N p0 m s.1 s.2 = some r) (p1, 0) N h (sx [] []) (fun n1 ih1 s hm => ?_)
 obtain ⟨s1, s2⟩ := s
 have h : m_l_heldCondS_l1 N p0 (n1 + 1) s1 s2 = some r := hm
 show WT _ _ [(0, pv0), (1, iV s1), (5, iV s2)] (St w0 Φ [] [])
 unfold m_l_heldCondS_l1 at h
 refine atr 5 [] rfl <| lnr ph0 rfl <| la rfl <| en ?_
 refine ch h rfl ?_ ?_ <;> intro h
 ·refine atr 8 [] rfl ?_
  obtain ⟨x1, hx1, h⟩ := bs h
  obtain ⟨cs1, F1, -, g1, hb1, hs1, r1⟩ := ph0.el (idx_some hx1).2.2
  obtain ⟨rfl, -⟩ := r1
  refine lia ph0 hx1 rfl <| lf Fld_62_0 rfl rfl rfl <| lhx 0 0 g1 rfl <| art 3 [] rfl ?_
  refine ch h rfl ?_ ?_ <;> intro h
  ·refine att 4 [] rfl ?_
   exact rt hF h
  refine atr 12 [] rfl ?_
  obtain ⟨x2, hx2, h⟩ := bs h
  obtain ⟨cs2, F2, -, g2, hb2, hs2, r2⟩ := ph0.el (idx_some hx2).2.2
  obtain ⟨rfl, -⟩ := r2
  refine lia ph0 hx2 rfl <| arr 2 [1, 0] rfl <| lq (q_load1 T1_3 rfl (fun w1 hw => (g2.of_eq 1 1 (by omega) rfl : rg _ _ _ [iV x2.L.K]).rangeAt hw.in0)) rfl <| art 3 [] rfl ?_
  refine ch h rfl ?_ ?_ <;> intro h
  ·refine att 4 [] rfl ?_
   exact rt hF h
  refine att 9 [] rfl <| WT.draw mixed (by kernel_rfl) (fun _ h => h.drew) <| aqq 2 [] rfl ?_
  obtain ⟨x3, hx3, h⟩ := bs h
  obtain ⟨cs3, F3, -, g3, hb3, hs3, r3⟩ := ph0.el (idx_some hx3).2.2
  obtain ⟨rfl, -⟩ := r3
  refine qq (q_indexAddr Sl_25 rfl rfl ph0 hx3) rfl <| aqq 2 [1, 1] rfl <| qq (q_load1 T1_9 rfl (fun w1 hw => (g3.of_eq 2 1 (by omega) rfl : rg _ _ _ [.string x3.L.S]).rangeAt hw.in0)) rfl <| qq (q_move rfl) rfl ?_
  obtain ⟨x4, hx4, h⟩ := bs h
  refine qp (p_call Fun_130 rfl (fun w1 hw => m_l_markText_ok N (ba hw.fro) (wz ((wz (s1 + 1)) + 1)) hx4)) rfl <| aqt 2 [] rfl ?_
  refine ch h rfl ?_ ?_ <;> intro h
  ·refine att 4 [] rfl ?_
   exact rt hF h
  refine atr 12 [] rfl ?_
  obtain ⟨x5, hx5, h⟩ := bs h
  obtain ⟨cs4, F4, -, g4, hb4, hs4, r4⟩ := ph0.el (idx_some hx5).2.2
  obtain ⟨rfl, -⟩ := r4
  refine lia ph0 hx5 rfl <| arr 3 [1, 2, 0] rfl <| lq (q_load1 T1_3 rfl (fun w1 hw => (g4.of_eq 3 1 (by omega) rfl : rg _ _ _ [iV x5.L.V.K]).rangeAt hw.in0)) rfl <| art 3 [] rfl ?_
  refine ch h rfl ?_ ?_ <;> intro h
  ·refine att 4 [] rfl ?_
   exact rt hF h
  refine atr 12 [] rfl ?_
  obtain ⟨x6, hx6, h⟩ := bs h
  obtain ⟨cs5, F5, -, g5, hb5, hs5, r5⟩ := ph0.el (idx_some hx6).2.2
  obtain ⟨rfl, -⟩ := r5
  refine lia ph0 hx6 rfl <| arr 3 [1, 2, 1] rfl <| lq (q_load1 T1_3 rfl (fun w1 hw => (g5.of_eq 4 1 (by omega) rfl : rg _ _ _ [iV x6.L.V.N]).rangeAt hw.in0)) rfl <| art 3 [] rfl ?_
  refine ch h rfl ?_ ?_ <;> intro h
  ·refine att 4 [] rfl ?_
   exact rt hF h
  refine att 9 [] rfl <| WT.draw mixed (by kernel_rfl) (fun _ h => h.drew) <| aqq 2 [] rfl ?_
  obtain ⟨x7, hx7, h⟩ := bs h
  obtain ⟨cs6, F6, -, g6, hb6, hs6, r6⟩ := ph0.el (idx_some hx7).2.2
  obtain ⟨rfl, -⟩ := r6
  refine qq (q_indexAddr Sl_25 rfl rfl ph0 hx7) rfl <| aqq 3 [1, 2, 2] rfl <| qq (q_load1 T1_9 rfl (fun w1 hw => (g6.of_eq 5 1 (by omega) rfl : rg _ _ _ [.string x7.L.V.S]).rangeAt hw.in0)) rfl <| qq (q_move rfl) rfl ?_
  obtain ⟨x8, hx8, h⟩ := bs h
  refine qp (p_call Fun_130 rfl (fun w1 hw => m_l_markText_ok N (ba hw.fro) (wz ((wz ((wz ((wz ((wz (s1 + 1)) + 1)) + 1)) + 1)) + 1)) hx8)) rfl <| aqt 2 [] rfl ?_
  refine ch h rfl ?_ ?_ <;> intro h
  ·refine att 4 [] rfl ?_
   exact rt hF h
  refine atr 12 [] rfl ?_
  obtain ⟨x9, hx9, h⟩ := bs h
  obtain ⟨cs7, F7, -, g7, hb7, hs7, r7⟩ := ph0.el (idx_some hx9).2.2
  obtain ⟨rfl, -⟩ := r7
  refine lia ph0 hx9 rfl <| arr 2 [6, 0] rfl <| lq (q_load1 T1_3 rfl (fun w1 hw => (g7.of_eq 6 1 (by omega) rfl : rg _ _ _ [iV x9.R.K]).rangeAt hw.in0)) rfl <| art 3 [] rfl ?_
  refine ch h rfl ?_ ?_ <;> intro h
  ·refine att 4 [] rfl ?_
   exact rt hF h
  refine att 9 [] rfl <| WT.draw mixed (by kernel_rfl) (fun _ h => h.drew) <| aqq 2 [] rfl ?_
  obtain ⟨x10, hx10, h⟩ := bs h
  obtain ⟨cs8, F8, -, g8, hb8, hs8, r8⟩ := ph0.el (idx_some hx10).2.2
  obtain ⟨rfl, -⟩ := r8
  refine qq (q_indexAddr Sl_25 rfl rfl ph0 hx10) rfl <| aqq 2 [6, 1] rfl <| qq (q_load1 T1_9 rfl (fun w1 hw => (g8.of_eq 7 1 (by omega) rfl : rg _ _ _ [.string x10.R.S]).rangeAt hw.in0)) rfl <| qq (q_move rfl) rfl ?_
  obtain ⟨x11, hx11, h⟩ := bs h
  refine qp (p_call Fun_130 rfl (fun w1 hw => m_l_markText_ok N (ba hw.fro) (wz ((wz ((wz ((wz ((wz ((wz ((wz (s1 + 1)) + 1)) + 1)) + 1)) + 1)) + 1)) + 1)) hx11)) rfl <| aqt 2 [] rfl ?_
  refine ch h rfl ?_ ?_ <;> intro h
  ·refine att 4 [] rfl ?_
   exact rt hF h
  refine atr 12 [] rfl ?_
  obtain ⟨x12, hx12, h⟩ := bs h
  obtain ⟨cs9, F9, -, g9, hb9, hs9, r9⟩ := ph0.el (idx_some hx12).2.2
  obtain ⟨rfl, -⟩ := r9
  refine lia ph0 hx12 rfl <| arr 3 [6, 2, 0] rfl <| lq (q_load1 T1_3 rfl (fun w1 hw => (g9.of_eq 8 1 (by omega) rfl : rg _ _ _ [iV x12.R.V.K]).rangeAt hw.in0)) rfl <| art 3 [] rfl ?_
  refine ch h rfl ?_ ?_ <;> intro h
  ·refine att 4 [] rfl ?_
   exact rt hF h
  refine atr 12 [] rfl ?_
  obtain ⟨x13, hx13, h⟩ := bs h
  obtain ⟨cs10, F10, -, g10, hb10, hs10, r10⟩ := ph0.el (idx_some hx13).2.2
  obtain ⟨rfl, -⟩ := r10
  refine lia ph0 hx13 rfl <| arr 3 [6, 2, 1] rfl <| lq (q_load1 T1_3 rfl (fun w1 hw => (g10.of_eq 9 1 (by omega) rfl : rg _ _ _ [iV x13.R.V.N]).rangeAt hw.in0)) rfl <| art 3 [] rfl ?_
  refine ch h rfl ?_ ?_ <;> intro h
  ·refine att 4 [] rfl ?_
   exact rt hF h
  refine att 9 [] rfl <| WT.draw mixed (by kernel_rfl) (fun _ h => h.drew) <| aqq 2 [] rfl ?_
  obtain ⟨x14, hx14, h⟩ := bs h
  obtain ⟨cs11, F11, -, g11, hb11, hs11, r11⟩ := ph0.el (idx_some hx14).2.2
  obtain ⟨rfl, -⟩ := r11
  refine qq (q_indexAddr Sl_25 rfl rfl ph0 hx14) rfl <| aqq 3 [6, 2, 2] rfl <| qq (q_load1 T1_9 rfl (fun w1 hw => (g11.of_eq 10 1 (by omega) rfl : rg _ _ _ [.string x14.R.V.S]).rangeAt hw.in0)) rfl <| qq (q_move rfl) rfl ?_
  obtain ⟨x15, hx15, h⟩ := bs h
  refine qp (p_call Fun_130 rfl (fun w1 hw => m_l_markText_ok N (ba hw.fro) (wz ((wz ((wz ((wz ((wz ((wz ((wz ((wz ((wz ((wz (s1 + 1)) + 1)) + 1)) + 1)) + 1)) + 1)) + 1)) + 1)) + 1)) + 1)) hx15)) rfl <| aqt 2 [] rfl ?_
  refine ch h rfl ?_ ?_ <;> intro h
  ·refine att 4 [] rfl ?_
   exact rt hF h
  refine att 12 [] rfl ?_
  exact lb [] [] (ih1 (_, _) h)
 refine att 6 [] rfl ?_
 exact rt hF h
theorem m_l_heldExprS_ok (w0 : Base Ψ Φ []) (p0 : (List TExpr)) (p1 : Int) (ph0 : RSl RTExpr 11 Ψ pG0 pv0 p0) {r : Int} (h : m_l_heldExprS N p0 p1 = some r) :
  CB w0 prog 186 [pv0, iV p1] (iV r) := by
 refine eN func186 rfl ntmps186 rfl w0 fun hF => ?_
 unfold m_l_heldExprS at h
 refine att 10 [] rfl ?_
 refine lin (σ := Int × Int) (fun s => [(0, pv0), (1, iV s.1), (5, iV s.2)]) (fun s => St w0 Φ [] []) (fun m s => m_l_heldExprS_l1 N p0 m s.1 s.2 = some r) (p1, 0) N h (sx [] []) (fun n1 ih1 s hm => ?_)
 obtain ⟨s1, s2⟩ := s
 have h : m_l_heldExprS_l1 N p0 (n1 + 1) s1 s2 = some r := hm
 show WT _ _ [(0, pv0), (1, iV s1), (5, iV s2)] (St w0 Φ [] [])
 unfold m_l_heldExprS_l1 at h
 refine atr 5 [] rfl <| lnr ph0 rfl <| la rfl <| en ?_
 refine ch h rfl ?_ ?_ <;> intro h
 ·refine att 5 [] rfl <| WT.draw mixed (by kernel_rfl) (fun _ h => h.drew) <| aqq 2 [] rfl ?_
  obtain ⟨x1, hx1, h⟩ := bs h
  obtain ⟨cs1, F1, -, g1, hb1, hs1, r1⟩ := ph0.el (idx_some hx1).2.2
  obtain ⟨rfl, -⟩ := r1
  refine qq (q_indexAddr Sl_64 rfl rfl ph0 hx1) rfl <| qq (q_fieldAddr Fld_116_0 rfl) rfl <| qq (q_load1 T1_9 rfl (fun w1 hw => (g1.of_eq 0 1 rfl rfl : rg _ _ _ [.string x1.Op]).rangeAt hw.in0)) rfl <| qq (q_move rfl) rfl ?_
  obtain ⟨x2, hx2, h⟩ := bs h
  refine qp (p_call Fun_130 rfl (fun w1 hw => m_l_markText_ok N (ba hw.fro) s1 hx2)) rfl <| aqt 2 [] rfl ?_
  refine ch h rfl ?_ ?_ <;> intro h
  ·refine att 4 [] rfl ?_
   exact rt hF h
  refine atr 12 [] rfl ?_
  obtain ⟨x3, hx3, h⟩ := bs h
  obtain ⟨cs2, F2, -, g2, hb2, hs2, r2⟩ := ph0.el (idx_some hx3).2.2
  obtain ⟨rfl, -⟩ := r2
  refine lia ph0 hx3 rfl <| arr 2 [1, 0] rfl <| lq (q_load1 T1_3 rfl (fun w1 hw => (g2.of_eq 1 1 (by omega) rfl : rg _ _ _ [iV x3.L.K]).rangeAt hw.in0)) rfl <| art 3 [] rfl ?_
  refine ch h rfl ?_ ?_ <;> intro h
  ·refine att 4 [] rfl ?_
   exact rt hF h
  refine att 9 [] rfl <| WT.draw mixed (by kernel_rfl) (fun _ h => h.drew) <| aqq 2 [] rfl ?_
  obtain ⟨x4, hx4, h⟩ := bs h
  obtain ⟨cs3, F3, -, g3, hb3, hs3, r3⟩ := ph0.el (idx_some hx4).2.2
  obtain ⟨rfl, -⟩ := r3
  refine qq (q_indexAddr Sl_64 rfl rfl ph0 hx4) rfl <| aqq 2 [1, 1] rfl <| qq (q_load1 T1_9 rfl (fun w1 hw => (g3.of_eq 2 1 (by omega) rfl : rg _ _ _ [.string x4.L.S]).rangeAt hw.in0)) rfl <| qq (q_move rfl) rfl ?_
  obtain ⟨x5, hx5, h⟩ := bs h
  refine qp (p_call Fun_130 rfl (fun w1 hw => m_l_markText_ok N (ba hw.fro) (wz ((wz (s1 + 1)) + 1)) hx5)) rfl <| aqt 2 [] rfl ?_
  refine ch h rfl ?_ ?_ <;> intro h
  ·refine att 4 [] rfl ?_
   exact rt hF h
  refine atr 12 [] rfl ?_
  obtain ⟨x6, hx6, h⟩ := bs h
  obtain ⟨cs4, F4, -, g4, hb4, hs4, r4⟩ := ph0.el (idx_some hx6).2.2
  obtain ⟨rfl, -⟩ := r4
  refine lia ph0 hx6 rfl <| arr 3 [1, 2, 0] rfl <| lq (q_load1 T1_3 rfl (fun w1 hw => (g4.of_eq 3 1 (by omega) rfl : rg _ _ _ [iV x6.L.V.K]).rangeAt hw.in0)) rfl <| art 3 [] rfl ?_
  refine ch h rfl ?_ ?_ <;> intro h
  ·refine att 4 [] rfl ?_
   exact rt hF h
  refine atr 12 [] rfl ?_
  obtain ⟨x7, hx7, h⟩ := bs h
  obtain ⟨cs5, F5, -, g5, hb5, hs5, r5⟩ := ph0.el (idx_some hx7).2.2
  obtain ⟨rfl, -⟩ := r5
  refine lia ph0 hx7 rfl <| arr 3 [1, 2, 1] rfl <| lq (q_load1 T1_3 rfl (fun w1 hw => (g5.of_eq 4 1 (by omega) rfl : rg _ _ _ [iV x7.L.V.N]).rangeAt hw.in0)) rfl <| art 3 [] rfl ?_
  refine ch h rfl ?_ ?_ <;> intro h
  ·refine att 4 [] rfl ?_
   exact rt hF h
  refine att 9 [] rfl <| WT.draw mixed (by kernel_rfl) (fun _ h => h.drew) <| aqq 2 [] rfl ?_
  obtain ⟨x8, hx8, h⟩ := bs h
  obtain ⟨cs6, F6, -, g6, hb6, hs6, r6⟩ := ph0.el (idx_some hx8).2.2
  obtain ⟨rfl, -⟩ := r6
  refine qq (q_indexAddr Sl_64 rfl rfl ph0 hx8) rfl <| aqq 3 [1, 2, 2] rfl <| qq (q_load1 T1_9 rfl (fun w1 hw => (g6.of_eq 5 1 (by omega) rfl : rg _ _ _ [.string x8.L.V.S]).rangeAt hw.in0)) rfl <| qq (q_move rfl) rfl ?_
  obtain ⟨x9, hx9, h⟩ := bs h
  refine qp (p_call Fun_130 rfl (fun w1 hw => m_l_markText_ok N (ba hw.fro) (wz ((wz ((wz ((wz ((wz (s1 + 1)) + 1)) + 1)) + 1)) + 1)) hx9)) rfl <| aqt 2 [] rfl ?_
  refine ch h rfl ?_ ?_ <;> intro h
  ·refine att 4 [] rfl ?_
   exact rt hF h
  refine atr 12 [] rfl ?_
  obtain ⟨x10, hx10, h⟩ := bs h
  obtain ⟨cs7, F7, -, g7, hb7, hs7, r7⟩ := ph0.el (idx_some hx10).2.2
  obtain ⟨rfl, -⟩ := r7
  refine lia ph0 hx10 rfl <| arr 2 [6, 0] rfl <| lq (q_load1 T1_3 rfl (fun w1 hw => (g7.of_eq 6 1 (by omega) rfl : rg _ _ _ [iV x10.R.K]).rangeAt hw.in0)) rfl <| art 3 [] rfl ?_
  refine ch h rfl ?_ ?_ <;> intro h
  ·refine att 4 [] rfl ?_
   exact rt hF h
  refine att 9 [] rfl <| WT.draw mixed (by kernel_rfl) (fun _ h => h.drew) <| aqq 2 [] rfl ?_
  obtain ⟨x11, hx11, h⟩ := bs h
  obtain ⟨cs8, F8, -, g8, hb8, hs8, r8⟩ := ph0.el (idx_some hx11).2.2
  obtain ⟨rfl, -⟩ := r8
  refine qq (q_indexAddr Sl_64 rfl rfl ph0 hx11) rfl <| aqq 2 [6, 1] rfl <| qq (q_load1 T1_9 rfl (fun w1 hw => (g8.of_eq 7 1 (by omega) rfl : rg _ _ _ [.string x11.R.S]).rangeAt hw.in0)) rfl <| qq (q_move rfl) rfl ?_
  obtain ⟨x12, hx12, h⟩ := bs h
  refine qp (p_call Fun_130 rfl (fun w1 hw => m_l_markText_ok N (ba hw.fro) (wz ((wz ((wz ((wz ((wz ((wz ((wz (s1 + 1)) + 1)) + 1)) + 1)) + 1)) + 1)) + 1)) hx12)) rfl <| aqt 2 [] rfl ?_
  refine ch h rfl ?_ ?_ <;> intro h
  ·refine att 4 [] rfl ?_
   exact rt hF h
  refine atr 12 [] rfl ?_
  obtain ⟨x13, hx13, h⟩ := bs h
  obtain ⟨cs9, F9, -, g9, hb9, hs9, r9⟩ := ph0.el (idx_some hx13).2.2
  obtain ⟨rfl, -⟩ := r9
  refine lia ph0 hx13 rfl <| arr 3 [6, 2, 0] rfl <| lq (q_load1 T1_3 rfl (fun w1 hw => (g9.of_eq 8 1 (by omega) rfl : rg _ _ _ [iV x13.R.V.K]).rangeAt hw.in0)) rfl <| art 3 [] rfl ?_
  refine ch h rfl ?_ ?_ <;> intro h
  ·refine att 4 [] rfl ?_
   exact rt hF h
  refine atr 12 [] rfl ?_
  obtain ⟨x14, hx14, h⟩ := bs h
  obtain ⟨cs10, F10, -, g10, hb10, hs10, r10⟩ := ph0.el (idx_some hx14).2.2
  obtain ⟨rfl, -⟩ := r10
  refine lia ph0 hx14 rfl <| arr 3 [6, 2, 1] rfl <| lq (q_load1 T1_3 rfl (fun w1 hw => (g10.of_eq 9 1 (by omega) rfl : rg _ _ _ [iV x14.R.V.N]).rangeAt hw.in0)) rfl <| art 3 [] rfl ?_
  refine ch h rfl ?_ ?_ <;> intro h
  ·refine att 4 [] rfl ?_
   exact rt hF h
  refine att 9 [] rfl <| WT.draw mixed (by kernel_rfl) (fun _ h => h.drew) <| aqq 2 [] rfl ?_
  obtain ⟨x15, hx15, h⟩ := bs h
  obtain ⟨cs11, F11, -, g11, hb11, hs11, r11⟩ := ph0.el (idx_some hx15).2.2
  obtain ⟨rfl, -⟩ := r11
  refine qq (q_indexAddr Sl_64 rfl rfl ph0 hx15) rfl <| aqq 3 [6, 2, 2] rfl <| qq (q_load1 T1_9 rfl (fun w1 hw => (g11.of_eq 10 1 (by omega) rfl : rg _ _ _ [.string x15.R.V.S]).rangeAt hw.in0)) rfl <| qq (q_move rfl) rfl ?_
  obtain ⟨x16, hx16, h⟩ := bs h
  refine qp (p_call Fun_130 rfl (fun w1 hw => m_l_markText_ok N (ba hw.fro) (wz ((wz ((wz ((wz ((wz ((wz ((wz ((wz ((wz ((wz (s1 + 1)) + 1)) + 1)) + 1)) + 1)) + 1)) + 1)) + 1)) + 1)) + 1)) hx16)) rfl <| aqt 2 [] rfl ?_
  refine ch h rfl ?_ ?_ <;> intro h
  ·refine att 4 [] rfl ?_
   exact rt hF h
  refine att 12 [] rfl ?_
  exact lb [] [] (ih1 (_, _) h)
 refine att 6 [] rfl ?_
 exact rt hF h
theorem m_l_heldActS_ok (w0 : Base Ψ Φ []) (p0 : (List TAct)) (p1 : Int) (ph0 : RSl RTAct 5 Ψ pG0 pv0 p0) {r : Int} (h : m_l_heldActS N p0 p1 = some r) :
  CB w0 prog 136 [pv0, iV p1] (iV r) := by
 refine eN func136 rfl ntmps136 rfl w0 fun hF => ?_
 unfold m_l_heldActS at h
 refine att 10 [] rfl ?_
 refine lin (σ := Int × Int) (fun s => [(0, pv0), (1, iV s.1), (5, iV s.2)]) (fun s => St w0 Φ [] []) (fun m s => m_l_heldActS_l1 N p0 m s.1 s.2 = some r) (p1, 0) N h (sx [] []) (fun n1 ih1 s hm => ?_)
 obtain ⟨s1, s2⟩ := s
 have h : m_l_heldActS_l1 N p0 (n1 + 1) s1 s2 = some r := hm
 show WT _ _ [(0, pv0), (1, iV s1), (5, iV s2)] (St w0 Φ [] [])
 unfold m_l_heldActS_l1 at h
 refine atr 5 [] rfl <| lnr ph0 rfl <| la rfl <| en ?_
 refine ch h rfl ?_ ?_ <;> intro h
 ·refine atr 8 [] rfl ?_
  obtain ⟨x1, hx1, h⟩ := bs h
  obtain ⟨cs1, F1, -, g1, hb1, hs1, r1⟩ := ph0.el (idx_some hx1).2.2
  obtain ⟨v1, G1, rfl, hq1, h1⟩ := r1
  obtain rfl := hq1.symm
  refine lia ph0 hx1 rfl <| lf Fld_66_0 rfl rfl rfl <| lhx 0 0 g1 rfl <| art 3 [] rfl ?_
  refine ch h rfl ?_ ?_ <;> intro h
  ·refine att 4 [] rfl ?_
   exact rt hF h
  refine att 9 [] rfl <| WT.draw mixed (by kernel_rfl) (fun _ h => h.drew) <| aqq 2 [] rfl ?_
  obtain ⟨x2, hx2, h⟩ := bs h
  obtain ⟨cs2, F2, -, g2, hb2, hs2, r2⟩ := ph0.el (idx_some hx2).2.2
  obtain ⟨v2, G2, rfl, hq2, h2⟩ := r2
  obtain rfl := hq2.symm
  refine qq (q_indexAddr Sl_26 rfl rfl ph0 hx2) rfl <| qq (q_fieldAddr Fld_66_1 rfl) rfl <| qq (q_load1 T1_9 rfl (fun w1 hw => (g2.of_eq 1 1 rfl rfl : rg _ _ _ [.string x2.Name]).rangeAt hw.in0)) rfl <| qq (q_move rfl) rfl ?_
  obtain ⟨x3, hx3, h⟩ := bs h
  refine qp (p_call Fun_130 rfl (fun w1 hw => m_l_markText_ok N (ba hw.fro) (wz (s1 + 1)) hx3)) rfl <| aqt 2 [] rfl ?_
  refine ch h rfl ?_ ?_ <;> intro h
  ·refine att 4 [] rfl ?_
   exact rt hF h
  refine atr 11 [] rfl ?_
  obtain ⟨x4, hx4, h⟩ := bs h
  obtain ⟨cs3, F3, -, g3, hb3, hs3, r3⟩ := ph0.el (idx_some hx4).2.2
  obtain ⟨v3, G3, rfl, hq3, h3⟩ := r3
  obtain rfl := hq3.symm
  refine lia ph0 hx4 rfl <| lf Fld_66_2 rfl rfl rfl <| lhx 2 0 g3 rfl <| la rfl <| qd h (m_l_heldExprS_ok N · x4.Args (wz ((wz (s1 + 1)) + 1)) h3 ·) rfl rfl rfl fun x5 h => art 8 [] rfl ?_
  refine ch h rfl ?_ ?_ <;> intro h
  ·refine att 4 [] rfl ?_
   exact rt hF h
  refine atr 6 [] rfl ?_
  obtain ⟨x6, hx6, h⟩ := bs h
  obtain ⟨cs4, F4, -, g4, hb4, hs4, r4⟩ := ph0.el (idx_some hx6).2.2
  obtain ⟨v4, G4, rfl, hq4, h4⟩ := r4
  obtain rfl := hq4.symm
  refine lia ph0 hx6 rfl <| lf Fld_66_3 rfl rfl rfl <| lhx 3 0 g4 rfl <| art 3 [] rfl ?_
  refine ch h rfl ?_ ?_ <;> intro h
  ·refine att 4 [] rfl ?_
   exact rt hF h
  refine att 9 [] rfl <| WT.draw mixed (by kernel_rfl) (fun _ h => h.drew) <| aqq 2 [] rfl ?_
  obtain ⟨x7, hx7, h⟩ := bs h
  obtain ⟨cs5, F5, -, g5, hb5, hs5, r5⟩ := ph0.el (idx_some hx7).2.2
  obtain ⟨v5, G5, rfl, hq5, h5⟩ := r5
  obtain rfl := hq5.symm
  refine qq (q_indexAddr Sl_26 rfl rfl ph0 hx7) rfl <| qq (q_fieldAddr Fld_66_4 rfl) rfl <| qq (q_load1 T1_9 rfl (fun w1 hw => (g5.of_eq 4 1 rfl rfl : rg _ _ _ [.string x7.Undo]).rangeAt hw.in0)) rfl <| qq (q_move rfl) rfl ?_
  obtain ⟨x8, hx8, h⟩ := bs h
  refine qp (p_call Fun_130 rfl (fun w1 hw => m_l_markText_ok N (ba hw.fro) (wz (x5 + 1)) hx8)) rfl <| aqt 2 [] rfl ?_
  refine ch h rfl ?_ ?_ <;> intro h
  ·refine att 4 [] rfl ?_
   exact rt hF h
  refine att 12 [] rfl ?_
  exact lb [] [] (ih1 (_, _) h)
 refine att 6 [] rfl ?_
 exact rt hF h
theorem m_l_heldRuleS_ok (w0 : Base Ψ Φ []) (p0 : (List TRule)) (p1 : Int) (ph0 : RSl RTRule 5 Ψ pG0 pv0 p0) {r : Int} (h : m_l_heldRuleS N p0 p1 = some r) :
  CB w0 prog 72 [pv0, iV p1] (iV r) := by
 refine eN func72 rfl ntmps72 rfl w0 fun hF => ?_
 unfold m_l_heldRuleS at h
 refine att 10 [] rfl ?_
 refine lin (σ := Int × Int) (fun s => [(0, pv0), (1, iV s.1), (5, iV s.2)]) (fun s => St w0 Φ [] []) (fun m s => m_l_heldRuleS_l1 N p0 m s.1 s.2 = some r) (p1, 0) N h (sx [] []) (fun n1 ih1 s hm => ?_)
 obtain ⟨s1, s2⟩ := s
 have h : m_l_heldRuleS_l1 N p0 (n1 + 1) s1 s2 = some r := hm
 show WT _ _ [(0, pv0), (1, iV s1), (5, iV s2)] (St w0 Φ [] [])
 unfold m_l_heldRuleS_l1 at h
 refine atr 5 [] rfl <| lnr ph0 rfl <| la rfl <| en ?_
 refine ch h rfl ?_ ?_ <;> intro h
 ·refine att 5 [] rfl <| WT.draw mixed (by kernel_rfl) (fun _ h => h.drew) <| aqq 2 [] rfl ?_
  obtain ⟨x1, hx1, h⟩ := bs h
  obtain ⟨cs1, F1, -, g1, hb1, hs1, r1⟩ := ph0.el (idx_some hx1).2.2
  obtain ⟨v1, G1, v2, G2, v3, G3, rfl, rfl, h1, h2, h3⟩ := r1
  refine qq (q_indexAddr Sl_36 rfl rfl ph0 hx1) rfl <| qq (q_fieldAddr Fld_28_0 rfl) rfl <| qq (q_load1 T1_9 rfl (fun w1 hw => (g1.of_eq 0 1 rfl rfl : rg _ _ _ [.string x1.Name]).rangeAt hw.in0)) rfl <| qq (q_move rfl) rfl ?_
  obtain ⟨x2, hx2, h⟩ := bs h
  refine qp (p_call Fun_130 rfl (fun w1 hw => m_l_markText_ok N (ba hw.fro) s1 hx2)) rfl <| aqt 2 [] rfl ?_
  refine ch h rfl ?_ ?_ <;> intro h
  ·refine att 4 [] rfl ?_
   exact rt hF h
  refine atr 12 [] rfl ?_
  obtain ⟨x3, hx3, h⟩ := bs h
  obtain ⟨cs2, F2, -, g2, hb2, hs2, r2⟩ := ph0.el (idx_some hx3).2.2
  obtain ⟨v4, G4, v5, G5, v6, G6, rfl, rfl, h4, h5, h6⟩ := r2
  refine lia ph0 hx3 rfl <| lf Fld_28_1 rfl rfl rfl <| lhx 1 0 g2 rfl <| art 3 [] rfl ?_
  refine ch h rfl ?_ ?_ <;> intro h
  ·refine att 4 [] rfl ?_
   exact rt hF h
  refine atr 11 [] rfl ?_
  obtain ⟨x4, hx4, h⟩ := bs h
  obtain ⟨cs3, F3, -, g3, hb3, hs3, r3⟩ := ph0.el (idx_some hx4).2.2
  obtain ⟨v7, G7, v8, G8, v9, G9, rfl, rfl, h7, h8, h9⟩ := r3
  refine lia ph0 hx4 rfl <| lf Fld_28_2 rfl rfl rfl <| lhx 2 0 g3 rfl <| la rfl <| qd h (m_l_heldPatS_ok N · x4.Pats (wz ((wz (s1 + 1)) + 1)) h7 ·) rfl rfl rfl fun x5 h => art 8 [] rfl ?_
  refine ch h rfl ?_ ?_ <;> intro h
  ·refine att 4 [] rfl ?_
   exact rt hF h
  refine atr 5 [] rfl ?_
  obtain ⟨x6, hx6, h⟩ := bs h
  obtain ⟨cs4, F4, -, g4, hb4, hs4, r4⟩ := ph0.el (idx_some hx6).2.2
  obtain ⟨v10, G10, v11, G11, v12, G12, rfl, rfl, h10, h11, h12⟩ := r4
  refine lia ph0 hx6 rfl <| lf Fld_28_3 rfl rfl rfl <| lhx 3 0 g4 rfl <| la rfl <| qd h (m_l_heldCondS_ok N · x6.Conds x5 h11 ·) rfl rfl rfl fun x7 h => art 8 [] rfl ?_
  refine ch h rfl ?_ ?_ <;> intro h
  ·refine att 4 [] rfl ?_
   exact rt hF h
  refine atr 5 [] rfl ?_
  obtain ⟨x8, hx8, h⟩ := bs h
  obtain ⟨cs5, F5, -, g5, hb5, hs5, r5⟩ := ph0.el (idx_some hx8).2.2
  obtain ⟨v13, G13, v14, G14, v15, G15, rfl, rfl, h13, h14, h15⟩ := r5
  refine lia ph0 hx8 rfl <| lf Fld_28_4 rfl rfl rfl <| lhx 4 0 g5 rfl <| la rfl <| qd h (m_l_heldActS_ok N · x8.Acts x7 h15 ·) rfl rfl rfl fun x9 h => art 7 [] rfl ?_
  refine ch h rfl ?_ ?_ <;> intro h
  ·refine att 4 [] rfl ?_
   exact rt hF h
  refine att 7 [] rfl ?_
  exact lb [] [] (ih1 (_, _) h)
 refine att 6 [] rfl ?_
 exact rt hF h
theorem m_l_heldDef_ok (w0 : Base Ψ Φ []) (p0 : TDef) (p1 : Int) (ph0_0 : RSl RTRule 5 Ψ pG0_0 pv0_0 p0.Rules) {r : Int} (h : m_l_heldDef N p0 p1 = some r) :
  CB w0 prog 27 [.agg [.string p0.Name, pv0_0].toArray, iV p1] (iV r) := by
 refine eN func27 rfl ntmps27 rfl w0 fun hF => ?_
 unfold m_l_heldDef at h
 refine sr <| lbx rfl fun b_1 => arr 7 [1, 0] rfl <| qd h (m_l_heldRuleS_ok N · p0.Rules p1 ph0_0 ·) rfl rfl rfl fun x1 h => art 8 [] rfl ?_
 refine ch h rfl ?_ ?_ <;> intro h
 ·refine att 4 [] rfl ?_
  exact rt hF h
 refine att 6 [] rfl ?_
 exact rt hF h
theorem m_l_FnExactParseDef_ok  (w0 : Base Ψ Φ []) (p0 : ByteArray) (hT : Tab Ψ) {r : Bool} (h : m_l_FnExactParseDef N p0 = some r) :
  CB w0 prog 6 [.string p0] (.bool r) := by
 refine eN func6 rfl ntmps6 rfl w0 fun hF => ?_
 unfold m_l_FnExactParseDef at h
 refine atr 8 [] rfl <| lq (q_lenS Str_9 rfl rfl) rfl <| la rfl <| en ?_
 refine ch h rfl ?_ ?_ <;> intro h
 ·refine att 4 [] rfl ?_
  exact rt hF h
 refine atr 4 [] rfl <| kab h rfl rfl rfl (fun b z q => m_s_ParseDef_ok N b p0 q) ?_
 rintro x1 h v1 Φ_1 F1 ⟨ap1, fr1, v2, D1, rfl, rfl, h1⟩
 refine arr 3 [] rfl <| lnz Zr_38 rfl fun b_1 => soN 0 Sz_38 rfl ⟨rfl, h1.one, trivial⟩ rfl ?_
 refine arr 5 [] rfl <| kab h rfl rfl rfl (fun b z q => m_i_ParseDef_ok N b p0 (hT.y z) q) ?_
 rintro x2 h v3 Φ_2 F2 ⟨ap2, fr2, v4, D2, rfl, rfl, h2⟩
 replace h1 := h1.fr fr2 (ap2.q 0 rfl) (ap2.q 1 rfl)
 refine arr 3 [] rfl <| lnz Zr_38 rfl fun b_2 => soN 0 Sz_38 rfl ⟨rfl, h2.one, trivial⟩ rfl ?_
 refine arr 7 [2, 34] rfl <| qc h (m_l_eqDef_ok N · x2.1 x1.1 (h2.rslG OTRule.gives) (h1.rslG OTRule.gives) ·) rfl rfl rfl fun x3 h => arr 2 [] rfl ?_
 obtain ⟨b1, hb_1, h⟩ := bs h
 refine WL.cutN 4 [(32, .bool b1), (0, .string p0), (3, pQ b_1), (4, .bool x1.2), (5, pQ b_2)] ?_ (fun K => ?_)
 rotate_left
 ·refine sp 28 hb_1 rfl (fun hb_1 => ?_) fun hb_1 => ?_
  ·refine arr 4 [] rfl ?_
   cases hb_1
   exact ku K
  ·refine arr 2 [] rfl <| ly rfl rfl <| lq (q_bne Bo_4 rfl rfl) rfl <| la rfl ?_
   cases hb_1
   exact ku K
 refine en ?_
 refine ch h rfl ?_ ?_ <;> intro h
 ·refine att 4 [] rfl ?_
  exact rt hF h
 refine atr 9 [2] rfl <| kcb [0, 0] h rfl rfl rfl rfl (fun b ap z q => m_l_markDef_ok N b x2.1 1 h2 q) ?_
 rintro x4 h v5 Φ_3 F3 ⟨ap3, fr3, D3, rfl, rfl, h3⟩
 replace h1 := h1.fr fr3 (ap3.q 0 rfl) (ap3.q 1 rfl)
 refine arr 10 [2] rfl <| qc h (m_l_heldDef_ok N · (⟨x2.1.Name, x4.2⟩ : TDef) 1 (h3.rslG OTRule.gives) ·) rfl rfl rfl fun x5 h => art 8 [] rfl ?_
 refine ch h rfl ?_ ?_ <;> intro h
 ·refine att 4 [] rfl ?_
  exact rt hF h
 refine att 8 [] rfl ?_
 refine ch h rfl ?_ ?_ <;> intro h
 ·refine att 4 [] rfl ?_
  exact rt hF h
 refine atr 4 [] rfl <| kab h rfl rfl rfl (fun b z q => m_i_ParseDef_ok N b p0 (hT.y z) q) ?_
 rintro x6 h v6 Φ_4 F4 ⟨ap4, fr4, v7, D4, rfl, rfl, h4⟩
 replace h1 := h1.fr fr4 (ap4.q 2 rfl) (ap4.q 3 rfl)
 replace h3 := h3.fr fr4 (ap4.q 0 rfl) (ap4.q 1 rfl)
 refine arr 3 [] rfl <| lnz Zr_38 rfl fun b_3 => soN 0 Sz_38 rfl ⟨rfl, h4.one, trivial⟩ rfl ?_
 refine arr 7 [2, 66] rfl <| qc h (m_l_eqDef_ok N · x6.1 x1.1 (h4.rslG OTRule.gives) (h1.rslG OTRule.gives) ·) rfl rfl rfl fun x7 h => arr 2 [] rfl ?_
 obtain ⟨b2, hb_2, h⟩ := bs h
 refine WL.cutN 4 [(57, .bool b2), (5, pQ b_2), (7, iV x4.1)] ?_ (fun K => ?_)
 rotate_left
 ·refine sp 53 hb_2 rfl (fun hb_2 => ?_) fun hb_2 => ?_
  ·refine arr 4 [] rfl ?_
   cases hb_2
   exact ku K
  ·refine arr 2 [] rfl <| ly rfl rfl <| lq (q_bne Bo_4 rfl rfl) rfl <| la rfl ?_
   cases hb_2
   exact ku K
 refine en ?_
 refine ch h rfl ?_ ?_ <;> intro h
 ·refine att 4 [] rfl ?_
  exact rt hF h
 refine atr 9 [34] rfl <| qc h (m_l_heldDef_ok N · (⟨x2.1.Name, x4.2⟩ : TDef) 1 (h3.rslG OTRule.gives) ·) rfl rfl rfl fun x8 h => art 8 [] rfl ?_
 refine ch h rfl ?_ ?_ <;> intro h
 ·refine att 4 [] rfl ?_
  exact rt hF h
 refine att 8 [] rfl ?_
 refine ch h rfl ?_ ?_ <;> intro h
 ·refine att 4 [] rfl ?_
  exact rt hF h
 refine att 5 [] rfl ?_
 exact rt hF h
end Go.Proofs.YteipbimepilcfaaGreatDoor
