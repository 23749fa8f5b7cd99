/- Printed by a program of ours: each Go function computes its Lean function. -/
import Derived.Test.YteipbimepilcfaaGreatDoorProg
import Derived.Test.YteipbimepilcfaaGreatDoorWExactParseDefWalk3
namespace Go.Proofs.YteipbimepilcfaaGreatDoor
open Eng Tryz
open Go.RowKit (Below)
set_option linter.unusedVariables false
set_option linter.unusedSimpArgs false

set_option maxRecDepth 100000
set_option maxHeartbeats 1000000
variable {Ψ Φ : Hp} {pv0 pv1 pv0_0 pv0_1 pv0_2 pv1_0 : Value} {pG0 pG1 pG0_0 pG0_1 pG0_2 : List Nat} {pb0 pb1 : Nat} (N : Nat)
theorem m_s_l9Acts_ok (w0 : Base Ψ Φ []) (p0 : (List TAct)) (p1 : (List ByteArray)) (p2 : Int) (ph0 : RSl RTAct 5 Ψ pG0 pv0 p0) (ph1 : RSl RS 1 Ψ pG1 pv1 p1) {r : Bool} (h : m_s_l9Acts N p0 p1 p2 = some r) :
  CB w0 prog 44 [pv0, pv1, iV p2] (.bool r) := by
 refine eN func44 rfl ntmps44 rfl w0 fun hF => ?_
 unfold m_s_l9Acts at h
 refine att 10 [] rfl ?_
 refine lin (σ := Int) (fun s => [(0, pv0), (1, pv1), (2, iV p2), (7, iV s)]) (fun s => St w0 Φ [] []) (fun m s => m_s_l9Acts_l1 N p0 p1 p2 m s = some r) (0) N h (sx [] []) (fun n1 ih1 s hm => ?_)
 revert hm; revert s; intro s1 hm
 have h : m_s_l9Acts_l1 N p0 p1 p2 (n1 + 1) s1 = some r := hm
 show WT _ _ [(0, pv0), (1, pv1), (2, iV p2), (7, iV s1)] (St w0 Φ [] [])
 unfold m_s_l9Acts_l1 at h
 refine atr 5 [] rfl <| lnr ph0 rfl <| la rfl <| en ?_
 refine ch h rfl ?_ ?_ <;> intro h
 ·refine atr 8 [] rfl ?_
  obtain ⟨x1, hx1, h⟩ := bs h
  obtain ⟨cs1, F1, -, g1, hb1, hs1, r1⟩ := ph0.el (idx_some hx1).2.2
  obtain ⟨v1, G1, rfl, hq1, h1⟩ := r1
  obtain rfl := hq1.symm
  refine lia ph0 hx1 rfl <| lhx 0 5 g1 rfl <| qd h (m_s_ActOk_ok N · x1 h1 ·) rfl rfl rfl fun x2 h => arr 2 [] rfl ?_
  obtain ⟨b1, hb_1, h⟩ := bs h
  refine WL.cutN 16 [(37, .bool b1), (0, pv0), (1, pv1), (2, iV p2), (7, iV s1)] ?_ (fun K => ?_)
  rotate_left
  ·refine sp 21 hb_1 rfl (fun hb_1 => ?_) fun hb_1 => ?_
   ·refine arr 16 [] rfl ?_
    cases hb_1
    exact ku K
   ·refine arr 2 [] rfl <| ly rfl rfl ?_
    obtain ⟨x3, hx3, hb_1⟩ := bs hb_1
    obtain ⟨cs2, F2, -, g2, hb2, hs2, r2⟩ := ph0.el (idx_some hx3).2.2
    obtain ⟨v2, G2, rfl, hq2, h2⟩ := r2
    obtain rfl := hq2.symm
    refine lia ph0 hx3 rfl <| ly rfl rfl <| lf Fld_66_0 rfl rfl rfl <| ly rfl rfl <| lhx 0 0 g2 rfl <| arr 2 [] rfl ?_
    obtain ⟨b2, hb_2, hb_1⟩ := bs hb_1
    refine WL.cutN 8 [(36, .bool b2), (0, pv0), (1, pv1), (2, iV p2), (7, iV s1), (21, .bool false)] ?_ (fun K => ?_)
    rotate_left
    ·refine sp 28 hb_2 rfl (fun hb_2 => ?_) fun hb_2 => ?_
     ·refine arr 2 [] rfl <| ly rfl rfl ?_
      obtain ⟨x4, hx4, hb_2⟩ := bs hb_2
      obtain ⟨cs3, F3, -, g3, hb3, hs3, r3⟩ := ph0.el (idx_some hx4).2.2
      obtain ⟨v3, G3, rfl, hq3, h3⟩ := r3
      obtain rfl := hq3.symm
      refine lia ph0 hx4 rfl <| ly rfl rfl <| lf Fld_66_3 rfl rfl rfl <| ly rfl rfl <| lhx 3 0 g3 rfl <| arr 3 [] rfl ?_
      cases hb_2
      exact ku K
     ·refine arr 8 [] rfl ?_
      cases hb_2
      exact ku K
    refine la rfl ?_
    cases hb_1
    exact ku K
  refine en ?_
  refine ch h rfl ?_ ?_ <;> intro h
  ·refine att 4 [] rfl ?_
   exact rt hF h
  refine att 6 [] rfl ?_
  refine lin (σ := Int) (fun s => [(0, pv0), (1, pv1), (2, iV p2), (7, iV s1), (8, iV s)]) (fun s => St w0 Φ [] []) (fun m s => m_s_l9Acts_l2 N p0 p1 s1 (m_s_l9Acts_l1 N p0 p1 p2 n1) m s = some r) (0) N h (sx [] []) (fun n2 ih2 s hm => ?_)
  revert hm; revert s; intro s2 hm
  have h : m_s_l9Acts_l2 N p0 p1 s1 (m_s_l9Acts_l1 N p0 p1 p2 n1) (n2 + 1) s2 = some r := hm
  show WT _ _ [(0, pv0), (1, pv1), (2, iV p2), (7, iV s1), (8, iV s2)] (St w0 Φ [] [])
  unfold m_s_l9Acts_l2 at h
  refine atr 6 [] rfl ?_
  obtain ⟨x5, hx5, h⟩ := bs h
  obtain ⟨cs4, F4, -, g4, hb4, hs4, r4⟩ := ph0.el (idx_some hx5).2.2
  obtain ⟨v4, G4, rfl, hq4, h4⟩ := r4
  obtain rfl := hq4.symm
  refine lia ph0 hx5 rfl <| lf Fld_66_2 rfl rfl rfl <| lhx 2 0 g4 rfl <| lnr h4 rfl <| la rfl <| en ?_
  refine ch h rfl ?_ ?_ <;> intro h
  ·refine atr 7 [] rfl ?_
   obtain ⟨x6, hx6, h⟩ := bs h
   obtain ⟨cs5, F5, -, g5, hb5, hs5, r5⟩ := ph0.el (idx_some hx6).2.2
   obtain ⟨v5, G5, rfl, hq5, h5⟩ := r5
   obtain rfl := hq5.symm
   refine lia ph0 hx6 rfl <| lf Fld_66_2 rfl rfl rfl <| lhx 2 0 g5 rfl <| la rfl ?_
   obtain ⟨x7, hx7, h⟩ := bs h
   obtain ⟨cs6, F6, -, g6, hb6, hs6, r6⟩ := h5.el (idx_some hx7).2.2
   obtain ⟨rfl, -⟩ := r6
   refine lia h5 hx7 rfl <| lf Fld_116_1 rfl rfl rfl <| lhx 1 5 g6 rfl <| la rfl <| qd h (m_s_l9Known_ok N · x7.L p1 ph1 ·) rfl rfl rfl fun x8 h => arr 2 [] rfl ?_
   obtain ⟨b3, hb_3, h⟩ := bs h
   refine WL.cutN 13 [(73, .bool b3), (0, pv0), (1, pv1), (2, iV p2), (7, iV s1), (8, iV s2)] ?_ (fun K => ?_)
   rotate_left
   ·refine sp 60 hb_3 rfl (fun hb_3 => ?_) fun hb_3 => ?_
    ·refine arr 13 [] rfl ?_
     cases hb_3
     exact ku K
    ·refine arr 2 [] rfl <| ly rfl rfl ?_
     obtain ⟨x9, hx9, hb_3⟩ := bs hb_3
     obtain ⟨cs7, F7, -, g7, hb7, hs7, r7⟩ := ph0.el (idx_some hx9).2.2
     obtain ⟨v6, G6, rfl, hq6, h6⟩ := r7
     obtain rfl := hq6.symm
     refine lia ph0 hx9 rfl <| ly rfl rfl <| lf Fld_66_2 rfl rfl rfl <| ly rfl rfl <| lhx 2 0 g7 rfl <| ly rfl rfl <| la rfl <| ly rfl rfl ?_
     obtain ⟨x10, hx10, hb_3⟩ := bs hb_3
     obtain ⟨cs8, F8, -, g8, hb8, hs8, r8⟩ := h6.el (idx_some hx10).2.2
     obtain ⟨rfl, -⟩ := r8
     refine lia h6 hx10 rfl <| ly rfl rfl <| lf Fld_116_2 rfl rfl rfl <| ly rfl rfl <| lhx 6 5 g8 rfl <| ly rfl rfl <| la rfl <| ly rfl rfl <| qd hb_3 (m_s_l9Known_ok N · x10.R p1 ph1 ·) rfl rfl rfl fun x11 hb_3 => arr 2 [] rfl ?_
     cases hb_3
     exact ku K
   refine en ?_
   refine ch h rfl ?_ ?_ <;> intro h
   ·refine att 4 [] rfl ?_
    exact rt hF h
   refine att 7 [] rfl ?_
   exact lb [] [] (ih2 _ h)
  refine att 7 [] rfl ?_
  exact lb [] [] (ih1 _ h)
 refine atr 4 [] rfl <| lnr ph0 rfl <| qc h (m_s_l1In_ok N · (p0.length : Int) 1 6 ·) rfl rfl rfl fun x12 h => la rfl <| en ?_
 exact rt hF h
theorem m_s_PosCount_ok (w0 : Base Ψ Φ []) (p0 : TRule) (ph0_0 : RSl RTPat 3 Ψ pG0_0 pv0_0 p0.Pats) (ph0_1 : RSl RTCond 11 Ψ pG0_1 pv0_1 p0.Conds) (ph0_2 : RSl RTAct 5 Ψ pG0_2 pv0_2 p0.Acts) {r : Int} (h : m_s_PosCount N p0 = some r) :
  CB w0 prog 45 [.agg [.string p0.Name, iV p0.Sal, pv0_0, pv0_1, pv0_2].toArray] (iV r) := by
 refine eN func45 rfl ntmps45 rfl w0 fun hF => ?_
 unfold m_s_PosCount at h
 refine sr <| lbx rfl fun b_1 => art 12 [] rfl ?_
 refine lin (σ := Int × Int) (fun s => [(1, pQ b_1), (3, iV s.1), (4, iV s.2)]) (fun s => St w0 Φ [(b_1, .cells #[.string p0.Name, iV p0.Sal, pv0_0, pv0_1, pv0_2] 28 (0, 0))] []) (fun m s => m_s_PosCount_l1 N p0 m s.1 s.2 = some r) (0, 0) N h (sx [] [0]) (fun n1 ih1 s hm => ?_)
 obtain ⟨s1, s2⟩ := s
 have h : m_s_PosCount_l1 N p0 (n1 + 1) s1 s2 = some r := hm
 show WT _ _ [(1, pQ b_1), (3, iV s1), (4, iV s2)] (St w0 Φ [(b_1, .cells #[.string p0.Name, iV p0.Sal, pv0_0, pv0_1, pv0_2] 28 (0, 0))] [])
 unfold m_s_PosCount_l1 at h
 refine atr 6 [2, 0] rfl <| lnr ph0_0 rfl <| la rfl <| en ?_
 refine ch h rfl ?_ ?_ <;> intro h
 ·refine atr 8 [2, 0] rfl ?_
  obtain ⟨x1, hx1, h⟩ := bs h
  obtain ⟨cs1, F1, -, g1, hb1, hs1, r1⟩ := ph0_0.el (idx_some hx1).2.2
  obtain ⟨v1, G1, rfl, hq1, h1⟩ := r1
  obtain rfl := hq1.symm
  refine lia ph0_0 hx1 rfl <| lf Fld_35_2 rfl rfl rfl <| lhx 2 0 g1 rfl <| la rfl <| en ?_
  refine ch h rfl ?_ ?_ <;> intro h
  ·refine att 11 [] rfl ?_
   exact lb [] [0] (ih1 (_, _) h)
  refine att 7 [] rfl ?_
  exact lb [] [0] (ih1 (_, _) h)
 refine att 6 [] rfl ?_
 exact rt hF h
theorem m_s_RuleOk_ok (w0 : Base Ψ Φ []) (p0 : TRule) (ph0_0 : RSl RTPat 3 Ψ pG0_0 pv0_0 p0.Pats) (ph0_1 : RSl RTCond 11 Ψ pG0_1 pv0_1 p0.Conds) (ph0_2 : RSl RTAct 5 Ψ pG0_2 pv0_2 p0.Acts) {r : Bool} (h : m_s_RuleOk N p0 = some r) :
  CB w0 prog 11 [.agg [.string p0.Name, iV p0.Sal, pv0_0, pv0_1, pv0_2].toArray] (.bool r) := by
 refine eN func11 rfl ntmps11 rfl w0 fun hF => ?_
 unfold m_s_RuleOk at h
 refine sr <| lbx rfl fun b_1 => arr 5 [5] rfl <| kab h rfl rfl rfl (fun b z q => m_s_PosVars_ok N b p0 (ph0_0.y z) (ph0_1.y z) (ph0_2.y z) q) ?_
 rintro x1 h v1 Φ_1 F1 ⟨ap1, fr1, v2, rfl, rfl, h1⟩
 refine art 3 [] rfl <| WT.draw mixed (by kernel_rfl) (fun _ h => h.drew) <| aqq 2 [0, 0] rfl ?_
 obtain ⟨x2, hx2, h⟩ := bs h
 refine qp (p_call Fun_40 rfl (fun w1 hw => m_s_NameOk_ok N (ba hw.fro) p0.Name hx2)) rfl <| qq (q_move rfl) rfl ?_
 obtain ⟨b1, hb_1, h⟩ := bs h
 refine WQ.cutN 4 [(13, .bool b1), (1, pQ b_1), (3, v1)] ?_ (fun K => ?_)
 rotate_left
 ·refine WQ.split (d := 9) rfl (fun c1 => ?_) (fun c1 => ?_)
  ·replace hb_1 := ite_t hb_1 c1
   refine aqq 2 [1, 0] rfl <| WQ.yes rfl rfl ?_
   obtain ⟨x3, hx3, hb_1⟩ := bs hb_1
   refine qp (p_call Fun_41 rfl (fun w1 hw => m_s_l1In_ok N (ba hw.fro) p0.Sal (-100) 100 hx3)) rfl <| WQ.q (q_pick1 rfl rfl) rfl rfl rfl ?_
   cases hb_1
   exact kq K
  ·replace hb_1 := ite_f hb_1 c1
   refine aqq 4 [] rfl ?_
   cases hb_1
   exact kq K
 refine qq (q_move rfl) rfl ?_
 obtain ⟨b2, hb_2, h⟩ := bs h
 refine WQ.cutN 4 [(18, .bool b2), (1, pQ b_1), (3, v1)] ?_ (fun K => ?_)
 rotate_left
 ·refine WQ.split (d := 14) rfl (fun c2 => ?_) (fun c2 => ?_)
  ·replace hb_2 := ite_t hb_2 c2
   refine aqq 2 [2, 0] rfl <| WQ.yes rfl rfl ?_
   obtain ⟨x4, hx4, hb_2⟩ := bs hb_2
   refine qp (p_call Fun_42 rfl (fun w1 hw => m_s_l9Pats_ok N (ba hw.in0) p0.Pats ph0_0 hx4)) rfl <| WQ.q (q_pick1 rfl rfl) rfl rfl rfl ?_
   cases hb_2
   exact kq K
  ·replace hb_2 := ite_f hb_2 c2
   refine aqq 4 [] rfl ?_
   cases hb_2
   exact kq K
 refine qq (q_move rfl) rfl ?_
 obtain ⟨b3, hb_3, h⟩ := bs h
 refine WQ.cutN 5 [(24, .bool b3), (1, pQ b_1), (3, v1)] ?_ (fun K => ?_)
 rotate_left
 ·refine WQ.split (d := 19) rfl (fun c3 => ?_) (fun c3 => ?_)
  ·replace hb_3 := ite_t hb_3 c3
   refine aqq 3 [3, 0] rfl <| WQ.yes rfl rfl ?_
   obtain ⟨x5, hx5, hb_3⟩ := bs hb_3
   refine qp (p_call Fun_43 rfl (fun w1 hw => m_s_l9Conds_ok N (ba hw.fro) p0.Conds x1 (ph0_1.y hw.up) h1.rsl hx5)) rfl <| WQ.q (q_pick1 rfl rfl) rfl rfl rfl ?_
   cases hb_3
   exact kq K
  ·replace hb_3 := ite_f hb_3 c3
   refine aqq 5 [] rfl ?_
   cases hb_3
   exact kq K
 refine qq (q_move rfl) rfl ?_
 obtain ⟨b4, hb_4, h⟩ := bs h
 refine WQ.cutN 7 [(32, .bool b4)] ?_ (fun K => ?_)
 rotate_left
 ·refine WQ.split (d := 25) rfl (fun c4 => ?_) (fun c4 => ?_)
  ·replace hb_4 := ite_t hb_4 c4
   refine aqq 4 [4, 0, 5] rfl <| WQ.yes rfl rfl ?_
   obtain ⟨x6, hx6, hb_4⟩ := bs hb_4
   refine qp (p_call Fun_45 rfl (fun w1 hw => m_s_PosCount_ok N (ba hw.in0) p0 ph0_0 ph0_1 ph0_2 hx6)) rfl <| WQ.yes rfl rfl ?_
   obtain ⟨x7, hx7, hb_4⟩ := bs hb_4
   refine qp (p_call Fun_44 rfl (fun w1 hw => m_s_l9Acts_ok N (ba hw.fro) p0.Acts x1 x6 (ph0_2.y hw.up) h1.rsl hx7)) rfl <| WQ.q (q_pick1 rfl rfl) rfl rfl rfl ?_
   cases hb_4
   exact kq K
  ·replace hb_4 := ite_f hb_4 c4
   refine aqq 7 [] rfl ?_
   cases hb_4
   exact kq K
 refine aqt 2 [] rfl ?_
 exact rt hF h
theorem m_s_RuleAt_ok (w0 : Base Ψ Φ []) (p0 : TDef) (p1 : ByteArray) (ph0_0 : RSl RTRule 5 Ψ pG0_0 pv0_0 p0.Rules) {r : Int} (h : m_s_RuleAt N p0 p1 = some r) :
  CB w0 prog 53 [.agg [.string p0.Name, pv0_0].toArray, .string p1] (iV r) := by
 refine eN func53 rfl ntmps53 rfl w0 fun hF => ?_
 unfold m_s_RuleAt at h
 refine sr <| lbx rfl fun b_1 => art 8 [] rfl ?_
 refine lin (σ := Int) (fun s => [(1, .string p1), (2, pQ b_1), (5, iV s)]) (fun s => St w0 Φ [(b_1, .cells #[.string p0.Name, pv0_0] 38 (0, 0))] []) (fun m s => m_s_RuleAt_l1 N p0 p1 m s = some r) (0) N h (sx [] [0]) (fun n1 ih1 s hm => ?_)
 revert hm; revert s; intro s1 hm
 have h : m_s_RuleAt_l1 N p0 p1 (n1 + 1) s1 = some r := hm
 show WT _ _ [(1, .string p1), (2, pQ b_1), (5, iV s1)] (St w0 Φ [(b_1, .cells #[.string p0.Name, pv0_0] 38 (0, 0))] [])
 unfold m_s_RuleAt_l1 at h
 refine atr 6 [1, 0] rfl <| lnr ph0_0 rfl <| la rfl <| en ?_
 refine ch h rfl ?_ ?_ <;> intro h
 ·refine atr 8 [1, 0] rfl ?_
  obtain ⟨x1, hx1, h⟩ := bs h
  obtain ⟨cs1, F1, -, g1, hb1, hs1, r1⟩ := ph0_0.el (idx_some hx1).2.2
  obtain ⟨v1, G1, v2, G2, v3, G3, rfl, rfl, h1, h2, h3⟩ := r1
  refine lia ph0_0 hx1 rfl <| lf Fld_28_0 rfl rfl rfl <| lhx 0 0 g1 rfl <| art 3 [] rfl ?_
  refine ch h rfl ?_ ?_ <;> intro h
  ·refine att 5 [] rfl ?_
   exact rt hF h
  refine att 7 [] rfl ?_
  exact lb [] [0] (ih1 _ h)
 refine att 5 [] rfl ?_
 exact rt hF h
theorem m_s_DefOk_ok (w0 : Base Ψ Φ []) (p0 : TDef) (ph0_0 : RSl RTRule 5 Ψ pG0_0 pv0_0 p0.Rules) {r : Bool} (h : m_s_DefOk N p0 = some r) :
  CB w0 prog 16 [.agg [.string p0.Name, pv0_0].toArray] (.bool r) := by
 refine eN func16 rfl ntmps16 rfl w0 fun hF => ?_
 unfold m_s_DefOk at h
 refine sr <| lbx rfl fun b_1 => art 8 [] rfl ?_
 refine lin (σ := Int) (fun s => [(1, pQ b_1), (3, iV s)]) (fun s => St w0 Φ [(b_1, .cells #[.string p0.Name, pv0_0] 38 (0, 0))] []) (fun m s => m_s_DefOk_l1 N p0 m s = some r) (0) N h (sx [] [0]) (fun n1 ih1 s hm => ?_)
 revert hm; revert s; intro s1 hm
 have h : m_s_DefOk_l1 N p0 (n1 + 1) s1 = some r := hm
 show WT _ _ [(1, pQ b_1), (3, iV s1)] (St w0 Φ [(b_1, .cells #[.string p0.Name, pv0_0] 38 (0, 0))] [])
 unfold m_s_DefOk_l1 at h
 refine atr 6 [1, 0] rfl <| lnr ph0_0 rfl <| la rfl <| en ?_
 refine ch h rfl ?_ ?_ <;> intro h
 ·refine att 4 [] rfl <| WT.draw mixed (by kernel_rfl) (fun _ h => h.drew) <| aqq 3 [1, 0] rfl ?_
  obtain ⟨x1, hx1, h⟩ := bs h
  obtain ⟨cs1, F1, -, g1, hb1, hs1, r1⟩ := ph0_0.el (idx_some hx1).2.2
  obtain ⟨v1, G1, v2, G2, v3, G3, rfl, rfl, h1, h2, h3⟩ := r1
  refine qq (q_indexAddr Sl_36 rfl rfl ph0_0 hx1) rfl <| qq (q_loadN Tn_28 rfl (fun w1 hw => (g1.of_eq 0 5 rfl rfl : rg _ _ _ [.string x1.Name, iV x1.Sal, v1, v2, v3]).rangeAt hw.in0) rfl) rfl ?_
  obtain ⟨x2, hx2, h⟩ := bs h
  refine qp (p_call Fun_11 rfl (fun w1 hw => m_s_RuleOk_ok N (ba hw.in0) x1 h1 h2 h3 hx2)) rfl <| aqq 2 [] rfl ?_
  obtain ⟨b1, hb_1, h⟩ := bs h
  refine WQ.cutN 11 [(29, .bool b1), (1, pQ b_1), (3, iV s1)] ?_ (fun K => ?_)
  rotate_left
  ·refine WQ.split (d := 18) rfl (fun c2 => ?_) (fun c2 => ?_)
   ·replace hb_1 := ite_t hb_1 c2
    refine aqq 11 [] rfl ?_
    cases hb_1
    exact kq K
   ·replace hb_1 := ite_f hb_1 c2
    refine aqq 4 [2, 1, 0] rfl <| WQ.yes rfl rfl ?_
    obtain ⟨x3, hx3, hb_1⟩ := bs hb_1
    obtain ⟨cs2, F2, -, g2, hb2, hs2, r2⟩ := ph0_0.el (idx_some hx3).2.2
    obtain ⟨v4, G4, v5, G5, v6, G6, rfl, rfl, h4, h5, h6⟩ := r2
    refine qq (q_indexAddr Sl_36 rfl rfl ph0_0 hx3) rfl <| WQ.yes rfl rfl <| qq (q_fieldAddr Fld_28_0 rfl) rfl <| WQ.yes rfl rfl <| qq (q_load1 T1_9 rfl (fun w1 hw => (g2.of_eq 0 1 rfl rfl : rg _ _ _ [.string x3.Name]).rangeAt hw.in0)) rfl <| WQ.yes rfl rfl ?_
    obtain ⟨x4, hx4, hb_1⟩ := bs hb_1
    refine qp (p_call Fun_53 rfl (fun w1 hw => m_s_RuleAt_ok N (ba hw.in0) p0 x3.Name ph0_0 hx4)) rfl <| aqq 3 [] rfl ?_
    cases hb_1
    exact kq K
  refine WQ.nil ?_
  refine ch h rfl ?_ ?_ <;> intro h
  ·refine att 4 [] rfl ?_
   exact rt hF h
  refine att 7 [] rfl ?_
  exact lb [] [0] (ih1 _ h)
 refine atr 5 [0, 0] rfl <| qc h (m_s_NameOk_ok N · p0.Name ·) rfl rfl rfl fun x5 h => la rfl ?_
 obtain ⟨b2, hb_2, h⟩ := bs h
 refine WL.cutN 5 [(38, .bool b2)] ?_ (fun K => ?_)
 rotate_left
 ·refine sp 33 hb_2 rfl (fun hb_2 => ?_) fun hb_2 => ?_
  ·refine arr 2 [1, 0] rfl <| ly rfl rfl <| lnr ph0_0 rfl <| ly rfl rfl <| qc hb_2 (m_s_l1In_ok N · (p0.Rules.length : Int) 1 12 ·) rfl rfl rfl fun x6 hb_2 => la rfl ?_
   cases hb_2
   exact ku K
  ·refine arr 5 [] rfl ?_
   cases hb_2
   exact ku K
 refine la rfl <| en ?_
 exact rt hF h
theorem m_s_l5Pass_ok  (w0 : Base Ψ Φ []) (p0 : ByteArray) (p1 : Int)  {r : Int} (h : m_s_l5Pass N p0 p1 = some r) :
  CB w0 prog 121 [.string p0, iV p1] (iV r) := by
 refine eN func121 rfl ntmps121 rfl w0 fun hF => ?_
 unfold m_s_l5Pass at h
 refine att 6 [] rfl ?_
 refine lin (σ := Int) (fun s => [(0, .string p0), (1, iV s)]) (fun s => St w0 Φ [] []) (fun m s => m_s_l5Pass_l1 N p0 m s = some r) (p1) N h (sx [] []) (fun n1 ih1 s hm => ?_)
 revert hm; revert s; intro s1 hm
 have h : m_s_l5Pass_l1 N p0 (n1 + 1) s1 = some r := hm
 show WT _ _ [(0, .string p0), (1, iV s1)] (St w0 Φ [] [])
 unfold m_s_l5Pass_l1 at h
 refine atr 5 [] rfl <| lq (q_lenS Str_9 rfl rfl) rfl <| la rfl <| en ?_
 refine ch h rfl ?_ ?_ <;> intro h
 ·refine atr 7 [] rfl ?_
  obtain ⟨y1, hy1, h⟩ := bs h
  refine lq (q_indexS Str_9 rfl rfl hy1) rfl <| arr 2 [] rfl ?_
  obtain ⟨b1, hb_1, h⟩ := bs h
  refine WL.cutN 5 [(20, .bool b1), (0, .string p0), (1, iV s1)] ?_ (fun K => ?_)
  rotate_left
  ·refine sp 15 hb_1 rfl (fun hb_1 => ?_) fun hb_1 => ?_
   ·refine arr 5 [] rfl ?_
    cases hb_1
    exact ku K
   ·refine arr 2 [] rfl <| ly rfl rfl ?_
    obtain ⟨y2, hy2, hb_1⟩ := bs hb_1
    refine lq (q_indexS Str_9 rfl rfl hy2) rfl <| arr 2 [] rfl ?_
    cases hb_1
    exact ku K
  refine la rfl ?_
  obtain ⟨b2, hb_2, h⟩ := bs h
  refine WL.cutN 5 [(26, .bool b2), (0, .string p0), (1, iV s1)] ?_ (fun K => ?_)
  rotate_left
  ·refine sp 21 hb_2 rfl (fun hb_2 => ?_) fun hb_2 => ?_
   ·refine arr 5 [] rfl ?_
    cases hb_2
    exact ku K
   ·refine arr 2 [] rfl <| ly rfl rfl ?_
    obtain ⟨y3, hy3, hb_2⟩ := bs hb_2
    refine lq (q_indexS Str_9 rfl rfl hy3) rfl <| arr 2 [] rfl ?_
    cases hb_2
    exact ku K
  refine la rfl ?_
  obtain ⟨b3, hb_3, h⟩ := bs h
  refine WL.cutN 5 [(32, .bool b3), (0, .string p0), (1, iV s1)] ?_ (fun K => ?_)
  rotate_left
  ·refine sp 27 hb_3 rfl (fun hb_3 => ?_) fun hb_3 => ?_
   ·refine arr 5 [] rfl ?_
    cases hb_3
    exact ku K
   ·refine arr 2 [] rfl <| ly rfl rfl ?_
    obtain ⟨y4, hy4, hb_3⟩ := bs hb_3
    refine lq (q_indexS Str_9 rfl rfl hy4) rfl <| arr 2 [] rfl ?_
    cases hb_3
    exact ku K
  refine la rfl <| en ?_
  refine ch h rfl ?_ ?_ <;> intro h
  ·refine att 7 [] rfl ?_
   exact lb [] [] (ih1 _ h)
  refine atr 4 [] rfl ?_
  obtain ⟨y5, hy5, h⟩ := bs h
  refine lq (q_indexS Str_9 rfl rfl hy5) rfl <| art 3 [] rfl ?_
  refine ch h rfl ?_ ?_ <;> intro h
  ·refine blk ?_
   refine lin (σ := Int) (fun s => [(0, .string p0), (1, iV s)]) (fun s => St w0 Φ [] []) (fun m s => m_s_l5Pass_l2 N p0 (m_s_l5Pass_l1 N p0 n1) m s = some r) (s1) N h (sx [] []) (fun n2 ih2 s hm => ?_)
   revert hm; revert s; intro s2 hm
   have h : m_s_l5Pass_l2 N p0 (m_s_l5Pass_l1 N p0 n1) (n2 + 1) s2 = some r := hm
   show WT _ _ [(0, .string p0), (1, iV s2)] (St w0 Φ [] [])
   unfold m_s_l5Pass_l2 at h
   refine atr 5 [] rfl <| lq (q_lenS Str_9 rfl rfl) rfl <| arr 2 [] rfl ?_
   obtain ⟨b4, hb_4, h⟩ := bs h
   refine WL.cutN 5 [(49, .bool b4), (0, .string p0), (1, iV s2)] ?_ (fun K => ?_)
   rotate_left
   ·refine sp 44 hb_4 rfl (fun hb_4 => ?_) fun hb_4 => ?_
    ·refine arr 2 [] rfl <| ly rfl rfl ?_
     obtain ⟨y6, hy6, hb_4⟩ := bs hb_4
     refine lq (q_indexS Str_9 rfl rfl hy6) rfl <| arr 2 [] rfl ?_
     cases hb_4
     exact ku K
    ·refine arr 5 [] rfl ?_
     cases hb_4
     exact ku K
   refine en ?_
   refine ch h rfl ?_ ?_ <;> intro h
   ·refine att 8 [] rfl ?_
    exact lb [] [] (ih2 _ h)
   refine att 3 [] rfl ?_
   exact lb [] [] (ih1 _ h)
  refine att 5 [] rfl ?_
  exact rt hF h
 refine att 6 [] rfl ?_
 exact rt hF h
theorem m_s_l5Digits_ok  (w0 : Base Ψ Φ []) (p0 : ByteArray) (p1 : Int)  {r : Int} (h : m_s_l5Digits N p0 p1 = some r) :
  CB w0 prog 170 [.string p0, iV p1] (iV r) := by
 refine eN func170 rfl ntmps170 rfl w0 fun hF => ?_
 unfold m_s_l5Digits at h
 refine att 6 [] rfl ?_
 refine lin (σ := Int) (fun s => [(0, .string p0), (1, iV s)]) (fun s => St w0 Φ [] []) (fun m s => m_s_l5Digits_l1 N p0 m s = some r) (p1) N h (sx [] []) (fun n1 ih1 s hm => ?_)
 revert hm; revert s; intro s1 hm
 have h : m_s_l5Digits_l1 N p0 (n1 + 1) s1 = some r := hm
 show WT _ _ [(0, .string p0), (1, iV s1)] (St w0 Φ [] [])
 unfold m_s_l5Digits_l1 at h
 refine atr 5 [] rfl <| lq (q_lenS Str_9 rfl rfl) rfl <| arr 2 [] rfl ?_
 obtain ⟨b1, hb_1, h⟩ := bs h
 refine WL.cutN 6 [(15, .bool b1), (0, .string p0), (1, iV s1)] ?_ (fun K => ?_)
 rotate_left
 ·refine sp 9 hb_1 rfl (fun hb_1 => ?_) fun hb_1 => ?_
  ·refine arr 2 [] rfl <| ly rfl rfl ?_
   obtain ⟨y1, hy1, hb_1⟩ := bs hb_1
   refine lq (q_indexS Str_9 rfl rfl hy1) rfl <| ly rfl rfl <| lq (q_convI Ik_5 Ik_3 rfl) rfl <| ly rfl rfl <| qc hb_1 (m_s_l1In_ok N · (wz (y1.toNat : Int)) 48 57 ·) rfl rfl rfl fun x1 hb_1 => la rfl ?_
   cases hb_1
   exact ku K
  ·refine arr 6 [] rfl ?_
   cases hb_1
   exact ku K
 refine en ?_
 refine ch h rfl ?_ ?_ <;> intro h
 ·refine att 8 [] rfl ?_
  exact lb [] [] (ih1 _ h)
 refine att 6 [] rfl ?_
 exact rt hF h
theorem m_s_l2Whole_ok  (w0 : Base Ψ Φ []) (p0 : ByteArray)  {r : Int} (h : m_s_l2Whole N p0 = some r) :
  CB w0 prog 171 [.string p0] (iV r) := by
 refine eN func171 rfl ntmps171 rfl w0 fun hF => ?_
 unfold m_s_l2Whole at h
 refine atr 8 [] rfl <| lq (q_lenS Str_9 rfl rfl) rfl <| qc h (m_s_l1In_ok N · (p0.size : Int) 1 10 ·) rfl rfl rfl fun x1 h => arr 2 [] rfl ?_
 obtain ⟨b1, hb_1, h⟩ := bs h
 refine WL.cutN 9 [(18, .bool b1), (0, .string p0)] ?_ (fun K => ?_)
 rotate_left
 ·refine sp 9 hb_1 rfl (fun hb_1 => ?_) fun hb_1 => ?_
  ·refine arr 9 [] rfl ?_
   cases hb_1
   exact ku K
  ·refine ly rfl rfl <| la rfl <| ly rfl rfl <| lq (q_lenS Str_9 rfl rfl) rfl <| arr 2 [] rfl ?_
   obtain ⟨b2, hb_2, hb_1⟩ := bs hb_1
   refine WL.cutN 4 [(17, .bool b2), (0, .string p0), (9, .bool false)] ?_ (fun K => ?_)
   rotate_left
   ·refine sp 13 hb_2 rfl (fun hb_2 => ?_) fun hb_2 => ?_
    ·refine ly rfl rfl <| la rfl <| ly rfl rfl ?_
     obtain ⟨y1, hy1, hb_2⟩ := bs hb_2
     refine lq (q_indexS Str_9 rfl rfl hy1) rfl <| arr 2 [] rfl ?_
     cases hb_2
     exact ku K
    ·refine arr 4 [] rfl ?_
     cases hb_2
     exact ku K
   refine la rfl ?_
   cases hb_1
   exact ku K
 refine en ?_
 refine ch h rfl ?_ ?_ <;> intro h
 ·refine att 4 [] rfl ?_
  exact rt hF h
 refine att 11 [] rfl ?_
 refine lin (σ := Int × Int) (fun s => [(0, .string p0), (3, iV s.1), (4, iV s.2)]) (fun s => St w0 Φ [] []) (fun m s => m_s_l2Whole_l1 N p0 m s.1 s.2 = some r) (0, 0) N h (sx [] []) (fun n1 ih1 s hm => ?_)
 obtain ⟨s1, s2⟩ := s
 have h : m_s_l2Whole_l1 N p0 (n1 + 1) s1 s2 = some r := hm
 show WT _ _ [(0, .string p0), (3, iV s1), (4, iV s2)] (St w0 Φ [] [])
 unfold m_s_l2Whole_l1 at h
 refine atr 5 [] rfl <| lq (q_lenS Str_9 rfl rfl) rfl <| la rfl <| en ?_
 refine ch h rfl ?_ ?_ <;> intro h
 ·refine atr 8 [] rfl ?_
  obtain ⟨y2, hy2, h⟩ := bs h
  refine lq (q_indexS Str_9 rfl rfl hy2) rfl <| lq (q_convI Ik_5 Ik_3 rfl) rfl <| qc h (m_s_l1In_ok N · (wz (y2.toNat : Int)) 48 57 ·) rfl rfl rfl fun x2 h => la rfl <| en ?_
  refine ch h rfl ?_ ?_ <;> intro h
  ·refine att 4 [] rfl ?_
   exact rt hF h
  refine atr 6 [] rfl ?_
  obtain ⟨y3, hy3, h⟩ := bs h
  refine lq (q_indexS Str_9 rfl rfl hy3) rfl <| la rfl <| lq (q_convI Ik_5 Ik_3 rfl) rfl <| art 9 [] rfl ?_
  exact lb [] [] (ih1 (_, _) h)
 refine att 6 [] rfl ?_
 exact rt hF h
theorem m_s_l5Run_ok  (w0 : Base Ψ Φ []) (p0 : ByteArray) (p1 : Int) (p2 : Bool)  {r : Int} (h : m_s_l5Run N p0 p1 p2 = some r) :
  CB w0 prog 172 [.string p0, iV p1, .bool p2] (iV r) := by
 refine eN func172 rfl ntmps172 rfl w0 fun hF => ?_
 unfold m_s_l5Run at h
 refine att 6 [] rfl ?_
 refine lin (σ := Int) (fun s => [(0, .string p0), (1, iV s), (2, .bool p2)]) (fun s => St w0 Φ [] []) (fun m s => m_s_l5Run_l1 N p0 p2 m s = some r) (p1) N h (sx [] []) (fun n1 ih1 s hm => ?_)
 revert hm; revert s; intro s1 hm
 have h : m_s_l5Run_l1 N p0 p2 (n1 + 1) s1 = some r := hm
 show WT _ _ [(0, .string p0), (1, iV s1), (2, .bool p2)] (St w0 Φ [] [])
 unfold m_s_l5Run_l1 at h
 refine atr 5 [] rfl <| lq (q_lenS Str_9 rfl rfl) rfl <| arr 2 [] rfl ?_
 obtain ⟨b1, hb_1, h⟩ := bs h
 refine WL.cutN 14 [(25, .bool b1), (0, .string p0), (1, iV s1), (2, .bool p2)] ?_ (fun K => ?_)
 rotate_left
 ·refine sp 11 hb_1 rfl (fun hb_1 => ?_) fun hb_1 => ?_
  ·refine arr 2 [] rfl <| ly rfl rfl ?_
   obtain ⟨y1, hy1, hb_1⟩ := bs hb_1
   refine lq (q_indexS Str_9 rfl rfl hy1) rfl <| ly rfl rfl <| qc hb_1 (m_s_l1Letter_ok N · (y1.toNat : Int) ·) rfl rfl rfl fun x1 hb_1 => ly rfl rfl <| la rfl ?_
   obtain ⟨b2, hb_2, hb_1⟩ := bs hb_1
   refine WL.cutN 8 [(24, .bool b2), (0, .string p0), (1, iV s1), (2, .bool p2), (11, .bool true)] ?_ (fun K => ?_)
   rotate_left
   ·refine sp 16 hb_2 rfl (fun hb_2 => ?_) fun hb_2 => ?_
    ·refine arr 8 [] rfl ?_
     cases hb_2
     exact ku K
    ·refine arr 2 [] rfl ?_
     obtain ⟨b3, hb_3, hb_2⟩ := bs hb_2
     refine WL.cutN 5 [(23, .bool b3), (0, .string p0), (1, iV s1), (2, .bool p2), (11, .bool true), (16, .bool false)] ?_ (fun K => ?_)
     rotate_left
     ·refine sp 18 hb_3 rfl (fun hb_3 => ?_) fun hb_3 => ?_
      ·refine arr 2 [] rfl <| ly rfl rfl ?_
       obtain ⟨y2, hy2, hb_3⟩ := bs hb_3
       refine lq (q_indexS Str_9 rfl rfl hy2) rfl <| ly rfl rfl <| qc hb_3 (m_s_l5Large_ok N · (y2.toNat : Int) ·) rfl rfl rfl fun x2 hb_3 => ly rfl rfl <| la rfl ?_
       cases hb_3
       exact ku K
      ·refine arr 5 [] rfl ?_
       cases hb_3
       exact ku K
     refine ly rfl rfl <| la rfl ?_
     cases hb_2
     exact ku K
   refine la rfl ?_
   cases hb_1
   exact ku K
  ·refine arr 14 [] rfl ?_
   cases hb_1
   exact ku K
 refine en ?_
 refine ch h rfl ?_ ?_ <;> intro h
 ·refine att 8 [] rfl ?_
  exact lb [] [] (ih1 _ h)
 refine att 6 [] rfl ?_
 exact rt hF h
theorem m_s_l5Quote_ok  (w0 : Base Ψ Φ []) (p0 : ByteArray) (p1 : Int)  {r : Int} (h : m_s_l5Quote N p0 p1 = some r) :
  CB w0 prog 174 [.string p0, iV p1] (iV r) := by
 refine eN func174 rfl ntmps174 rfl w0 fun hF => ?_
 unfold m_s_l5Quote at h
 refine att 6 [] rfl ?_
 refine lin (σ := Int) (fun s => [(0, .string p0), (1, iV s)]) (fun s => St w0 Φ [] []) (fun m s => m_s_l5Quote_l1 N p0 m s = some r) (p1) N h (sx [] []) (fun n1 ih1 s hm => ?_)
 revert hm; revert s; intro s1 hm
 have h : m_s_l5Quote_l1 N p0 (n1 + 1) s1 = some r := hm
 show WT _ _ [(0, .string p0), (1, iV s1)] (St w0 Φ [] [])
 unfold m_s_l5Quote_l1 at h
 refine atr 5 [] rfl <| lq (q_lenS Str_9 rfl rfl) rfl <| arr 2 [] rfl ?_
 obtain ⟨b1, hb_1, h⟩ := bs h
 refine WL.cutN 5 [(14, .bool b1), (0, .string p0), (1, iV s1)] ?_ (fun K => ?_)
 rotate_left
 ·refine sp 9 hb_1 rfl (fun hb_1 => ?_) fun hb_1 => ?_
  ·refine arr 2 [] rfl <| ly rfl rfl ?_
   obtain ⟨y1, hy1, hb_1⟩ := bs hb_1
   refine lq (q_indexS Str_9 rfl rfl hy1) rfl <| arr 2 [] rfl ?_
   cases hb_1
   exact ku K
  ·refine arr 5 [] rfl ?_
   cases hb_1
   exact ku K
 refine en ?_
 refine ch h rfl ?_ ?_ <;> intro h
 ·refine att 8 [] rfl ?_
  exact lb [] [] (ih1 _ h)
 refine att 6 [] rfl ?_
 exact rt hF h
theorem m_s_l5MarkOk_ok  (w0 : Base Ψ Φ []) (p0 : ByteArray)  {r : Bool} (h : m_s_l5MarkOk N p0 = some r) :
  CB w0 prog 175 [.string p0] (.bool r) := by
 refine eN func175 rfl ntmps175 rfl w0 fun hF => ?_
 unfold m_s_l5MarkOk at h
 refine att 10 [] rfl ?_
 refine ch h rfl ?_ ?_ <;> intro h
 ·refine att 4 [] rfl ?_
  exact rt hF h
 refine att 7 [] rfl ?_
 refine lin (σ := Int) (fun s => [(0, .string p0), (3, iV s)]) (fun s => St w0 Φ [] []) (fun m s => m_s_l5MarkOk_l1 N p0 m s = some r) (0) N h (sx [] []) (fun n1 ih1 s hm => ?_)
 revert hm; revert s; intro s1 hm
 have h : m_s_l5MarkOk_l1 N p0 (n1 + 1) s1 = some r := hm
 show WT _ _ [(0, .string p0), (3, iV s1)] (St w0 Φ [] [])
 unfold m_s_l5MarkOk_l1 at h
 refine att 6 [] rfl ?_
 refine ch h rfl ?_ ?_ <;> intro h
 ·refine atr 9 [] rfl ?_
  obtain ⟨z1, hz1, h⟩ := bs h
  refine lq (q_sstLH Str_9 rfl rfl rfl hz1) rfl <| la rfl <| en ?_
  refine ch h rfl ?_ ?_ <;> intro h
  ·refine att 4 [] rfl ?_
   exact rt hF h
  refine att 7 [] rfl ?_
  exact lb [] [] (ih1 _ h)
 refine att 5 [] rfl ?_
 exact rt hF h
theorem m_s_l5One_ok  (w0 : Base Ψ Φ []) (p0 : ByteArray) (p1 : Int)  {r : TToken × Int} (h : m_s_l5One N p0 p1 = some r) :
  CB w0 prog 122 [.string p0, iV p1] (.tuple #[.agg [iV r.1.K, iV r.1.N, .string r.1.S].toArray, iV r.2]) := by
 refine eN func122 rfl ntmps122 rfl w0 fun hF => ?_
 unfold m_s_l5One at h
 refine sr <| lnz Zr_77 rfl fun b_1 => arr 6 [] rfl ?_
 obtain ⟨y1, hy1, h⟩ := bs h
 refine lq (q_indexS Str_9 rfl rfl hy1) rfl <| arr 7 [] rfl <| lq (q_convI Ik_5 Ik_3 rfl) rfl <| qc h (m_s_l1In_ok N · (wz (y1.toNat : Int)) 48 57 ·) rfl rfl rfl fun x1 h => la rfl <| en ?_
 refine ch h rfl ?_ ?_ <;> intro h
 ·refine atr 4 [] rfl <| qc h (m_s_l5Digits_ok N · p0 p1 ·) rfl rfl rfl fun x2 h => arr 7 [] rfl ?_
  obtain ⟨z1, hz1, h⟩ := bs h
  refine lq (q_sstLH Str_9 rfl rfl rfl hz1) rfl <| qc h (m_s_l2Whole_ok N · z1 ·) rfl rfl rfl fun x3 h => lq (q_build (vs := [(0, iV 1), (1, iV x3)]) (C := #[iV 1, iV x3, .string (⟨#[]⟩ : ByteArray)]) Pl_77 Zr_77 rfl (fill_cons (C' := [iV 1, iV 0, .string ⟨#[]⟩]) rfl rfl rfl rfl rfl (fill_cons (C' := [iV 1, iV x3, .string ⟨#[]⟩]) rfl rfl rfl rfl rfl (fill_nil)))) rfl <| la rfl <| soN 0 Sz_77 rfl ⟨rfl, rfl, rfl, trivial⟩ rfl ?_
  refine la rfl <| en ?_
  refine WT.ret hF (resOk.two (rv_cell Tn_77 rfl (fun w1 hw => hw.rgO (i := 0) rfl 0 3 [iV 1, iV x3, .string (⟨#[]⟩ : ByteArray)] rfl) rfl) rfl) (fun w1 hw => ?_)
  cases h
  exact post_of_St hw
 refine sr <| la rfl <| lq (q_convI Ik_5 Ik_3 rfl) rfl <| qc h (m_s_l1In_ok N · (wz (y1.toNat : Int)) 97 122 ·) rfl rfl rfl fun x4 h => la rfl <| en ?_
 refine ch h rfl ?_ ?_ <;> intro h
 ·refine atr 4 [] rfl <| qc h (m_s_l5Run_ok N · p0 p1 false ·) rfl rfl rfl fun x5 h => arr 7 [] rfl ?_
  obtain ⟨z2, hz2, h⟩ := bs h
  refine lq (q_sstLH Str_9 rfl rfl rfl hz2) rfl <| lq (q_build (vs := [(0, iV 2), (2, .string z2)]) (C := #[iV 2, iV 0, .string z2]) Pl_77 Zr_77 rfl (fill_cons (C' := [iV 2, iV 0, .string ⟨#[]⟩]) rfl rfl rfl rfl rfl (fill_cons (C' := [iV 2, iV 0, .string z2]) rfl rfl rfl rfl rfl (fill_nil)))) rfl <| la rfl <| soN 0 Sz_77 rfl ⟨rfl, rfl, rfl, trivial⟩ rfl ?_
  refine la rfl <| en ?_
  refine WT.ret hF (resOk.two (rv_cell Tn_77 rfl (fun w1 hw => hw.rgO (i := 0) rfl 0 3 [iV 2, iV 0, .string z2] rfl) rfl) rfl) (fun w1 hw => ?_)
  cases h
  exact post_of_St hw
 refine sr <| la rfl <| qc h (m_s_l5Large_ok N · (y1.toNat : Int) ·) rfl rfl rfl fun x6 h => la rfl <| en ?_
 refine ch h rfl ?_ ?_ <;> intro h
 ·refine atr 4 [] rfl <| qc h (m_s_l5Run_ok N · p0 p1 true ·) rfl rfl rfl fun x7 h => arr 7 [] rfl ?_
  obtain ⟨z3, hz3, h⟩ := bs h
  refine lq (q_sstLH Str_9 rfl rfl rfl hz3) rfl <| lq (q_build (vs := [(0, iV 3), (2, .string z3)]) (C := #[iV 3, iV 0, .string z3]) Pl_77 Zr_77 rfl (fill_cons (C' := [iV 3, iV 0, .string ⟨#[]⟩]) rfl rfl rfl rfl rfl (fill_cons (C' := [iV 3, iV 0, .string z3]) rfl rfl rfl rfl rfl (fill_nil)))) rfl <| la rfl <| soN 0 Sz_77 rfl ⟨rfl, rfl, rfl, trivial⟩ rfl ?_
  refine la rfl <| en ?_
  refine WT.ret hF (resOk.two (rv_cell Tn_77 rfl (fun w1 hw => hw.rgO (i := 0) rfl 0 3 [iV 3, iV 0, .string z3] rfl) rfl) rfl) (fun w1 hw => ?_)
  cases h
  exact post_of_St hw
 refine att 6 [] rfl ?_
 refine ch h rfl ?_ ?_ <;> intro h
 ·refine atr 5 [] rfl <| qc h (m_s_l5Quote_ok N · p0 (wz (p1 + 1)) ·) rfl rfl rfl fun x8 h => arr 7 [] rfl <| lq (q_lenS Str_9 rfl rfl) rfl <| la rfl <| en ?_
  refine ch h rfl ?_ ?_ <;> intro h
  ·refine sr <| lq (q_build (vs := []) (C := #[iV 0, iV 0, .string (⟨#[]⟩ : ByteArray)]) Pl_77 Zr_77 rfl (fill_nil)) rfl <| la rfl <| soN 0 Sz_77 rfl ⟨rfl, rfl, rfl, trivial⟩ rfl ?_
   refine la rfl <| en ?_
   refine WT.ret hF (resOk.two (rv_cell Tn_77 rfl (fun w1 hw => hw.rgO (i := 0) rfl 0 3 [iV 0, iV 0, .string (⟨#[]⟩ : ByteArray)] rfl) rfl) rfl) (fun w1 hw => ?_)
   cases h
   exact post_of_St hw
  refine atr 7 [] rfl ?_
  obtain ⟨z4, hz4, h⟩ := bs h
  refine lq (q_sstLH Str_9 rfl rfl rfl hz4) rfl <| lq (q_build (vs := [(0, iV 4), (2, .string z4)]) (C := #[iV 4, iV 0, .string z4]) Pl_77 Zr_77 rfl (fill_cons (C' := [iV 4, iV 0, .string ⟨#[]⟩]) rfl rfl rfl rfl rfl (fill_cons (C' := [iV 4, iV 0, .string z4]) rfl rfl rfl rfl rfl (fill_nil)))) rfl <| arr 2 [] rfl <| soN 0 Sz_77 rfl ⟨rfl, rfl, rfl, trivial⟩ rfl ?_
  refine la rfl <| en ?_
  refine WT.ret hF (resOk.two (rv_cell Tn_77 rfl (fun w1 hw => hw.rgO (i := 0) rfl 0 3 [iV 4, iV 0, .string z4] rfl) rfl) rfl) (fun w1 hw => ?_)
  cases h
  exact post_of_St hw
 refine atr 5 [] rfl <| lq (q_lenS Str_9 rfl rfl) rfl <| arr 2 [] rfl ?_
 obtain ⟨b1, hb_1, h⟩ := bs h
 refine WL.cutN 7 [(87, .bool b1), (0, .string p0), (1, iV p1), (4, pQ b_1)] ?_ (fun K => ?_)
 rotate_left
 ·refine sp 80 hb_1 rfl (fun hb_1 => ?_) fun hb_1 => ?_
  ·refine arr 4 [] rfl <| ly rfl rfl ?_
   obtain ⟨z5, hz5, hb_1⟩ := bs hb_1
   refine lq (q_sstLH Str_9 rfl rfl rfl hz5) rfl <| ly rfl rfl <| qc hb_1 (m_s_l5MarkOk_ok N · z5 ·) rfl rfl rfl fun x9 hb_1 => la rfl ?_
   cases hb_1
   exact ku K
  ·refine arr 7 [] rfl ?_
   cases hb_1
   exact ku K
 refine la rfl <| en ?_
 refine ch h rfl ?_ ?_ <;> intro h
 ·refine atr 6 [] rfl ?_
  obtain ⟨z6, hz6, h⟩ := bs h
  refine lq (q_sstLH Str_9 rfl rfl rfl hz6) rfl <| lq (q_build (vs := [(0, iV 5), (2, .string z6)]) (C := #[iV 5, iV 0, .string z6]) Pl_77 Zr_77 rfl (fill_cons (C' := [iV 5, iV 0, .string ⟨#[]⟩]) rfl rfl rfl rfl rfl (fill_cons (C' := [iV 5, iV 0, .string z6]) rfl rfl rfl rfl rfl (fill_nil)))) rfl <| arr 2 [] rfl <| soN 0 Sz_77 rfl ⟨rfl, rfl, rfl, trivial⟩ rfl ?_
  refine la rfl <| en ?_
  refine WT.ret hF (resOk.two (rv_cell Tn_77 rfl (fun w1 hw => hw.rgO (i := 0) rfl 0 3 [iV 5, iV 0, .string z6] rfl) rfl) rfl) (fun w1 hw => ?_)
  cases h
  exact post_of_St hw
 refine atr 8 [] rfl ?_
 obtain ⟨z7, hz7, h⟩ := bs h
 refine lq (q_sstLH Str_9 rfl rfl rfl hz7) rfl <| lq (q_build (vs := [(0, iV 5), (2, .string z7)]) (C := #[iV 5, iV 0, .string z7]) Pl_77 Zr_77 rfl (fill_cons (C' := [iV 5, iV 0, .string ⟨#[]⟩]) rfl rfl rfl rfl rfl (fill_cons (C' := [iV 5, iV 0, .string z7]) rfl rfl rfl rfl rfl (fill_nil)))) rfl <| arr 2 [] rfl <| soN 0 Sz_77 rfl ⟨rfl, rfl, rfl, trivial⟩ rfl ?_
 refine la rfl <| en ?_
 refine WT.ret hF (resOk.two (rv_cell Tn_77 rfl (fun w1 hw => hw.rgO (i := 0) rfl 0 3 [iV 5, iV 0, .string z7] rfl) rfl) rfl) (fun w1 hw => ?_)
 cases h
 exact post_of_St hw
theorem m_s_TokenOk_ok  (w0 : Base Ψ Φ []) (p0 : TToken)  {r : Bool} (h : m_s_TokenOk N p0 = some r) :
  CB w0 prog 123 [.agg [iV p0.K, iV p0.N, .string p0.S].toArray] (.bool r) := by
 refine eN func123 rfl ntmps123 rfl w0 fun hF => ?_
 unfold m_s_TokenOk at h
 refine sr <| lbx rfl fun b_1 => art 14 [0, 0] rfl ?_
 refine ch h rfl ?_ ?_ <;> intro h
 ·refine atr 4 [1, 0] rfl <| qc h (m_s_l1In_ok N · p0.N 0 1000000000 ·) rfl rfl rfl fun x1 h => la rfl ?_
  obtain ⟨b1, hb_1, h⟩ := bs h
  refine WL.cutN 4 [(14, .bool b1), (2, .bool false)] ?_ (fun K => ?_)
  rotate_left
  ·refine sp 10 hb_1 rfl (fun hb_1 => ?_) fun hb_1 => ?_
   ·refine arr 4 [2, 0] rfl ?_
    cases hb_1
    exact ku K
   ·refine arr 4 [] rfl ?_
    cases hb_1
    exact ku K
  refine la rfl <| en ?_
  exact rt hF h
 refine att 5 [] rfl ?_
 refine ch h rfl ?_ ?_ <;> intro h
 ·refine atr 4 [2, 0] rfl <| qc h (m_s_NameOk_ok N · p0.S ·) rfl rfl rfl fun x2 h => la rfl ?_
  obtain ⟨b2, hb_2, h⟩ := bs h
  refine WL.cutN 4 [(24, .bool b2), (2, .bool false)] ?_ (fun K => ?_)
  rotate_left
  ·refine sp 20 hb_2 rfl (fun hb_2 => ?_) fun hb_2 => ?_
   ·refine arr 4 [1, 0] rfl ?_
    cases hb_2
    exact ku K
   ·refine arr 4 [] rfl ?_
    cases hb_2
    exact ku K
  refine la rfl <| en ?_
  exact rt hF h
 refine att 5 [] rfl ?_
 refine ch h rfl ?_ ?_ <;> intro h
 ·refine atr 4 [2, 0] rfl <| qc h (m_s_l5VarOk_ok N · p0.S ·) rfl rfl rfl fun x3 h => la rfl ?_
  obtain ⟨b3, hb_3, h⟩ := bs h
  refine WL.cutN 4 [(34, .bool b3), (2, .bool false)] ?_ (fun K => ?_)
  rotate_left
  ·refine sp 30 hb_3 rfl (fun hb_3 => ?_) fun hb_3 => ?_
   ·refine arr 4 [1, 0] rfl ?_
    cases hb_3
    exact ku K
   ·refine arr 4 [] rfl ?_
    cases hb_3
    exact ku K
  refine la rfl <| en ?_
  exact rt hF h
 refine att 5 [] rfl ?_
 refine ch h rfl ?_ ?_ <;> intro h
 ·refine atr 4 [2, 0] rfl <| qc h (m_s_l2Plain_ok N · p0.S ·) rfl rfl rfl fun x4 h => la rfl ?_
  obtain ⟨b4, hb_4, h⟩ := bs h
  refine WL.cutN 4 [(44, .bool b4), (2, .bool false)] ?_ (fun K => ?_)
  rotate_left
  ·refine sp 40 hb_4 rfl (fun hb_4 => ?_) fun hb_4 => ?_
   ·refine arr 4 [1, 0] rfl ?_
    cases hb_4
    exact ku K
   ·refine arr 4 [] rfl ?_
    cases hb_4
    exact ku K
  refine la rfl <| en ?_
  exact rt hF h
 refine att 5 [] rfl ?_
 refine ch h rfl ?_ ?_ <;> intro h
 ·refine atr 4 [2, 0] rfl <| qc h (m_s_l5MarkOk_ok N · p0.S ·) rfl rfl rfl fun x5 h => la rfl ?_
  obtain ⟨b5, hb_5, h⟩ := bs h
  refine WL.cutN 4 [(54, .bool b5), (2, .bool false)] ?_ (fun K => ?_)
  rotate_left
  ·refine sp 50 hb_5 rfl (fun hb_5 => ?_) fun hb_5 => ?_
   ·refine arr 4 [1, 0] rfl ?_
    cases hb_5
    exact ku K
   ·refine arr 4 [] rfl ?_
    cases hb_5
    exact ku K
  refine la rfl <| en ?_
  exact rt hF h
 refine att 6 [] rfl ?_
 exact rt hF h
theorem m_s_Lex_ok  (w0 : Base Ψ Φ []) (p0 : ByteArray)  {r : (List TToken) × Int} (h : m_s_Lex N p0 = some r) :
  Calls prog 65 [.string p0].toArray w0.w (PostG Φ w0.w [] (fun Φ' Fs v => ∃ (sr_0_0 : Value), v = .tuple #[sr_0_0, iV r.2] ∧ Fs = [ob sr_0_0] ∧ OSl RTToken 77 3 Φ' [] sr_0_0 r.1)) := by
 refine eN func65 rfl ntmps65 rfl w0 fun hF => ?_
 unfold m_s_Lex at h
 refine atr 7 [] rfl <| le' (e_lit0 RTToken.lasts Sl_44 Zr_77 rfl rfl) rfl ?_
 rintro v1 Φ_1 D1 ⟨fr1, h1⟩
 refine arr 5 [] rfl <| qc h (m_s_l5Pass_ok N · p0 0 ·) rfl rfl rfl fun x1 h => art 4 [] rfl ?_
 refine lin (σ := Hp × (List TToken) × Value × Int) (fun s => [(0, .string p0), (4, s.2.2.1), (5, iV s.2.2.2)]) (fun s => St w0 s.1 [] [ob s.2.2.1]) (fun m s => m_s_Lex_l1 N p0 m s.2.1 s.2.2.2 = some r ∧ (OSl RTToken 77 3 s.1 [] s.2.2.1 s.2.1)) (Φ_1, ([] : List TToken), v1, x1) N ⟨h, h1⟩ (sx [0] []) (fun n1 ih1 s hm => ?_)
 obtain ⟨Φ_2, s1, u1, s2⟩ := s
 obtain ⟨h, k1⟩ := hm
 dsimp only at h k1 ⊢
 unfold m_s_Lex_l1 at h
 refine atr 5 [] rfl <| lq (q_lenS Str_9 rfl rfl) rfl <| la rfl <| en ?_
 refine ch h rfl ?_ ?_ <;> intro h
 ·refine atr 6 [] rfl <| qc h (m_s_l5One_ok N · p0 s2 ·) rfl rfl rfl fun x2 h => arr 3 [] rfl <| lnz Zr_77 rfl fun b_1 => soN 0 Sz_77 rfl ⟨rfl, rfl, rfl, trivial⟩ rfl ?_
  refine arr 6 [3] rfl <| qc h (m_s_TokenOk_ok N · x2.1 ·) rfl rfl rfl fun x3 h => arr 2 [] rfl ?_
  obtain ⟨b1, hb_1, h⟩ := bs h
  refine WL.cutN 4 [(28, .bool b1), (0, .string p0), (4, u1), (5, iV s2), (6, pQ b_1), (7, iV x2.2)] ?_ (fun K => ?_)
  rotate_left
  ·refine sp 24 hb_1 rfl (fun hb_1 => ?_) fun hb_1 => ?_
   ·refine arr 4 [] rfl ?_
    cases hb_1
    exact ku K
   ·refine ly rfl rfl <| la rfl <| ly rfl rfl <| lno k1 rfl <| arr 2 [] rfl ?_
    cases hb_1
    exact ku K
  refine en ?_
  refine ch h rfl ?_ ?_ <;> intro h
  ·refine sr <| le' (e_lit0 RTToken.lasts Sl_44 Zr_77 rfl rfl) rfl ?_
   rintro v2 Φ_3 D2 ⟨fr2, h2⟩
   refine art 4 [] rfl ?_
   exact rtg [0] hF (resOk.two rfl rfl) rfl (by cases h; exact fun w1 hw => ⟨v2, rfl, rfl, h2⟩)
  refine atr 5 [3] rfl ?_
  have rc3 : RC RTToken 3 Φ_2 ([[]] : List (List Nat)) [iV x2.1.K, iV x2.1.N, .string x2.1.S] ([x2.1] : List TToken) := RC.cons (c := [iV x2.1.K, iV x2.1.N, .string x2.1.S]) (cells := []) ⟨rfl, rfl⟩ rfl (RC.nil _ _ _)
  refine le' (e_lit (vs := [(0, .agg [iV x2.1.K, iV x2.1.N, .string x2.1.S].toArray)]) (C := #[iV x2.1.K, iV x2.1.N, .string x2.1.S]) RTToken.lasts Sl_44 Zr_77 rfl rfl rfl rfl (fill_made MC_77_1 (fill_cons (C' := [iV x2.1.K, iV x2.1.N, .string x2.1.S]) rfl rfl rfl rfl rfl (fill_nil))) rfl rc3 rfl (by simpa using Kw.nil)) rfl ?_
  rintro v3 Φ_4 D3 ⟨fr3, h3⟩
  replace h3 : OSl RTToken 77 3 Φ_4 [] v3 ([x2.1] : List TToken) := by simpa using h3
  replace k1 := k1.f0 fr3
  obtain ⟨x4, hx4, h⟩ := bs h
  refine le' (e_appF RTToken.lasts RTToken.one RTToken.flat Sl_44 Ei_77 rfl rfl rfl rfl rfl (js := [1]) (Rr := [ob v3]) rfl k1 h3.rsl hx4) rfl ?_
  rintro v4 Φ_5 D4 ⟨⟨ap1, fr4⟩, h4⟩
  refine arr 5 [] rfl <| qc h (m_s_l5Pass_ok N · p0 x2.2 ·) rfl rfl rfl fun x5 h => art 3 [] rfl ?_
  exact lb [0] [] (ih1 (_, _, _, _) ⟨h, h4⟩)
 refine att 7 [] rfl ?_
 exact rtg [0] hF (resOk.two rfl rfl) rfl (by cases h; exact fun w1 hw => ⟨u1, rfl, rfl, k1⟩)
theorem m_s_l10Is_ok (w0 : Base Ψ Φ [[pb0]].flatten) (p0 : Tl10Reader) (p1 : Int) (p2 : ByteArray) (ph0_0 : RSl RTToken 3 Ψ pG0_0 pv0_0 p0.l) (pp0 : Φ pb0 = some (.cells #[pv0_0, iV p0.at_, .bool p0.bad] 100 (0, 0))) {r : Bool × Tl10Reader} (h : m_s_l10Is N p0 p1 p2 = some r) :
  Calls prog 124 [pQ pb0, iV p1, .string p2].toArray w0.w (PostG Φ w0.w [[pb0]].flatten (fun Φ' Fs v => v = .bool r.1 ∧ Fs = [[pb0]] ∧ r.2.l = p0.l ∧ Φ' pb0 = some (.cells #[pv0_0, iV r.2.at_, .bool r.2.bad] 100 (0, 0)))) := by
 refine eL func124 rfl ntmps124 rfl (L := [[pb0]]) w0 (fun hF => ?_)
 unfold m_s_l10Is at h
 refine att 6 [] rfl <| WT.draw mixed (by kernel_rfl) (fun _ h => h.drew) <| qq (q_move rfl) rfl <| qq (q_nilCheck rfl) rfl <| qq (q_fieldAddr Fld_100_2 rfl) rfl <| qq (q_load1 T1_4 rfl (fun w1 hw => ((rg_cells pp0).of_eq 2 1 rfl rfl : rg _ _ _ [.bool p0.bad]).rangeAt hw.fro)) rfl <| qq (q_move rfl) rfl ?_
 obtain ⟨b1, hb_1, h⟩ := bs h
 refine WQ.cutN 11 [(22, .bool b1), (0, pQ pb0), (1, iV p1), (2, .string p2)] ?_ (fun K => ?_)
 rotate_left
 ·refine WQ.split (d := 11) rfl (fun c1 => ?_) (fun c1 => ?_)
  ·replace hb_1 := ite_t hb_1 c1
   refine aqq 11 [] rfl ?_
   cases hb_1
   exact kq K
  ·replace hb_1 := ite_f hb_1 c1
   refine WQ.yes rfl rfl <| qq (q_move rfl) rfl <| WQ.yes rfl rfl <| qq (q_nilCheck rfl) rfl <| WQ.yes rfl rfl <| qq (q_fieldAddr Fld_100_1 rfl) rfl <| WQ.yes rfl rfl <| qq (q_load1 T1_3 rfl (fun w1 hw => ((rg_cells pp0).of_eq 1 1 rfl rfl : rg _ _ _ [iV p0.at_]).rangeAt hw.fro)) rfl <| WQ.yes rfl rfl <| qq (q_move rfl) rfl <| WQ.yes rfl rfl <| qq (q_nilCheck rfl) rfl <| WQ.yes rfl rfl <| qq (q_fieldAddr Fld_100_0 rfl) rfl <| WQ.yes rfl rfl <| qq (q_load1 T1_44 rfl (fun w1 hw => ((rg_cells pp0).of_eq 0 1 rfl rfl : rg _ _ _ [pv0_0]).rangeAt hw.fro)) rfl <| WQ.yes rfl rfl ?_
   refine qq (q_lenR Sl_44 rfl rfl ph0_0) rfl <| aqq 2 [] rfl ?_
   cases hb_1
   exact kq K
 refine qq (q_move rfl) rfl ?_
 obtain ⟨b2, hb_2, h⟩ := bs h
 refine WQ.cutN 14 [(37, .bool b2), (0, pQ pb0), (2, .string p2)] ?_ (fun K => ?_)
 rotate_left
 ·refine WQ.split (d := 23) rfl (fun c2 => ?_) (fun c2 => ?_)
  ·replace hb_2 := ite_t hb_2 c2
   refine aqq 14 [] rfl ?_
   cases hb_2
   exact kq K
  ·replace hb_2 := ite_f hb_2 c2
   refine WQ.yes rfl rfl <| qq (q_move rfl) rfl <| WQ.yes rfl rfl <| qq (q_nilCheck rfl) rfl <| WQ.yes rfl rfl <| qq (q_fieldAddr Fld_100_0 rfl) rfl <| WQ.yes rfl rfl <| qq (q_load1 T1_44 rfl (fun w1 hw => ((rg_cells pp0).of_eq 0 1 rfl rfl : rg _ _ _ [pv0_0]).rangeAt hw.fro)) rfl <| WQ.yes rfl rfl <| qq (q_move rfl) rfl <| WQ.yes rfl rfl <| qq (q_nilCheck rfl) rfl <| WQ.yes rfl rfl <| qq (q_fieldAddr Fld_100_1 rfl) rfl <| WQ.yes rfl rfl <| qq (q_load1 T1_3 rfl (fun w1 hw => ((rg_cells pp0).of_eq 1 1 rfl rfl : rg _ _ _ [iV p0.at_]).rangeAt hw.fro)) rfl <| WQ.yes rfl rfl ?_
   obtain ⟨x1, hx1, hb_2⟩ := bs hb_2
   obtain ⟨cs1, F1, -, g1, hb1, hs1, r1⟩ := ph0_0.el (idx_some hx1).2.2
   obtain ⟨rfl, -⟩ := r1
   refine qq (q_indexAddr Sl_44 rfl rfl ph0_0 hx1) rfl <| WQ.yes rfl rfl <| qq (q_fieldAddr Fld_77_0 rfl) rfl <| WQ.yes rfl rfl <| qq (q_load1 T1_3 rfl (fun w1 hw => (g1.of_eq 0 1 rfl rfl : rg _ _ _ [iV x1.K]).rangeAt hw.in0)) rfl <| aqq 3 [] rfl ?_
   cases hb_2
   exact kq K
 refine qq (q_move rfl) rfl ?_
 obtain ⟨b3, hb_3, h⟩ := bs h
 refine WQ.cutN 14 [(52, .bool b3), (0, pQ pb0)] ?_ (fun K => ?_)
 rotate_left
 ·refine WQ.split (d := 38) rfl (fun c3 => ?_) (fun c3 => ?_)
  ·replace hb_3 := ite_t hb_3 c3
   refine aqq 14 [] rfl ?_
   cases hb_3
   exact kq K
  ·replace hb_3 := ite_f hb_3 c3
   refine WQ.yes rfl rfl <| qq (q_move rfl) rfl <| WQ.yes rfl rfl <| qq (q_nilCheck rfl) rfl <| WQ.yes rfl rfl <| qq (q_fieldAddr Fld_100_0 rfl) rfl <| WQ.yes rfl rfl <| qq (q_load1 T1_44 rfl (fun w1 hw => ((rg_cells pp0).of_eq 0 1 rfl rfl : rg _ _ _ [pv0_0]).rangeAt hw.fro)) rfl <| WQ.yes rfl rfl <| qq (q_move rfl) rfl <| WQ.yes rfl rfl <| qq (q_nilCheck rfl) rfl <| WQ.yes rfl rfl <| qq (q_fieldAddr Fld_100_1 rfl) rfl <| WQ.yes rfl rfl <| qq (q_load1 T1_3 rfl (fun w1 hw => ((rg_cells pp0).of_eq 1 1 rfl rfl : rg _ _ _ [iV p0.at_]).rangeAt hw.fro)) rfl <| WQ.yes rfl rfl ?_
   obtain ⟨x2, hx2, hb_3⟩ := bs hb_3
   obtain ⟨cs2, F2, -, g2, hb2, hs2, r2⟩ := ph0_0.el (idx_some hx2).2.2
   obtain ⟨rfl, -⟩ := r2
   refine qq (q_indexAddr Sl_44 rfl rfl ph0_0 hx2) rfl <| WQ.yes rfl rfl <| qq (q_fieldAddr Fld_77_2 rfl) rfl <| WQ.yes rfl rfl <| qq (q_load1 T1_9 rfl (fun w1 hw => (g2.of_eq 2 1 rfl rfl : rg _ _ _ [.string x2.S]).rangeAt hw.in0)) rfl <| aqq 3 [] rfl ?_
   cases hb_3
   exact kq K
 refine WQ.nil ?_
 refine ch h rfl ?_ ?_ <;> intro h
 ·refine att 4 [] rfl ?_
  exact rtg [0] hF (resOk.one rfl) rfl (by cases h; exact fun w1 hw => ⟨rfl, rfl, rfl, pp0⟩)
 refine atr 4 [] rfl <| lq (q_nilCheck rfl) rfl <| lf Fld_100_1 rfl rfl rfl <| lgx 1 0 (rg_cells pp0) rfl <| la rfl <| lq (q_nilCheck rfl) rfl <| lf Fld_100_1 rfl rfl rfl ?_
 refine WL.thw (js := [0]) (R := []) rfl pp0 (fun Φ_1 ap1 fr1 => ?_)
 refine so1 0 Sz_3 rfl rfl ?_
 refine art 5 [] rfl ?_
 refine WT.frz (js := [0]) (R := []) rfl (fun Φ_2 fr2 k1 => ?_)
 exact rtg [0] hF (resOk.one rfl) rfl (by cases h; exact fun w1 hw => ⟨rfl, rfl, rfl, k1⟩)
theorem m_s_l10Word_ok (w0 : Base Ψ Φ [[pb0]].flatten) (p0 : Tl10Reader) (p1 : ByteArray) (ph0_0 : RSl RTToken 3 Ψ pG0_0 pv0_0 p0.l) (pp0 : Φ pb0 = some (.cells #[pv0_0, iV p0.at_, .bool p0.bad] 100 (0, 0))) {r : Tl10Reader} (h : m_s_l10Word N p0 p1 = some r) :
  Calls prog 66 [pQ pb0, .string p1].toArray w0.w (PostG Φ w0.w [[pb0]].flatten (fun Φ' Fs v => v = .tuple #[] ∧ Fs = [[pb0]] ∧ r.l = p0.l ∧ Φ' pb0 = some (.cells #[pv0_0, iV r.at_, .bool r.bad] 100 (0, 0)))) := by
 refine eL func66 rfl ntmps66 rfl (L := [[pb0]]) w0 (fun hF => ?_)
 unfold m_s_l10Word at h
 refine atr 4 [] rfl <| kcb [0] h rfl rfl rfl rfl (fun b ap z q => m_s_l10Is_ok N b p0 2 p1 (ph0_0.y z) pp0 q) ?_
 rintro x1 h v1 Φ_1 F1 ⟨ap1, fr1, rfl, rfl, e1, h1⟩
 refine la rfl <| en ?_
 refine ch h rfl ?_ ?_ <;> intro h
 ·refine atr 2 [] rfl <| lq (q_nilCheck rfl) rfl <| lf Fld_100_2 rfl rfl rfl ?_
  refine WL.thw (js := [0]) (R := []) rfl h1 (fun Φ_2 ap2 fr2 => ?_)
  refine so1 0 Sz_4 rfl rfl ?_
  refine en ?_
  refine WT.frz (js := [0]) (R := []) rfl (fun Φ_3 fr3 k1 => ?_)
  refine WT.fin hF resOk.none (fun w1 hw => ?_)
  cases h
  refine postG_of_St (js := [0]) hw rfl ⟨rfl, rfl, rfl, k1⟩
 refine WT.skip ?_
 refine WT.fin hF resOk.none (fun w1 hw => ?_)
 cases h
 refine postG_of_St (js := [0]) hw rfl ⟨rfl, rfl, rfl, h1⟩
theorem m_s_l10Next_ok (w0 : Base Ψ Φ [[pb0]].flatten) (p0 : Tl10Reader) (p1 : Int) (ph0_0 : RSl RTToken 3 Ψ pG0_0 pv0_0 p0.l) (pp0 : Φ pb0 = some (.cells #[pv0_0, iV p0.at_, .bool p0.bad] 100 (0, 0))) {r : TToken × Tl10Reader} (h : m_s_l10Next N p0 p1 = some r) :
  Calls prog 67 [pQ pb0, iV p1].toArray w0.w (PostG Φ w0.w [[pb0]].flatten (fun Φ' Fs v => v = .agg [iV r.1.K, iV r.1.N, .string r.1.S].toArray ∧ Fs = [[pb0]] ∧ r.2.l = p0.l ∧ Φ' pb0 = some (.cells #[pv0_0, iV r.2.at_, .bool r.2.bad] 100 (0, 0)))) := by
 refine eL func67 rfl ntmps67 rfl (L := [[pb0]]) w0 (fun hF => ?_)
 unfold m_s_l10Next at h
 refine sr <| lnz Zr_77 rfl fun b_1 => art 3 [] rfl <| WT.draw mixed (by kernel_rfl) (fun _ h => h.drew) <| qq (q_move rfl) rfl <| qq (q_nilCheck rfl) rfl <| qq (q_fieldAddr Fld_100_2 rfl) rfl <| qq (q_load1 T1_4 rfl (fun w1 hw => ((rg_cells pp0).of_eq 2 1 rfl rfl : rg _ _ _ [.bool p0.bad]).rangeAt hw.fro)) rfl <| qq (q_move rfl) rfl ?_
 obtain ⟨b1, hb_1, h⟩ := bs h
 refine WQ.cutN 11 [(20, .bool b1), (0, pQ pb0), (1, iV p1), (4, pQ b_1)] ?_ (fun K => ?_)
 rotate_left
 ·refine WQ.split (d := 9) rfl (fun c1 => ?_) (fun c1 => ?_)
  ·replace hb_1 := ite_t hb_1 c1
   refine aqq 11 [] rfl ?_
   cases hb_1
   exact kq K
  ·replace hb_1 := ite_f hb_1 c1
   refine WQ.yes rfl rfl <| qq (q_move rfl) rfl <| WQ.yes rfl rfl <| qq (q_nilCheck rfl) rfl <| WQ.yes rfl rfl <| qq (q_fieldAddr Fld_100_1 rfl) rfl <| WQ.yes rfl rfl <| qq (q_load1 T1_3 rfl (fun w1 hw => ((rg_cells pp0).of_eq 1 1 rfl rfl : rg _ _ _ [iV p0.at_]).rangeAt hw.fro)) rfl <| WQ.yes rfl rfl <| qq (q_move rfl) rfl <| WQ.yes rfl rfl <| qq (q_nilCheck rfl) rfl <| WQ.yes rfl rfl <| qq (q_fieldAddr Fld_100_0 rfl) rfl <| WQ.yes rfl rfl <| qq (q_load1 T1_44 rfl (fun w1 hw => ((rg_cells pp0).of_eq 0 1 rfl rfl : rg _ _ _ [pv0_0]).rangeAt hw.fro)) rfl <| WQ.yes rfl rfl ?_
   refine qq (q_lenR Sl_44 rfl rfl ph0_0) rfl <| aqq 2 [] rfl ?_
   cases hb_1
   exact kq K
 refine qq (q_move rfl) rfl ?_
 obtain ⟨b2, hb_2, h⟩ := bs h
 refine WQ.cutN 14 [(35, .bool b2), (0, pQ pb0), (4, pQ b_1)] ?_ (fun K => ?_)
 rotate_left
 ·refine WQ.split (d := 21) rfl (fun c2 => ?_) (fun c2 => ?_)
  ·replace hb_2 := ite_t hb_2 c2
   refine aqq 14 [] rfl ?_
   cases hb_2
   exact kq K
  ·replace hb_2 := ite_f hb_2 c2
   refine WQ.yes rfl rfl <| qq (q_move rfl) rfl <| WQ.yes rfl rfl <| qq (q_nilCheck rfl) rfl <| WQ.yes rfl rfl <| qq (q_fieldAddr Fld_100_0 rfl) rfl <| WQ.yes rfl rfl <| qq (q_load1 T1_44 rfl (fun w1 hw => ((rg_cells pp0).of_eq 0 1 rfl rfl : rg _ _ _ [pv0_0]).rangeAt hw.fro)) rfl <| WQ.yes rfl rfl <| qq (q_move rfl) rfl <| WQ.yes rfl rfl <| qq (q_nilCheck rfl) rfl <| WQ.yes rfl rfl <| qq (q_fieldAddr Fld_100_1 rfl) rfl <| WQ.yes rfl rfl <| qq (q_load1 T1_3 rfl (fun w1 hw => ((rg_cells pp0).of_eq 1 1 rfl rfl : rg _ _ _ [iV p0.at_]).rangeAt hw.fro)) rfl <| WQ.yes rfl rfl ?_
   obtain ⟨x1, hx1, hb_2⟩ := bs hb_2
   obtain ⟨cs1, F1, -, g1, hb1, hs1, r1⟩ := ph0_0.el (idx_some hx1).2.2
   obtain ⟨rfl, -⟩ := r1
   refine qq (q_indexAddr Sl_44 rfl rfl ph0_0 hx1) rfl <| WQ.yes rfl rfl <| qq (q_fieldAddr Fld_77_0 rfl) rfl <| WQ.yes rfl rfl <| qq (q_load1 T1_3 rfl (fun w1 hw => (g1.of_eq 0 1 rfl rfl : rg _ _ _ [iV x1.K]).rangeAt hw.in0)) rfl <| aqq 3 [] rfl ?_
   cases hb_2
   exact kq K
 refine WQ.nil ?_
 refine ch h rfl ?_ ?_ <;> intro h
 ·refine sr <| la rfl <| lq (q_nilCheck rfl) rfl <| lf Fld_100_2 rfl rfl rfl ?_
  refine WL.thw (js := [0]) (R := []) rfl pp0 (fun Φ_1 ap1 fr1 => ?_)
  refine so1 0 Sz_4 rfl rfl ?_
  refine en <| sr <| lq (q_build (vs := []) (C := #[iV 0, iV 0, .string (⟨#[]⟩ : ByteArray)]) Pl_77 Zr_77 rfl (fill_nil)) rfl <| soN 1 Sz_77 rfl ⟨rfl, rfl, rfl, trivial⟩ rfl ?_
  refine en ?_
  refine WT.frz (js := [0]) (R := [(b_1, .cells #[iV 0, iV 0, .string (⟨#[]⟩ : ByteArray)] 77 (0, 0))]) rfl (fun Φ_2 fr2 k1 => ?_)
  exact rtg [0] hF (resOk.one (rv_cell Tn_77 rfl (fun w1 hw => hw.rgO (i := 0) rfl 0 3 [iV 0, iV 0, .string (⟨#[]⟩ : ByteArray)] rfl) rfl)) rfl (by cases h; exact fun w1 hw => ⟨rfl, rfl, rfl, k1⟩)
 refine atr 4 [] rfl <| lq (q_nilCheck rfl) rfl <| lf Fld_100_1 rfl rfl rfl <| lgx 1 0 (rg_cells pp0) rfl <| la rfl <| lq (q_nilCheck rfl) rfl <| lf Fld_100_1 rfl rfl rfl ?_
 refine WL.thw (js := [0]) (R := []) rfl pp0 (fun Φ_3 ap2 fr3 => ?_)
 refine so1 0 Sz_3 rfl rfl ?_
 refine en <| sq <| wm [0, 1] [11] rfl <| amm 1 [0] [0, 1] rfl rfl <| mq 1 rfl (by kernel_rfl) (kN [0, 1]) (q_nilCheck rfl) rfl <| amm 3 [2, 0, 3, 0, 4] [0, 1] rfl rfl <| mq 5 rfl (by kernel_rfl) (kN [0, 1]) (q_nilCheck rfl) rfl <| amm 3 [6, 1, 7, 0, 8] [0, 1] rfl rfl ?_
 obtain ⟨x2, hx2, h⟩ := bs h
 obtain ⟨cs2, F2, -, g2, hb2, hs2, r2⟩ := ph0_0.el (idx_some hx2).2.2
 obtain ⟨rfl, -⟩ := r2
 refine mq 9 rfl (by kernel_rfl) (kN [0, 1]) (q_indexAddr Sl_44 rfl rfl ph0_0 hx2) rfl <| mq 10 rfl (by kernel_rfl) (kN [0, 1]) (q_loadN Tn_77 rfl (fun w1 hw => (g2.of_eq 0 3 rfl rfl : rg _ _ _ [iV x2.K, iV x2.N, .string x2.S]).rangeAt hw.1) rfl) rfl ?_
 refine on1 11 (msN 1 rfl nk Sz_77 rfl ⟨rfl, rfl, rfl, trivial⟩ rfl rfl ?_)
 refine WM.nil (by kernel_rfl) ?_
 refine WT.frz (js := [0]) (R := [(b_1, .cells #[iV x2.K, iV x2.N, .string x2.S] 77 (0, 0))]) rfl (fun Φ_4 fr4 k2 => ?_)
 exact rtg [0] hF (resOk.one (rv_cell Tn_77 rfl (fun w1 hw => hw.rgO (i := 0) rfl 0 3 [iV x2.K, iV x2.N, .string x2.S] rfl) rfl)) rfl (by cases h; exact fun w1 hw => ⟨rfl, rfl, rfl, k2⟩)
theorem m_s_l10Mark_ok (w0 : Base Ψ Φ [[pb0]].flatten) (p0 : Tl10Reader) (p1 : ByteArray) (ph0_0 : RSl RTToken 3 Ψ pG0_0 pv0_0 p0.l) (pp0 : Φ pb0 = some (.cells #[pv0_0, iV p0.at_, .bool p0.bad] 100 (0, 0))) {r : Tl10Reader} (h : m_s_l10Mark N p0 p1 = some r) :
  Calls prog 68 [pQ pb0, .string p1].toArray w0.w (PostG Φ w0.w [[pb0]].flatten (fun Φ' Fs v => v = .tuple #[] ∧ Fs = [[pb0]] ∧ r.l = p0.l ∧ Φ' pb0 = some (.cells #[pv0_0, iV r.at_, .bool r.bad] 100 (0, 0)))) := by
 refine eL func68 rfl ntmps68 rfl (L := [[pb0]]) w0 (fun hF => ?_)
 unfold m_s_l10Mark at h
 refine atr 4 [] rfl <| kcb [0] h rfl rfl rfl rfl (fun b ap z q => m_s_l10Is_ok N b p0 5 p1 (ph0_0.y z) pp0 q) ?_
 rintro x1 h v1 Φ_1 F1 ⟨ap1, fr1, rfl, rfl, e1, h1⟩
 refine la rfl <| en ?_
 refine ch h rfl ?_ ?_ <;> intro h
 ·refine atr 2 [] rfl <| lq (q_nilCheck rfl) rfl <| lf Fld_100_2 rfl rfl rfl ?_
  refine WL.thw (js := [0]) (R := []) rfl h1 (fun Φ_2 ap2 fr2 => ?_)
  refine so1 0 Sz_4 rfl rfl ?_
  refine en ?_
  refine WT.frz (js := [0]) (R := []) rfl (fun Φ_3 fr3 k1 => ?_)
  refine WT.fin hF resOk.none (fun w1 hw => ?_)
  cases h
  refine postG_of_St (js := [0]) hw rfl ⟨rfl, rfl, rfl, k1⟩
 refine WT.skip ?_
 refine WT.fin hF resOk.none (fun w1 hw => ?_)
 cases h
 refine postG_of_St (js := [0]) hw rfl ⟨rfl, rfl, rfl, h1⟩
theorem m_s_l10Num_ok (w0 : Base Ψ Φ [[pb0]].flatten) (p0 : Tl10Reader) (ph0_0 : RSl RTToken 3 Ψ pG0_0 pv0_0 p0.l) (pp0 : Φ pb0 = some (.cells #[pv0_0, iV p0.at_, .bool p0.bad] 100 (0, 0))) {r : Int × Tl10Reader} (h : m_s_l10Num N p0 = some r) :
  Calls prog 125 [pQ pb0].toArray w0.w (PostG Φ w0.w [[pb0]].flatten (fun Φ' Fs v => v = iV r.1 ∧ Fs = [[pb0]] ∧ r.2.l = p0.l ∧ Φ' pb0 = some (.cells #[pv0_0, iV r.2.at_, .bool r.2.bad] 100 (0, 0)))) := by
 refine eL func125 rfl ntmps125 rfl (L := [[pb0]]) w0 (fun hF => ?_)
 unfold m_s_l10Num at h
 refine atr 7 [] rfl <| kcb [0] h rfl rfl rfl rfl (fun b ap z q => m_s_l10Is_ok N b p0 5 (⟨#[45]⟩ : ByteArray) (ph0_0.y z) pp0 q) ?_
 rintro x1 h v1 Φ_1 F1 ⟨ap1, fr1, rfl, rfl, e1, h1⟩
 refine arr 5 [] rfl <| kcb [0] h rfl rfl rfl rfl (fun b ap z q => m_s_l10Next_ok N b (⟨p0.l, x1.2.at_, x1.2.bad⟩ : Tl10Reader) 1 (ph0_0.y z) h1 q) ?_
 rintro x2 h v2 Φ_2 F2 ⟨ap2, fr2, rfl, rfl, e2, h2⟩
 refine lq (q_field1 Fd1_77_1 rfl rfl) rfl <| arr 7 [] rfl ?_
 obtain ⟨b3, hb_1, h⟩ := bs h
 refine WL.cutN 3 [(14, .bool b3), (0, pQ pb0), (3, .bool x1.1), (4, iV x2.1.N)] ?_ (fun K => ?_)
 rotate_left
 ·refine sp 11 hb_1 rfl (fun hb_1 => ?_) fun hb_1 => ?_
  ·refine arr 3 [] rfl ?_
   cases hb_1
   exact ku K
  ·refine arr 3 [] rfl ?_
   cases hb_1
   exact ku K
 refine en ?_
 refine cut (σ := Hp × Bool) (fun s => [(3, .bool x1.1), (4, iV x2.1.N)]) (fun s => St w0 s.1 [] [[pb0]]) (fun s => m_s_l10Num_j1 N p0 x1 x2 s.2 = some r ∧ (s.1 pb0 = some (.cells #[pv0_0, iV x2.2.at_, .bool s.2] 100 (0, 0)))) (fun s hm => ?_) (fun K => ?_)
 ·clear h
  obtain ⟨Φ_3, s1⟩ := s
  obtain ⟨h, k1⟩ := hm
  dsimp only at h k1 ⊢
  unfold m_s_l10Num_j1 at h
  refine att 5 [] rfl ?_
  refine ch h rfl ?_ ?_ <;> intro h
  ·refine sr <| la rfl <| lq (q_neg rfl) rfl <| la rfl <| en ?_
   exact rtg [0] hF (resOk.one rfl) rfl (by cases h; exact fun w1 hw => ⟨rfl, rfl, rfl, k1⟩)
  refine att 6 [] rfl ?_
  exact rtg [0] hF (resOk.one rfl) rfl (by cases h; exact fun w1 hw => ⟨rfl, rfl, rfl, k1⟩)
 refine ch h rfl ?_ ?_ <;> intro h
 ·refine atr 2 [] rfl <| lq (q_nilCheck rfl) rfl <| lf Fld_100_2 rfl rfl rfl ?_
  refine WL.thw (js := [0]) (R := []) rfl h2 (fun Φ_4 ap3 fr3 => ?_)
  refine so1 0 Sz_4 rfl rfl ?_
  refine en ?_
  refine WT.frz (js := [0]) (R := []) rfl (fun Φ_5 fr4 k2 => ?_)
  exact wo [0] [] (K (_, _) ⟨h, k2⟩)
 refine WT.skip ?_
 exact wo [0] [] (K (_, _) ⟨h, h2⟩)
theorem m_s_l6Val_ok  (w0 : Base Ψ Φ []) (p0 : TVal)  {r : TArg} (h : m_s_l6Val N p0 = some r) :
  CB w0 prog 189 [.agg [iV p0.K, iV p0.N, .string p0.S].toArray] (.agg [iV r.K, .string r.S, iV r.V.K, iV r.V.N, .string r.V.S].toArray) := by
 refine eN func189 rfl ntmps189 rfl w0 fun hF => ?_
 unfold m_s_l6Val at h
 refine sr <| lbx rfl fun b_1 => lnz Zr_60 rfl fun b_2 => arr 4 [35] rfl <| lq (q_build (vs := [(0, iV 2), (2, .agg [iV p0.K, iV p0.N, .string p0.S].toArray)]) (C := #[iV 2, .string (⟨#[]⟩ : ByteArray), iV p0.K, iV p0.N, .string p0.S]) Pl_60 Zr_60 rfl (fill_cons (C' := [iV 2, .string ⟨#[]⟩, iV 0, iV 0, .string ⟨#[]⟩]) rfl rfl rfl rfl rfl (fill_cons (C' := [iV 2, .string ⟨#[]⟩, iV p0.K, iV p0.N, .string p0.S]) rfl rfl rfl rfl rfl (fill_nil)))) rfl <| soN 0 Sz_60 rfl ⟨rfl, rfl, rfl, rfl, rfl, trivial⟩ rfl ?_
 refine en ?_
 refine WT.ret hF (resOk.one (rv_cell Tn_60 rfl (fun w1 hw => hw.rgO (i := 0) rfl 0 5 [iV 2, .string (⟨#[]⟩ : ByteArray), iV p0.K, iV p0.N, .string p0.S] rfl) rfl)) (fun w1 hw => ?_)
 cases h
 exact post_of_St hw
theorem m_s_l6Var_ok  (w0 : Base Ψ Φ []) (p0 : ByteArray)  {r : TArg} (h : m_s_l6Var N p0 = some r) :
  CB w0 prog 190 [.string p0] (.agg [iV r.K, .string r.S, iV r.V.K, iV r.V.N, .string r.V.S].toArray) := by
 refine eN func190 rfl ntmps190 rfl w0 fun hF => ?_
 unfold m_s_l6Var at h
 refine sr <| lnz Zr_60 rfl fun b_1 => arr 4 [] rfl <| lq (q_build (vs := [(0, iV 1), (1, .string p0)]) (C := #[iV 1, .string p0, iV 0, iV 0, .string (⟨#[]⟩ : ByteArray)]) Pl_60 Zr_60 rfl (fill_cons (C' := [iV 1, .string ⟨#[]⟩, iV 0, iV 0, .string ⟨#[]⟩]) rfl rfl rfl rfl rfl (fill_cons (C' := [iV 1, .string p0, iV 0, iV 0, .string ⟨#[]⟩]) rfl rfl rfl rfl rfl (fill_nil)))) rfl <| soN 0 Sz_60 rfl ⟨rfl, rfl, rfl, rfl, rfl, trivial⟩ rfl ?_
 refine en ?_
 refine WT.ret hF (resOk.one (rv_cell Tn_60 rfl (fun w1 hw => hw.rgO (i := 0) rfl 0 5 [iV 1, .string p0, iV 0, iV 0, .string (⟨#[]⟩ : ByteArray)] rfl) rfl)) (fun w1 hw => ?_)
 cases h
 exact post_of_St hw
theorem m_s_l10Arg_ok (w0 : Base Ψ Φ [[pb0]].flatten) (p0 : Tl10Reader) (ph0_0 : RSl RTToken 3 Ψ pG0_0 pv0_0 p0.l) (pp0 : Φ pb0 = some (.cells #[pv0_0, iV p0.at_, .bool p0.bad] 100 (0, 0))) {r : TArg × Tl10Reader} (h : m_s_l10Arg N p0 = some r) :
  Calls prog 178 [pQ pb0].toArray w0.w (PostG Φ w0.w [[pb0]].flatten (fun Φ' Fs v => v = .agg [iV r.1.K, .string r.1.S, iV r.1.V.K, iV r.1.V.N, .string r.1.V.S].toArray ∧ Fs = [[pb0]] ∧ r.2.l = p0.l ∧ Φ' pb0 = some (.cells #[pv0_0, iV r.2.at_, .bool r.2.bad] 100 (0, 0)))) := by
 refine eL func178 rfl ntmps178 rfl (L := [[pb0]]) w0 (fun hF => ?_)
 unfold m_s_l10Arg at h
 refine sr <| lnz Zr_60 rfl fun b_1 => arr 5 [] rfl <| kcb [0] h rfl rfl rfl rfl (fun b ap z q => m_s_l10Is_ok N b p0 5 (⟨#[95]⟩ : ByteArray) (ph0_0.y z) pp0 q) ?_
 rintro x1 h v1 Φ_1 F1 ⟨ap1, fr1, rfl, rfl, e1, h1⟩
 refine en ?_
 refine ch h rfl ?_ ?_ <;> intro h
 ·refine sr <| lq (q_build (vs := [(0, iV 3)]) (C := #[iV 3, .string (⟨#[]⟩ : ByteArray), iV 0, iV 0, .string (⟨#[]⟩ : ByteArray)]) Pl_60 Zr_60 rfl (fill_cons (C' := [iV 3, .string ⟨#[]⟩, iV 0, iV 0, .string ⟨#[]⟩]) rfl rfl rfl rfl rfl (fill_nil))) rfl <| soN 0 Sz_60 rfl ⟨rfl, rfl, rfl, rfl, rfl, trivial⟩ rfl ?_
  refine en ?_
  exact rtg [0] hF (resOk.one (rv_cell Tn_60 rfl (fun w1 hw => hw.rgO (i := 0) rfl 0 5 [iV 3, .string (⟨#[]⟩ : ByteArray), iV 0, iV 0, .string (⟨#[]⟩ : ByteArray)] rfl) rfl)) rfl (by cases h; exact fun w1 hw => ⟨rfl, rfl, rfl, h1⟩)
 refine att 3 [] rfl <| WT.draw mixed (by kernel_rfl) (fun _ h => h.drew) <| qq (q_move rfl) rfl <| qq (q_nilCheck rfl) rfl <| qq (q_fieldAddr Fld_100_2 rfl) rfl <| qq (q_load1 T1_4 rfl (fun w1 hw => ((rg_cells h1).of_eq 2 1 rfl rfl : rg _ _ _ [.bool x1.2.bad]).rangeAt hw.fro)) rfl <| qq (q_move rfl) rfl ?_
 obtain ⟨b2, hb_1, h⟩ := bs h
 refine WQ.cutN 11 [(21, .bool b2), (0, pQ pb0), (2, pQ b_1)] ?_ (fun K => ?_)
 rotate_left
 ·refine WQ.split (d := 10) rfl (fun c2 => ?_) (fun c2 => ?_)
  ·replace hb_1 := ite_t hb_1 c2
   refine aqq 11 [] rfl ?_
   cases hb_1
   exact kq K
  ·replace hb_1 := ite_f hb_1 c2
   refine WQ.yes rfl rfl <| qq (q_move rfl) rfl <| WQ.yes rfl rfl <| qq (q_nilCheck rfl) rfl <| WQ.yes rfl rfl <| qq (q_fieldAddr Fld_100_1 rfl) rfl <| WQ.yes rfl rfl <| qq (q_load1 T1_3 rfl (fun w1 hw => ((rg_cells h1).of_eq 1 1 rfl rfl : rg _ _ _ [iV x1.2.at_]).rangeAt hw.fro)) rfl <| WQ.yes rfl rfl <| qq (q_move rfl) rfl <| WQ.yes rfl rfl <| qq (q_nilCheck rfl) rfl <| WQ.yes rfl rfl <| qq (q_fieldAddr Fld_100_0 rfl) rfl <| WQ.yes rfl rfl <| qq (q_load1 T1_44 rfl (fun w1 hw => ((rg_cells h1).of_eq 0 1 rfl rfl : rg _ _ _ [pv0_0]).rangeAt hw.fro)) rfl <| WQ.yes rfl rfl ?_
   refine qq (q_lenR Sl_44 rfl rfl ph0_0) rfl <| aqq 2 [] rfl ?_
   cases hb_1
   exact kq K
 refine WQ.nil ?_
 refine ch h rfl ?_ ?_ <;> intro h
 ·refine sr <| la rfl <| lq (q_nilCheck rfl) rfl <| lf Fld_100_2 rfl rfl rfl ?_
  refine WL.thw (js := [0]) (R := []) rfl h1 (fun Φ_2 ap2 fr2 => ?_)
  refine so1 0 Sz_4 rfl rfl ?_
  refine en <| sr <| lq (q_build (vs := []) (C := #[iV 0, .string (⟨#[]⟩ : ByteArray), iV 0, iV 0, .string (⟨#[]⟩ : ByteArray)]) Pl_60 Zr_60 rfl (fill_nil)) rfl <| soN 1 Sz_60 rfl ⟨rfl, rfl, rfl, rfl, rfl, trivial⟩ rfl ?_
  refine en ?_
  refine WT.frz (js := [0]) (R := [(b_1, .cells #[iV 0, .string (⟨#[]⟩ : ByteArray), iV 0, iV 0, .string (⟨#[]⟩ : ByteArray)] 60 (0, 0))]) rfl (fun Φ_3 fr3 k1 => ?_)
  exact rtg [0] hF (resOk.one (rv_cell Tn_60 rfl (fun w1 hw => hw.rgO (i := 0) rfl 0 5 [iV 0, .string (⟨#[]⟩ : ByteArray), iV 0, iV 0, .string (⟨#[]⟩ : ByteArray)] rfl) rfl)) rfl (by cases h; exact fun w1 hw => ⟨rfl, rfl, rfl, k1⟩)
 refine att 3 [] rfl <| WT.draw mixed (by kernel_rfl) (fun _ h => h.drew) <| qq (q_move rfl) rfl <| qq (q_nilCheck rfl) rfl <| qq (q_fieldAddr Fld_100_0 rfl) rfl <| qq (q_load1 T1_44 rfl (fun w1 hw => ((rg_cells h1).of_eq 0 1 rfl rfl : rg _ _ _ [pv0_0]).rangeAt hw.fro)) rfl <| qq (q_move rfl) rfl <| qq (q_nilCheck rfl) rfl <| qq (q_fieldAddr Fld_100_1 rfl) rfl <| qq (q_load1 T1_3 rfl (fun w1 hw => ((rg_cells h1).of_eq 1 1 rfl rfl : rg _ _ _ [iV x1.2.at_]).rangeAt hw.fro)) rfl ?_
 obtain ⟨x2, hx2, h⟩ := bs h
 obtain ⟨cs1, F2, -, g1, hb1, hs1, r1⟩ := ph0_0.el (idx_some hx2).2.2
 obtain ⟨rfl, -⟩ := r1
 refine qq (q_indexAddr Sl_44 rfl rfl ph0_0 hx2) rfl <| qq (q_fieldAddr Fld_77_0 rfl) rfl <| qq (q_load1 T1_3 rfl (fun w1 hw => (g1.of_eq 0 1 rfl rfl : rg _ _ _ [iV x2.K]).rangeAt hw.in0)) rfl <| aqt 7 [] rfl ?_
 refine ch h rfl ?_ ?_ <;> intro h
 ·refine sr <| la rfl <| kcb [0] h rfl rfl rfl rfl (fun b ap z q => m_s_l10Next_ok N b (⟨p0.l, x1.2.at_, x1.2.bad⟩ : Tl10Reader) 3 (ph0_0.y z) h1 q) ?_
  rintro x3 h v2 Φ_4 F3 ⟨ap3, fr4, rfl, rfl, e2, h2⟩
  refine lq (q_field1 Fd1_77_2 rfl rfl) rfl <| qc h (m_s_l6Var_ok N · x3.1.S ·) rfl rfl rfl fun x4 h => soN 0 Sz_60 rfl ⟨rfl, rfl, rfl, rfl, rfl, trivial⟩ rfl ?_
  refine en ?_
  exact rtg [0] hF (resOk.one (rv_cell Tn_60 rfl (fun w1 hw => hw.rgO (i := 0) rfl 0 5 [iV x4.K, .string x4.S, iV x4.V.K, iV x4.V.N, .string x4.V.S] rfl) rfl)) rfl (by cases h; exact fun w1 hw => ⟨rfl, rfl, rfl, h2⟩)
 refine att 5 [] rfl ?_
 refine ch h rfl ?_ ?_ <;> intro h
 ·refine sr <| la rfl <| kcb [0] h rfl rfl rfl rfl (fun b ap z q => m_s_l10Next_ok N b (⟨p0.l, x1.2.at_, x1.2.bad⟩ : Tl10Reader) 4 (ph0_0.y z) h1 q) ?_
  rintro x5 h v3 Φ_5 F4 ⟨ap4, fr5, rfl, rfl, e3, h3⟩
  refine lq (q_field1 Fd1_77_2 rfl rfl) rfl <| lq (q_build (vs := [(0, iV 2), (2, .string x5.1.S)]) (C := #[iV 2, iV 0, .string x5.1.S]) Pl_58 Zr_58 rfl (fill_cons (C' := [iV 2, iV 0, .string ⟨#[]⟩]) rfl rfl rfl rfl rfl (fill_cons (C' := [iV 2, iV 0, .string x5.1.S]) rfl rfl rfl rfl rfl (fill_nil)))) rfl <| qc h (m_s_l6Val_ok N · (⟨2, 0, x5.1.S⟩ : TVal) ·) rfl rfl rfl fun x6 h => soN 0 Sz_60 rfl ⟨rfl, rfl, rfl, rfl, rfl, trivial⟩ rfl ?_
  refine en ?_
  exact rtg [0] hF (resOk.one (rv_cell Tn_60 rfl (fun w1 hw => hw.rgO (i := 0) rfl 0 5 [iV x6.K, .string x6.S, iV x6.V.K, iV x6.V.N, .string x6.V.S] rfl) rfl)) rfl (by cases h; exact fun w1 hw => ⟨rfl, rfl, rfl, h3⟩)
 refine atr 5 [] rfl <| kcb [0] h rfl rfl rfl rfl (fun b ap z q => m_s_l10Num_ok N b (⟨p0.l, x1.2.at_, x1.2.bad⟩ : Tl10Reader) (ph0_0.y z) h1 q) ?_
 rintro x7 h v4 Φ_6 F5 ⟨ap5, fr6, rfl, rfl, e4, h4⟩
 refine lq (q_build (vs := [(0, iV 1), (1, iV x7.1)]) (C := #[iV 1, iV x7.1, .string (⟨#[]⟩ : ByteArray)]) Pl_58 Zr_58 rfl (fill_cons (C' := [iV 1, iV 0, .string ⟨#[]⟩]) rfl rfl rfl rfl rfl (fill_cons (C' := [iV 1, iV x7.1, .string ⟨#[]⟩]) rfl rfl rfl rfl rfl (fill_nil)))) rfl <| qc h (m_s_l6Val_ok N · (⟨1, x7.1, (⟨#[]⟩ : ByteArray)⟩ : TVal) ·) rfl rfl rfl fun x8 h => soN 0 Sz_60 rfl ⟨rfl, rfl, rfl, rfl, rfl, trivial⟩ rfl ?_
 refine en ?_
 exact rtg [0] hF (resOk.one (rv_cell Tn_60 rfl (fun w1 hw => hw.rgO (i := 0) rfl 0 5 [iV x8.K, .string x8.S, iV x8.V.K, iV x8.V.N, .string x8.V.S] rfl) rfl)) rfl (by cases h; exact fun w1 hw => ⟨rfl, rfl, rfl, h4⟩)
theorem m_s_l10Pat_ok (w0 : Base Ψ Φ [[pb0]].flatten) (p0 : Tl10Reader) (ph0_0 : RSl RTToken 3 Ψ pG0_0 pv0_0 p0.l) (pp0 : Φ pb0 = some (.cells #[pv0_0, iV p0.at_, .bool p0.bad] 100 (0, 0))) {r : TPat × Tl10Reader} (h : m_s_l10Pat N p0 = some r) :
  Calls prog 126 [pQ pb0].toArray w0.w (PostG Φ w0.w [[pb0]].flatten (fun Φ' Fs v => ∃ (sr_0_0 : Value), v = .agg [.string r.1.Kind, sr_0_0, .bool r.1.Not].toArray ∧ Fs = [ob sr_0_0, [pb0]] ∧ OSl RTArg 60 5 Φ' [] sr_0_0 r.1.Args ∧ r.2.l = p0.l ∧ Φ' pb0 = some (.cells #[pv0_0, iV r.2.at_, .bool r.2.bad] 100 (0, 0)))) := by
 refine eL func126 rfl ntmps126 rfl (L := [[pb0]]) w0 (fun hF => ?_)
 unfold m_s_l10Pat at h
 refine sr <| lnz Zr_35 rfl fun b_1 => arr 4 [] rfl <| kcb [0] h rfl rfl rfl rfl (fun b ap z q => m_s_l10Is_ok N b p0 5 (⟨#[33]⟩ : ByteArray) (ph0_0.y z) pp0 q) ?_
 rintro x1 h v1 Φ_1 F1 ⟨ap1, fr1, rfl, rfl, e1, h1⟩
 refine lq (q_build (vs := [(2, .bool x1.1)]) (C := #[.string (⟨#[]⟩ : ByteArray), .slice none 0 0, .bool x1.1]) Pl_35 Zr_35 rfl (fill_cons (C' := [.string ⟨#[]⟩, .slice none 0 0, .bool x1.1]) rfl rfl rfl rfl rfl (fill_nil))) rfl <| lnz Zr_35 rfl fun b_2 => soN 0 Sz_35 rfl ⟨rfl, rfl, rfl, trivial⟩ rfl ?_
 refine arr 4 [] rfl <| kcb [0] h rfl rfl rfl rfl (fun b ap z q => m_s_l10Next_ok N b (⟨p0.l, x1.2.at_, x1.2.bad⟩ : Tl10Reader) 2 (ph0_0.y z) h1 q) ?_
 rintro x2 h v2 Φ_2 F2 ⟨ap2, fr2, rfl, rfl, e2, h2⟩
 refine lq (q_field1 Fd1_77_2 rfl rfl) rfl <| lf Fld_35_0 rfl rfl rfl <| so1 0 Sz_9 rfl rfl ?_
 refine arr 4 [] rfl <| kcb [0] h rfl rfl rfl rfl (fun b ap z q => m_s_l10Mark_ok N b (⟨p0.l, x2.2.at_, x2.2.bad⟩ : Tl10Reader) (⟨#[40]⟩ : ByteArray) (ph0_0.y z) h2 q) ?_
 rintro x3 h v3 Φ_3 F3 ⟨ap3, fr3, rfl, rfl, e3, h3⟩
 refine arr 5 [] rfl <| kcb [0] h rfl rfl rfl rfl (fun b ap z q => m_s_l10Is_ok N b (⟨p0.l, x3.at_, x3.bad⟩ : Tl10Reader) 5 (⟨#[41]⟩ : ByteArray) (ph0_0.y z) h3 q) ?_
 rintro x4 h v4 Φ_4 F4 ⟨ap4, fr4, rfl, rfl, e4, h4⟩
 refine en ?_
 refine ch h rfl ?_ ?_ <;> intro h
 ·refine atr 3 [3] rfl <| soN 1 Sz_35 rfl ⟨rfl, rfl, rfl, trivial⟩ rfl ?_
  refine en ?_
  refine WT.ret hF (resOk.one (rv_cell Tn_35 rfl (fun w1 hw => hw.rgO (i := 1) rfl 0 3 [.string x2.1.S, .slice none 0 0, .bool x1.1] rfl) rfl)) (fun w1 hw => ?_)
  cases h
  replace hw := hw.addNil
  refine postG_of_St (js := [0, 0]) hw rfl ⟨.slice none 0 0, rfl, rfl, OSl.nil _ _ _ _, rfl, h4⟩
 refine att 7 [] rfl <| wtS ?_
 have k1 := OSl.nil RTArg 60 5 Φ_4
 refine lin (σ := Hp × (List TArg) × Value × Bool × Int × Bool) (fun s => [(0, pQ pb0), (2, pQ b_1), (3, pQ b_2), (4, .bool s.2.2.2.1)]) (fun s => St w0 s.1 [(b_2, .cells #[.string x2.1.S, s.2.2.1, .bool x1.1] 35 (0, 0)), (b_1, .cells #[.string (⟨#[]⟩ : ByteArray), .slice none 0 0, .bool false] 35 (0, 0))] [ob s.2.2.1, [pb0]]) (fun m s => m_s_l10Pat_l1 N p0 x1 x2 m s.2.1 s.2.2.2.1 s.2.2.2.2.1 s.2.2.2.2.2 = some r ∧ (OSl RTArg 60 5 s.1 [] s.2.2.1 s.2.1) ∧ (s.1 pb0 = some (.cells #[pv0_0, iV s.2.2.2.2.1, .bool s.2.2.2.2.2] 100 (0, 0)))) (Φ_4, ([] : List TArg), (.slice none 0 0), true, x4.2.at_, x4.2.bad) N ⟨h, k1, h4⟩ (sx [0, 0] [0, 0]) (fun n1 ih1 s hm => ?_)
 obtain ⟨Φ_5, s1, u1, s2, s3, s4⟩ := s
 obtain ⟨h, k2, k3⟩ := hm
 dsimp only at h k2 k3 ⊢
 unfold m_s_l10Pat_l1 at h
 refine atr 5 [] rfl ?_
 obtain ⟨b5, hb_1, h⟩ := bs h
 refine WL.cutN 6 [(24, .bool b5), (0, pQ pb0), (2, pQ b_1), (3, pQ b_2)] ?_ (fun K => ?_)
 rotate_left
 ·refine sp 18 hb_1 rfl (fun hb_1 => ?_) fun hb_1 => ?_
  ·refine ly rfl rfl <| la rfl <| ly rfl rfl <| lq (q_nilCheck rfl) rfl <| ly rfl rfl <| lf Fld_100_2 rfl rfl rfl <| ly rfl rfl <| lgx 2 0 (rg_cells k3) rfl <| arr 2 [] rfl ?_
   cases hb_1
   exact ku K
  ·refine arr 6 [] rfl ?_
   cases hb_1
   exact ku K
 refine en ?_
 refine ch h rfl ?_ ?_ <;> intro h
 ·refine att 3 [] rfl <| wm [0, 1] [7] rfl <| amm 3 [0, 1, 1, 0, 2] [0, 1] rfl rfl ?_
  obtain ⟨x5, hx5, h⟩ := bs h
  refine WM.one 3 (by kernel_rfl) (mc rfl (fun _ v Φx D w1 hq hw => Kn.of Kf.nil (ai2 0 1 rfl rfl) hw) (k_call (js := [1]) (R := [ob u1]) Fun_178 rfl rfl (fun w1 hw ap hl => m_s_l10Arg_ok N (bx hw ap hl) (⟨p0.l, s3, s4⟩ : Tl10Reader) (ph0_0.y (hw.uo ap)) k3  hx5)) rfl ?_)
  rintro v5 Φ_6 F5 ⟨ap5, fr5, rfl, rfl, e5, h5⟩
  replace k2 := k2.fr fr5 (ap5.q 0 rfl) dN
  have rc1 : RC RTArg 5 Φ_6 ([[]] : List (List Nat)) [iV x5.1.K, .string x5.1.S, iV x5.1.V.K, iV x5.1.V.N, .string x5.1.V.S] ([x5.1] : List TArg) := RC.cons (c := [iV x5.1.K, .string x5.1.S, iV x5.1.V.K, iV x5.1.V.N, .string x5.1.V.S]) (cells := []) ⟨rfl, rfl⟩ rfl (RC.nil _ _ _)
  refine WM.one 4 (by kernel_rfl) (me rfl (fun _ v Φx D w1 hq hw => Kn.of Kf.nil (ai2 0 1 rfl rfl) hw) (e_lit (vs := [(0, .agg [iV x5.1.K, .string x5.1.S, iV x5.1.V.K, iV x5.1.V.N, .string x5.1.V.S].toArray)]) (C := #[iV x5.1.K, .string x5.1.S, iV x5.1.V.K, iV x5.1.V.N, .string x5.1.V.S]) RTArg.lasts Sl_33 Zr_60 rfl rfl rfl rfl (fill_made MC_60_1 (fill_cons (C' := [iV x5.1.K, .string x5.1.S, iV x5.1.V.K, iV x5.1.V.N, .string x5.1.V.S]) rfl rfl rfl rfl rfl (fill_nil))) rfl rc1 rfl (by simpa using Kw.nil)) rfl ?_)
  rintro v6 Φ_7 D1 ⟨fr6, h6⟩
  replace h6 : OSl RTArg 60 5 Φ_7 [] v6 ([x5.1] : List TArg) := by simpa using h6
  replace k2 := k2.f0 fr6
  replace h5 := fr6 _ _ (by simp) h5
  obtain ⟨x6, hx6, h⟩ := bs h
  refine WM.one 5 (by kernel_rfl) (me rfl (fun _ v Φx D w1 hq hw => Kn.of Kf.nil (ai2 0 1 rfl rfl) hw) (e_appF RTArg.lasts RTArg.one RTArg.flat Sl_33 Ei_60 rfl rfl rfl rfl rfl (js := [2]) (Rr := [ob v6, [pb0]]) rfl k2 h6.rsl hx6) rfl ?_)
  rintro v7 Φ_8 D2 ⟨⟨ap6, fr7⟩, h7⟩
  replace h5 := fr7 _ _ ((ap6.q 1 rfl) _ (by simp)) h5
  refine amm 1 [6, 1] [0, 1] rfl rfl ?_
  refine on1 7 (ms1 0 rfl nk Sz_33 rfl h7.one ?_)
  refine WM.nil (by kernel_rfl) <| atr 2 [] rfl <| kcb [2] h rfl rfl rfl rfl (fun b ap z q => m_s_l10Is_ok N b (⟨p0.l, x5.2.at_, x5.2.bad⟩ : Tl10Reader) 5 (⟨#[44]⟩ : ByteArray) (ph0_0.y z) h5 q) ?_
  rintro x7 h v8 Φ_9 F6 ⟨ap7, fr8, rfl, rfl, e6, h8⟩
  replace h7 := h7.fr fr8 (ap7.q 0 rfl) dN
  refine art 3 [] rfl ?_
  exact lb [1, 0] [0, 0] (ih1 (_, _, _, _, _, _) ⟨h, h7, h8⟩)
 refine atr 4 [] rfl <| kcb [1] h rfl rfl rfl rfl (fun b ap z q => m_s_l10Mark_ok N b (⟨p0.l, s3, s4⟩ : Tl10Reader) (⟨#[41]⟩ : ByteArray) (ph0_0.y z) k3 q) ?_
 rintro x8 h v9 Φ_10 F7 ⟨ap8, fr9, rfl, rfl, e7, h9⟩
 replace k2 := k2.fr fr9 (ap8.q 0 rfl) dN
 refine arr 4 [3] rfl <| soN 1 Sz_35 rfl ⟨rfl, k2.one, rfl, trivial⟩ rfl ?_
 refine en ?_
 exact rtg [1, 0] hF (resOk.one (rv_cell Tn_35 rfl (fun w1 hw => hw.rgO (i := 1) rfl 0 3 [.string x2.1.S, u1, .bool x1.1] rfl) rfl)) rfl (by cases h; exact fun w1 hw => ⟨u1, rfl, rfl, k2, rfl, h9⟩)
theorem m_s_l10Cond_ok (w0 : Base Ψ Φ [[pb0]].flatten) (p0 : Tl10Reader) (ph0_0 : RSl RTToken 3 Ψ pG0_0 pv0_0 p0.l) (pp0 : Φ pb0 = some (.cells #[pv0_0, iV p0.at_, .bool p0.bad] 100 (0, 0))) {r : TCond × Tl10Reader} (h : m_s_l10Cond N p0 = some r) :
  Calls prog 127 [pQ pb0].toArray w0.w (PostG Φ w0.w [[pb0]].flatten (fun Φ' Fs v => v = .agg [iV r.1.Op, iV r.1.L.K, .string r.1.L.S, iV r.1.L.V.K, iV r.1.L.V.N, .string r.1.L.V.S, iV r.1.R.K, .string r.1.R.S, iV r.1.R.V.K, iV r.1.R.V.N, .string r.1.R.V.S].toArray ∧ Fs = [[pb0]] ∧ r.2.l = p0.l ∧ Φ' pb0 = some (.cells #[pv0_0, iV r.2.at_, .bool r.2.bad] 100 (0, 0)))) := by
 refine eL func127 rfl ntmps127 rfl (L := [[pb0]]) w0 (fun hF => ?_)
 unfold m_s_l10Cond at h
 refine sr <| lnz Zr_62 rfl fun b_1 => arr 4 [] rfl <| kcb [0] h rfl rfl rfl rfl (fun b ap z q => m_s_l10Arg_ok N b p0 (ph0_0.y z) pp0 q) ?_
 rintro x1 h v1 Φ_1 F1 ⟨ap1, fr1, rfl, rfl, e1, h1⟩
 refine lq (q_build (vs := [(1, .agg [iV x1.1.K, .string x1.1.S, iV x1.1.V.K, iV x1.1.V.N, .string x1.1.V.S].toArray)]) (C := #[iV 0, iV x1.1.K, .string x1.1.S, iV x1.1.V.K, iV x1.1.V.N, .string x1.1.V.S, iV 0, .string (⟨#[]⟩ : ByteArray), iV 0, iV 0, .string (⟨#[]⟩ : ByteArray)]) Pl_62 Zr_62 rfl (fill_cons (C' := [iV 0, iV x1.1.K, .string x1.1.S, iV x1.1.V.K, iV x1.1.V.N, .string x1.1.V.S, iV 0, .string ⟨#[]⟩, iV 0, iV 0, .string ⟨#[]⟩]) rfl rfl rfl rfl rfl (fill_nil))) rfl ?_
 refine lnz Zr_62 rfl fun b_2 => soN 0 Sz_62 rfl ⟨rfl, rfl, rfl, rfl, rfl, rfl, rfl, rfl, rfl, rfl, rfl, trivial⟩ rfl ?_
 refine arr 6 [] rfl <| kcb [0] h rfl rfl rfl rfl (fun b ap z q => m_s_l10Is_ok N b (⟨p0.l, x1.2.at_, x1.2.bad⟩ : Tl10Reader) 5 (⟨#[61]⟩ : ByteArray) (ph0_0.y z) h1 q) ?_
 rintro x2 h v2 Φ_2 F2 ⟨ap2, fr2, rfl, rfl, e2, h2⟩
 refine la rfl <| en ?_
 refine cut (σ := Hp × Int × Bool × Int) (fun s => [(0, pQ pb0), (2, pQ b_1), (3, pQ b_2)]) (fun s => St w0 s.1 [(b_2, .cells #[iV s.2.2.2, iV x1.1.K, .string x1.1.S, iV x1.1.V.K, iV x1.1.V.N, .string x1.1.V.S, iV 0, .string (⟨#[]⟩ : ByteArray), iV 0, iV 0, .string (⟨#[]⟩ : ByteArray)] 62 (0, 0)), (b_1, .cells #[iV 0, iV 0, .string (⟨#[]⟩ : ByteArray), iV 0, iV 0, .string (⟨#[]⟩ : ByteArray), iV 0, .string (⟨#[]⟩ : ByteArray), iV 0, iV 0, .string (⟨#[]⟩ : ByteArray)] 62 (0, 0))] [[pb0]]) (fun s => m_s_l10Cond_j1 N p0 x1 s.2.1 s.2.2.1 s.2.2.2 = some r ∧ (s.1 pb0 = some (.cells #[pv0_0, iV s.2.1, .bool s.2.2.1] 100 (0, 0)))) (fun s hm => ?_) (fun K => ?_)
 ·clear h
  obtain ⟨Φ_3, s1, s2, s3⟩ := s
  obtain ⟨h, k1⟩ := hm
  dsimp only at h k1 ⊢
  unfold m_s_l10Cond_j1 at h
  refine atr 4 [] rfl <| kcb [0] h rfl rfl rfl rfl (fun b ap z q => m_s_l10Arg_ok N b (⟨p0.l, s1, s2⟩ : Tl10Reader) (ph0_0.y z) k1 q) ?_
  rintro x3 h v3 Φ_4 F3 ⟨ap3, fr3, rfl, rfl, e3, h3⟩
  refine lf Fld_62_2 rfl rfl rfl <| soN 0 Sz_60 rfl ⟨rfl, rfl, rfl, rfl, rfl, trivial⟩ rfl ?_
  refine arr 4 [11] rfl <| soN 1 Sz_62 rfl ⟨rfl, rfl, rfl, rfl, rfl, rfl, rfl, rfl, rfl, rfl, rfl, trivial⟩ rfl ?_
  refine en ?_
  exact rtg [0] hF (resOk.one (rv_cell Tn_62 rfl (fun w1 hw => hw.rgO (i := 1) rfl 0 11 [iV s3, iV x1.1.K, .string x1.1.S, iV x1.1.V.K, iV x1.1.V.N, .string x1.1.V.S, iV x3.1.K, .string x3.1.S, iV x3.1.V.K, iV x3.1.V.N, .string x3.1.V.S] rfl) rfl)) rfl (by cases h; exact fun w1 hw => ⟨rfl, rfl, rfl, h3⟩)
 refine ch h rfl ?_ ?_ <;> intro h
 ·refine atr 2 [0] rfl <| so1 0 Sz_3 rfl rfl ?_
  refine en ?_
  exact wo [0] [0, 0] (K (_, _, _, _) ⟨h, h2⟩)
 refine sr <| la rfl <| kcb [0] h rfl rfl rfl rfl (fun b ap z q => m_s_l10Is_ok N b (⟨p0.l, x2.2.at_, x2.2.bad⟩ : Tl10Reader) 5 (⟨#[35]⟩ : ByteArray) (ph0_0.y z) h2 q) ?_
 rintro x4 h v4 Φ_5 F4 ⟨ap4, fr4, rfl, rfl, e4, h4⟩
 refine la rfl <| en ?_
 refine ch h rfl ?_ ?_ <;> intro h
 ·refine atr 2 [0] rfl <| so1 0 Sz_3 rfl rfl ?_
  refine en ?_
  exact wo [0] [0, 0] (K (_, _, _, _) ⟨h, h4⟩)
 refine sr <| la rfl <| kcb [0] h rfl rfl rfl rfl (fun b ap z q => m_s_l10Mark_ok N b (⟨p0.l, x4.2.at_, x4.2.bad⟩ : Tl10Reader) (⟨#[60]⟩ : ByteArray) (ph0_0.y z) h4 q) ?_
 rintro x5 h v5 Φ_6 F5 ⟨ap5, fr5, rfl, rfl, e5, h5⟩
 refine arr 3 [0] rfl <| so1 0 Sz_3 rfl rfl ?_
 refine en ?_
 exact wo [0] [0, 0] (K (_, _, _, _) ⟨h, h5⟩)
theorem m_s_l10Expr_ok (w0 : Base Ψ Φ [[pb0]].flatten) (p0 : Tl10Reader) (ph0_0 : RSl RTToken 3 Ψ pG0_0 pv0_0 p0.l) (pp0 : Φ pb0 = some (.cells #[pv0_0, iV p0.at_, .bool p0.bad] 100 (0, 0))) {r : TExpr × Tl10Reader} (h : m_s_l10Expr N p0 = some r) :
  Calls prog 207 [pQ pb0].toArray w0.w (PostG Φ w0.w [[pb0]].flatten (fun Φ' Fs v => v = .agg [.string r.1.Op, iV r.1.L.K, .string r.1.L.S, iV r.1.L.V.K, iV r.1.L.V.N, .string r.1.L.V.S, iV r.1.R.K, .string r.1.R.S, iV r.1.R.V.K, iV r.1.R.V.N, .string r.1.R.V.S].toArray ∧ Fs = [[pb0]] ∧ r.2.l = p0.l ∧ Φ' pb0 = some (.cells #[pv0_0, iV r.2.at_, .bool r.2.bad] 100 (0, 0)))) := by
 refine eL func207 rfl ntmps207 rfl (L := [[pb0]]) w0 (fun hF => ?_)
 unfold m_s_l10Expr at h
 refine sr <| lnz Zr_116 rfl fun b_1 => arr 4 [] rfl <| kcb [0] h rfl rfl rfl rfl (fun b ap z q => m_s_l10Arg_ok N b p0 (ph0_0.y z) pp0 q) ?_
 rintro x1 h v1 Φ_1 F1 ⟨ap1, fr1, rfl, rfl, e1, h1⟩
 refine lq (q_build (vs := [(1, .agg [iV x1.1.K, .string x1.1.S, iV x1.1.V.K, iV x1.1.V.N, .string x1.1.V.S].toArray)]) (C := #[.string (⟨#[]⟩ : ByteArray), iV x1.1.K, .string x1.1.S, iV x1.1.V.K, iV x1.1.V.N, .string x1.1.V.S, iV 0, .string (⟨#[]⟩ : ByteArray), iV 0, iV 0, .string (⟨#[]⟩ : ByteArray)]) Pl_116 Zr_116 rfl (fill_cons (C' := [.string ⟨#[]⟩, iV x1.1.K, .string x1.1.S, iV x1.1.V.K, iV x1.1.V.N, .string x1.1.V.S, iV 0, .string ⟨#[]⟩, iV 0, iV 0, .string ⟨#[]⟩]) rfl rfl rfl rfl rfl (fill_nil))) rfl ?_
 refine lnz Zr_116 rfl fun b_2 => soN 0 Sz_116 rfl ⟨rfl, rfl, rfl, rfl, rfl, rfl, rfl, rfl, rfl, rfl, rfl, trivial⟩ rfl ?_
 refine arr 5 [] rfl <| kcb [0] h rfl rfl rfl rfl (fun b ap z q => m_s_l10Is_ok N b (⟨p0.l, x1.2.at_, x1.2.bad⟩ : Tl10Reader) 5 (⟨#[43]⟩ : ByteArray) (ph0_0.y z) h1 q) ?_
 rintro x2 h v2 Φ_2 F2 ⟨ap2, fr2, rfl, rfl, e2, h2⟩
 refine en ?_
 refine cut (σ := Hp × Int × Bool × ByteArray) (fun s => [(0, pQ pb0), (2, pQ b_1), (3, pQ b_2)]) (fun s => St w0 s.1 [(b_2, .cells #[.string s.2.2.2, iV x1.1.K, .string x1.1.S, iV x1.1.V.K, iV x1.1.V.N, .string x1.1.V.S, iV 0, .string (⟨#[]⟩ : ByteArray), iV 0, iV 0, .string (⟨#[]⟩ : ByteArray)] 116 (0, 0)), (b_1, .cells #[.string (⟨#[]⟩ : ByteArray), iV 0, .string (⟨#[]⟩ : ByteArray), iV 0, iV 0, .string (⟨#[]⟩ : ByteArray), iV 0, .string (⟨#[]⟩ : ByteArray), iV 0, iV 0, .string (⟨#[]⟩ : ByteArray)] 116 (0, 0))] [[pb0]]) (fun s => m_s_l10Expr_j1 N p0 x1 s.2.1 s.2.2.1 s.2.2.2 = some r ∧ (s.1 pb0 = some (.cells #[pv0_0, iV s.2.1, .bool s.2.2.1] 100 (0, 0)))) (fun s hm => ?_) (fun K => ?_)
 ·clear h
  obtain ⟨Φ_3, s1, s2, s3⟩ := s
  obtain ⟨h, k1⟩ := hm
  dsimp only at h k1 ⊢
  unfold m_s_l10Expr_j1 at h
  refine att 7 [0, 0] rfl ?_
  refine cut (σ := Hp × Int × Bool × Int × ByteArray × Int × Int × ByteArray) (fun s => [(2, pQ b_1), (3, pQ b_2)]) (fun s => St w0 s.1 [(b_2, .cells #[.string s3, iV x1.1.K, .string x1.1.S, iV x1.1.V.K, iV x1.1.V.N, .string x1.1.V.S, iV s.2.2.2.1, .string s.2.2.2.2.1, iV s.2.2.2.2.2.1, iV s.2.2.2.2.2.2.1, .string s.2.2.2.2.2.2.2] 116 (0, 0)), (b_1, .cells #[.string (⟨#[]⟩ : ByteArray), iV 0, .string (⟨#[]⟩ : ByteArray), iV 0, iV 0, .string (⟨#[]⟩ : ByteArray), iV 0, .string (⟨#[]⟩ : ByteArray), iV 0, iV 0, .string (⟨#[]⟩ : ByteArray)] 116 (0, 0))] [[pb0]]) (fun s => m_s_l10Expr_j2 N p0 x1 s3 s.2.1 s.2.2.1 s.2.2.2.1 s.2.2.2.2.1 s.2.2.2.2.2.1 s.2.2.2.2.2.2.1 s.2.2.2.2.2.2.2 = some r ∧ (s.1 pb0 = some (.cells #[pv0_0, iV s.2.1, .bool s.2.2.1] 100 (0, 0)))) (fun s hm => ?_) (fun K => ?_)
  ·clear h
   obtain ⟨Φ_4, s4, s5, s6, s7, s8, s9, s10⟩ := s
   obtain ⟨h, k2⟩ := hm
   dsimp only at h k2 ⊢
   unfold m_s_l10Expr_j2 at h
   refine atr 3 [11] rfl <| soN 1 Sz_116 rfl ⟨rfl, rfl, rfl, rfl, rfl, rfl, rfl, rfl, rfl, rfl, rfl, trivial⟩ rfl ?_
   refine en ?_
   exact rtg [0] hF (resOk.one (rv_cell Tn_116 rfl (fun w1 hw => hw.rgO (i := 1) rfl 0 11 [.string s3, iV x1.1.K, .string x1.1.S, iV x1.1.V.K, iV x1.1.V.N, .string x1.1.V.S, iV s6, .string s7, iV s8, iV s9, .string s10] rfl) rfl)) rfl (by cases h; exact fun w1 hw => ⟨rfl, rfl, rfl, k2⟩)
  refine ch h rfl ?_ ?_ <;> intro h
  ·refine atr 2 [] rfl <| kcb [0] h rfl rfl rfl rfl (fun b ap z q => m_s_l10Arg_ok N b (⟨p0.l, s1, s2⟩ : Tl10Reader) (ph0_0.y z) k1 q) ?_
   rintro x3 h v3 Φ_5 F3 ⟨ap3, fr3, rfl, rfl, e3, h3⟩
   refine lf Fld_116_2 rfl rfl rfl <| soN 0 Sz_60 rfl ⟨rfl, rfl, rfl, rfl, rfl, trivial⟩ rfl ?_
   refine en ?_
   exact wo [0] [0, 0] (K (_, _, _, _, _, _, _, _) ⟨h, h3⟩)
  refine WT.skip ?_
  exact wo [0] [0, 0] (K (_, _, _, _, _, _, _, _) ⟨h, k1⟩)
 refine ch h rfl ?_ ?_ <;> intro h
 ·refine atr 2 [0] rfl <| so1 0 Sz_9 rfl rfl ?_
  refine en ?_
  exact wo [0] [0, 0] (K (_, _, _, _) ⟨h, h2⟩)
 refine sr <| la rfl <| kcb [0] h rfl rfl rfl rfl (fun b ap z q => m_s_l10Is_ok N b (⟨p0.l, x2.2.at_, x2.2.bad⟩ : Tl10Reader) 5 (⟨#[45]⟩ : ByteArray) (ph0_0.y z) h2 q) ?_
 rintro x4 h v4 Φ_6 F4 ⟨ap4, fr4, rfl, rfl, e4, h4⟩
 refine en ?_
 refine ch h rfl ?_ ?_ <;> intro h
 ·refine atr 2 [0] rfl <| so1 0 Sz_9 rfl rfl ?_
  refine en ?_
  exact wo [0] [0, 0] (K (_, _, _, _) ⟨h, h4⟩)
 refine WT.skip ?_
 exact wo [0] [0, 0] (K (_, _, _, _) ⟨h, h4⟩)
theorem m_s_l10Args_ok (w0 : Base Ψ Φ [[pb0], [pb1], ob pv1_0].flatten) (p0 : Tl10Reader) (p1 : TAct) (ph0_0 : RSl RTToken 3 Ψ pG0_0 pv0_0 p0.l) (pp0 : Φ pb0 = some (.cells #[pv0_0, iV p0.at_, .bool p0.bad] 100 (0, 0))) (ph1_0 : OSl RTExpr 116 11 Φ [] pv1_0 p1.Args) (pp1 : Φ pb1 = some (.cells #[iV p1.Kind, .string p1.Name, pv1_0, iV p1.N, .string p1.Undo] 66 (0, 0))) {r : Tl10Reader × TAct} (h : m_s_l10Args N p0 p1 = some r) :
  Calls prog 179 [pQ pb0, pQ pb1].toArray w0.w (PostG Φ w0.w [[pb0], [pb1], ob pv1_0].flatten (fun Φ' Fs v => ∃ (so_1_0 : Value), v = .tuple #[] ∧ Fs = [[pb0], [pb1], ob so_1_0] ∧ r.1.l = p0.l ∧ Φ' pb0 = some (.cells #[pv0_0, iV r.1.at_, .bool r.1.bad] 100 (0, 0)) ∧ OSl RTExpr 116 11 Φ' [] so_1_0 r.2.Args ∧ Φ' pb1 = some (.cells #[iV r.2.Kind, .string r.2.Name, so_1_0, iV r.2.N, .string r.2.Undo] 66 (0, 0)))) := by
 refine eL func179 rfl ntmps179 rfl (L := [[pb0], [pb1], ob pv1_0]) w0 (fun hF => ?_)
 unfold m_s_l10Args at h
 refine atr 4 [] rfl <| kcb [0] h rfl rfl rfl rfl (fun b ap z q => m_s_l10Next_ok N b p0 2 (ph0_0.y z) pp0 q) ?_
 rintro x1 h v1 Φ_1 F1 ⟨ap1, fr1, rfl, rfl, e1, h1⟩
 replace ph1_0 := ph1_0.fr fr1 (ap1.q 1 rfl) dN
 replace pp1 := fr1 _ _ ((ap1.q 0 rfl) _ (by simp)) pp1
 refine lq (q_field1 Fd1_77_2 rfl rfl) rfl <| lq (q_nilCheck rfl) rfl <| lf Fld_66_1 rfl rfl rfl ?_
 refine WL.thw (js := [1]) (R := [[pb0], ob pv1_0]) rfl pp1 (fun Φ_2 ap2 fr2 => ?_)
 replace ph1_0 := ph1_0.fr fr2 (ap2.q 1 rfl) dN
 replace h1 := fr2 _ _ ((ap2.q 0 rfl) _ (by simp)) h1
 refine so1 0 Sz_9 rfl rfl ?_
 refine arr 4 [] rfl <| kcb [0] h rfl rfl rfl rfl (fun b ap z q => m_s_l10Mark_ok N b (⟨p0.l, x1.2.at_, x1.2.bad⟩ : Tl10Reader) (⟨#[40]⟩ : ByteArray) (ph0_0.y z) h1 q) ?_
 rintro x2 h v2 Φ_3 F2 ⟨ap3, fr3, rfl, rfl, e2, h2⟩
 replace ph1_0 := ph1_0.fr fr3 (ap3.q 0 rfl) dN
 refine arr 5 [] rfl <| kcb [0] h rfl rfl rfl rfl (fun b ap z q => m_s_l10Is_ok N b (⟨p0.l, x2.at_, x2.bad⟩ : Tl10Reader) 5 (⟨#[41]⟩ : ByteArray) (ph0_0.y z) h2 q) ?_
 rintro x3 h v3 Φ_4 F3 ⟨ap4, fr4, rfl, rfl, e3, h3⟩
 replace ph1_0 := ph1_0.fr fr4 (ap4.q 0 rfl) dN
 refine en ?_
 refine ch h rfl ?_ ?_ <;> intro h
 ·refine WT.frz (js := [0]) (R := []) rfl (fun Φ_5 fr5 k1 => ?_)
  replace ph1_0 := ph1_0.f0 fr5
  replace h3 := fr5 _ _ (by simp) h3
  exact rtg [1, 0, 0] hF resOk.none rfl (by cases h; exact fun w1 hw => ⟨pv1_0, rfl, rfl, rfl, h3, ph1_0, k1⟩)
 refine att 7 [] rfl ?_
 refine lin (σ := Hp × (List TExpr) × Value × Bool × Int × Bool) (fun s => [(0, pQ pb0), (1, pQ pb1), (4, .bool s.2.2.2.1)]) (fun s => St w0 s.1 [(pb1, .cells #[iV p1.Kind, .string x1.1.S, s.2.2.1, iV p1.N, .string p1.Undo] 66 (0, 0))] [[pb0], ob s.2.2.1]) (fun m s => m_s_l10Args_l1 N p0 p1 x1 m s.2.1 s.2.2.2.1 s.2.2.2.2.1 s.2.2.2.2.2 = some r ∧ (OSl RTExpr 116 11 s.1 [] s.2.2.1 s.2.1) ∧ (s.1 pb0 = some (.cells #[pv0_0, iV s.2.2.2.2.1, .bool s.2.2.2.2.2] 100 (0, 0)))) (Φ_4, p1.Args, pv1_0, true, x3.2.at_, x3.2.bad) N ⟨h, ph1_0, h3⟩ (sx [0, 0] [0]) (fun n1 ih1 s hm => ?_)
 obtain ⟨Φ_6, s1, u1, s2, s3, s4⟩ := s
 obtain ⟨h, k2, k3⟩ := hm
 dsimp only at h k2 k3 ⊢
 unfold m_s_l10Args_l1 at h
 refine atr 5 [] rfl ?_
 obtain ⟨b5, hb_1, h⟩ := bs h
 refine WL.cutN 6 [(22, .bool b5), (0, pQ pb0), (1, pQ pb1)] ?_ (fun K => ?_)
 rotate_left
 ·refine sp 16 hb_1 rfl (fun hb_1 => ?_) fun hb_1 => ?_
  ·refine ly rfl rfl <| la rfl <| ly rfl rfl <| lq (q_nilCheck rfl) rfl <| ly rfl rfl <| lf Fld_100_2 rfl rfl rfl <| ly rfl rfl <| lgx 2 0 (rg_cells k3) rfl <| arr 2 [] rfl ?_
   cases hb_1
   exact ku K
  ·refine arr 6 [] rfl ?_
   cases hb_1
   exact ku K
 refine en ?_
 refine ch h rfl ?_ ?_ <;> intro h
 ·refine att 3 [] rfl <| wm [0] [11] rfl <| amm 2 [0, 1] [0] rfl rfl <| mq 2 rfl (by kernel_rfl) (kN [0]) (q_nilCheck rfl) rfl <| amm 3 [3, 2, 4, 0, 5] [0] rfl rfl ?_
  obtain ⟨x4, hx4, h⟩ := bs h
  refine WM.one 6 (by kernel_rfl) (mc rfl (fun _ v Φx D w1 hq hw => Kn.of Kf.nil (am [0] rfl) hw) (k_call (js := [0]) (R := [ob u1]) Fun_207 rfl rfl (fun w1 hw ap hl => m_s_l10Expr_ok N (bx hw ap hl) (⟨p0.l, s3, s4⟩ : Tl10Reader) (ph0_0.y (hw.uo ap)) k3  hx4)) rfl ?_)
  rintro v4 Φ_7 F4 ⟨ap5, fr6, rfl, rfl, e4, h4⟩
  replace k2 := k2.fr fr6 (ap5.q 0 rfl) dN
  have rc1 : RC RTExpr 11 Φ_7 ([[]] : List (List Nat)) [.string x4.1.Op, iV x4.1.L.K, .string x4.1.L.S, iV x4.1.L.V.K, iV x4.1.L.V.N, .string x4.1.L.V.S, iV x4.1.R.K, .string x4.1.R.S, iV x4.1.R.V.K, iV x4.1.R.V.N, .string x4.1.R.V.S] ([x4.1] : List TExpr) := RC.cons (c := [.string x4.1.Op, iV x4.1.L.K, .string x4.1.L.S, iV x4.1.L.V.K, iV x4.1.L.V.N, .string x4.1.L.V.S, iV x4.1.R.K, .string x4.1.R.S, iV x4.1.R.V.K, iV x4.1.R.V.N, .string x4.1.R.V.S]) (cells := []) ⟨rfl, rfl⟩ rfl (RC.nil _ _ _)
  refine WM.one 7 (by kernel_rfl) (me rfl (fun _ v Φx D w1 hq hw => Kn.of Kf.nil (am [0] rfl) hw) (e_lit (vs := [(0, .agg [.string x4.1.Op, iV x4.1.L.K, .string x4.1.L.S, iV x4.1.L.V.K, iV x4.1.L.V.N, .string x4.1.L.V.S, iV x4.1.R.K, .string x4.1.R.S, iV x4.1.R.V.K, iV x4.1.R.V.N, .string x4.1.R.V.S].toArray)]) (C := #[.string x4.1.Op, iV x4.1.L.K, .string x4.1.L.S, iV x4.1.L.V.K, iV x4.1.L.V.N, .string x4.1.L.V.S, iV x4.1.R.K, .string x4.1.R.S, iV x4.1.R.V.K, iV x4.1.R.V.N, .string x4.1.R.V.S]) RTExpr.lasts Sl_64 Zr_116 rfl rfl rfl rfl (fill_made MC_116_1 (fill_cons (C' := [.string x4.1.Op, iV x4.1.L.K, .string x4.1.L.S, iV x4.1.L.V.K, iV x4.1.L.V.N, .string x4.1.L.V.S, iV x4.1.R.K, .string x4.1.R.S, iV x4.1.R.V.K, iV x4.1.R.V.N, .string x4.1.R.V.S]) rfl rfl rfl rfl rfl (fill_nil))) rfl rc1 rfl (by simpa using Kw.nil)) rfl ?_)
  rintro v5 Φ_8 D1 ⟨fr7, h5⟩
  replace h5 : OSl RTExpr 116 11 Φ_8 [] v5 ([x4.1] : List TExpr) := by simpa using h5
  replace k2 := k2.f0 fr7
  replace h4 := fr7 _ _ (by simp) h4
  obtain ⟨x5, hx5, h⟩ := bs h
  refine WM.one 8 (by kernel_rfl) (me rfl (fun _ v Φx D w1 hq hw => Kn.of Kf.nil (am [0] rfl) hw) (e_appF RTExpr.lasts RTExpr.one RTExpr.flat Sl_64 Ei_116 rfl rfl rfl rfl rfl (js := [2]) (Rr := [ob v5, [pb0]]) rfl k2 h5.rsl hx5) rfl ?_)
  rintro v6 Φ_9 D2 ⟨⟨ap6, fr8⟩, h6⟩
  replace h4 := fr8 _ _ ((ap6.q 1 rfl) _ (by simp)) h4
  refine mqT 9 [10, 11] rfl (by kernel_rfl) (kN [0]) (q_nilCheck rfl) rfl <| amm 1 [10, 2] [0] rfl rfl ?_
  refine on1 11 (ms1 0 rfl nk Sz_64 rfl h6.one ?_)
  refine WM.nil (by kernel_rfl) <| atr 2 [] rfl <| kcb [2] h rfl rfl rfl rfl (fun b ap z q => m_s_l10Is_ok N b (⟨p0.l, x4.2.at_, x4.2.bad⟩ : Tl10Reader) 5 (⟨#[44]⟩ : ByteArray) (ph0_0.y z) h4 q) ?_
  rintro x6 h v7 Φ_10 F5 ⟨ap7, fr9, rfl, rfl, e5, h7⟩
  replace h6 := h6.fr fr9 (ap7.q 0 rfl) dN
  refine art 3 [] rfl ?_
  exact lb [0, 0] [0] (ih1 (_, _, _, _, _, _) ⟨h, h6, h7⟩)
 refine atr 3 [] rfl <| kcb [0] h rfl rfl rfl rfl (fun b ap z q => m_s_l10Mark_ok N b (⟨p0.l, s3, s4⟩ : Tl10Reader) (⟨#[41]⟩ : ByteArray) (ph0_0.y z) k3 q) ?_
 rintro x7 h v8 Φ_11 F6 ⟨ap8, fr10, rfl, rfl, e6, h8⟩
 replace k2 := k2.fr fr10 (ap8.q 0 rfl) dN
 refine en ?_
 refine WT.frz (js := [0]) (R := []) rfl (fun Φ_12 fr11 k4 => ?_)
 replace k2 := k2.f0 fr11
 replace h8 := fr11 _ _ (by simp) h8
 refine WT.fin hF resOk.none (fun w1 hw => ?_)
 cases h
 refine postG_of_St (js := [1, 0, 0]) hw rfl ⟨u1, rfl, rfl, rfl, h8, k2, k4⟩
end Go.Proofs.YteipbimepilcfaaGreatDoor
