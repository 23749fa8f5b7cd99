/- Printed by a program of ours: each Go function computes its Lean function. -/
import Derived.Test.YteipbimepilcfaaGreatDoorProg
import Derived.Test.YteipbimepilcfaaGreatDoorWDefsReadWalk3
namespace Go.Proofs.YteipbimepilcfaaGreatDoor
open Eng Tryz
open Go.RowKit (Below)
set_option linter.unusedVariables false
set_option linter.unusedSimpArgs false

set_option maxRecDepth 100000
set_option maxHeartbeats 1000000
variable {Ψ Φ : Hp} {pv0 pv1 pv0_0 pv0_1 pv0_2 : Value} {pG0 pG1 pG0_0 pG0_1 pG0_2 : List Nat} {pb0 : Nat} (N : Nat)
theorem m_s_l9Acts_ok (w0 : Base Ψ Φ []) (p0 : (List TAct)) (p1 : (List ByteArray)) (p2 : Int) (ph0 : RSl RTAct 5 Ψ pG0 pv0 p0) (ph1 : RSl RS 1 Ψ pG1 pv1 p1) {r : Bool} (h : m_s_l9Acts N p0 p1 p2 = some r) :
  CB w0 prog 44 [pv0, pv1, iV p2] (.bool r) := by
 refine eN func44 rfl ntmps44 rfl w0 fun hF => ?_
 unfold m_s_l9Acts at h
 refine att 10 [] rfl ?_
 refine lin (σ := Int) (fun s => [(0, pv0), (1, pv1), (2, iV p2), (7, iV s)]) (fun s => St w0 Φ [] []) (fun m s => m_s_l9Acts_l1 N p0 p1 p2 m s = some r) (0) N h (sx [] []) (fun n1 ih1 s hm => ?_)
 revert hm; revert s; intro s1 hm
 have h : m_s_l9Acts_l1 N p0 p1 p2 (n1 + 1) s1 = some r := hm
 show WT _ _ [(0, pv0), (1, pv1), (2, iV p2), (7, iV s1)] (St w0 Φ [] [])
 unfold m_s_l9Acts_l1 at h
 refine atr 5 [] rfl <| lnr ph0 rfl <| la rfl <| en ?_
 refine ch h rfl ?_ ?_ <;> intro h
 ·refine atr 8 [] rfl ?_
  obtain ⟨x1, hx1, h⟩ := bs h
  obtain ⟨cs1, F1, -, g1, hb1, hs1, r1⟩ := ph0.el (idx_some hx1).2.2
  obtain ⟨v1, G1, rfl, hq1, h1⟩ := r1
  obtain rfl := hq1.symm
  refine lia ph0 hx1 rfl <| lhx 0 5 g1 rfl <| qd h (m_s_ActOk_ok N · x1 h1 ·) rfl rfl rfl fun x2 h => arr 2 [] rfl ?_
  obtain ⟨b1, hb_1, h⟩ := bs h
  refine WL.cutN 16 [(37, .bool b1), (0, pv0), (1, pv1), (2, iV p2), (7, iV s1)] ?_ (fun K => ?_)
  rotate_left
  ·refine sp 21 hb_1 rfl (fun hb_1 => ?_) fun hb_1 => ?_
   ·refine arr 16 [] rfl ?_
    cases hb_1
    exact ku K
   ·refine arr 2 [] rfl <| ly rfl rfl ?_
    obtain ⟨x3, hx3, hb_1⟩ := bs hb_1
    obtain ⟨cs2, F2, -, g2, hb2, hs2, r2⟩ := ph0.el (idx_some hx3).2.2
    obtain ⟨v2, G2, rfl, hq2, h2⟩ := r2
    obtain rfl := hq2.symm
    refine lia ph0 hx3 rfl <| ly rfl rfl <| lf Fld_66_0 rfl rfl rfl <| ly rfl rfl <| lhx 0 0 g2 rfl <| arr 2 [] rfl ?_
    obtain ⟨b2, hb_2, hb_1⟩ := bs hb_1
    refine WL.cutN 8 [(36, .bool b2), (0, pv0), (1, pv1), (2, iV p2), (7, iV s1), (21, .bool false)] ?_ (fun K => ?_)
    rotate_left
    ·refine sp 28 hb_2 rfl (fun hb_2 => ?_) fun hb_2 => ?_
     ·refine arr 2 [] rfl <| ly rfl rfl ?_
      obtain ⟨x4, hx4, hb_2⟩ := bs hb_2
      obtain ⟨cs3, F3, -, g3, hb3, hs3, r3⟩ := ph0.el (idx_some hx4).2.2
      obtain ⟨v3, G3, rfl, hq3, h3⟩ := r3
      obtain rfl := hq3.symm
      refine lia ph0 hx4 rfl <| ly rfl rfl <| lf Fld_66_3 rfl rfl rfl <| ly rfl rfl <| lhx 3 0 g3 rfl <| arr 3 [] rfl ?_
      cases hb_2
      exact ku K
     ·refine arr 8 [] rfl ?_
      cases hb_2
      exact ku K
    refine la rfl ?_
    cases hb_1
    exact ku K
  refine en ?_
  refine ch h rfl ?_ ?_ <;> intro h
  ·refine att 4 [] rfl ?_
   exact rt hF h
  refine att 6 [] rfl ?_
  refine lin (σ := Int) (fun s => [(0, pv0), (1, pv1), (2, iV p2), (7, iV s1), (8, iV s)]) (fun s => St w0 Φ [] []) (fun m s => m_s_l9Acts_l2 N p0 p1 s1 (m_s_l9Acts_l1 N p0 p1 p2 n1) m s = some r) (0) N h (sx [] []) (fun n2 ih2 s hm => ?_)
  revert hm; revert s; intro s2 hm
  have h : m_s_l9Acts_l2 N p0 p1 s1 (m_s_l9Acts_l1 N p0 p1 p2 n1) (n2 + 1) s2 = some r := hm
  show WT _ _ [(0, pv0), (1, pv1), (2, iV p2), (7, iV s1), (8, iV s2)] (St w0 Φ [] [])
  unfold m_s_l9Acts_l2 at h
  refine atr 6 [] rfl ?_
  obtain ⟨x5, hx5, h⟩ := bs h
  obtain ⟨cs4, F4, -, g4, hb4, hs4, r4⟩ := ph0.el (idx_some hx5).2.2
  obtain ⟨v4, G4, rfl, hq4, h4⟩ := r4
  obtain rfl := hq4.symm
  refine lia ph0 hx5 rfl <| lf Fld_66_2 rfl rfl rfl <| lhx 2 0 g4 rfl <| lnr h4 rfl <| la rfl <| en ?_
  refine ch h rfl ?_ ?_ <;> intro h
  ·refine atr 7 [] rfl ?_
   obtain ⟨x6, hx6, h⟩ := bs h
   obtain ⟨cs5, F5, -, g5, hb5, hs5, r5⟩ := ph0.el (idx_some hx6).2.2
   obtain ⟨v5, G5, rfl, hq5, h5⟩ := r5
   obtain rfl := hq5.symm
   refine lia ph0 hx6 rfl <| lf Fld_66_2 rfl rfl rfl <| lhx 2 0 g5 rfl <| la rfl ?_
   obtain ⟨x7, hx7, h⟩ := bs h
   obtain ⟨cs6, F6, -, g6, hb6, hs6, r6⟩ := h5.el (idx_some hx7).2.2
   obtain ⟨rfl, -⟩ := r6
   refine lia h5 hx7 rfl <| lf Fld_116_1 rfl rfl rfl <| lhx 1 5 g6 rfl <| la rfl <| qd h (m_s_l9Known_ok N · x7.L p1 ph1 ·) rfl rfl rfl fun x8 h => arr 2 [] rfl ?_
   obtain ⟨b3, hb_3, h⟩ := bs h
   refine WL.cutN 13 [(73, .bool b3), (0, pv0), (1, pv1), (2, iV p2), (7, iV s1), (8, iV s2)] ?_ (fun K => ?_)
   rotate_left
   ·refine sp 60 hb_3 rfl (fun hb_3 => ?_) fun hb_3 => ?_
    ·refine arr 13 [] rfl ?_
     cases hb_3
     exact ku K
    ·refine arr 2 [] rfl <| ly rfl rfl ?_
     obtain ⟨x9, hx9, hb_3⟩ := bs hb_3
     obtain ⟨cs7, F7, -, g7, hb7, hs7, r7⟩ := ph0.el (idx_some hx9).2.2
     obtain ⟨v6, G6, rfl, hq6, h6⟩ := r7
     obtain rfl := hq6.symm
     refine lia ph0 hx9 rfl <| ly rfl rfl <| lf Fld_66_2 rfl rfl rfl <| ly rfl rfl <| lhx 2 0 g7 rfl <| ly rfl rfl <| la rfl <| ly rfl rfl ?_
     obtain ⟨x10, hx10, hb_3⟩ := bs hb_3
     obtain ⟨cs8, F8, -, g8, hb8, hs8, r8⟩ := h6.el (idx_some hx10).2.2
     obtain ⟨rfl, -⟩ := r8
     refine lia h6 hx10 rfl <| ly rfl rfl <| lf Fld_116_2 rfl rfl rfl <| ly rfl rfl <| lhx 6 5 g8 rfl <| ly rfl rfl <| la rfl <| ly rfl rfl <| qd hb_3 (m_s_l9Known_ok N · x10.R p1 ph1 ·) rfl rfl rfl fun x11 hb_3 => arr 2 [] rfl ?_
     cases hb_3
     exact ku K
   refine en ?_
   refine ch h rfl ?_ ?_ <;> intro h
   ·refine att 4 [] rfl ?_
    exact rt hF h
   refine att 7 [] rfl ?_
   exact lb [] [] (ih2 _ h)
  refine att 7 [] rfl ?_
  exact lb [] [] (ih1 _ h)
 refine atr 4 [] rfl <| lnr ph0 rfl <| qc h (m_s_l1In_ok N · (p0.length : Int) 1 6 ·) rfl rfl rfl fun x12 h => la rfl <| en ?_
 exact rt hF h
theorem m_s_PosCount_ok (w0 : Base Ψ Φ []) (p0 : TRule) (ph0_0 : RSl RTPat 3 Ψ pG0_0 pv0_0 p0.Pats) (ph0_1 : RSl RTCond 11 Ψ pG0_1 pv0_1 p0.Conds) (ph0_2 : RSl RTAct 5 Ψ pG0_2 pv0_2 p0.Acts) {r : Int} (h : m_s_PosCount N p0 = some r) :
  CB w0 prog 45 [.agg [.string p0.Name, iV p0.Sal, pv0_0, pv0_1, pv0_2].toArray] (iV r) := by
 refine eN func45 rfl ntmps45 rfl w0 fun hF => ?_
 unfold m_s_PosCount at h
 refine sr <| lbx rfl fun b_1 => art 12 [] rfl ?_
 refine lin (σ := Int × Int) (fun s => [(1, pQ b_1), (3, iV s.1), (4, iV s.2)]) (fun s => St w0 Φ [(b_1, .cells #[.string p0.Name, iV p0.Sal, pv0_0, pv0_1, pv0_2] 28 (0, 0))] []) (fun m s => m_s_PosCount_l1 N p0 m s.1 s.2 = some r) (0, 0) N h (sx [] [0]) (fun n1 ih1 s hm => ?_)
 obtain ⟨s1, s2⟩ := s
 have h : m_s_PosCount_l1 N p0 (n1 + 1) s1 s2 = some r := hm
 show WT _ _ [(1, pQ b_1), (3, iV s1), (4, iV s2)] (St w0 Φ [(b_1, .cells #[.string p0.Name, iV p0.Sal, pv0_0, pv0_1, pv0_2] 28 (0, 0))] [])
 unfold m_s_PosCount_l1 at h
 refine atr 6 [2, 0] rfl <| lnr ph0_0 rfl <| la rfl <| en ?_
 refine ch h rfl ?_ ?_ <;> intro h
 ·refine atr 8 [2, 0] rfl ?_
  obtain ⟨x1, hx1, h⟩ := bs h
  obtain ⟨cs1, F1, -, g1, hb1, hs1, r1⟩ := ph0_0.el (idx_some hx1).2.2
  obtain ⟨v1, G1, rfl, hq1, h1⟩ := r1
  obtain rfl := hq1.symm
  refine lia ph0_0 hx1 rfl <| lf Fld_35_2 rfl rfl rfl <| lhx 2 0 g1 rfl <| la rfl <| en ?_
  refine ch h rfl ?_ ?_ <;> intro h
  ·refine att 11 [] rfl ?_
   exact lb [] [0] (ih1 (_, _) h)
  refine att 7 [] rfl ?_
  exact lb [] [0] (ih1 (_, _) h)
 refine att 6 [] rfl ?_
 exact rt hF h
theorem m_s_RuleOk_ok (w0 : Base Ψ Φ []) (p0 : TRule) (ph0_0 : RSl RTPat 3 Ψ pG0_0 pv0_0 p0.Pats) (ph0_1 : RSl RTCond 11 Ψ pG0_1 pv0_1 p0.Conds) (ph0_2 : RSl RTAct 5 Ψ pG0_2 pv0_2 p0.Acts) {r : Bool} (h : m_s_RuleOk N p0 = some r) :
  CB w0 prog 11 [.agg [.string p0.Name, iV p0.Sal, pv0_0, pv0_1, pv0_2].toArray] (.bool r) := by
 refine eN func11 rfl ntmps11 rfl w0 fun hF => ?_
 unfold m_s_RuleOk at h
 refine sr <| lbx rfl fun b_1 => arr 5 [5] rfl <| kab h rfl rfl rfl (fun b z q => m_s_PosVars_ok N b p0 (ph0_0.y z) (ph0_1.y z) (ph0_2.y z) q) ?_
 rintro x1 h v1 Φ_1 F1 ⟨ap1, fr1, v2, rfl, rfl, h1⟩
 refine art 3 [] rfl <| WT.draw mixed (by kernel_rfl) (fun _ h => h.drew) <| aqq 2 [0, 0] rfl ?_
 obtain ⟨x2, hx2, h⟩ := bs h
 refine qp (p_call Fun_40 rfl (fun w1 hw => m_s_NameOk_ok N (ba hw.fro) p0.Name hx2)) rfl <| qq (q_move rfl) rfl ?_
 obtain ⟨b1, hb_1, h⟩ := bs h
 refine WQ.cutN 4 [(13, .bool b1), (1, pQ b_1), (3, v1)] ?_ (fun K => ?_)
 rotate_left
 ·refine WQ.split (d := 9) rfl (fun c1 => ?_) (fun c1 => ?_)
  ·replace hb_1 := ite_t hb_1 c1
   refine aqq 2 [1, 0] rfl <| WQ.yes rfl rfl ?_
   obtain ⟨x3, hx3, hb_1⟩ := bs hb_1
   refine qp (p_call Fun_41 rfl (fun w1 hw => m_s_l1In_ok N (ba hw.fro) p0.Sal (-100) 100 hx3)) rfl <| WQ.q (q_pick1 rfl rfl) rfl rfl rfl ?_
   cases hb_1
   exact kq K
  ·replace hb_1 := ite_f hb_1 c1
   refine aqq 4 [] rfl ?_
   cases hb_1
   exact kq K
 refine qq (q_move rfl) rfl ?_
 obtain ⟨b2, hb_2, h⟩ := bs h
 refine WQ.cutN 4 [(18, .bool b2), (1, pQ b_1), (3, v1)] ?_ (fun K => ?_)
 rotate_left
 ·refine WQ.split (d := 14) rfl (fun c2 => ?_) (fun c2 => ?_)
  ·replace hb_2 := ite_t hb_2 c2
   refine aqq 2 [2, 0] rfl <| WQ.yes rfl rfl ?_
   obtain ⟨x4, hx4, hb_2⟩ := bs hb_2
   refine qp (p_call Fun_42 rfl (fun w1 hw => m_s_l9Pats_ok N (ba hw.in0) p0.Pats ph0_0 hx4)) rfl <| WQ.q (q_pick1 rfl rfl) rfl rfl rfl ?_
   cases hb_2
   exact kq K
  ·replace hb_2 := ite_f hb_2 c2
   refine aqq 4 [] rfl ?_
   cases hb_2
   exact kq K
 refine qq (q_move rfl) rfl ?_
 obtain ⟨b3, hb_3, h⟩ := bs h
 refine WQ.cutN 5 [(24, .bool b3), (1, pQ b_1), (3, v1)] ?_ (fun K => ?_)
 rotate_left
 ·refine WQ.split (d := 19) rfl (fun c3 => ?_) (fun c3 => ?_)
  ·replace hb_3 := ite_t hb_3 c3
   refine aqq 3 [3, 0] rfl <| WQ.yes rfl rfl ?_
   obtain ⟨x5, hx5, hb_3⟩ := bs hb_3
   refine qp (p_call Fun_43 rfl (fun w1 hw => m_s_l9Conds_ok N (ba hw.fro) p0.Conds x1 (ph0_1.y hw.up) h1.rsl hx5)) rfl <| WQ.q (q_pick1 rfl rfl) rfl rfl rfl ?_
   cases hb_3
   exact kq K
  ·replace hb_3 := ite_f hb_3 c3
   refine aqq 5 [] rfl ?_
   cases hb_3
   exact kq K
 refine qq (q_move rfl) rfl ?_
 obtain ⟨b4, hb_4, h⟩ := bs h
 refine WQ.cutN 7 [(32, .bool b4)] ?_ (fun K => ?_)
 rotate_left
 ·refine WQ.split (d := 25) rfl (fun c4 => ?_) (fun c4 => ?_)
  ·replace hb_4 := ite_t hb_4 c4
   refine aqq 4 [4, 0, 5] rfl <| WQ.yes rfl rfl ?_
   obtain ⟨x6, hx6, hb_4⟩ := bs hb_4
   refine qp (p_call Fun_45 rfl (fun w1 hw => m_s_PosCount_ok N (ba hw.in0) p0 ph0_0 ph0_1 ph0_2 hx6)) rfl <| WQ.yes rfl rfl ?_
   obtain ⟨x7, hx7, hb_4⟩ := bs hb_4
   refine qp (p_call Fun_44 rfl (fun w1 hw => m_s_l9Acts_ok N (ba hw.fro) p0.Acts x1 x6 (ph0_2.y hw.up) h1.rsl hx7)) rfl <| WQ.q (q_pick1 rfl rfl) rfl rfl rfl ?_
   cases hb_4
   exact kq K
  ·replace hb_4 := ite_f hb_4 c4
   refine aqq 7 [] rfl ?_
   cases hb_4
   exact kq K
 refine aqt 2 [] rfl ?_
 exact rt hF h
theorem m_s_RuleAt_ok (w0 : Base Ψ Φ []) (p0 : TDef) (p1 : ByteArray) (ph0_0 : RSl RTRule 5 Ψ pG0_0 pv0_0 p0.Rules) {r : Int} (h : m_s_RuleAt N p0 p1 = some r) :
  CB w0 prog 53 [.agg [.string p0.Name, pv0_0].toArray, .string p1] (iV r) := by
 refine eN func53 rfl ntmps53 rfl w0 fun hF => ?_
 unfold m_s_RuleAt at h
 refine sr <| lbx rfl fun b_1 => art 8 [] rfl ?_
 refine lin (σ := Int) (fun s => [(1, .string p1), (2, pQ b_1), (5, iV s)]) (fun s => St w0 Φ [(b_1, .cells #[.string p0.Name, pv0_0] 38 (0, 0))] []) (fun m s => m_s_RuleAt_l1 N p0 p1 m s = some r) (0) N h (sx [] [0]) (fun n1 ih1 s hm => ?_)
 revert hm; revert s; intro s1 hm
 have h : m_s_RuleAt_l1 N p0 p1 (n1 + 1) s1 = some r := hm
 show WT _ _ [(1, .string p1), (2, pQ b_1), (5, iV s1)] (St w0 Φ [(b_1, .cells #[.string p0.Name, pv0_0] 38 (0, 0))] [])
 unfold m_s_RuleAt_l1 at h
 refine atr 6 [1, 0] rfl <| lnr ph0_0 rfl <| la rfl <| en ?_
 refine ch h rfl ?_ ?_ <;> intro h
 ·refine atr 8 [1, 0] rfl ?_
  obtain ⟨x1, hx1, h⟩ := bs h
  obtain ⟨cs1, F1, -, g1, hb1, hs1, r1⟩ := ph0_0.el (idx_some hx1).2.2
  obtain ⟨v1, G1, v2, G2, v3, G3, rfl, rfl, h1, h2, h3⟩ := r1
  refine lia ph0_0 hx1 rfl <| lf Fld_28_0 rfl rfl rfl <| lhx 0 0 g1 rfl <| art 3 [] rfl ?_
  refine ch h rfl ?_ ?_ <;> intro h
  ·refine att 5 [] rfl ?_
   exact rt hF h
  refine att 7 [] rfl ?_
  exact lb [] [0] (ih1 _ h)
 refine att 5 [] rfl ?_
 exact rt hF h
theorem m_s_DefOk_ok (w0 : Base Ψ Φ []) (p0 : TDef) (ph0_0 : RSl RTRule 5 Ψ pG0_0 pv0_0 p0.Rules) {r : Bool} (h : m_s_DefOk N p0 = some r) :
  CB w0 prog 16 [.agg [.string p0.Name, pv0_0].toArray] (.bool r) := by
 refine eN func16 rfl ntmps16 rfl w0 fun hF => ?_
 unfold m_s_DefOk at h
 refine sr <| lbx rfl fun b_1 => art 8 [] rfl ?_
 refine lin (σ := Int) (fun s => [(1, pQ b_1), (3, iV s)]) (fun s => St w0 Φ [(b_1, .cells #[.string p0.Name, pv0_0] 38 (0, 0))] []) (fun m s => m_s_DefOk_l1 N p0 m s = some r) (0) N h (sx [] [0]) (fun n1 ih1 s hm => ?_)
 revert hm; revert s; intro s1 hm
 have h : m_s_DefOk_l1 N p0 (n1 + 1) s1 = some r := hm
 show WT _ _ [(1, pQ b_1), (3, iV s1)] (St w0 Φ [(b_1, .cells #[.string p0.Name, pv0_0] 38 (0, 0))] [])
 unfold m_s_DefOk_l1 at h
 refine atr 6 [1, 0] rfl <| lnr ph0_0 rfl <| la rfl <| en ?_
 refine ch h rfl ?_ ?_ <;> intro h
 ·refine att 4 [] rfl <| WT.draw mixed (by kernel_rfl) (fun _ h => h.drew) <| aqq 3 [1, 0] rfl ?_
  obtain ⟨x1, hx1, h⟩ := bs h
  obtain ⟨cs1, F1, -, g1, hb1, hs1, r1⟩ := ph0_0.el (idx_some hx1).2.2
  obtain ⟨v1, G1, v2, G2, v3, G3, rfl, rfl, h1, h2, h3⟩ := r1
  refine qq (q_indexAddr Sl_36 rfl rfl ph0_0 hx1) rfl <| qq (q_loadN Tn_28 rfl (fun w1 hw => (g1.of_eq 0 5 rfl rfl : rg _ _ _ [.string x1.Name, iV x1.Sal, v1, v2, v3]).rangeAt hw.in0) rfl) rfl ?_
  obtain ⟨x2, hx2, h⟩ := bs h
  refine qp (p_call Fun_11 rfl (fun w1 hw => m_s_RuleOk_ok N (ba hw.in0) x1 h1 h2 h3 hx2)) rfl <| aqq 2 [] rfl ?_
  obtain ⟨b1, hb_1, h⟩ := bs h
  refine WQ.cutN 11 [(29, .bool b1), (1, pQ b_1), (3, iV s1)] ?_ (fun K => ?_)
  rotate_left
  ·refine WQ.split (d := 18) rfl (fun c2 => ?_) (fun c2 => ?_)
   ·replace hb_1 := ite_t hb_1 c2
    refine aqq 11 [] rfl ?_
    cases hb_1
    exact kq K
   ·replace hb_1 := ite_f hb_1 c2
    refine aqq 4 [2, 1, 0] rfl <| WQ.yes rfl rfl ?_
    obtain ⟨x3, hx3, hb_1⟩ := bs hb_1
    obtain ⟨cs2, F2, -, g2, hb2, hs2, r2⟩ := ph0_0.el (idx_some hx3).2.2
    obtain ⟨v4, G4, v5, G5, v6, G6, rfl, rfl, h4, h5, h6⟩ := r2
    refine qq (q_indexAddr Sl_36 rfl rfl ph0_0 hx3) rfl <| WQ.yes rfl rfl <| qq (q_fieldAddr Fld_28_0 rfl) rfl <| WQ.yes rfl rfl <| qq (q_load1 T1_9 rfl (fun w1 hw => (g2.of_eq 0 1 rfl rfl : rg _ _ _ [.string x3.Name]).rangeAt hw.in0)) rfl <| WQ.yes rfl rfl ?_
    obtain ⟨x4, hx4, hb_1⟩ := bs hb_1
    refine qp (p_call Fun_53 rfl (fun w1 hw => m_s_RuleAt_ok N (ba hw.in0) p0 x3.Name ph0_0 hx4)) rfl <| aqq 3 [] rfl ?_
    cases hb_1
    exact kq K
  refine WQ.nil ?_
  refine ch h rfl ?_ ?_ <;> intro h
  ·refine att 4 [] rfl ?_
   exact rt hF h
  refine att 7 [] rfl ?_
  exact lb [] [0] (ih1 _ h)
 refine atr 5 [0, 0] rfl <| qc h (m_s_NameOk_ok N · p0.Name ·) rfl rfl rfl fun x5 h => la rfl ?_
 obtain ⟨b2, hb_2, h⟩ := bs h
 refine WL.cutN 5 [(38, .bool b2)] ?_ (fun K => ?_)
 rotate_left
 ·refine sp 33 hb_2 rfl (fun hb_2 => ?_) fun hb_2 => ?_
  ·refine arr 2 [1, 0] rfl <| ly rfl rfl <| lnr ph0_0 rfl <| ly rfl rfl <| qc hb_2 (m_s_l1In_ok N · (p0.Rules.length : Int) 1 12 ·) rfl rfl rfl fun x6 hb_2 => la rfl ?_
   cases hb_2
   exact ku K
  ·refine arr 5 [] rfl ?_
   cases hb_2
   exact ku K
 refine la rfl <| en ?_
 exact rt hF h
theorem m_s_l2Num_ok (N : Nat) : ∀ {Ψ Φ : Hp}  (w0 : Base Ψ Φ []) (p0 : Int)  {r : ByteArray} (h : m_s_l2Num N p0 = some r),
  CB w0 prog 111 [iV p0] (.string r) := by
 induction N with
 | zero => intros; rename_i h; simp [m_s_l2Num] at h
 | succ N ih =>
 intro Ψ Φ w0 p0 r h
 refine eN func111 rfl ntmps111 rfl w0 fun hF => ?_
 unfold m_s_l2Num at h
 refine att 12 [] rfl ?_
 refine ch h rfl ?_ ?_ <;> intro h
 ·refine sr <| la rfl <| lq (q_neg rfl) rfl <| qc h (ih · (wz (0 - p0)) ·) rfl rfl rfl fun x1 h => ?_
  obtain ⟨z1, hz1, h⟩ := bs h
  refine lq (q_cat rfl rfl hz1) rfl <| la rfl <| en ?_
  exact rt hF h
 refine att 6 [] rfl ?_
 refine ch h rfl ?_ ?_ <;> intro h
 ·refine atr 4 [] rfl <| lq (q_convI Ik_3 Ik_5 rfl) rfl ?_
  have rc1 : RC (RI .u8) 1 Φ ([[]] : List (List Nat)) [.int .u8 (IntKind.u8.wrap (wz (48 + p0)))] ([(IntKind.u8.wrap (wz (48 + p0)))] : List Int) := RC.cons (c := [.int .u8 (IntKind.u8.wrap (wz (48 + p0)))]) (cells := []) ⟨rfl, rfl⟩ rfl (RC.nil _ _ _)
  refine le' (e_lit (vs := [(0, .int .u8 (IntKind.u8.wrap (wz (48 + p0))))]) (C := #[.int .u8 (IntKind.u8.wrap (wz (48 + p0)))]) RI.lasts Sl_22 Zr_5 rfl rfl rfl rfl (fill_made MC_5_1 (fill_cons (C' := [.int .u8 (IntKind.u8.wrap (wz (48 + p0)))]) rfl rfl rfl rfl rfl (fill_nil))) rfl rc1 rfl (by simpa using Kw.nil)) rfl ?_
  rintro v1 Φ_1 D1 ⟨fr1, h1⟩
  replace h1 : OSl (RI .u8) 5 1 Φ_1 [] v1 ([(IntKind.u8.wrap (wz (48 + p0)))] : List Int) := by simpa using h1
  refine lq (q_convB Sl_22 Ik_5 Str_9 rfl (fun w1 hw => h1.rsl)) rfl <| la rfl <| en ?_
  exact rt hF h
 refine att 3 [] rfl ?_
 refine cut (σ := Hp × ByteArray) (fun s => [(2, .string s.2)]) (fun s => St w0 s.1 [] []) (fun s => m_s_l2Num_j1 N s.2 = some r) (fun s hm => ?_) (fun K => ?_)
 ·clear h
  obtain ⟨Φ_3, s1⟩ := s
  have h : m_s_l2Num_j1 N s1 = some r := hm
  show WT _ _ [(2, .string s1)] (St w0 Φ_3 [] [])
  unfold m_s_l2Num_j1 at h
  exact rt hF h
 refine wm [] [] rfl <| amm 1 [0] [] rfl rfl <| mq 1 rfl (by kernel_rfl) (kN []) (q_quo rfl rfl (by decide)) rfl <| amm 1 [3] [] rfl rfl <| mq 4 rfl (by kernel_rfl) (kN []) (q_rem rfl rfl (by decide)) rfl <| amm 1 [5] [] rfl rfl <| mq 6 rfl (by kernel_rfl) (kN []) (q_convI Ik_3 Ik_5 rfl) rfl ?_
 refine WM.two 2 7 (by kernel_rfl) ?_ ?_
 ·obtain ⟨x3, hx3, h⟩ := bs h
  refine mp rfl (fun _ w1 hw => Kn.of Kf.nil aN hw) (p_call Fun_111 rfl (fun w1 hw => ih (ba hw.fro) (wz (p0.tdiv 10)) hx3)) rfl ?_
  have rc3 : RC (RI .u8) 1 Φ ([[]] : List (List Nat)) [.int .u8 (IntKind.u8.wrap (wz (48 + (p0.tmod 10))))] ([(IntKind.u8.wrap (wz (48 + (p0.tmod 10))))] : List Int) := RC.cons (c := [.int .u8 (IntKind.u8.wrap (wz (48 + (p0.tmod 10))))]) (cells := []) ⟨rfl, rfl⟩ rfl (RC.nil _ _ _)
  refine WM.one 7 (by kernel_rfl) (me rfl (fun _ v Φx D w1 hq hw => Kn.of Kf.nil aN hw) (e_lit (vs := [(0, .int .u8 (IntKind.u8.wrap (wz (48 + (p0.tmod 10)))))]) (C := #[.int .u8 (IntKind.u8.wrap (wz (48 + (p0.tmod 10))))]) RI.lasts Sl_22 Zr_5 rfl rfl rfl rfl (fill_made MC_5_1 (fill_cons (C' := [.int .u8 (IntKind.u8.wrap (wz (48 + (p0.tmod 10))))]) rfl rfl rfl rfl rfl (fill_nil))) rfl rc3 rfl (by simpa using Kw.nil)) rfl ?_)
  rintro v3 Φ_4 D3 ⟨fr3, h3⟩
  replace h3 : OSl (RI .u8) 5 1 Φ_4 [] v3 ([(IntKind.u8.wrap (wz (48 + (p0.tmod 10))))] : List Int) := by simpa using h3
  refine on1 8 (mv rfl (kS []) (q_convB Sl_22 Ik_5 Str_9 rfl (fun w1 hw => h3.rsl)) rfl ?_)
  obtain ⟨z3, hz3, h⟩ := bs h
  refine mq 9 rfl (by kernel_rfl) (kN []) (q_cat rfl rfl hz3) rfl <| amm 1 [10] [] rfl rfl <| WM.nil (by kernel_rfl) ?_
  exact wo [] [] (K (_, _) h)
 have rc4 : RC (RI .u8) 1 Φ ([[]] : List (List Nat)) [.int .u8 (IntKind.u8.wrap (wz (48 + (p0.tmod 10))))] ([(IntKind.u8.wrap (wz (48 + (p0.tmod 10))))] : List Int) := RC.cons (c := [.int .u8 (IntKind.u8.wrap (wz (48 + (p0.tmod 10))))]) (cells := []) ⟨rfl, rfl⟩ rfl (RC.nil _ _ _)
 refine me rfl (fun _ v Φx D w1 hq hw => Kn.of Kf.nil aN hw) (e_lit (vs := [(0, .int .u8 (IntKind.u8.wrap (wz (48 + (p0.tmod 10)))))]) (C := #[.int .u8 (IntKind.u8.wrap (wz (48 + (p0.tmod 10))))]) RI.lasts Sl_22 Zr_5 rfl rfl rfl rfl (fill_made MC_5_1 (fill_cons (C' := [.int .u8 (IntKind.u8.wrap (wz (48 + (p0.tmod 10))))]) rfl rfl rfl rfl rfl (fill_nil))) rfl rc4 rfl (by simpa using Kw.nil)) rfl ?_
 rintro v4 Φ_5 D4 ⟨fr4, h4⟩
 replace h4 : OSl (RI .u8) 5 1 Φ_5 [] v4 ([(IntKind.u8.wrap (wz (48 + (p0.tmod 10))))] : List Int) := by simpa using h4
 refine WM.two 2 8 (by kernel_rfl) ?_ ?_
 ·obtain ⟨x4, hx4, h⟩ := bs h
  refine mp rfl (fun _ w1 hw => Kn.of Kf.nil aN hw) (p_call Fun_111 rfl (fun w1 hw => ih (ba hw.fro) (wz (p0.tdiv 10)) hx4)) rfl ?_
  refine on1 8 (mv rfl (kS []) (q_convB Sl_22 Ik_5 Str_9 rfl (fun w1 hw => h4.rsl)) rfl ?_)
  obtain ⟨z4, hz4, h⟩ := bs h
  refine mq 9 rfl (by kernel_rfl) (kN []) (q_cat rfl rfl hz4) rfl <| amm 1 [10] [] rfl rfl <| WM.nil (by kernel_rfl) ?_
  exact wo [] [] (K (_, _) h)
 refine mv rfl (fun _ w1 hw => Kn.of Kf.nil aN hw) (q_convB Sl_22 Ik_5 Str_9 rfl (fun w1 hw => h4.rsl)) rfl ?_
 obtain ⟨x5, hx5, h⟩ := bs h
 refine on1 2 (mp rfl (kS []) (pcP rfl (ih · (wz (p0.tdiv 10)) hx5)) rfl ?_)
 obtain ⟨z5, hz5, h⟩ := bs h
 refine mq 9 rfl (by kernel_rfl) (kN []) (q_cat rfl rfl hz5) rfl <| amm 1 [10] [] rfl rfl <| WM.nil (by kernel_rfl) ?_
 exact wo [] [] (K (_, _) h)
theorem m_s_l2Text_ok  (w0 : Base Ψ Φ []) (p0 : TVal)  {r : ByteArray} (h : m_s_l2Text N p0 = some r) :
  CB w0 prog 205 [.agg [iV p0.K, iV p0.N, .string p0.S].toArray] (.string r) := by
 refine eN func205 rfl ntmps205 rfl w0 fun hF => ?_
 unfold m_s_l2Text at h
 refine sr <| lbx rfl fun b_1 => art 9 [0, 0] rfl ?_
 refine ch h rfl ?_ ?_ <;> intro h
 ·refine atr 4 [1, 0] rfl <| qc h (m_s_l2Num_ok N · p0.N ·) rfl rfl rfl fun x1 h => la rfl <| en ?_
  exact rt hF h
 refine atr 5 [2, 0] rfl ?_
 obtain ⟨z1, hz1, h⟩ := bs h
 refine lq (q_cat rfl rfl hz1) rfl ?_
 obtain ⟨z2, hz2, h⟩ := bs h
 refine lq (q_cat rfl rfl hz2) rfl <| la rfl <| en ?_
 exact rt hF h
theorem m_s_l6ArgText_ok  (w0 : Base Ψ Φ []) (p0 : TArg)  {r : ByteArray} (h : m_s_l6ArgText N p0 = some r) :
  CB w0 prog 166 [.agg [iV p0.K, .string p0.S, iV p0.V.K, iV p0.V.N, .string p0.V.S].toArray] (.string r) := by
 refine eN func166 rfl ntmps166 rfl w0 fun hF => ?_
 unfold m_s_l6ArgText at h
 refine sr <| lbx rfl fun b_1 => art 14 [0, 0] rfl ?_
 refine ch h rfl ?_ ?_ <;> intro h
 ·refine att 6 [1, 0] rfl ?_
  exact rt hF h
 refine att 5 [] rfl ?_
 refine ch h rfl ?_ ?_ <;> intro h
 ·refine atr 4 [2, 3] rfl <| qc h (m_s_l2Text_ok N · p0.V ·) rfl rfl rfl fun x1 h => la rfl <| en ?_
  exact rt hF h
 refine att 6 [] rfl ?_
 exact rt hF h
theorem m_s_PatText_ok (w0 : Base Ψ Φ []) (p0 : TPat) (ph0_0 : RSl RTArg 5 Ψ pG0_0 pv0_0 p0.Args) {r : ByteArray} (h : m_s_PatText N p0 = some r) :
  CB w0 prog 112 [.agg [.string p0.Kind, pv0_0, .bool p0.Not].toArray] (.string r) := by
 refine eN func112 rfl ntmps112 rfl w0 fun hF => ?_
 unfold m_s_PatText at h
 refine sr <| lbx rfl fun b_1 => arr 6 [3] rfl <| qd h (m_s_PatOk_ok N · p0 ph0_0 ·) rfl rfl rfl fun x1 h => la rfl <| en ?_
 refine ch h rfl ?_ ?_ <;> intro h
 ·refine att 4 [] rfl ?_
  exact rt hF h
 refine atr 5 [0, 0] rfl ?_
 obtain ⟨z1, hz1, h⟩ := bs h
 refine lq (q_cat rfl rfl hz1) rfl <| art 8 [2, 0] rfl ?_
 refine cut (σ := ByteArray) (fun s => [(1, pQ b_1), (3, .string s)]) (fun s => St w0 Φ [(b_1, .cells #[.string p0.Kind, pv0_0, .bool p0.Not] 35 (0, 0))] []) (fun s => m_s_PatText_j1 N p0 s = some r) (fun s hm => ?_) (fun K => ?_)
 ·clear h
  revert hm; revert s; intro s1 hm
  have h : m_s_PatText_j1 N p0 s1 = some r := hm
  show WT _ _ [(1, pQ b_1), (3, .string s1)] (St w0 Φ [(b_1, .cells #[.string p0.Kind, pv0_0, .bool p0.Not] 35 (0, 0))] [])
  unfold m_s_PatText_j1 at h
  refine att 6 [] rfl ?_
  refine lin (σ := ByteArray × Int) (fun s => [(1, pQ b_1), (3, .string s.1), (4, iV s.2)]) (fun s => St w0 Φ [(b_1, .cells #[.string p0.Kind, pv0_0, .bool p0.Not] 35 (0, 0))] []) (fun m s => m_s_PatText_l2 N p0 m s.1 s.2 = some r) (s1, 0) N h (sx [] [0]) (fun n2 ih2 s hm => ?_)
  obtain ⟨s2, s3⟩ := s
  have h : m_s_PatText_l2 N p0 (n2 + 1) s2 s3 = some r := hm
  show WT _ _ [(1, pQ b_1), (3, .string s2), (4, iV s3)] (St w0 Φ [(b_1, .cells #[.string p0.Kind, pv0_0, .bool p0.Not] 35 (0, 0))] [])
  unfold m_s_PatText_l2 at h
  refine atr 6 [1, 0] rfl <| lnr ph0_0 rfl <| la rfl <| en ?_
  refine ch h rfl ?_ ?_ <;> intro h
  ·refine att 9 [] rfl ?_
   refine cut (σ := ByteArray) (fun s => [(1, pQ b_1), (3, .string s), (4, iV s3)]) (fun s => St w0 Φ [(b_1, .cells #[.string p0.Kind, pv0_0, .bool p0.Not] 35 (0, 0))] []) (fun s => m_s_PatText_j3 N p0 s3 (m_s_PatText_l2 N p0 n2) s = some r) (fun s hm => ?_) (fun K => ?_)
   ·clear h
    revert hm; revert s; intro s4 hm
    have h : m_s_PatText_j3 N p0 s3 (m_s_PatText_l2 N p0 n2) s4 = some r := hm
    show WT _ _ [(1, pQ b_1), (3, .string s4), (4, iV s3)] (St w0 Φ [(b_1, .cells #[.string p0.Kind, pv0_0, .bool p0.Not] 35 (0, 0))] [])
    unfold m_s_PatText_j3 at h
    refine atr 5 [1, 0] rfl ?_
    obtain ⟨x2, hx2, h⟩ := bs h
    obtain ⟨cs1, F1, -, g1, hb1, hs1, r1⟩ := ph0_0.el (idx_some hx2).2.2
    obtain ⟨rfl, -⟩ := r1
    refine lia ph0_0 hx2 rfl <| lhx 0 5 g1 rfl <| qc h (m_s_l6ArgText_ok N · x2 ·) rfl rfl rfl fun x3 h => ?_
    obtain ⟨z2, hz2, h⟩ := bs h
    refine lq (q_cat rfl rfl hz2) rfl <| art 8 [] rfl ?_
    exact lb [] [0] (ih2 (_, _) h)
   refine ch h rfl ?_ ?_ <;> intro h
   ·refine atr 2 [] rfl ?_
    obtain ⟨z3, hz3, h⟩ := bs h
    refine lq (q_cat rfl rfl hz3) rfl <| la rfl <| en ?_
    exact wo [] [0] (K _ h)
   refine WT.skip ?_
   exact wo [] [0] (K _ h)
  refine atr 4 [] rfl ?_
  obtain ⟨z4, hz4, h⟩ := bs h
  refine lq (q_cat rfl rfl hz4) rfl <| la rfl <| en ?_
  exact rt hF h
 refine ch h rfl ?_ ?_ <;> intro h
 ·refine atr 2 [] rfl ?_
  obtain ⟨z5, hz5, h⟩ := bs h
  refine lq (q_cat rfl rfl hz5) rfl <| la rfl <| en ?_
  exact wo [] [0] (K _ h)
 refine WT.skip ?_
 exact wo [] [0] (K _ h)
theorem m_s_CondText_ok  (w0 : Base Ψ Φ []) (p0 : TCond)  {r : ByteArray} (h : m_s_CondText N p0 = some r) :
  CB w0 prog 113 [.agg [iV p0.Op, iV p0.L.K, .string p0.L.S, iV p0.L.V.K, iV p0.L.V.N, .string p0.L.V.S, iV p0.R.K, .string p0.R.S, iV p0.R.V.K, iV p0.R.V.N, .string p0.R.V.S].toArray] (.string r) := by
 refine eN func113 rfl ntmps113 rfl w0 fun hF => ?_
 unfold m_s_CondText at h
 refine sr <| lbx rfl fun b_1 => arr 6 [11] rfl <| qc h (m_s_CondOk_ok N · p0 ·) rfl rfl rfl fun x1 h => la rfl <| en ?_
 refine ch h rfl ?_ ?_ <;> intro h
 ·refine att 4 [] rfl ?_
  exact rt hF h
 refine atr 3 [] rfl ?_
 have rc1 : RC RS 1 Φ ([[], [], []] : List (List Nat)) [.string (⟨#[61]⟩ : ByteArray), .string (⟨#[35]⟩ : ByteArray), .string (⟨#[60]⟩ : ByteArray)] ([(⟨#[61]⟩ : ByteArray), (⟨#[35]⟩ : ByteArray), (⟨#[60]⟩ : ByteArray)] : List ByteArray) := RC.cons (c := [.string (⟨#[61]⟩ : ByteArray)]) (cells := [.string (⟨#[35]⟩ : ByteArray), .string (⟨#[60]⟩ : ByteArray)]) ⟨rfl, rfl⟩ rfl (RC.cons (c := [.string (⟨#[35]⟩ : ByteArray)]) (cells := [.string (⟨#[60]⟩ : ByteArray)]) ⟨rfl, rfl⟩ rfl (RC.cons (c := [.string (⟨#[60]⟩ : ByteArray)]) (cells := []) ⟨rfl, rfl⟩ rfl (RC.nil _ _ _)))
 refine le' (e_lit (vs := [(0, .string (⟨#[61]⟩ : ByteArray)), (1, .string (⟨#[35]⟩ : ByteArray)), (2, .string (⟨#[60]⟩ : ByteArray))]) (C := #[.string (⟨#[61]⟩ : ByteArray), .string (⟨#[35]⟩ : ByteArray), .string (⟨#[60]⟩ : ByteArray)]) RS.lasts Sl_68 Zr_9 rfl rfl rfl rfl (fill_made MC_9_3 (fill_cons (C' := [.string (⟨#[61]⟩ : ByteArray), .string ⟨#[]⟩, .string ⟨#[]⟩]) rfl rfl rfl rfl rfl (fill_cons (C' := [.string (⟨#[61]⟩ : ByteArray), .string (⟨#[35]⟩ : ByteArray), .string ⟨#[]⟩]) rfl rfl rfl rfl rfl (fill_cons (C' := [.string (⟨#[61]⟩ : ByteArray), .string (⟨#[35]⟩ : ByteArray), .string (⟨#[60]⟩ : ByteArray)]) rfl rfl rfl rfl rfl (fill_nil))))) rfl rc1 rfl (by simpa using Kw.nil)) rfl ?_
 rintro v1 Φ_1 D1 ⟨fr1, h1⟩
 replace h1 : OSl RS 9 1 Φ_1 [] v1 ([(⟨#[61]⟩ : ByteArray), (⟨#[35]⟩ : ByteArray), (⟨#[60]⟩ : ByteArray)] : List ByteArray) := by simpa using h1
 refine art 3 [] rfl <| WT.draw mixed (by kernel_rfl) (fun _ h => h.drew) <| aqq 2 [1, 5] rfl ?_
 obtain ⟨x2, hx2, h⟩ := bs h
 refine qp (p_call Fun_166 rfl (fun w1 hw => m_s_l6ArgText_ok N (ba hw.fro) p0.L hx2)) rfl ?_
 obtain ⟨z1, hz1, h⟩ := bs h
 refine qq (q_cat rfl rfl hz1) rfl <| aqq 4 [0, 0] rfl ?_
 obtain ⟨x3, hx3, h⟩ := bs h
 obtain ⟨cs1, F1, -, g1, hb1, hs1, r1⟩ := h1.elS (idx_some hx3).2.2
 obtain ⟨rfl, -⟩ := r1
 refine qq (q_indexAddr Sl_68 rfl rfl h1.rsl hx3) rfl <| qq (q_load1 T1_9 rfl (fun w1 hw => (g1.of_eq 0 1 rfl rfl : rg _ _ _ [.string x3]).rangeAt hw.fro)) rfl ?_
 obtain ⟨z2, hz2, h⟩ := bs h
 refine qq (q_cat rfl rfl hz2) rfl ?_
 obtain ⟨z3, hz3, h⟩ := bs h
 refine qq (q_cat rfl rfl hz3) rfl <| aqq 2 [6, 5] rfl ?_
 obtain ⟨x4, hx4, h⟩ := bs h
 refine qp (p_call Fun_166 rfl (fun w1 hw => m_s_l6ArgText_ok N (ba hw.fro) p0.R hx4)) rfl ?_
 obtain ⟨z4, hz4, h⟩ := bs h
 refine qq (q_cat rfl rfl hz4) rfl <| aqt 2 [] rfl ?_
 exact rt hF h
theorem m_s_ExprText_ok  (w0 : Base Ψ Φ []) (p0 : TExpr)  {r : ByteArray} (h : m_s_ExprText N p0 = some r) :
  CB w0 prog 206 [.agg [.string p0.Op, iV p0.L.K, .string p0.L.S, iV p0.L.V.K, iV p0.L.V.N, .string p0.L.V.S, iV p0.R.K, .string p0.R.S, iV p0.R.V.K, iV p0.R.V.N, .string p0.R.V.S].toArray] (.string r) := by
 refine eN func206 rfl ntmps206 rfl w0 fun hF => ?_
 unfold m_s_ExprText at h
 refine sr <| lbx rfl fun b_1 => arr 6 [11] rfl <| qc h (m_s_ExprOk_ok N · p0 ·) rfl rfl rfl fun x1 h => la rfl <| en ?_
 refine ch h rfl ?_ ?_ <;> intro h
 ·refine att 4 [] rfl ?_
  exact rt hF h
 refine att 8 [0, 0] rfl ?_
 refine ch h rfl ?_ ?_ <;> intro h
 ·refine atr 4 [1, 5] rfl <| qc h (m_s_l6ArgText_ok N · p0.L ·) rfl rfl rfl fun x2 h => la rfl <| en ?_
  exact rt hF h
 refine att 2 [] rfl <| WT.draw mixed (by kernel_rfl) (fun _ h => h.drew) <| aqq 2 [1, 5] rfl ?_
 obtain ⟨x3, hx3, h⟩ := bs h
 refine qp (p_call Fun_166 rfl (fun w1 hw => m_s_l6ArgText_ok N (ba hw.fro) p0.L hx3)) rfl ?_
 obtain ⟨z1, hz1, h⟩ := bs h
 refine qq (q_cat rfl rfl hz1) rfl <| aqq 2 [0, 0] rfl ?_
 obtain ⟨z2, hz2, h⟩ := bs h
 refine qq (q_cat rfl rfl hz2) rfl ?_
 obtain ⟨z3, hz3, h⟩ := bs h
 refine qq (q_cat rfl rfl hz3) rfl <| aqq 2 [6, 5] rfl ?_
 obtain ⟨x4, hx4, h⟩ := bs h
 refine qp (p_call Fun_166 rfl (fun w1 hw => m_s_l6ArgText_ok N (ba hw.fro) p0.R hx4)) rfl ?_
 obtain ⟨z4, hz4, h⟩ := bs h
 refine qq (q_cat rfl rfl hz4) rfl <| aqt 2 [] rfl ?_
 exact rt hF h
theorem m_s_l8ArgsText_ok (w0 : Base Ψ Φ []) (p0 : TAct) (ph0_0 : RSl RTExpr 11 Ψ pG0_0 pv0_0 p0.Args) {r : ByteArray} (h : m_s_l8ArgsText N p0 = some r) :
  CB w0 prog 167 [.agg [iV p0.Kind, .string p0.Name, pv0_0, iV p0.N, .string p0.Undo].toArray] (.string r) := by
 refine eN func167 rfl ntmps167 rfl w0 fun hF => ?_
 unfold m_s_l8ArgsText at h
 refine sr <| lbx rfl fun b_1 => arr 6 [1, 0] rfl ?_
 obtain ⟨z1, hz1, h⟩ := bs h
 refine lq (q_cat rfl rfl hz1) rfl <| art 8 [] rfl ?_
 refine lin (σ := ByteArray × Int) (fun s => [(1, pQ b_1), (3, .string s.1), (4, iV s.2)]) (fun s => St w0 Φ [(b_1, .cells #[iV p0.Kind, .string p0.Name, pv0_0, iV p0.N, .string p0.Undo] 66 (0, 0))] []) (fun m s => m_s_l8ArgsText_l1 N p0 m s.1 s.2 = some r) (z1, 0) N h (sx [] [0]) (fun n1 ih1 s hm => ?_)
 obtain ⟨s1, s2⟩ := s
 have h : m_s_l8ArgsText_l1 N p0 (n1 + 1) s1 s2 = some r := hm
 show WT _ _ [(1, pQ b_1), (3, .string s1), (4, iV s2)] (St w0 Φ [(b_1, .cells #[iV p0.Kind, .string p0.Name, pv0_0, iV p0.N, .string p0.Undo] 66 (0, 0))] [])
 unfold m_s_l8ArgsText_l1 at h
 refine atr 6 [2, 0] rfl <| lnr ph0_0 rfl <| la rfl <| en ?_
 refine ch h rfl ?_ ?_ <;> intro h
 ·refine att 9 [] rfl ?_
  refine cut (σ := ByteArray) (fun s => [(1, pQ b_1), (3, .string s), (4, iV s2)]) (fun s => St w0 Φ [(b_1, .cells #[iV p0.Kind, .string p0.Name, pv0_0, iV p0.N, .string p0.Undo] 66 (0, 0))] []) (fun s => m_s_l8ArgsText_j2 N p0 s2 (m_s_l8ArgsText_l1 N p0 n1) s = some r) (fun s hm => ?_) (fun K => ?_)
  ·clear h
   revert hm; revert s; intro s3 hm
   have h : m_s_l8ArgsText_j2 N p0 s2 (m_s_l8ArgsText_l1 N p0 n1) s3 = some r := hm
   show WT _ _ [(1, pQ b_1), (3, .string s3), (4, iV s2)] (St w0 Φ [(b_1, .cells #[iV p0.Kind, .string p0.Name, pv0_0, iV p0.N, .string p0.Undo] 66 (0, 0))] [])
   unfold m_s_l8ArgsText_j2 at h
   refine atr 5 [2, 0] rfl ?_
   obtain ⟨x1, hx1, h⟩ := bs h
   obtain ⟨cs1, F1, -, g1, hb1, hs1, r1⟩ := ph0_0.el (idx_some hx1).2.2
   obtain ⟨rfl, -⟩ := r1
   refine lia ph0_0 hx1 rfl <| lhx 0 11 g1 rfl <| qc h (m_s_ExprText_ok N · x1 ·) rfl rfl rfl fun x2 h => ?_
   obtain ⟨z2, hz2, h⟩ := bs h
   refine lq (q_cat rfl rfl hz2) rfl <| art 8 [] rfl ?_
   exact lb [] [0] (ih1 (_, _) h)
  refine ch h rfl ?_ ?_ <;> intro h
  ·refine atr 2 [] rfl ?_
   obtain ⟨z3, hz3, h⟩ := bs h
   refine lq (q_cat rfl rfl hz3) rfl <| la rfl <| en ?_
   exact wo [] [0] (K _ h)
  refine WT.skip ?_
  exact wo [] [0] (K _ h)
 refine atr 4 [] rfl ?_
 obtain ⟨z4, hz4, h⟩ := bs h
 refine lq (q_cat rfl rfl hz4) rfl <| la rfl <| en ?_
 exact rt hF h
theorem m_s_ActText_ok (w0 : Base Ψ Φ []) (p0 : TAct) (ph0_0 : RSl RTExpr 11 Ψ pG0_0 pv0_0 p0.Args) {r : ByteArray} (h : m_s_ActText N p0 = some r) :
  CB w0 prog 114 [.agg [iV p0.Kind, .string p0.Name, pv0_0, iV p0.N, .string p0.Undo].toArray] (.string r) := by
 refine eN func114 rfl ntmps114 rfl w0 fun hF => ?_
 unfold m_s_ActText at h
 refine sr <| lbx rfl fun b_1 => arr 6 [5] rfl <| qd h (m_s_ActOk_ok N · p0 ph0_0 ·) rfl rfl rfl fun x1 h => la rfl <| en ?_
 refine ch h rfl ?_ ?_ <;> intro h
 ·refine att 4 [] rfl ?_
  exact rt hF h
 refine att 13 [0, 0] rfl ?_
 refine ch h rfl ?_ ?_ <;> intro h
 ·refine atr 3 [5] rfl <| qd h (m_s_l8ArgsText_ok N · p0 ph0_0 ·) rfl rfl rfl fun x2 h => ?_
  obtain ⟨z1, hz1, h⟩ := bs h
  refine lq (q_cat rfl rfl hz1) rfl <| la rfl <| en ?_
  exact rt hF h
 refine att 5 [] rfl ?_
 refine ch h rfl ?_ ?_ <;> intro h
 ·refine atr 4 [3, 0] rfl <| qc h (m_s_l2Num_ok N · p0.N ·) rfl rfl rfl fun x3 h => ?_
  obtain ⟨z2, hz2, h⟩ := bs h
  refine lq (q_cat rfl rfl hz2) rfl <| la rfl <| en ?_
  exact rt hF h
 refine att 5 [] rfl ?_
 refine ch h rfl ?_ ?_ <;> intro h
 ·refine sq <| WT.draw mixed (by kernel_rfl) (fun _ h => h.drew) <| aqq 2 [3, 0] rfl ?_
  obtain ⟨x4, hx4, h⟩ := bs h
  refine qp (p_call Fun_111 rfl (fun w1 hw => m_s_l2Num_ok N (ba hw.fro) p0.N hx4)) rfl ?_
  obtain ⟨z3, hz3, h⟩ := bs h
  refine qq (q_cat rfl rfl hz3) rfl ?_
  obtain ⟨z4, hz4, h⟩ := bs h
  refine qq (q_cat rfl rfl hz4) rfl <| qq (q_loadN Tn_66 rfl (fun w1 hw => hw.rgO (i := 0) rfl 0 5 [iV p0.Kind, .string p0.Name, pv0_0, iV p0.N, .string p0.Undo] rfl) rfl) rfl ?_
  obtain ⟨x5, hx5, h⟩ := bs h
  refine qp (p_call Fun_167 rfl (fun w1 hw => m_s_l8ArgsText_ok N (ba hw.in0) p0 ph0_0 hx5)) rfl ?_
  obtain ⟨z5, hz5, h⟩ := bs h
  refine qq (q_cat rfl rfl hz5) rfl <| aqt 2 [] rfl ?_
  exact rt hF h
 refine att 5 [] rfl ?_
 refine ch h rfl ?_ ?_ <;> intro h
 ·refine att 4 [] rfl ?_
  exact rt hF h
 refine att 5 [] rfl ?_
 refine ch h rfl ?_ ?_ <;> intro h
 ·refine att 4 [] rfl ?_
  exact rt hF h
 refine att 9 [4, 0] rfl ?_
 refine ch h rfl ?_ ?_ <;> intro h
 ·refine atr 3 [5] rfl <| qd h (m_s_l8ArgsText_ok N · p0 ph0_0 ·) rfl rfl rfl fun x6 h => ?_
  obtain ⟨z6, hz6, h⟩ := bs h
  refine lq (q_cat rfl rfl hz6) rfl <| la rfl <| en ?_
  exact rt hF h
 refine att 2 [] rfl <| WT.draw mixed (by kernel_rfl) (fun _ h => h.drew) <| qq (q_loadN Tn_66 rfl (fun w1 hw => hw.rgO (i := 0) rfl 0 5 [iV p0.Kind, .string p0.Name, pv0_0, iV p0.N, .string p0.Undo] rfl) rfl) rfl ?_
 obtain ⟨x7, hx7, h⟩ := bs h
 refine qp (p_call Fun_167 rfl (fun w1 hw => m_s_l8ArgsText_ok N (ba hw.in0) p0 ph0_0 hx7)) rfl ?_
 obtain ⟨z7, hz7, h⟩ := bs h
 refine qq (q_cat rfl rfl hz7) rfl ?_
 obtain ⟨z8, hz8, h⟩ := bs h
 refine qq (q_cat rfl rfl hz8) rfl <| aqq 2 [4, 0] rfl ?_
 obtain ⟨z9, hz9, h⟩ := bs h
 refine qq (q_cat rfl rfl hz9) rfl <| aqt 2 [] rfl ?_
 exact rt hF h
theorem m_s_l9Text_ok (w0 : Base Ψ Φ []) (p0 : TRule) (ph0_0 : RSl RTPat 3 Ψ pG0_0 pv0_0 p0.Pats) (ph0_1 : RSl RTCond 11 Ψ pG0_1 pv0_1 p0.Conds) (ph0_2 : RSl RTAct 5 Ψ pG0_2 pv0_2 p0.Acts) {r : ByteArray} (h : m_s_l9Text N p0 = some r) :
  CB w0 prog 57 [.agg [.string p0.Name, iV p0.Sal, pv0_0, pv0_1, pv0_2].toArray] (.string r) := by
 refine eN func57 rfl ntmps57 rfl w0 fun hF => ?_
 unfold m_s_l9Text at h
 refine sr <| lbx rfl fun b_1 => art 3 [] rfl <| WT.draw mixed (by kernel_rfl) (fun _ h => h.drew) <| aqq 2 [0, 0] rfl ?_
 obtain ⟨z1, hz1, h⟩ := bs h
 refine qq (q_cat rfl rfl hz1) rfl ?_
 obtain ⟨z2, hz2, h⟩ := bs h
 refine qq (q_cat rfl rfl hz2) rfl <| aqq 2 [1, 0] rfl ?_
 obtain ⟨x1, hx1, h⟩ := bs h
 refine qp (p_call Fun_111 rfl (fun w1 hw => m_s_l2Num_ok N (ba hw.fro) p0.Sal hx1)) rfl ?_
 obtain ⟨z3, hz3, h⟩ := bs h
 refine qq (q_cat rfl rfl hz3) rfl ?_
 obtain ⟨z4, hz4, h⟩ := bs h
 refine qq (q_cat rfl rfl hz4) rfl <| aqt 8 [] rfl ?_
 refine lin (σ := ByteArray × Int) (fun s => [(1, pQ b_1), (3, .string s.1), (4, iV s.2)]) (fun s => St w0 Φ [(b_1, .cells #[.string p0.Name, iV p0.Sal, pv0_0, pv0_1, pv0_2] 28 (0, 0))] []) (fun m s => m_s_l9Text_l1 N p0 m s.1 s.2 = some r) (z4, 0) N h (sx [] [0]) (fun n1 ih1 s hm => ?_)
 obtain ⟨s1, s2⟩ := s
 have h : m_s_l9Text_l1 N p0 (n1 + 1) s1 s2 = some r := hm
 show WT _ _ [(1, pQ b_1), (3, .string s1), (4, iV s2)] (St w0 Φ [(b_1, .cells #[.string p0.Name, iV p0.Sal, pv0_0, pv0_1, pv0_2] 28 (0, 0))] [])
 unfold m_s_l9Text_l1 at h
 refine atr 6 [2, 0] rfl <| lnr ph0_0 rfl <| la rfl <| en ?_
 refine ch h rfl ?_ ?_ <;> intro h
 ·refine att 9 [] rfl ?_
  refine cut (σ := ByteArray) (fun s => [(1, pQ b_1), (3, .string s), (4, iV s2)]) (fun s => St w0 Φ [(b_1, .cells #[.string p0.Name, iV p0.Sal, pv0_0, pv0_1, pv0_2] 28 (0, 0))] []) (fun s => m_s_l9Text_j2 N p0 s2 (m_s_l9Text_l1 N p0 n1) s = some r) (fun s hm => ?_) (fun K => ?_)
  ·clear h
   revert hm; revert s; intro s3 hm
   have h : m_s_l9Text_j2 N p0 s2 (m_s_l9Text_l1 N p0 n1) s3 = some r := hm
   show WT _ _ [(1, pQ b_1), (3, .string s3), (4, iV s2)] (St w0 Φ [(b_1, .cells #[.string p0.Name, iV p0.Sal, pv0_0, pv0_1, pv0_2] 28 (0, 0))] [])
   unfold m_s_l9Text_j2 at h
   refine atr 5 [2, 0] rfl ?_
   obtain ⟨x2, hx2, h⟩ := bs h
   obtain ⟨cs1, F1, -, g1, hb1, hs1, r1⟩ := ph0_0.el (idx_some hx2).2.2
   obtain ⟨v1, G1, rfl, hq1, h1⟩ := r1
   obtain rfl := hq1.symm
   refine lia ph0_0 hx2 rfl <| lhx 0 3 g1 rfl <| qd h (m_s_PatText_ok N · x2 h1 ·) rfl rfl rfl fun x3 h => ?_
   obtain ⟨z5, hz5, h⟩ := bs h
   refine lq (q_cat rfl rfl hz5) rfl <| art 8 [] rfl ?_
   exact lb [] [0] (ih1 (_, _) h)
  refine ch h rfl ?_ ?_ <;> intro h
  ·refine atr 2 [] rfl ?_
   obtain ⟨z6, hz6, h⟩ := bs h
   refine lq (q_cat rfl rfl hz6) rfl <| la rfl <| en ?_
   exact wo [] [0] (K _ h)
  refine WT.skip ?_
  exact wo [] [0] (K _ h)
 refine att 7 [] rfl ?_
 refine lin (σ := ByteArray × Int) (fun s => [(1, pQ b_1), (3, .string s.1), (5, iV s.2)]) (fun s => St w0 Φ [(b_1, .cells #[.string p0.Name, iV p0.Sal, pv0_0, pv0_1, pv0_2] 28 (0, 0))] []) (fun m s => m_s_l9Text_l3 N p0 m s.1 s.2 = some r) (s1, 0) N h (sx [] [0]) (fun n3 ih3 s hm => ?_)
 obtain ⟨s4, s5⟩ := s
 have h : m_s_l9Text_l3 N p0 (n3 + 1) s4 s5 = some r := hm
 show WT _ _ [(1, pQ b_1), (3, .string s4), (5, iV s5)] (St w0 Φ [(b_1, .cells #[.string p0.Name, iV p0.Sal, pv0_0, pv0_1, pv0_2] 28 (0, 0))] [])
 unfold m_s_l9Text_l3 at h
 refine atr 6 [3, 0] rfl <| lnr ph0_1 rfl <| la rfl <| en ?_
 refine ch h rfl ?_ ?_ <;> intro h
 ·refine att 9 [] rfl ?_
  refine cut (σ := ByteArray) (fun s => [(1, pQ b_1), (3, .string s), (5, iV s5)]) (fun s => St w0 Φ [(b_1, .cells #[.string p0.Name, iV p0.Sal, pv0_0, pv0_1, pv0_2] 28 (0, 0))] []) (fun s => m_s_l9Text_j4 N p0 s5 (m_s_l9Text_l3 N p0 n3) s = some r) (fun s hm => ?_) (fun K => ?_)
  ·clear h
   revert hm; revert s; intro s6 hm
   have h : m_s_l9Text_j4 N p0 s5 (m_s_l9Text_l3 N p0 n3) s6 = some r := hm
   show WT _ _ [(1, pQ b_1), (3, .string s6), (5, iV s5)] (St w0 Φ [(b_1, .cells #[.string p0.Name, iV p0.Sal, pv0_0, pv0_1, pv0_2] 28 (0, 0))] [])
   unfold m_s_l9Text_j4 at h
   refine atr 5 [3, 0] rfl ?_
   obtain ⟨x4, hx4, h⟩ := bs h
   obtain ⟨cs2, F2, -, g2, hb2, hs2, r2⟩ := ph0_1.el (idx_some hx4).2.2
   obtain ⟨rfl, -⟩ := r2
   refine lia ph0_1 hx4 rfl <| lhx 0 11 g2 rfl <| qc h (m_s_CondText_ok N · x4 ·) rfl rfl rfl fun x5 h => ?_
   obtain ⟨z7, hz7, h⟩ := bs h
   refine lq (q_cat rfl rfl hz7) rfl <| art 8 [] rfl ?_
   exact lb [] [0] (ih3 (_, _) h)
  refine ch h rfl ?_ ?_ <;> intro h
  ·refine atr 2 [] rfl ?_
   obtain ⟨z8, hz8, h⟩ := bs h
   refine lq (q_cat rfl rfl hz8) rfl <| la rfl <| en ?_
   exact wo [] [0] (K _ h)
  refine atr 2 [] rfl ?_
  obtain ⟨z9, hz9, h⟩ := bs h
  refine lq (q_cat rfl rfl hz9) rfl <| la rfl <| en ?_
  exact wo [] [0] (K _ h)
 refine atr 4 [] rfl ?_
 obtain ⟨z10, hz10, h⟩ := bs h
 refine lq (q_cat rfl rfl hz10) rfl <| art 8 [] rfl ?_
 refine lin (σ := ByteArray × Int) (fun s => [(1, pQ b_1), (3, .string s.1), (6, iV s.2)]) (fun s => St w0 Φ [(b_1, .cells #[.string p0.Name, iV p0.Sal, pv0_0, pv0_1, pv0_2] 28 (0, 0))] []) (fun m s => m_s_l9Text_l5 N p0 m s.1 s.2 = some r) (z10, 0) N h (sx [] [0]) (fun n5 ih5 s hm => ?_)
 obtain ⟨s7, s8⟩ := s
 have h : m_s_l9Text_l5 N p0 (n5 + 1) s7 s8 = some r := hm
 show WT _ _ [(1, pQ b_1), (3, .string s7), (6, iV s8)] (St w0 Φ [(b_1, .cells #[.string p0.Name, iV p0.Sal, pv0_0, pv0_1, pv0_2] 28 (0, 0))] [])
 unfold m_s_l9Text_l5 at h
 refine atr 6 [4, 0] rfl <| lnr ph0_2 rfl <| la rfl <| en ?_
 refine ch h rfl ?_ ?_ <;> intro h
 ·refine att 9 [] rfl ?_
  refine cut (σ := ByteArray) (fun s => [(1, pQ b_1), (3, .string s), (6, iV s8)]) (fun s => St w0 Φ [(b_1, .cells #[.string p0.Name, iV p0.Sal, pv0_0, pv0_1, pv0_2] 28 (0, 0))] []) (fun s => m_s_l9Text_j6 N p0 s8 (m_s_l9Text_l5 N p0 n5) s = some r) (fun s hm => ?_) (fun K => ?_)
  ·clear h
   revert hm; revert s; intro s9 hm
   have h : m_s_l9Text_j6 N p0 s8 (m_s_l9Text_l5 N p0 n5) s9 = some r := hm
   show WT _ _ [(1, pQ b_1), (3, .string s9), (6, iV s8)] (St w0 Φ [(b_1, .cells #[.string p0.Name, iV p0.Sal, pv0_0, pv0_1, pv0_2] 28 (0, 0))] [])
   unfold m_s_l9Text_j6 at h
   refine atr 5 [4, 0] rfl ?_
   obtain ⟨x6, hx6, h⟩ := bs h
   obtain ⟨cs3, F3, -, g3, hb3, hs3, r3⟩ := ph0_2.el (idx_some hx6).2.2
   obtain ⟨v2, G2, rfl, hq2, h2⟩ := r3
   obtain rfl := hq2.symm
   refine lia ph0_2 hx6 rfl <| lhx 0 5 g3 rfl <| qd h (m_s_ActText_ok N · x6 h2 ·) rfl rfl rfl fun x7 h => ?_
   obtain ⟨z11, hz11, h⟩ := bs h
   refine lq (q_cat rfl rfl hz11) rfl <| art 8 [] rfl ?_
   exact lb [] [0] (ih5 (_, _) h)
  refine ch h rfl ?_ ?_ <;> intro h
  ·refine atr 2 [] rfl ?_
   obtain ⟨z12, hz12, h⟩ := bs h
   refine lq (q_cat rfl rfl hz12) rfl <| la rfl <| en ?_
   exact wo [] [0] (K _ h)
  refine WT.skip ?_
  exact wo [] [0] (K _ h)
 refine atr 4 [] rfl ?_
 obtain ⟨z13, hz13, h⟩ := bs h
 refine lq (q_cat rfl rfl hz13) rfl <| la rfl <| en ?_
 exact rt hF h
theorem m_s_DefText_ok (w0 : Base Ψ Φ []) (p0 : TDef) (ph0_0 : RSl RTRule 5 Ψ pG0_0 pv0_0 p0.Rules) {r : ByteArray} (h : m_s_DefText N p0 = some r) :
  CB w0 prog 19 [.agg [.string p0.Name, pv0_0].toArray] (.string r) := by
 refine eN func19 rfl ntmps19 rfl w0 fun hF => ?_
 unfold m_s_DefText at h
 refine sr <| lbx rfl fun b_1 => arr 6 [2] rfl <| qd h (m_s_DefOk_ok N · p0 ph0_0 ·) rfl rfl rfl fun x1 h => la rfl <| en ?_
 refine ch h rfl ?_ ?_ <;> intro h
 ·refine att 4 [] rfl ?_
  exact rt hF h
 refine atr 5 [0, 0] rfl ?_
 obtain ⟨z1, hz1, h⟩ := bs h
 refine lq (q_cat rfl rfl hz1) rfl ?_
 obtain ⟨z2, hz2, h⟩ := bs h
 refine lq (q_cat rfl rfl hz2) rfl <| art 8 [] rfl ?_
 refine lin (σ := ByteArray × Int) (fun s => [(1, pQ b_1), (3, .string s.1), (4, iV s.2)]) (fun s => St w0 Φ [(b_1, .cells #[.string p0.Name, pv0_0] 38 (0, 0))] []) (fun m s => m_s_DefText_l1 N p0 m s.1 s.2 = some r) (z2, 0) N h (sx [] [0]) (fun n1 ih1 s hm => ?_)
 obtain ⟨s1, s2⟩ := s
 have h : m_s_DefText_l1 N p0 (n1 + 1) s1 s2 = some r := hm
 show WT _ _ [(1, pQ b_1), (3, .string s1), (4, iV s2)] (St w0 Φ [(b_1, .cells #[.string p0.Name, pv0_0] 38 (0, 0))] [])
 unfold m_s_DefText_l1 at h
 refine atr 6 [1, 0] rfl <| lnr ph0_0 rfl <| la rfl <| en ?_
 refine ch h rfl ?_ ?_ <;> intro h
 ·refine atr 8 [1, 0] rfl ?_
  obtain ⟨x2, hx2, h⟩ := bs h
  obtain ⟨cs1, F1, -, g1, hb1, hs1, r1⟩ := ph0_0.el (idx_some hx2).2.2
  obtain ⟨v1, G1, v2, G2, v3, G3, rfl, rfl, h1, h2, h3⟩ := r1
  refine lia ph0_0 hx2 rfl <| lhx 0 5 g1 rfl <| qd h (m_s_l9Text_ok N · x2 h1 h2 h3 ·) rfl rfl rfl fun x3 h => ?_
  obtain ⟨z3, hz3, h⟩ := bs h
  refine lq (q_cat rfl rfl hz3) rfl <| art 8 [] rfl ?_
  exact lb [] [0] (ih1 (_, _) h)
 refine att 6 [] rfl ?_
 exact rt hF h
theorem m_s_l1New_ok (w0 : Base Ψ Φ []) (p0 : (List Int)) (ph0 : RSl (RI .u8) 1 Ψ pG0 pv0 p0) {r : Tl1Cur} (h : m_s_l1New N p0 = some r) :
  Calls prog 28 [pv0].toArray w0.w (PostG Φ w0.w [] (fun Φ' Fs v => ∃ (b0 : Nat) (sr_0_0 : Value) (Gr_0_0 : List Nat), v = pQ b0 ∧ Fs = [[b0]] ∧ RSl (RI .u8) 1 Φ' Gr_0_0 sr_0_0 r.b ∧ (∀ k ∈ Gr_0_0, k ∈ pG0) ∧ Φ' b0 = some (.cells #[sr_0_0, iV r.i, iV r.h] 107 (0, 0)))) := by
 refine eN func28 rfl ntmps28 rfl w0 fun hF => ?_
 unfold m_s_l1New at h
 refine atr 7 [] rfl <| lnr ph0 rfl <| art 9 [] rfl ?_
 refine lin (σ := Int × Int) (fun s => [(0, pv0), (3, iV s.1), (4, iV s.2)]) (fun s => St w0 Φ [] []) (fun m s => m_s_l1New_l1 N p0 m s.1 s.2 = some r) (wz (354354 + (p0.length : Int)), 0) N h (sx [] []) (fun n1 ih1 s hm => ?_)
 obtain ⟨s1, s2⟩ := s
 have h : m_s_l1New_l1 N p0 (n1 + 1) s1 s2 = some r := hm
 show WT _ _ [(0, pv0), (3, iV s1), (4, iV s2)] (St w0 Φ [] [])
 unfold m_s_l1New_l1 at h
 refine atr 5 [] rfl <| lnr ph0 rfl <| arr 2 [] rfl ?_
 obtain ⟨b1, hb_1, h⟩ := bs h
 refine WL.cutN 3 [(15, .bool b1), (0, pv0), (3, iV s1), (4, iV s2)] ?_ (fun K => ?_)
 rotate_left
 ·refine sp 12 hb_1 rfl (fun hb_1 => ?_) fun hb_1 => ?_
  ·refine arr 3 [] rfl ?_
   cases hb_1
   exact ku K
  ·refine arr 3 [] rfl ?_
   cases hb_1
   exact ku K
 refine en ?_
 refine ch h rfl ?_ ?_ <;> intro h
 ·refine atr 8 [] rfl ?_
  obtain ⟨x1, hx1, h⟩ := bs h
  obtain ⟨cs1, F1, -, g1, hb1, hs1, r1⟩ := ph0.el (idx_some hx1).2.2
  obtain ⟨rfl, -⟩ := r1
  refine lia ph0 hx1 rfl <| lhx 0 0 g1 rfl <| lq (q_convI Ik_5 Ik_3 rfl) rfl <| arr 2 [] rfl <| lq (q_and rfl rfl) rfl <| art 8 [] rfl ?_
  exact lb [] [] (ih1 (_, _) h)
 refine atr 5 [] rfl <| lq (q_build (vs := [(0, pv0), (2, iV s1)]) (C := #[pv0, iV 0, iV s1]) Pl_107 Zr_107 rfl (fill_cons (C' := [pv0, iV 0, iV 0]) rfl (one_cells ph0.one) rfl rfl rfl (fill_cons (C' := [pv0, iV 0, iV s1]) rfl rfl rfl rfl rfl (fill_nil)))) rfl <| lbx rfl fun b_1 => la rfl <| en ?_
 refine WT.frz (js := [0]) (R := []) rfl (fun Φ_1 fr1 k1 => ?_)
 exact rtg [0] hF (resOk.one rfl) rfl (by cases h; exact fun w1 hw => ⟨b_1, pv0, pG0, rfl, rfl, (ph0.y hw.up), (fun k hk => hk), k1⟩)
theorem m_s_l1Byte_ok (w0 : Base Ψ Φ [[pb0]].flatten) (p0 : Tl1Cur) (ph0_0 : RSl (RI .u8) 1 Ψ pG0_0 pv0_0 p0.b) (pp0 : Φ pb0 = some (.cells #[pv0_0, iV p0.i, iV p0.h] 107 (0, 0))) {r : Int × Tl1Cur} (h : m_s_l1Byte N p0 = some r) :
  Calls prog 120 [pQ pb0].toArray w0.w (PostG Φ w0.w [[pb0]].flatten (fun Φ' Fs v => v = iV r.1 ∧ Fs = [[pb0]] ∧ r.2.b = p0.b ∧ Φ' pb0 = some (.cells #[pv0_0, iV r.2.i, iV r.2.h] 107 (0, 0)))) := by
 refine eL func120 rfl ntmps120 rfl (L := [[pb0]]) w0 (fun hF => ?_)
 unfold m_s_l1Byte at h
 refine atr 8 [] rfl <| lq (q_nilCheck rfl) rfl <| lf Fld_107_2 rfl rfl rfl <| lgx 2 0 (rg_cells pp0) rfl <| arr 2 [] rfl <| lq (q_nilCheck rfl) rfl <| lf Fld_107_2 rfl rfl rfl ?_
 refine WL.thw (js := [0]) (R := []) rfl pp0 (fun Φ_1 ap1 fr1 => ?_)
 refine so1 0 Sz_3 rfl rfl ?_
 refine en <| sq <| WT.draw mixed (by kernel_rfl) (fun _ h => h.drew) <| qq (q_move rfl) rfl <| qq (q_nilCheck rfl) rfl <| aqq 2 [2, 0] rfl <| qq (q_shr rfl rfl (by decide)) rfl <| qq (q_move rfl) rfl <| qq (q_nilCheck rfl) rfl <| aqq 2 [2, 0] rfl <| qq (q_shr rfl rfl (by decide)) rfl <| qq (q_xor rfl rfl) rfl <| qq (q_and rfl rfl) rfl <| aqt 4 [] rfl <| WT.draw mixed (by kernel_rfl) (fun _ h => h.drew) <| qq (q_move rfl) rfl <| qq (q_nilCheck rfl) rfl <| aqq 3 [1, 0] rfl <| qq (q_nilCheck rfl) rfl <| aqq 2 [0, 0] rfl <| qq (q_lenR Sl_22 rfl rfl ph0_0) rfl <| aqt 2 [] rfl ?_
 refine ch h rfl ?_ ?_ <;> intro h
 ·refine sq <| WT.draw mixed (by kernel_rfl) (fun _ h => h.drew) <| aqq 2 [] rfl <| qq (q_nilCheck rfl) rfl <| aqq 3 [0, 0] rfl <| qq (q_nilCheck rfl) rfl <| aqq 2 [1, 0] rfl ?_
  obtain ⟨x1, hx1, h⟩ := bs h
  obtain ⟨cs1, F1, -, g1, hb1, hs1, r1⟩ := ph0_0.el (idx_some hx1).2.2
  obtain ⟨rfl, -⟩ := r1
  refine qq (q_indexAddr Sl_22 rfl rfl ph0_0 hx1) rfl <| qq (q_load1 T1_5 rfl (fun w1 hw => (g1.of_eq 0 1 rfl rfl : rg _ _ _ [.int .u8 x1]).rangeAt hw.in0)) rfl <| qq (q_convI Ik_5 Ik_3 rfl) rfl <| qq (q_add rfl rfl) rfl <| qq (q_and rfl rfl) rfl <| aqr 5 [] rfl <| lq (q_nilCheck rfl) rfl <| arr 3 [1, 0] rfl <| lq (q_nilCheck rfl) rfl <| lf Fld_107_1 rfl rfl rfl <| so1 0 Sz_3 rfl rfl ?_
  refine art 6 [] rfl ?_
  refine WT.frz (js := [0]) (R := []) rfl (fun Φ_2 fr2 k1 => ?_)
  exact rtg [0] hF (resOk.one rfl) rfl (by cases h; exact fun w1 hw => ⟨rfl, rfl, rfl, k1⟩)
 refine att 6 [] rfl ?_
 refine WT.frz (js := [0]) (R := []) rfl (fun Φ_3 fr3 k2 => ?_)
 exact rtg [0] hF (resOk.one rfl) rfl (by cases h; exact fun w1 hw => ⟨rfl, rfl, rfl, k2⟩)
theorem m_s_l1Below_ok (w0 : Base Ψ Φ [[pb0]].flatten) (p0 : Tl1Cur) (p1 : Int) (ph0_0 : RSl (RI .u8) 1 Ψ pG0_0 pv0_0 p0.b) (pp0 : Φ pb0 = some (.cells #[pv0_0, iV p0.i, iV p0.h] 107 (0, 0))) {r : Int × Tl1Cur} (h : m_s_l1Below N p0 p1 = some r) :
  Calls prog 63 [pQ pb0, iV p1].toArray w0.w (PostG Φ w0.w [[pb0]].flatten (fun Φ' Fs v => v = iV r.1 ∧ Fs = [[pb0]] ∧ r.2.b = p0.b ∧ Φ' pb0 = some (.cells #[pv0_0, iV r.2.i, iV r.2.h] 107 (0, 0)))) := by
 refine eL func63 rfl ntmps63 rfl (L := [[pb0]]) w0 (fun hF => ?_)
 unfold m_s_l1Below at h
 refine att 10 [] rfl ?_
 refine ch h rfl ?_ ?_ <;> intro h
 ·refine att 4 [] rfl ?_
  exact rtg [0] hF (resOk.one rfl) rfl (by cases h; exact fun w1 hw => ⟨rfl, rfl, rfl, pp0⟩)
 refine att 7 [] rfl ?_
 refine ch h rfl ?_ ?_ <;> intro h
 ·refine sr <| la rfl <| kcb [0] h rfl rfl rfl rfl (fun b ap z q => m_s_l1Byte_ok N b p0 (ph0_0.y z) pp0 q) ?_
  rintro x1 h v1 Φ_1 F1 ⟨ap1, fr1, rfl, rfl, e1, h1⟩
  refine la rfl ?_
  obtain ⟨x2, hx2, h⟩ := bs h
  refine lq (q_remV rfl rfl hx2) rfl <| la rfl <| en ?_
  exact rtg [0] hF (resOk.one rfl) rfl (by cases h; exact fun w1 hw => ⟨rfl, rfl, rfl, h1⟩)
 refine atr 4 [] rfl <| kcb [0] h rfl rfl rfl rfl (fun b ap z q => m_s_l1Byte_ok N b p0 (ph0_0.y z) pp0 q) ?_
 rintro x3 h v2 Φ_2 F2 ⟨ap2, fr2, rfl, rfl, e2, h2⟩
 refine arr 5 [] rfl <| kcb [0] h rfl rfl rfl rfl (fun b ap z q => m_s_l1Byte_ok N b (⟨p0.b, x3.2.i, x3.2.h⟩ : Tl1Cur) (ph0_0.y z) h2 q) ?_
 rintro x4 h v3 Φ_3 F3 ⟨ap3, fr3, rfl, rfl, e3, h3⟩
 refine arr 5 [] rfl <| kcb [0] h rfl rfl rfl rfl (fun b ap z q => m_s_l1Byte_ok N b (⟨p0.b, x4.2.i, x4.2.h⟩ : Tl1Cur) (ph0_0.y z) h3 q) ?_
 rintro x5 h v4 Φ_4 F4 ⟨ap4, fr4, rfl, rfl, e4, h4⟩
 refine arr 12 [] rfl ?_
 obtain ⟨x6, hx6, h⟩ := bs h
 refine lq (q_remV rfl rfl hx6) rfl <| la rfl <| en ?_
 exact rtg [0] hF (resOk.one rfl) rfl (by cases h; exact fun w1 hw => ⟨rfl, rfl, rfl, h4⟩)
theorem m_s_l1Str_ok (w0 : Base Ψ Φ [[pb0]].flatten) (p0 : Tl1Cur) (p1 : (List ByteArray)) (ph0_0 : RSl (RI .u8) 1 Ψ pG0_0 pv0_0 p0.b) (pp0 : Φ pb0 = some (.cells #[pv0_0, iV p0.i, iV p0.h] 107 (0, 0))) (ph1 : RSl RS 1 Ψ pG1 pv1 p1) {r : ByteArray × Tl1Cur} (h : m_s_l1Str N p0 p1 = some r) :
  Calls prog 64 [pQ pb0, pv1].toArray w0.w (PostG Φ w0.w [[pb0]].flatten (fun Φ' Fs v => v = .string r.1 ∧ Fs = [[pb0]] ∧ r.2.b = p0.b ∧ Φ' pb0 = some (.cells #[pv0_0, iV r.2.i, iV r.2.h] 107 (0, 0)))) := by
 refine eL func64 rfl ntmps64 rfl (L := [[pb0]]) w0 (fun hF => ?_)
 unfold m_s_l1Str at h
 refine atr 9 [] rfl <| lnr ph1 rfl <| kcb [0] h rfl rfl rfl rfl (fun b ap z q => m_s_l1Below_ok N b p0 (p1.length : Int) (ph0_0.y z) pp0 q) ?_
 rintro x1 h v1 Φ_1 F1 ⟨ap1, fr1, rfl, rfl, e1, h1⟩
 obtain ⟨x2, hx2, h⟩ := bs h
 obtain ⟨cs1, F2, -, g1, hb1, hs1, r1⟩ := ph1.el (idx_some hx2).2.2
 obtain ⟨rfl, -⟩ := r1
 refine lia ph1 hx2 rfl <| lhx 0 0 g1 rfl <| la rfl <| en ?_
 exact rtg [0] hF (resOk.one rfl) rfl (by cases h; exact fun w1 hw => ⟨rfl, rfl, rfl, h1⟩)
theorem m_s_l1Once_ok (w0 : Base Ψ Φ [[pb0]].flatten) (p0 : Tl1Cur) (p1 : Int) (ph0_0 : RSl (RI .u8) 1 Ψ pG0_0 pv0_0 p0.b) (pp0 : Φ pb0 = some (.cells #[pv0_0, iV p0.i, iV p0.h] 107 (0, 0))) {r : Bool × Tl1Cur} (h : m_s_l1Once N p0 p1 = some r) :
  Calls prog 74 [pQ pb0, iV p1].toArray w0.w (PostG Φ w0.w [[pb0]].flatten (fun Φ' Fs v => v = .bool r.1 ∧ Fs = [[pb0]] ∧ r.2.b = p0.b ∧ Φ' pb0 = some (.cells #[pv0_0, iV r.2.i, iV r.2.h] 107 (0, 0)))) := by
 refine eL func74 rfl ntmps74 rfl (L := [[pb0]]) w0 (fun hF => ?_)
 unfold m_s_l1Once at h
 refine atr 8 [] rfl <| kcb [0] h rfl rfl rfl rfl (fun b ap z q => m_s_l1Below_ok N b p0 p1 (ph0_0.y z) pp0 q) ?_
 rintro x1 h v1 Φ_1 F1 ⟨ap1, fr1, rfl, rfl, e1, h1⟩
 refine art 3 [] rfl ?_
 exact rtg [0] hF (resOk.one rfl) rfl (by cases h; exact fun w1 hw => ⟨rfl, rfl, rfl, h1⟩)
theorem m_s_l1Int_ok (w0 : Base Ψ Φ [[pb0]].flatten) (p0 : Tl1Cur) (p1 : (List Int)) (ph0_0 : RSl (RI .u8) 1 Ψ pG0_0 pv0_0 p0.b) (pp0 : Φ pb0 = some (.cells #[pv0_0, iV p0.i, iV p0.h] 107 (0, 0))) (ph1 : RSl (RI .i64) 1 Ψ pG1 pv1 p1) {r : Int × Tl1Cur} (h : m_s_l1Int N p0 p1 = some r) :
  Calls prog 137 [pQ pb0, pv1].toArray w0.w (PostG Φ w0.w [[pb0]].flatten (fun Φ' Fs v => v = iV r.1 ∧ Fs = [[pb0]] ∧ r.2.b = p0.b ∧ Φ' pb0 = some (.cells #[pv0_0, iV r.2.i, iV r.2.h] 107 (0, 0)))) := by
 refine eL func137 rfl ntmps137 rfl (L := [[pb0]]) w0 (fun hF => ?_)
 unfold m_s_l1Int at h
 refine atr 9 [] rfl <| lnr ph1 rfl <| kcb [0] h rfl rfl rfl rfl (fun b ap z q => m_s_l1Below_ok N b p0 (p1.length : Int) (ph0_0.y z) pp0 q) ?_
 rintro x1 h v1 Φ_1 F1 ⟨ap1, fr1, rfl, rfl, e1, h1⟩
 obtain ⟨x2, hx2, h⟩ := bs h
 obtain ⟨cs1, F2, -, g1, hb1, hs1, r1⟩ := ph1.el (idx_some hx2).2.2
 obtain ⟨rfl, -⟩ := r1
 refine lia ph1 hx2 rfl <| lhx 0 0 g1 rfl <| la rfl <| en ?_
 exact rtg [0] hF (resOk.one rfl) rfl (by cases h; exact fun w1 hw => ⟨rfl, rfl, rfl, h1⟩)
theorem m_s_l6Val_ok  (w0 : Base Ψ Φ []) (p0 : TVal)  {r : TArg} (h : m_s_l6Val N p0 = some r) :
  CB w0 prog 189 [.agg [iV p0.K, iV p0.N, .string p0.S].toArray] (.agg [iV r.K, .string r.S, iV r.V.K, iV r.V.N, .string r.V.S].toArray) := by
 refine eN func189 rfl ntmps189 rfl w0 fun hF => ?_
 unfold m_s_l6Val at h
 refine sr <| lbx rfl fun b_1 => lnz Zr_60 rfl fun b_2 => arr 4 [35] rfl <| lq (q_build (vs := [(0, iV 2), (2, .agg [iV p0.K, iV p0.N, .string p0.S].toArray)]) (C := #[iV 2, .string (⟨#[]⟩ : ByteArray), iV p0.K, iV p0.N, .string p0.S]) Pl_60 Zr_60 rfl (fill_cons (C' := [iV 2, .string ⟨#[]⟩, iV 0, iV 0, .string ⟨#[]⟩]) rfl rfl rfl rfl rfl (fill_cons (C' := [iV 2, .string ⟨#[]⟩, iV p0.K, iV p0.N, .string p0.S]) rfl rfl rfl rfl rfl (fill_nil)))) rfl <| soN 0 Sz_60 rfl ⟨rfl, rfl, rfl, rfl, rfl, trivial⟩ rfl ?_
 refine en ?_
 refine WT.ret hF (resOk.one (rv_cell Tn_60 rfl (fun w1 hw => hw.rgO (i := 0) rfl 0 5 [iV 2, .string (⟨#[]⟩ : ByteArray), iV p0.K, iV p0.N, .string p0.S] rfl) rfl)) (fun w1 hw => ?_)
 cases h
 exact post_of_St hw
theorem m_s_l6Var_ok  (w0 : Base Ψ Φ []) (p0 : ByteArray)  {r : TArg} (h : m_s_l6Var N p0 = some r) :
  CB w0 prog 190 [.string p0] (.agg [iV r.K, .string r.S, iV r.V.K, iV r.V.N, .string r.V.S].toArray) := by
 refine eN func190 rfl ntmps190 rfl w0 fun hF => ?_
 unfold m_s_l6Var at h
 refine sr <| lnz Zr_60 rfl fun b_1 => arr 4 [] rfl <| lq (q_build (vs := [(0, iV 1), (1, .string p0)]) (C := #[iV 1, .string p0, iV 0, iV 0, .string (⟨#[]⟩ : ByteArray)]) Pl_60 Zr_60 rfl (fill_cons (C' := [iV 1, .string ⟨#[]⟩, iV 0, iV 0, .string ⟨#[]⟩]) rfl rfl rfl rfl rfl (fill_cons (C' := [iV 1, .string p0, iV 0, iV 0, .string ⟨#[]⟩]) rfl rfl rfl rfl rfl (fill_nil)))) rfl <| soN 0 Sz_60 rfl ⟨rfl, rfl, rfl, rfl, rfl, trivial⟩ rfl ?_
 refine en ?_
 refine WT.ret hF (resOk.one (rv_cell Tn_60 rfl (fun w1 hw => hw.rgO (i := 0) rfl 0 5 [iV 1, .string p0, iV 0, iV 0, .string (⟨#[]⟩ : ByteArray)] rfl) rfl)) (fun w1 hw => ?_)
 cases h
 exact post_of_St hw
theorem m_s_l3Small_ok (w0 : Base Ψ Φ [[pb0]].flatten) (p0 : Tl1Cur) (ph0_0 : RSl (RI .u8) 1 Ψ pG0_0 pv0_0 p0.b) (pp0 : Φ pb0 = some (.cells #[pv0_0, iV p0.i, iV p0.h] 107 (0, 0))) {r : TVal × Tl1Cur} (h : m_s_l3Small N p0 = some r) :
  Calls prog 211 [pQ pb0].toArray w0.w (PostG Φ w0.w [[pb0]].flatten (fun Φ' Fs v => v = .agg [iV r.1.K, iV r.1.N, .string r.1.S].toArray ∧ Fs = [[pb0]] ∧ r.2.b = p0.b ∧ Φ' pb0 = some (.cells #[pv0_0, iV r.2.i, iV r.2.h] 107 (0, 0)))) := by
 refine eL func211 rfl ntmps211 rfl (L := [[pb0]]) w0 (fun hF => ?_)
 unfold m_s_l3Small at h
 refine sr <| lnz Zr_58 rfl fun b_1 => arr 5 [] rfl <| kcb [0] h rfl rfl rfl rfl (fun b ap z q => m_s_l1Once_ok N b p0 2 (ph0_0.y z) pp0 q) ?_
 rintro x1 h v1 Φ_1 F1 ⟨ap1, fr1, rfl, rfl, e1, h1⟩
 refine en ?_
 refine ch h rfl ?_ ?_ <;> intro h
 ·refine sr <| la rfl <| kcb [0] h rfl rfl rfl rfl (fun b ap z q => m_s_l1Below_ok N b (⟨p0.b, x1.2.i, x1.2.h⟩ : Tl1Cur) 3 (ph0_0.y z) h1 q) ?_
  rintro x2 h v2 Φ_2 F2 ⟨ap2, fr2, rfl, rfl, e2, h2⟩
  refine la rfl <| lq (q_build (vs := [(0, iV 1), (1, iV (wz (1 + x2.1)))]) (C := #[iV 1, iV (wz (1 + x2.1)), .string (⟨#[]⟩ : ByteArray)]) Pl_58 Zr_58 rfl (fill_cons (C' := [iV 1, iV 0, .string ⟨#[]⟩]) rfl rfl rfl rfl rfl (fill_cons (C' := [iV 1, iV (wz (1 + x2.1)), .string ⟨#[]⟩]) rfl rfl rfl rfl rfl (fill_nil)))) rfl <| soN 0 Sz_58 rfl ⟨rfl, rfl, rfl, trivial⟩ rfl ?_
  refine en ?_
  exact rtg [0] hF (resOk.one (rv_cell Tn_58 rfl (fun w1 hw => hw.rgO (i := 0) rfl 0 3 [iV 1, iV (wz (1 + x2.1)), .string (⟨#[]⟩ : ByteArray)] rfl) rfl)) rfl (by cases h; exact fun w1 hw => ⟨rfl, rfl, rfl, h2⟩)
 refine atr 4 [] rfl ?_
 have rc1 : RC RS 1 Φ_1 ([[], []] : List (List Nat)) [.string (⟨#[97]⟩ : ByteArray), .string (⟨#[98]⟩ : ByteArray)] ([(⟨#[97]⟩ : ByteArray), (⟨#[98]⟩ : ByteArray)] : List ByteArray) := RC.cons (c := [.string (⟨#[97]⟩ : ByteArray)]) (cells := [.string (⟨#[98]⟩ : ByteArray)]) ⟨rfl, rfl⟩ rfl (RC.cons (c := [.string (⟨#[98]⟩ : ByteArray)]) (cells := []) ⟨rfl, rfl⟩ rfl (RC.nil _ _ _))
 refine le' (e_lit (vs := [(0, .string (⟨#[97]⟩ : ByteArray)), (1, .string (⟨#[98]⟩ : ByteArray))]) (C := #[.string (⟨#[97]⟩ : ByteArray), .string (⟨#[98]⟩ : ByteArray)]) RS.lasts Sl_68 Zr_9 rfl rfl rfl rfl (fill_made MC_9_2 (fill_cons (C' := [.string (⟨#[97]⟩ : ByteArray), .string ⟨#[]⟩]) rfl rfl rfl rfl rfl (fill_cons (C' := [.string (⟨#[97]⟩ : ByteArray), .string (⟨#[98]⟩ : ByteArray)]) rfl rfl rfl rfl rfl (fill_nil)))) rfl rc1 rfl (by simpa using Kw.nil)) rfl ?_
 rintro v3 Φ_3 D1 ⟨fr3, h3⟩
 replace h3 : OSl RS 9 1 Φ_3 [] v3 ([(⟨#[97]⟩ : ByteArray), (⟨#[98]⟩ : ByteArray)] : List ByteArray) := by simpa using h3
 replace h1 := fr3 _ _ (by simp) h1
 refine kcb [1] h rfl rfl rfl rfl (fun b ap z q => m_s_l1Str_ok N b (⟨p0.b, x1.2.i, x1.2.h⟩ : Tl1Cur) ([(⟨#[97]⟩ : ByteArray), (⟨#[98]⟩ : ByteArray)] : List ByteArray) (ph0_0.y z) h1 (h3.rsl.x (Dj.app (ap.q 0 rfl) dN)) q) ?_
 rintro x3 h v4 Φ_4 F3 ⟨ap3, fr4, rfl, rfl, e3, h4⟩
 refine lq (q_build (vs := [(0, iV 2), (2, .string x3.1)]) (C := #[iV 2, iV 0, .string x3.1]) Pl_58 Zr_58 rfl (fill_cons (C' := [iV 2, iV 0, .string ⟨#[]⟩]) rfl rfl rfl rfl rfl (fill_cons (C' := [iV 2, iV 0, .string x3.1]) rfl rfl rfl rfl rfl (fill_nil)))) rfl <| soN 0 Sz_58 rfl ⟨rfl, rfl, rfl, trivial⟩ rfl ?_
 refine en ?_
 exact rtg [0] hF (resOk.one (rv_cell Tn_58 rfl (fun w1 hw => hw.rgO (i := 0) rfl 0 3 [iV 2, iV 0, .string x3.1] rfl) rfl)) rfl (by cases h; exact fun w1 hw => ⟨rfl, rfl, rfl, h4⟩)
theorem m_s_l6Arg_ok (w0 : Base Ψ Φ [[pb0]].flatten) (p0 : Tl1Cur) (ph0_0 : RSl (RI .u8) 1 Ψ pG0_0 pv0_0 p0.b) (pp0 : Φ pb0 = some (.cells #[pv0_0, iV p0.i, iV p0.h] 107 (0, 0))) {r : TArg × Tl1Cur} (h : m_s_l6Arg N p0 = some r) :
  Calls prog 187 [pQ pb0].toArray w0.w (PostG Φ w0.w [[pb0]].flatten (fun Φ' Fs v => v = .agg [iV r.1.K, .string r.1.S, iV r.1.V.K, iV r.1.V.N, .string r.1.V.S].toArray ∧ Fs = [[pb0]] ∧ r.2.b = p0.b ∧ Φ' pb0 = some (.cells #[pv0_0, iV r.2.i, iV r.2.h] 107 (0, 0)))) := by
 refine eL func187 rfl ntmps187 rfl (L := [[pb0]]) w0 (fun hF => ?_)
 unfold m_s_l6Arg at h
 refine sr <| lnz Zr_60 rfl fun b_1 => arr 5 [] rfl <| kcb [0] h rfl rfl rfl rfl (fun b ap z q => m_s_l1Below_ok N b p0 6 (ph0_0.y z) pp0 q) ?_
 rintro x1 h v1 Φ_1 F1 ⟨ap1, fr1, rfl, rfl, e1, h1⟩
 refine art 7 [] rfl ?_
 refine ch h rfl ?_ ?_ <;> intro h
 ·refine sr <| lq (q_build (vs := [(0, iV 3)]) (C := #[iV 3, .string (⟨#[]⟩ : ByteArray), iV 0, iV 0, .string (⟨#[]⟩ : ByteArray)]) Pl_60 Zr_60 rfl (fill_cons (C' := [iV 3, .string ⟨#[]⟩, iV 0, iV 0, .string ⟨#[]⟩]) rfl rfl rfl rfl rfl (fill_nil))) rfl <| soN 0 Sz_60 rfl ⟨rfl, rfl, rfl, rfl, rfl, trivial⟩ rfl ?_
  refine en ?_
  exact rtg [0] hF (resOk.one (rv_cell Tn_60 rfl (fun w1 hw => hw.rgO (i := 0) rfl 0 5 [iV 3, .string (⟨#[]⟩ : ByteArray), iV 0, iV 0, .string (⟨#[]⟩ : ByteArray)] rfl) rfl)) rfl (by cases h; exact fun w1 hw => ⟨rfl, rfl, rfl, h1⟩)
 refine att 5 [] rfl ?_
 refine ch h rfl ?_ ?_ <;> intro h
 ·refine sr <| la rfl <| kcb [0] h rfl rfl rfl rfl (fun b ap z q => m_s_l3Small_ok N b (⟨p0.b, x1.2.i, x1.2.h⟩ : Tl1Cur) (ph0_0.y z) h1 q) ?_
  rintro x2 h v2 Φ_2 F2 ⟨ap2, fr2, rfl, rfl, e2, h2⟩
  refine qc h (m_s_l6Val_ok N · x2.1 ·) rfl rfl rfl fun x3 h => soN 0 Sz_60 rfl ⟨rfl, rfl, rfl, rfl, rfl, trivial⟩ rfl ?_
  refine en ?_
  exact rtg [0] hF (resOk.one (rv_cell Tn_60 rfl (fun w1 hw => hw.rgO (i := 0) rfl 0 5 [iV x3.K, .string x3.S, iV x3.V.K, iV x3.V.N, .string x3.V.S] rfl) rfl)) rfl (by cases h; exact fun w1 hw => ⟨rfl, rfl, rfl, h2⟩)
 refine atr 5 [] rfl ?_
 have rc1 : RC RS 1 Φ_1 ([[], [], [], []] : List (List Nat)) [.string (⟨#[88]⟩ : ByteArray), .string (⟨#[89]⟩ : ByteArray), .string (⟨#[90]⟩ : ByteArray), .string (⟨#[88]⟩ : ByteArray)] ([(⟨#[88]⟩ : ByteArray), (⟨#[89]⟩ : ByteArray), (⟨#[90]⟩ : ByteArray), (⟨#[88]⟩ : ByteArray)] : List ByteArray) := RC.cons (c := [.string (⟨#[88]⟩ : ByteArray)]) (cells := [.string (⟨#[89]⟩ : ByteArray), .string (⟨#[90]⟩ : ByteArray), .string (⟨#[88]⟩ : ByteArray)]) ⟨rfl, rfl⟩ rfl (RC.cons (c := [.string (⟨#[89]⟩ : ByteArray)]) (cells := [.string (⟨#[90]⟩ : ByteArray), .string (⟨#[88]⟩ : ByteArray)]) ⟨rfl, rfl⟩ rfl (RC.cons (c := [.string (⟨#[90]⟩ : ByteArray)]) (cells := [.string (⟨#[88]⟩ : ByteArray)]) ⟨rfl, rfl⟩ rfl (RC.cons (c := [.string (⟨#[88]⟩ : ByteArray)]) (cells := []) ⟨rfl, rfl⟩ rfl (RC.nil _ _ _))))
 refine le' (e_lit (vs := [(0, .string (⟨#[88]⟩ : ByteArray)), (1, .string (⟨#[89]⟩ : ByteArray)), (2, .string (⟨#[90]⟩ : ByteArray)), (3, .string (⟨#[88]⟩ : ByteArray))]) (C := #[.string (⟨#[88]⟩ : ByteArray), .string (⟨#[89]⟩ : ByteArray), .string (⟨#[90]⟩ : ByteArray), .string (⟨#[88]⟩ : ByteArray)]) RS.lasts Sl_68 Zr_9 rfl rfl rfl rfl (fill_made MC_9_4 (fill_cons (C' := [.string (⟨#[88]⟩ : ByteArray), .string ⟨#[]⟩, .string ⟨#[]⟩, .string ⟨#[]⟩]) rfl rfl rfl rfl rfl (fill_cons (C' := [.string (⟨#[88]⟩ : ByteArray), .string (⟨#[89]⟩ : ByteArray), .string ⟨#[]⟩, .string ⟨#[]⟩]) rfl rfl rfl rfl rfl (fill_cons (C' := [.string (⟨#[88]⟩ : ByteArray), .string (⟨#[89]⟩ : ByteArray), .string (⟨#[90]⟩ : ByteArray), .string ⟨#[]⟩]) rfl rfl rfl rfl rfl (fill_cons (C' := [.string (⟨#[88]⟩ : ByteArray), .string (⟨#[89]⟩ : ByteArray), .string (⟨#[90]⟩ : ByteArray), .string (⟨#[88]⟩ : ByteArray)]) rfl rfl rfl rfl rfl (fill_nil)))))) rfl rc1 rfl (by simpa using Kw.nil)) rfl ?_
 rintro v3 Φ_3 D1 ⟨fr3, h3⟩
 replace h3 : OSl RS 9 1 Φ_3 [] v3 ([(⟨#[88]⟩ : ByteArray), (⟨#[89]⟩ : ByteArray), (⟨#[90]⟩ : ByteArray), (⟨#[88]⟩ : ByteArray)] : List ByteArray) := by simpa using h3
 replace h1 := fr3 _ _ (by simp) h1
 refine kcb [1] h rfl rfl rfl rfl (fun b ap z q => m_s_l1Str_ok N b (⟨p0.b, x1.2.i, x1.2.h⟩ : Tl1Cur) ([(⟨#[88]⟩ : ByteArray), (⟨#[89]⟩ : ByteArray), (⟨#[90]⟩ : ByteArray), (⟨#[88]⟩ : ByteArray)] : List ByteArray) (ph0_0.y z) h1 (h3.rsl.x (Dj.app (ap.q 0 rfl) dN)) q) ?_
 rintro x4 h v4 Φ_4 F3 ⟨ap3, fr4, rfl, rfl, e3, h4⟩
 refine qc h (m_s_l6Var_ok N · x4.1 ·) rfl rfl rfl fun x5 h => soN 0 Sz_60 rfl ⟨rfl, rfl, rfl, rfl, rfl, trivial⟩ rfl ?_
 refine en ?_
 exact rtg [0] hF (resOk.one (rv_cell Tn_60 rfl (fun w1 hw => hw.rgO (i := 0) rfl 0 5 [iV x5.K, .string x5.S, iV x5.V.K, iV x5.V.N, .string x5.V.S] rfl) rfl)) rfl (by cases h; exact fun w1 hw => ⟨rfl, rfl, rfl, h4⟩)
theorem m_s_l6Draw_ok (w0 : Base Ψ Φ [[pb0]].flatten) (p0 : Tl1Cur) (p1 : Bool) (ph0_0 : RSl (RI .u8) 1 Ψ pG0_0 pv0_0 p0.b) (pp0 : Φ pb0 = some (.cells #[pv0_0, iV p0.i, iV p0.h] 107 (0, 0))) {r : TPat × Tl1Cur} (h : m_s_l6Draw N p0 p1 = some r) :
  Calls prog 138 [pQ pb0, .bool p1].toArray w0.w (PostG Φ w0.w [[pb0]].flatten (fun Φ' Fs v => ∃ (sr_0_0 : Value), v = .agg [.string r.1.Kind, sr_0_0, .bool r.1.Not].toArray ∧ Fs = [ob sr_0_0, [pb0]] ∧ OSl RTArg 60 5 Φ' [] sr_0_0 r.1.Args ∧ r.2.b = p0.b ∧ Φ' pb0 = some (.cells #[pv0_0, iV r.2.i, iV r.2.h] 107 (0, 0)))) := by
 refine eL func138 rfl ntmps138 rfl (L := [[pb0]]) w0 (fun hF => ?_)
 unfold m_s_l6Draw at h
 refine sr <| lnz Zr_35 rfl fun b_1 => arr 4 [] rfl ?_
 have rc1 : RC RS 1 Φ ([[], [], [], []] : List (List Nat)) [.string (⟨#[111, 114, 100, 101, 114]⟩ : ByteArray), .string (⟨#[112, 97, 105, 100]⟩ : ByteArray), .string (⟨#[105, 116, 101, 109]⟩ : ByteArray), .string (⟨#[111, 114, 100, 101, 114]⟩ : ByteArray)] ([(⟨#[111, 114, 100, 101, 114]⟩ : ByteArray), (⟨#[112, 97, 105, 100]⟩ : ByteArray), (⟨#[105, 116, 101, 109]⟩ : ByteArray), (⟨#[111, 114, 100, 101, 114]⟩ : ByteArray)] : List ByteArray) := RC.cons (c := [.string (⟨#[111, 114, 100, 101, 114]⟩ : ByteArray)]) (cells := [.string (⟨#[112, 97, 105, 100]⟩ : ByteArray), .string (⟨#[105, 116, 101, 109]⟩ : ByteArray), .string (⟨#[111, 114, 100, 101, 114]⟩ : ByteArray)]) ⟨rfl, rfl⟩ rfl (RC.cons (c := [.string (⟨#[112, 97, 105, 100]⟩ : ByteArray)]) (cells := [.string (⟨#[105, 116, 101, 109]⟩ : ByteArray), .string (⟨#[111, 114, 100, 101, 114]⟩ : ByteArray)]) ⟨rfl, rfl⟩ rfl (RC.cons (c := [.string (⟨#[105, 116, 101, 109]⟩ : ByteArray)]) (cells := [.string (⟨#[111, 114, 100, 101, 114]⟩ : ByteArray)]) ⟨rfl, rfl⟩ rfl (RC.cons (c := [.string (⟨#[111, 114, 100, 101, 114]⟩ : ByteArray)]) (cells := []) ⟨rfl, rfl⟩ rfl (RC.nil _ _ _))))
 refine le' (e_lit (vs := [(0, .string (⟨#[111, 114, 100, 101, 114]⟩ : ByteArray)), (1, .string (⟨#[112, 97, 105, 100]⟩ : ByteArray)), (2, .string (⟨#[105, 116, 101, 109]⟩ : ByteArray)), (3, .string (⟨#[111, 114, 100, 101, 114]⟩ : ByteArray))]) (C := #[.string (⟨#[111, 114, 100, 101, 114]⟩ : ByteArray), .string (⟨#[112, 97, 105, 100]⟩ : ByteArray), .string (⟨#[105, 116, 101, 109]⟩ : ByteArray), .string (⟨#[111, 114, 100, 101, 114]⟩ : ByteArray)]) RS.lasts Sl_68 Zr_9 rfl rfl rfl rfl (fill_made MC_9_4 (fill_cons (C' := [.string (⟨#[111, 114, 100, 101, 114]⟩ : ByteArray), .string ⟨#[]⟩, .string ⟨#[]⟩, .string ⟨#[]⟩]) rfl rfl rfl rfl rfl (fill_cons (C' := [.string (⟨#[111, 114, 100, 101, 114]⟩ : ByteArray), .string (⟨#[112, 97, 105, 100]⟩ : ByteArray), .string ⟨#[]⟩, .string ⟨#[]⟩]) rfl rfl rfl rfl rfl (fill_cons (C' := [.string (⟨#[111, 114, 100, 101, 114]⟩ : ByteArray), .string (⟨#[112, 97, 105, 100]⟩ : ByteArray), .string (⟨#[105, 116, 101, 109]⟩ : ByteArray), .string ⟨#[]⟩]) rfl rfl rfl rfl rfl (fill_cons (C' := [.string (⟨#[111, 114, 100, 101, 114]⟩ : ByteArray), .string (⟨#[112, 97, 105, 100]⟩ : ByteArray), .string (⟨#[105, 116, 101, 109]⟩ : ByteArray), .string (⟨#[111, 114, 100, 101, 114]⟩ : ByteArray)]) rfl rfl rfl rfl rfl (fill_nil)))))) rfl rc1 rfl (by simpa using Kw.nil)) rfl ?_
 rintro v1 Φ_1 D1 ⟨fr1, h1⟩
 replace h1 : OSl RS 9 1 Φ_1 [] v1 ([(⟨#[111, 114, 100, 101, 114]⟩ : ByteArray), (⟨#[112, 97, 105, 100]⟩ : ByteArray), (⟨#[105, 116, 101, 109]⟩ : ByteArray), (⟨#[111, 114, 100, 101, 114]⟩ : ByteArray)] : List ByteArray) := by simpa using h1
 replace pp0 := fr1 _ _ (by simp) pp0
 refine kcb [1] h rfl rfl rfl rfl (fun b ap z q => m_s_l1Str_ok N b p0 ([(⟨#[111, 114, 100, 101, 114]⟩ : ByteArray), (⟨#[112, 97, 105, 100]⟩ : ByteArray), (⟨#[105, 116, 101, 109]⟩ : ByteArray), (⟨#[111, 114, 100, 101, 114]⟩ : ByteArray)] : List ByteArray) (ph0_0.y z) pp0 (h1.rsl.x (Dj.app (ap.q 0 rfl) dN)) q) ?_
 rintro x1 h v2 Φ_2 F1 ⟨ap1, fr2, rfl, rfl, e1, h2⟩
 refine la rfl <| lq (q_build (vs := [(0, .string x1.1), (2, .bool p1)]) (C := #[.string x1.1, .slice none 0 0, .bool p1]) Pl_35 Zr_35 rfl (fill_cons (C' := [.string x1.1, .slice none 0 0, .bool false]) rfl rfl rfl rfl rfl (fill_cons (C' := [.string x1.1, .slice none 0 0, .bool p1]) rfl rfl rfl rfl rfl (fill_nil)))) rfl <| lnz Zr_35 rfl fun b_2 => soN 0 Sz_35 rfl ⟨rfl, rfl, rfl, trivial⟩ rfl ?_
 refine art 12 [0, 0] rfl ?_
 refine cut (σ := Int) (fun s => [(0, pQ pb0), (4, pQ b_1), (5, pQ b_2), (6, iV s)]) (fun s => St w0 Φ_2 [(b_2, .cells #[.string x1.1, .slice none 0 0, .bool p1] 35 (0, 0)), (b_1, .cells #[.string (⟨#[]⟩ : ByteArray), .slice none 0 0, .bool false] 35 (0, 0))] [[pb0]]) (fun s => m_s_l6Draw_j1 N p0 p1 x1 s = some r) (fun s hm => ?_) (fun K => ?_)
 ·clear h
  revert hm; revert s; intro s1 hm
  have h : m_s_l6Draw_j1 N p0 p1 x1 s1 = some r := hm
  show WT _ _ [(0, pQ pb0), (4, pQ b_1), (5, pQ b_2), (6, iV s1)] (St w0 Φ_2 [(b_2, .cells #[.string x1.1, .slice none 0 0, .bool p1] 35 (0, 0)), (b_1, .cells #[.string (⟨#[]⟩ : ByteArray), .slice none 0 0, .bool false] 35 (0, 0))] [[pb0]])
  unfold m_s_l6Draw_j1 at h
  refine att 6 [] rfl <| wtS ?_
  have k1 := OSl.nil RTArg 60 5 Φ_2
  refine lin (σ := Hp × (List TArg) × Value × Int × Int × Int) (fun s => [(0, pQ pb0), (4, pQ b_1), (5, pQ b_2), (6, iV s1), (7, iV s.2.2.2.1)]) (fun s => St w0 s.1 [(b_2, .cells #[.string x1.1, s.2.2.1, .bool p1] 35 (0, 0)), (b_1, .cells #[.string (⟨#[]⟩ : ByteArray), .slice none 0 0, .bool false] 35 (0, 0))] [ob s.2.2.1, [pb0]]) (fun m s => m_s_l6Draw_l2 N p0 p1 x1 s1 m s.2.1 s.2.2.2.1 s.2.2.2.2.1 s.2.2.2.2.2 = some r ∧ (OSl RTArg 60 5 s.1 [] s.2.2.1 s.2.1) ∧ (s.1 pb0 = some (.cells #[pv0_0, iV s.2.2.2.2.1, iV s.2.2.2.2.2] 107 (0, 0)))) (Φ_2, ([] : List TArg), (.slice none 0 0), 0, x1.2.i, x1.2.h) N ⟨h, k1, h2⟩ (sx [0, 0] [0, 0]) (fun n2 ih2 s hm => ?_)
  obtain ⟨Φ_3, s2, u1, s3, s4, s5⟩ := s
  obtain ⟨h, k2, k3⟩ := hm
  dsimp only at h k2 k3 ⊢
  unfold m_s_l6Draw_l2 at h
  refine att 7 [] rfl ?_
  refine ch h rfl ?_ ?_ <;> intro h
  ·refine att 3 [] rfl <| wm [0, 1] [7] rfl <| amm 3 [0, 1, 1, 0, 2] [0, 1] rfl rfl ?_
   obtain ⟨x2, hx2, h⟩ := bs h
   refine WM.one 3 (by kernel_rfl) (mc rfl (fun _ v Φx D w1 hq hw => Kn.of Kf.nil (ai2 0 1 rfl rfl) hw) (k_call (js := [1]) (R := [ob u1]) Fun_187 rfl rfl (fun w1 hw ap hl => m_s_l6Arg_ok N (bx hw ap hl) (⟨p0.b, s4, s5⟩ : Tl1Cur) (ph0_0.y (hw.uo ap)) k3  hx2)) rfl ?_)
   rintro v3 Φ_4 F2 ⟨ap2, fr3, rfl, rfl, e2, h3⟩
   replace k2 := k2.fr fr3 (ap2.q 0 rfl) dN
   have rc2 : RC RTArg 5 Φ_4 ([[]] : List (List Nat)) [iV x2.1.K, .string x2.1.S, iV x2.1.V.K, iV x2.1.V.N, .string x2.1.V.S] ([x2.1] : List TArg) := RC.cons (c := [iV x2.1.K, .string x2.1.S, iV x2.1.V.K, iV x2.1.V.N, .string x2.1.V.S]) (cells := []) ⟨rfl, rfl⟩ rfl (RC.nil _ _ _)
   refine WM.one 4 (by kernel_rfl) (me rfl (fun _ v Φx D w1 hq hw => Kn.of Kf.nil (ai2 0 1 rfl rfl) hw) (e_lit (vs := [(0, .agg [iV x2.1.K, .string x2.1.S, iV x2.1.V.K, iV x2.1.V.N, .string x2.1.V.S].toArray)]) (C := #[iV x2.1.K, .string x2.1.S, iV x2.1.V.K, iV x2.1.V.N, .string x2.1.V.S]) RTArg.lasts Sl_33 Zr_60 rfl rfl rfl rfl (fill_made MC_60_1 (fill_cons (C' := [iV x2.1.K, .string x2.1.S, iV x2.1.V.K, iV x2.1.V.N, .string x2.1.V.S]) rfl rfl rfl rfl rfl (fill_nil))) rfl rc2 rfl (by simpa using Kw.nil)) rfl ?_)
   rintro v4 Φ_5 D2 ⟨fr4, h4⟩
   replace h4 : OSl RTArg 60 5 Φ_5 [] v4 ([x2.1] : List TArg) := by simpa using h4
   replace k2 := k2.f0 fr4
   replace h3 := fr4 _ _ (by simp) h3
   obtain ⟨x3, hx3, h⟩ := bs h
   refine WM.one 5 (by kernel_rfl) (me rfl (fun _ v Φx D w1 hq hw => Kn.of Kf.nil (ai2 0 1 rfl rfl) hw) (e_appF RTArg.lasts RTArg.one RTArg.flat Sl_33 Ei_60 rfl rfl rfl rfl rfl (js := [2]) (Rr := [ob v4, [pb0]]) rfl k2 h4.rsl hx3) rfl ?_)
   rintro v5 Φ_6 D3 ⟨⟨ap3, fr5⟩, h5⟩
   replace h3 := fr5 _ _ ((ap3.q 1 rfl) _ (by simp)) h3
   refine amm 1 [6, 1] [0, 1] rfl rfl ?_
   refine on1 7 (ms1 0 rfl nk Sz_33 rfl h5.one ?_)
   refine WM.nil (by kernel_rfl) <| att 6 [] rfl ?_
   exact lb [0, 1] [0, 0] (ih2 (_, _, _, _, _, _) ⟨h, h5, h3⟩)
  refine atr 4 [3] rfl <| soN 1 Sz_35 rfl ⟨rfl, k2.one, rfl, trivial⟩ rfl ?_
  refine en ?_
  exact rtg [0, 0] hF (resOk.one (rv_cell Tn_35 rfl (fun w1 hw => hw.rgO (i := 1) rfl 0 3 [.string x1.1, u1, .bool p1] rfl) rfl)) rfl (by cases h; exact fun w1 hw => ⟨u1, rfl, rfl, k2, rfl, k3⟩)
 refine ch h rfl ?_ ?_ <;> intro h
 ·refine att 3 [] rfl ?_
  exact wo [0] [0, 0] (K _ h)
 refine WT.skip ?_
 exact wo [0] [0, 0] (K _ h)
theorem m_s_l7Arg_ok (w0 : Base Ψ Φ [[pb0]].flatten) (p0 : Tl1Cur) (ph0_0 : RSl (RI .u8) 1 Ψ pG0_0 pv0_0 p0.b) (pp0 : Φ pb0 = some (.cells #[pv0_0, iV p0.i, iV p0.h] 107 (0, 0))) {r : TArg × Tl1Cur} (h : m_s_l7Arg N p0 = some r) :
  Calls prog 188 [pQ pb0].toArray w0.w (PostG Φ w0.w [[pb0]].flatten (fun Φ' Fs v => v = .agg [iV r.1.K, .string r.1.S, iV r.1.V.K, iV r.1.V.N, .string r.1.V.S].toArray ∧ Fs = [[pb0]] ∧ r.2.b = p0.b ∧ Φ' pb0 = some (.cells #[pv0_0, iV r.2.i, iV r.2.h] 107 (0, 0)))) := by
 refine eL func188 rfl ntmps188 rfl (L := [[pb0]]) w0 (fun hF => ?_)
 unfold m_s_l7Arg at h
 refine sr <| lnz Zr_60 rfl fun b_1 => arr 5 [] rfl <| kcb [0] h rfl rfl rfl rfl (fun b ap z q => m_s_l1Once_ok N b p0 3 (ph0_0.y z) pp0 q) ?_
 rintro x1 h v1 Φ_1 F1 ⟨ap1, fr1, rfl, rfl, e1, h1⟩
 refine en ?_
 refine ch h rfl ?_ ?_ <;> intro h
 ·refine sr <| la rfl <| kcb [0] h rfl rfl rfl rfl (fun b ap z q => m_s_l3Small_ok N b (⟨p0.b, x1.2.i, x1.2.h⟩ : Tl1Cur) (ph0_0.y z) h1 q) ?_
  rintro x2 h v2 Φ_2 F2 ⟨ap2, fr2, rfl, rfl, e2, h2⟩
  refine qc h (m_s_l6Val_ok N · x2.1 ·) rfl rfl rfl fun x3 h => soN 0 Sz_60 rfl ⟨rfl, rfl, rfl, rfl, rfl, trivial⟩ rfl ?_
  refine en ?_
  exact rtg [0] hF (resOk.one (rv_cell Tn_60 rfl (fun w1 hw => hw.rgO (i := 0) rfl 0 5 [iV x3.K, .string x3.S, iV x3.V.K, iV x3.V.N, .string x3.V.S] rfl) rfl)) rfl (by cases h; exact fun w1 hw => ⟨rfl, rfl, rfl, h2⟩)
 refine atr 4 [] rfl ?_
 have rc1 : RC RS 1 Φ_1 ([[], []] : List (List Nat)) [.string (⟨#[88]⟩ : ByteArray), .string (⟨#[89]⟩ : ByteArray)] ([(⟨#[88]⟩ : ByteArray), (⟨#[89]⟩ : ByteArray)] : List ByteArray) := RC.cons (c := [.string (⟨#[88]⟩ : ByteArray)]) (cells := [.string (⟨#[89]⟩ : ByteArray)]) ⟨rfl, rfl⟩ rfl (RC.cons (c := [.string (⟨#[89]⟩ : ByteArray)]) (cells := []) ⟨rfl, rfl⟩ rfl (RC.nil _ _ _))
 refine le' (e_lit (vs := [(0, .string (⟨#[88]⟩ : ByteArray)), (1, .string (⟨#[89]⟩ : ByteArray))]) (C := #[.string (⟨#[88]⟩ : ByteArray), .string (⟨#[89]⟩ : ByteArray)]) RS.lasts Sl_68 Zr_9 rfl rfl rfl rfl (fill_made MC_9_2 (fill_cons (C' := [.string (⟨#[88]⟩ : ByteArray), .string ⟨#[]⟩]) rfl rfl rfl rfl rfl (fill_cons (C' := [.string (⟨#[88]⟩ : ByteArray), .string (⟨#[89]⟩ : ByteArray)]) rfl rfl rfl rfl rfl (fill_nil)))) rfl rc1 rfl (by simpa using Kw.nil)) rfl ?_
 rintro v3 Φ_3 D1 ⟨fr3, h3⟩
 replace h3 : OSl RS 9 1 Φ_3 [] v3 ([(⟨#[88]⟩ : ByteArray), (⟨#[89]⟩ : ByteArray)] : List ByteArray) := by simpa using h3
 replace h1 := fr3 _ _ (by simp) h1
 refine kcb [1] h rfl rfl rfl rfl (fun b ap z q => m_s_l1Str_ok N b (⟨p0.b, x1.2.i, x1.2.h⟩ : Tl1Cur) ([(⟨#[88]⟩ : ByteArray), (⟨#[89]⟩ : ByteArray)] : List ByteArray) (ph0_0.y z) h1 (h3.rsl.x (Dj.app (ap.q 0 rfl) dN)) q) ?_
 rintro x4 h v4 Φ_4 F3 ⟨ap3, fr4, rfl, rfl, e3, h4⟩
 refine qc h (m_s_l6Var_ok N · x4.1 ·) rfl rfl rfl fun x5 h => soN 0 Sz_60 rfl ⟨rfl, rfl, rfl, rfl, rfl, trivial⟩ rfl ?_
 refine en ?_
 exact rtg [0] hF (resOk.one (rv_cell Tn_60 rfl (fun w1 hw => hw.rgO (i := 0) rfl 0 5 [iV x5.K, .string x5.S, iV x5.V.K, iV x5.V.N, .string x5.V.S] rfl) rfl)) rfl (by cases h; exact fun w1 hw => ⟨rfl, rfl, rfl, h4⟩)
theorem m_s_l7Draw_ok (w0 : Base Ψ Φ [[pb0]].flatten) (p0 : Tl1Cur) (ph0_0 : RSl (RI .u8) 1 Ψ pG0_0 pv0_0 p0.b) (pp0 : Φ pb0 = some (.cells #[pv0_0, iV p0.i, iV p0.h] 107 (0, 0))) {r : TCond × Tl1Cur} (h : m_s_l7Draw N p0 = some r) :
  Calls prog 139 [pQ pb0].toArray w0.w (PostG Φ w0.w [[pb0]].flatten (fun Φ' Fs v => v = .agg [iV r.1.Op, iV r.1.L.K, .string r.1.L.S, iV r.1.L.V.K, iV r.1.L.V.N, .string r.1.L.V.S, iV r.1.R.K, .string r.1.R.S, iV r.1.R.V.K, iV r.1.R.V.N, .string r.1.R.V.S].toArray ∧ Fs = [[pb0]] ∧ r.2.b = p0.b ∧ Φ' pb0 = some (.cells #[pv0_0, iV r.2.i, iV r.2.h] 107 (0, 0)))) := by
 refine eL func139 rfl ntmps139 rfl (L := [[pb0]]) w0 (fun hF => ?_)
 unfold m_s_l7Draw at h
 refine sr <| lnz Zr_62 rfl fun b_1 => arr 4 [] rfl <| kcb [0] h rfl rfl rfl rfl (fun b ap z q => m_s_l1Below_ok N b p0 3 (ph0_0.y z) pp0 q) ?_
 rintro x1 h v1 Φ_1 F1 ⟨ap1, fr1, rfl, rfl, e1, h1⟩
 refine arr 2 [] rfl <| kcb [0] h rfl rfl rfl rfl (fun b ap z q => m_s_l7Arg_ok N b (⟨p0.b, x1.2.i, x1.2.h⟩ : Tl1Cur) (ph0_0.y z) h1 q) ?_
 rintro x2 h v2 Φ_2 F2 ⟨ap2, fr2, rfl, rfl, e2, h2⟩
 refine la rfl <| kcb [0] h rfl rfl rfl rfl (fun b ap z q => m_s_l7Arg_ok N b (⟨p0.b, x2.2.i, x2.2.h⟩ : Tl1Cur) (ph0_0.y z) h2 q) ?_
 rintro x3 h v3 Φ_3 F3 ⟨ap3, fr3, rfl, rfl, e3, h3⟩
 refine lq (q_build (vs := [(0, iV (wz (1 + x1.1))), (1, .agg [iV x2.1.K, .string x2.1.S, iV x2.1.V.K, iV x2.1.V.N, .string x2.1.V.S].toArray), (2, .agg [iV x3.1.K, .string x3.1.S, iV x3.1.V.K, iV x3.1.V.N, .string x3.1.V.S].toArray)]) (C := #[iV (wz (1 + x1.1)), iV x2.1.K, .string x2.1.S, iV x2.1.V.K, iV x2.1.V.N, .string x2.1.V.S, iV x3.1.K, .string x3.1.S, iV x3.1.V.K, iV x3.1.V.N, .string x3.1.V.S]) Pl_62 Zr_62 rfl (fill_cons (C' := [iV (wz (1 + x1.1)), iV 0, .string ⟨#[]⟩, iV 0, iV 0, .string ⟨#[]⟩, iV 0, .string ⟨#[]⟩, iV 0, iV 0, .string ⟨#[]⟩]) rfl rfl rfl rfl rfl (fill_cons (C' := [iV (wz (1 + x1.1)), iV x2.1.K, .string x2.1.S, iV x2.1.V.K, iV x2.1.V.N, .string x2.1.V.S, iV 0, .string ⟨#[]⟩, iV 0, iV 0, .string ⟨#[]⟩]) rfl rfl rfl rfl rfl (fill_cons (C' := [iV (wz (1 + x1.1)), iV x2.1.K, .string x2.1.S, iV x2.1.V.K, iV x2.1.V.N, .string x2.1.V.S, iV x3.1.K, .string x3.1.S, iV x3.1.V.K, iV x3.1.V.N, .string x3.1.V.S]) rfl rfl rfl rfl rfl (fill_nil))))) rfl ?_
 refine soN 0 Sz_62 rfl ⟨rfl, rfl, rfl, rfl, rfl, rfl, rfl, rfl, rfl, rfl, rfl, trivial⟩ rfl ?_
 refine en ?_
 exact rtg [0] hF (resOk.one (rv_cell Tn_62 rfl (fun w1 hw => hw.rgO (i := 0) rfl 0 11 [iV (wz (1 + x1.1)), iV x2.1.K, .string x2.1.S, iV x2.1.V.K, iV x2.1.V.N, .string x2.1.V.S, iV x3.1.K, .string x3.1.S, iV x3.1.V.K, iV x3.1.V.N, .string x3.1.V.S] rfl) rfl)) rfl (by cases h; exact fun w1 hw => ⟨rfl, rfl, rfl, h3⟩)
theorem m_s_l9Fit_ok (w0 : Base Ψ Φ []) (p0 : TArg) (p1 : (List ByteArray)) (ph1 : RSl RS 1 Ψ pG1 pv1 p1) {r : TArg} (h : m_s_l9Fit N p0 p1 = some r) :
  CB w0 prog 140 [.agg [iV p0.K, .string p0.S, iV p0.V.K, iV p0.V.N, .string p0.V.S].toArray, pv1] (.agg [iV r.K, .string r.S, iV r.V.K, iV r.V.N, .string r.V.S].toArray) := by
 refine eN func140 rfl ntmps140 rfl w0 fun hF => ?_
 unfold m_s_l9Fit at h
 refine sr <| lbx rfl fun b_1 => lnz Zr_60 rfl fun b_2 => arr 6 [37] rfl <| qd h (m_s_l9Known_ok N · p0 p1 ph1 ·) rfl rfl rfl fun x1 h => en ?_
 refine ch h rfl ?_ ?_ <;> intro h
 ·refine atr 3 [37] rfl <| soN 0 Sz_60 rfl ⟨rfl, rfl, rfl, rfl, rfl, trivial⟩ rfl ?_
  refine en ?_
  refine WT.ret hF (resOk.one (rv_cell Tn_60 rfl (fun w1 hw => hw.rgO (i := 0) rfl 0 5 [iV p0.K, .string p0.S, iV p0.V.K, iV p0.V.N, .string p0.V.S] rfl) rfl)) (fun w1 hw => ?_)
  cases h
  exact post_of_St hw
 refine atr 5 [] rfl <| lnr ph1 rfl <| la rfl <| en ?_
 refine ch h rfl ?_ ?_ <;> intro h
 ·refine sr <| lq (q_build (vs := [(0, iV 1), (1, iV 1)]) (C := #[iV 1, iV 1, .string (⟨#[]⟩ : ByteArray)]) Pl_58 Zr_58 rfl (fill_cons (C' := [iV 1, iV 0, .string ⟨#[]⟩]) rfl rfl rfl rfl rfl (fill_cons (C' := [iV 1, iV 1, .string ⟨#[]⟩]) rfl rfl rfl rfl rfl (fill_nil)))) rfl <| qc h (m_s_l6Val_ok N · (⟨1, 1, (⟨#[]⟩ : ByteArray)⟩ : TVal) ·) rfl rfl rfl fun x2 h => soN 0 Sz_60 rfl ⟨rfl, rfl, rfl, rfl, rfl, trivial⟩ rfl ?_
  refine en ?_
  refine WT.ret hF (resOk.one (rv_cell Tn_60 rfl (fun w1 hw => hw.rgO (i := 0) rfl 0 5 [iV x2.K, .string x2.S, iV x2.V.K, iV x2.V.N, .string x2.V.S] rfl) rfl)) (fun w1 hw => ?_)
  cases h
  exact post_of_St hw
 refine atr 4 [] rfl ?_
 obtain ⟨x3, hx3, h⟩ := bs h
 obtain ⟨cs1, F1, -, g1, hb1, hs1, r1⟩ := ph1.el (idx_some hx3).2.2
 obtain ⟨rfl, -⟩ := r1
 refine lia ph1 hx3 rfl <| lhx 0 0 g1 rfl <| qc h (m_s_l6Var_ok N · x3 ·) rfl rfl rfl fun x4 h => soN 0 Sz_60 rfl ⟨rfl, rfl, rfl, rfl, rfl, trivial⟩ rfl ?_
 refine en ?_
 refine WT.ret hF (resOk.one (rv_cell Tn_60 rfl (fun w1 hw => hw.rgO (i := 0) rfl 0 5 [iV x4.K, .string x4.S, iV x4.V.K, iV x4.V.N, .string x4.V.S] rfl) rfl)) (fun w1 hw => ?_)
 cases h
 exact post_of_St hw
theorem m_s_l8Expr_ok (w0 : Base Ψ Φ [[pb0]].flatten) (p0 : Tl1Cur) (ph0_0 : RSl (RI .u8) 1 Ψ pG0_0 pv0_0 p0.b) (pp0 : Φ pb0 = some (.cells #[pv0_0, iV p0.i, iV p0.h] 107 (0, 0))) {r : TExpr × Tl1Cur} (h : m_s_l8Expr N p0 = some r) :
  Calls prog 191 [pQ pb0].toArray w0.w (PostG Φ w0.w [[pb0]].flatten (fun Φ' Fs v => v = .agg [.string r.1.Op, iV r.1.L.K, .string r.1.L.S, iV r.1.L.V.K, iV r.1.L.V.N, .string r.1.L.V.S, iV r.1.R.K, .string r.1.R.S, iV r.1.R.V.K, iV r.1.R.V.N, .string r.1.R.V.S].toArray ∧ Fs = [[pb0]] ∧ r.2.b = p0.b ∧ Φ' pb0 = some (.cells #[pv0_0, iV r.2.i, iV r.2.h] 107 (0, 0)))) := by
 refine eL func191 rfl ntmps191 rfl (L := [[pb0]]) w0 (fun hF => ?_)
 unfold m_s_l8Expr at h
 refine sr <| lnz Zr_116 rfl fun b_1 => arr 4 [] rfl <| kcb [0] h rfl rfl rfl rfl (fun b ap z q => m_s_l7Arg_ok N b p0 (ph0_0.y z) pp0 q) ?_
 rintro x1 h v1 Φ_1 F1 ⟨ap1, fr1, rfl, rfl, e1, h1⟩
 refine lq (q_build (vs := [(1, .agg [iV x1.1.K, .string x1.1.S, iV x1.1.V.K, iV x1.1.V.N, .string x1.1.V.S].toArray)]) (C := #[.string (⟨#[]⟩ : ByteArray), iV x1.1.K, .string x1.1.S, iV x1.1.V.K, iV x1.1.V.N, .string x1.1.V.S, iV 0, .string (⟨#[]⟩ : ByteArray), iV 0, iV 0, .string (⟨#[]⟩ : ByteArray)]) Pl_116 Zr_116 rfl (fill_cons (C' := [.string ⟨#[]⟩, iV x1.1.K, .string x1.1.S, iV x1.1.V.K, iV x1.1.V.N, .string x1.1.V.S, iV 0, .string ⟨#[]⟩, iV 0, iV 0, .string ⟨#[]⟩]) rfl rfl rfl rfl rfl (fill_nil))) rfl ?_
 refine lnz Zr_116 rfl fun b_2 => soN 0 Sz_116 rfl ⟨rfl, rfl, rfl, rfl, rfl, rfl, rfl, rfl, rfl, rfl, rfl, trivial⟩ rfl ?_
 refine arr 5 [] rfl <| kcb [0] h rfl rfl rfl rfl (fun b ap z q => m_s_l1Once_ok N b (⟨p0.b, x1.2.i, x1.2.h⟩ : Tl1Cur) 4 (ph0_0.y z) h1 q) ?_
 rintro x2 h v2 Φ_2 F2 ⟨ap2, fr2, rfl, rfl, e2, h2⟩
 refine en ?_
 refine cut (σ := Hp × Int × Int × ByteArray × Int × ByteArray × Int × Int × ByteArray) (fun s => [(2, pQ b_1), (3, pQ b_2)]) (fun s => St w0 s.1 [(b_2, .cells #[.string s.2.2.2.1, iV x1.1.K, .string x1.1.S, iV x1.1.V.K, iV x1.1.V.N, .string x1.1.V.S, iV s.2.2.2.2.1, .string s.2.2.2.2.2.1, iV s.2.2.2.2.2.2.1, iV s.2.2.2.2.2.2.2.1, .string s.2.2.2.2.2.2.2.2] 116 (0, 0)), (b_1, .cells #[.string (⟨#[]⟩ : ByteArray), iV 0, .string (⟨#[]⟩ : ByteArray), iV 0, iV 0, .string (⟨#[]⟩ : ByteArray), iV 0, .string (⟨#[]⟩ : ByteArray), iV 0, iV 0, .string (⟨#[]⟩ : ByteArray)] 116 (0, 0))] [[pb0]]) (fun s => m_s_l8Expr_j1 N p0 x1 s.2.1 s.2.2.1 s.2.2.2.1 s.2.2.2.2.1 s.2.2.2.2.2.1 s.2.2.2.2.2.2.1 s.2.2.2.2.2.2.2.1 s.2.2.2.2.2.2.2.2 = some r ∧ (s.1 pb0 = some (.cells #[pv0_0, iV s.2.1, iV s.2.2.1] 107 (0, 0)))) (fun s hm => ?_) (fun K => ?_)
 ·clear h
  obtain ⟨Φ_3, s1, s2, s3, s4, s5, s6, s7, s8⟩ := s
  obtain ⟨h, k1⟩ := hm
  dsimp only at h k1 ⊢
  unfold m_s_l8Expr_j1 at h
  refine atr 3 [11] rfl <| soN 1 Sz_116 rfl ⟨rfl, rfl, rfl, rfl, rfl, rfl, rfl, rfl, rfl, rfl, rfl, trivial⟩ rfl ?_
  refine en ?_
  exact rtg [0] hF (resOk.one (rv_cell Tn_116 rfl (fun w1 hw => hw.rgO (i := 1) rfl 0 11 [.string s3, iV x1.1.K, .string x1.1.S, iV x1.1.V.K, iV x1.1.V.N, .string x1.1.V.S, iV s4, .string s5, iV s6, iV s7, .string s8] rfl) rfl)) rfl (by cases h; exact fun w1 hw => ⟨rfl, rfl, rfl, k1⟩)
 refine ch h rfl ?_ ?_ <;> intro h
 ·refine sr <| la rfl ?_
  have rc1 : RC RS 1 Φ_2 ([[], []] : List (List Nat)) [.string (⟨#[43]⟩ : ByteArray), .string (⟨#[45]⟩ : ByteArray)] ([(⟨#[43]⟩ : ByteArray), (⟨#[45]⟩ : ByteArray)] : List ByteArray) := RC.cons (c := [.string (⟨#[43]⟩ : ByteArray)]) (cells := [.string (⟨#[45]⟩ : ByteArray)]) ⟨rfl, rfl⟩ rfl (RC.cons (c := [.string (⟨#[45]⟩ : ByteArray)]) (cells := []) ⟨rfl, rfl⟩ rfl (RC.nil _ _ _))
  refine le' (e_lit (vs := [(0, .string (⟨#[43]⟩ : ByteArray)), (1, .string (⟨#[45]⟩ : ByteArray))]) (C := #[.string (⟨#[43]⟩ : ByteArray), .string (⟨#[45]⟩ : ByteArray)]) RS.lasts Sl_68 Zr_9 rfl rfl rfl rfl (fill_made MC_9_2 (fill_cons (C' := [.string (⟨#[43]⟩ : ByteArray), .string ⟨#[]⟩]) rfl rfl rfl rfl rfl (fill_cons (C' := [.string (⟨#[43]⟩ : ByteArray), .string (⟨#[45]⟩ : ByteArray)]) rfl rfl rfl rfl rfl (fill_nil)))) rfl rc1 rfl (by simpa using Kw.nil)) rfl ?_
  rintro v3 Φ_4 D1 ⟨fr3, h3⟩
  replace h3 : OSl RS 9 1 Φ_4 [] v3 ([(⟨#[43]⟩ : ByteArray), (⟨#[45]⟩ : ByteArray)] : List ByteArray) := by simpa using h3
  replace h2 := fr3 _ _ (by simp) h2
  refine kcb [1] h rfl rfl rfl rfl (fun b ap z q => m_s_l1Str_ok N b (⟨p0.b, x2.2.i, x2.2.h⟩ : Tl1Cur) ([(⟨#[43]⟩ : ByteArray), (⟨#[45]⟩ : ByteArray)] : List ByteArray) (ph0_0.y z) h2 (h3.rsl.x (Dj.app (ap.q 0 rfl) dN)) q) ?_
  rintro x3 h v4 Φ_5 F3 ⟨ap3, fr4, rfl, rfl, e3, h4⟩
  refine lf Fld_116_0 rfl rfl rfl <| so1 0 Sz_9 rfl rfl ?_
  refine arr 3 [] rfl <| kcb [0] h rfl rfl rfl rfl (fun b ap z q => m_s_l7Arg_ok N b (⟨p0.b, x3.2.i, x3.2.h⟩ : Tl1Cur) (ph0_0.y z) h4 q) ?_
  rintro x4 h v5 Φ_6 F4 ⟨ap4, fr5, rfl, rfl, e4, h5⟩
  refine lf Fld_116_2 rfl rfl rfl <| soN 0 Sz_60 rfl ⟨rfl, rfl, rfl, rfl, rfl, trivial⟩ rfl ?_
  refine en ?_
  exact wo [0] [0, 0] (K (_, _, _, _, _, _, _, _, _) ⟨h, h5⟩)
 refine WT.skip ?_
 exact wo [0] [0, 0] (K (_, _, _, _, _, _, _, _, _) ⟨h, h2⟩)
end Go.Proofs.YteipbimepilcfaaGreatDoor
