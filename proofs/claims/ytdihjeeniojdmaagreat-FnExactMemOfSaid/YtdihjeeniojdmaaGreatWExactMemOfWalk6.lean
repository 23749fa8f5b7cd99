/- Printed by a program of ours: each Go function computes its Lean function. -/
import Derived.Test.YtdihjeeniojdmaaGreatProg
import Derived.Test.YtdihjeeniojdmaaGreatWExactMemOfWalk5
namespace Go.Proofs.YtdihjeeniojdmaaGreat
open Eng Tryz
open Go.RowKit (Below)
set_option linter.unusedVariables false
set_option linter.unusedSimpArgs false

set_option maxRecDepth 100000
set_option maxHeartbeats 1000000
variable {Ψ Φ : Hp} {pv0_0 pv1_0 pv0 pv1 pv0_1 pv1_1 pv2 pv0_2 pv3_0 pv1_2 pv2_0 pv3 : Value} {pG0_0 pG1_0 pG0 pG1 pG0_1 pG1_1 pD0_0 pG2 pG0_2 pD2 pG3_0 pD0 pG1_2 pG2_0 pG3 : List Nat} {pb0 : Nat} (N : Nat)
theorem m_s_IdOf_ok (w0 : Base Ψ Φ []) (p0 : TStore) (p1 : TFact) (ph0_0 : RSl RTItem 3 Ψ pG0_0 pv0_0 p0.Items) (ph1_0 : RSl RTVal 3 Ψ pG1_0 pv1_0 p1.Fields) {r : Int} (h : m_s_IdOf N p0 p1 = some r) :
  CB w0 prog 114 [.agg [pv0_0, iV p0.Next].toArray, .agg [.string p1.Kind, pv1_0].toArray] (iV r) := by
 refine eN func114 rfl ntmps114 rfl w0 fun hF => ?_
 unfold m_s_IdOf at h
 refine sr <| lbx rfl fun b_1 => lbx rfl fun b_2 => art 8 [] rfl ?_
 refine lin (σ := Int) (fun s => [(2, pQ b_1), (3, pQ b_2), (5, iV s)]) (fun s => St w0 Φ [(b_2, .cells #[.string p1.Kind, pv1_0] 80 (0, 0)), (b_1, .cells #[pv0_0, iV p0.Next] 57 (0, 0))] []) (fun m s => m_s_IdOf_l1 N p0 p1 m s = some r) (0) N h (sx [] [0, 0]) (fun n1 ih1 s hm => ?_)
 revert hm; revert s; intro s1 hm
 have h : m_s_IdOf_l1 N p0 p1 (n1 + 1) s1 = some r := hm
 show WT _ _ [(2, pQ b_1), (3, pQ b_2), (5, iV s1)] (St w0 Φ [(b_2, .cells #[.string p1.Kind, pv1_0] 80 (0, 0)), (b_1, .cells #[pv0_0, iV p0.Next] 57 (0, 0))] [])
 unfold m_s_IdOf_l1 at h
 refine atr 6 [0, 32] rfl <| lnr ph0_0 rfl <| la rfl <| en ?_
 refine ch h rfl ?_ ?_ <;> intro h
 ·refine att 4 [] rfl <| WT.draw mixed (by kernel_rfl) (fun _ h => h.drew) <| aqq 3 [0, 32] rfl ?_
  obtain ⟨x1, hx1, h⟩ := bs h
  obtain ⟨cs1, F1, -, g1, hb1, hs1, r1⟩ := ph0_0.el (idx_some hx1).2.2
  obtain ⟨v1, G1, rfl, hq1, h1⟩ := r1
  obtain rfl := hq1.symm
  refine qq (q_indexAddr Sl_55 rfl rfl ph0_0 hx1) rfl <| qq (q_fieldAddr Fld_107_1 rfl) rfl <| qq (q_loadN Tn_80 rfl (fun w1 hw => (g1.of_eq 1 2 rfl rfl : rg _ _ _ [.string x1.F.Kind, v1]).rangeAt hw.in0) rfl) rfl <| qq (q_loadN Tn_80 rfl (fun w1 hw => hw.rgO (i := 0) rfl 0 2 [.string p1.Kind, pv1_0] rfl) rfl) rfl ?_
  obtain ⟨x2, hx2, h⟩ := bs h
  refine qp (p_call Fun_225 rfl (fun w1 hw => m_s_SameFact_ok N (ba hw.in0) x1.F p1 h1 ph1_0 hx2)) rfl <| WQ.nil ?_
  refine ch h rfl ?_ ?_ <;> intro h
  ·refine atr 5 [0, 32] rfl ?_
   obtain ⟨x3, hx3, h⟩ := bs h
   obtain ⟨cs2, F2, -, g2, hb2, hs2, r2⟩ := ph0_0.el (idx_some hx3).2.2
   obtain ⟨v2, G2, rfl, hq2, h2⟩ := r2
   obtain rfl := hq2.symm
   refine lia ph0_0 hx3 rfl <| lf Fld_107_0 rfl rfl rfl <| lhx 0 0 g2 rfl <| la rfl <| en ?_
   exact rt hF h
  refine att 7 [] rfl ?_
  exact lb [] [0, 0] (ih1 _ h)
 refine att 5 [] rfl ?_
 exact rt hF h
theorem m_s_l3Vals_ok (w0 : Base Ψ Φ []) (p0 : (List TVal)) (ph0 : RSl RTVal 3 Ψ pG0 pv0 p0) {r : Bool} (h : m_s_l3Vals N p0 = some r) :
  CB w0 prog 255 [pv0] (.bool r) := by
 refine eN func255 rfl ntmps255 rfl w0 fun hF => ?_
 unfold m_s_l3Vals at h
 refine att 10 [] rfl ?_
 refine lin (σ := Int) (fun s => [(0, pv0), (3, iV s)]) (fun s => St w0 Φ [] []) (fun m s => m_s_l3Vals_l1 N p0 m s = some r) (0) N h (sx [] []) (fun n1 ih1 s hm => ?_)
 revert hm; revert s; intro s1 hm
 have h : m_s_l3Vals_l1 N p0 (n1 + 1) s1 = some r := hm
 show WT _ _ [(0, pv0), (3, iV s1)] (St w0 Φ [] [])
 unfold m_s_l3Vals_l1 at h
 refine atr 5 [] rfl <| lnr ph0 rfl <| la rfl <| en ?_
 refine ch h rfl ?_ ?_ <;> intro h
 ·refine atr 7 [] rfl ?_
  obtain ⟨x1, hx1, h⟩ := bs h
  obtain ⟨cs1, F1, -, g1, hb1, hs1, r1⟩ := ph0.el (idx_some hx1).2.2
  obtain ⟨rfl, -⟩ := r1
  refine lia ph0 hx1 rfl <| lhx 0 3 g1 rfl <| qc h (m_s_ValOk_ok N · x1 ·) rfl rfl rfl fun x2 h => la rfl <| en ?_
  refine ch h rfl ?_ ?_ <;> intro h
  ·refine att 4 [] rfl ?_
   exact rt hF h
  refine att 7 [] rfl ?_
  exact lb [] [] (ih1 _ h)
 refine atr 4 [] rfl <| lnr ph0 rfl <| art 3 [] rfl ?_
 exact rt hF h
theorem m_s_FactOk_ok (w0 : Base Ψ Φ []) (p0 : TFact) (ph0_0 : RSl RTVal 3 Ψ pG0_0 pv0_0 p0.Fields) {r : Bool} (h : m_s_FactOk N p0 = some r) :
  CB w0 prog 149 [.agg [.string p0.Kind, pv0_0].toArray] (.bool r) := by
 refine eN func149 rfl ntmps149 rfl w0 fun hF => ?_
 unfold m_s_FactOk at h
 refine sr <| lbx rfl fun b_1 => arr 6 [0, 0] rfl <| qc h (m_s_NameOk_ok N · p0.Kind ·) rfl rfl rfl fun x1 h => la rfl ?_
 obtain ⟨b1, hb_1, h⟩ := bs h
 refine WL.cutN 4 [(10, .bool b1), (2, .bool false)] ?_ (fun K => ?_)
 rotate_left
 ·refine sp 6 hb_1 rfl (fun hb_1 => ?_) fun hb_1 => ?_
  ·refine arr 2 [1, 0] rfl <| ly rfl rfl <| qd hb_1 (m_s_l3Vals_ok N · p0.Fields ph0_0 ·) rfl rfl rfl fun x2 hb_1 => la rfl ?_
   cases hb_1
   exact ku K
  ·refine arr 4 [] rfl ?_
   cases hb_1
   exact ku K
 refine la rfl <| en ?_
 exact rt hF h
theorem m_s_StoreOk_ok (w0 : Base Ψ Φ []) (p0 : TStore) (ph0_0 : RSl RTItem 3 Ψ pG0_0 pv0_0 p0.Items) {r : Bool} (h : m_s_StoreOk N p0 = some r) :
  CB w0 prog 50 [.agg [pv0_0, iV p0.Next].toArray] (.bool r) := by
 refine eN func50 rfl ntmps50 rfl w0 fun hF => ?_
 unfold m_s_StoreOk at h
 refine sr <| lbx rfl fun b_1 => arr 7 [1, 0] rfl <| qc h (m_s_l1In_ok N · p0.Next 1 1000000 ·) rfl rfl rfl fun x1 h => arr 2 [] rfl ?_
 obtain ⟨b1, hb_1, h⟩ := bs h
 refine WL.cutN 5 [(14, .bool b1), (1, pQ b_1)] ?_ (fun K => ?_)
 rotate_left
 ·refine sp 9 hb_1 rfl (fun hb_1 => ?_) fun hb_1 => ?_
  ·refine arr 5 [] rfl ?_
   cases hb_1
   exact ku K
  ·refine arr 2 [0, 0] rfl <| ly rfl rfl <| lnr ph0_0 rfl <| arr 2 [] rfl ?_
   cases hb_1
   exact ku K
 refine en ?_
 refine ch h rfl ?_ ?_ <;> intro h
 ·refine att 4 [] rfl ?_
  exact rt hF h
 refine att 7 [] rfl ?_
 refine lin (σ := Int) (fun s => [(1, pQ b_1), (3, iV s)]) (fun s => St w0 Φ [(b_1, .cells #[pv0_0, iV p0.Next] 57 (0, 0))] []) (fun m s => m_s_StoreOk_l1 N p0 m s = some r) (0) N h (sx [] [0]) (fun n1 ih1 s hm => ?_)
 revert hm; revert s; intro s1 hm
 have h : m_s_StoreOk_l1 N p0 (n1 + 1) s1 = some r := hm
 show WT _ _ [(1, pQ b_1), (3, iV s1)] (St w0 Φ [(b_1, .cells #[pv0_0, iV p0.Next] 57 (0, 0))] [])
 unfold m_s_StoreOk_l1 at h
 refine atr 6 [0, 0] rfl <| lnr ph0_0 rfl <| la rfl <| en ?_
 refine ch h rfl ?_ ?_ <;> intro h
 ·refine atr 8 [0, 0] rfl ?_
  obtain ⟨x2, hx2, h⟩ := bs h
  obtain ⟨cs1, F1, -, g1, hb1, hs1, r1⟩ := ph0_0.el (idx_some hx2).2.2
  obtain ⟨v1, G1, rfl, hq1, h1⟩ := r1
  obtain rfl := hq1.symm
  refine lia ph0_0 hx2 rfl <| lhx 0 3 g1 rfl <| lnz Zr_107 rfl fun b_2 => soN 0 Sz_107 rfl ⟨rfl, rfl, h1.one, trivial⟩ rfl ?_
  refine en <| sq <| WT.draw mixed (by kernel_rfl) (fun _ h => h.drew) <| aqq 2 [1, 2] rfl ?_
  obtain ⟨x3, hx3, h⟩ := bs h
  refine qp (p_call Fun_149 rfl (fun w1 hw => m_s_FactOk_ok N (ba hw.in0) x2.F h1 hx3)) rfl <| aqq 2 [] rfl ?_
  obtain ⟨b2, hb_2, h⟩ := bs h
  refine WQ.cutN 4 [(35, .bool b2), (1, pQ b_1), (3, iV s1), (4, pQ b_2)] ?_ (fun K => ?_)
  rotate_left
  ·refine WQ.split (d := 31) rfl (fun c4 => ?_) (fun c4 => ?_)
   ·replace hb_2 := ite_t hb_2 c4
    refine aqq 4 [] rfl ?_
    cases hb_2
    exact kq K
   ·replace hb_2 := ite_f hb_2 c4
    refine aqq 4 [0, 0] rfl ?_
    cases hb_2
    exact kq K
  refine qq (q_move rfl) rfl ?_
  obtain ⟨b3, hb_3, h⟩ := bs h
  refine WQ.cutN 6 [(42, .bool b3), (1, pQ b_1), (3, iV s1), (4, pQ b_2)] ?_ (fun K => ?_)
  rotate_left
  ·refine WQ.split (d := 36) rfl (fun c5 => ?_) (fun c5 => ?_)
   ·replace hb_3 := ite_t hb_3 c5
    refine aqq 6 [] rfl ?_
    cases hb_3
    exact kq K
   ·replace hb_3 := ite_f hb_3 c5
    refine aqq 6 [0, 0, 1, 32] rfl ?_
    cases hb_3
    exact kq K
  refine qq (q_move rfl) rfl ?_
  obtain ⟨b4, hb_4, h⟩ := bs h
  refine WQ.cutN 15 [(58, .bool b4), (1, pQ b_1), (3, iV s1), (4, pQ b_2)] ?_ (fun K => ?_)
  rotate_left
  ·refine WQ.split (d := 43) rfl (fun c6 => ?_) (fun c6 => ?_)
   ·replace hb_4 := ite_t hb_4 c6
    refine aqq 15 [] rfl ?_
    cases hb_4
    exact kq K
   ·replace hb_4 := ite_f hb_4 c6
    refine aqq 3 [] rfl ?_
    obtain ⟨b5, hb_5, hb_4⟩ := bs hb_4
    refine WQ.cutN 11 [(57, .bool b5), (1, pQ b_1), (3, iV s1), (4, pQ b_2), (43, .bool false)] ?_ (fun K => ?_)
    rotate_left
    ·refine WQ.split (d := 46) rfl (fun c7 => ?_) (fun c7 => ?_)
     ·replace hb_5 := ite_t hb_5 c7
      refine aqq 4 [0, 32] rfl <| WQ.yes rfl rfl ?_
      obtain ⟨x4, hx4, hb_5⟩ := bs hb_5
      obtain ⟨cs2, F2, -, g2, hb2, hs2, r2⟩ := ph0_0.el (idx_some hx4).2.2
      obtain ⟨v2, G2, rfl, hq2, h2⟩ := r2
      obtain rfl := hq2.symm
      refine qq (q_indexAddr Sl_55 rfl rfl ph0_0 hx4) rfl <| WQ.yes rfl rfl <| qq (q_fieldAddr Fld_107_0 rfl) rfl <| WQ.yes rfl rfl <| qq (q_load1 T1_3 rfl (fun w1 hw => (g2.of_eq 0 1 rfl rfl : rg _ _ _ [iV x4.Id]).rangeAt hw.in0)) rfl <| aqq 4 [0, 0] rfl ?_
      cases hb_5
      exact kq K
     ·replace hb_5 := ite_f hb_5 c7
      refine aqq 11 [] rfl ?_
      cases hb_5
      exact kq K
    refine WQ.q (q_pick0 rfl rfl) rfl rfl rfl ?_
    cases hb_4
    exact kq K
  refine qq (q_move rfl) rfl ?_
  obtain ⟨b6, hb_6, h⟩ := bs h
  refine WQ.cutN 8 [(67, .bool b6), (1, pQ b_1), (3, iV s1)] ?_ (fun K => ?_)
  rotate_left
  ·refine WQ.split (d := 59) rfl (fun c8 => ?_) (fun c8 => ?_)
   ·replace hb_6 := ite_t hb_6 c8
    refine aqq 8 [] rfl ?_
    cases hb_6
    exact kq K
   ·replace hb_6 := ite_f hb_6 c8
    refine aqq 3 [34, 1, 2] rfl <| WQ.yes rfl rfl ?_
    obtain ⟨x5, hx5, hb_6⟩ := bs hb_6
    refine qp (p_call Fun_114 rfl (fun w1 hw => m_s_IdOf_ok N (ba hw.in0) p0 x2.F ph0_0 h1 hx5)) rfl <| aqq 4 [0, 0] rfl ?_
    cases hb_6
    exact kq K
  refine WQ.nil ?_
  refine ch h rfl ?_ ?_ <;> intro h
  ·refine att 4 [] rfl ?_
   exact rt hF h
  refine att 7 [] rfl ?_
  exact lb [] [1] (ih1 _ h)
 refine att 5 [] rfl ?_
 exact rt hF h
theorem m_s_l11Same_ok (w0 : Base Ψ Φ []) (p0 : (List Int)) (p1 : (List Int)) (ph0 : RSl (RI .i64) 1 Ψ pG0 pv0 p0) (ph1 : RSl (RI .i64) 1 Ψ pG1 pv1 p1) {r : Bool} (h : m_s_l11Same N p0 p1 = some r) :
  CB w0 prog 102 [pv0, pv1] (.bool r) := by
 refine eN func102 rfl ntmps102 rfl w0 fun hF => ?_
 unfold m_s_l11Same at h
 refine atr 8 [] rfl <| lnr ph0 rfl <| la rfl <| lnr ph1 rfl <| la rfl <| en ?_
 refine ch h rfl ?_ ?_ <;> intro h
 ·refine att 4 [] rfl ?_
  exact rt hF h
 refine att 7 [] rfl ?_
 refine lin (σ := Int) (fun s => [(0, pv0), (1, pv1), (5, iV s)]) (fun s => St w0 Φ [] []) (fun m s => m_s_l11Same_l1 N p0 p1 m s = some r) (0) N h (sx [] []) (fun n1 ih1 s hm => ?_)
 revert hm; revert s; intro s1 hm
 have h : m_s_l11Same_l1 N p0 p1 (n1 + 1) s1 = some r := hm
 show WT _ _ [(0, pv0), (1, pv1), (5, iV s1)] (St w0 Φ [] [])
 unfold m_s_l11Same_l1 at h
 refine atr 5 [] rfl <| lnr ph0 rfl <| la rfl <| en ?_
 refine ch h rfl ?_ ?_ <;> intro h
 ·refine att 4 [] rfl <| WT.draw mixed (by kernel_rfl) (fun _ h => h.drew) <| aqq 2 [] rfl ?_
  obtain ⟨x1, hx1, h⟩ := bs h
  obtain ⟨cs1, F1, -, g1, hb1, hs1, r1⟩ := ph0.el (idx_some hx1).2.2
  obtain ⟨rfl, -⟩ := r1
  refine qq (q_indexAddr Sl_75 rfl rfl ph0 hx1) rfl <| qq (q_load1 T1_3 rfl (fun w1 hw => (g1.of_eq 0 1 rfl rfl : rg _ _ _ [iV x1]).rangeAt hw.in0)) rfl <| aqq 2 [] rfl ?_
  obtain ⟨x2, hx2, h⟩ := bs h
  obtain ⟨cs2, F2, -, g2, hb2, hs2, r2⟩ := ph1.el (idx_some hx2).2.2
  obtain ⟨rfl, -⟩ := r2
  refine qq (q_indexAddr Sl_75 rfl rfl ph1 hx2) rfl <| qq (q_load1 T1_3 rfl (fun w1 hw => (g2.of_eq 0 1 rfl rfl : rg _ _ _ [iV x2]).rangeAt hw.in0)) rfl <| aqt 2 [] rfl ?_
  refine ch h rfl ?_ ?_ <;> intro h
  ·refine att 4 [] rfl ?_
   exact rt hF h
  refine att 7 [] rfl ?_
  exact lb [] [] (ih1 _ h)
 refine att 5 [] rfl ?_
 exact rt hF h
theorem m_s_SameAlpha_ok (w0 : Base Ψ Φ []) (p0 : TAlpha) (p1 : TAlpha) (ph0_0 : RSl RTVal 3 Ψ pG0_0 pv0_0 p0.Consts) (ph0_1 : RSl (RI .i64) 1 Ψ pG0_1 pv0_1 p0.At) (ph1_0 : RSl RTVal 3 Ψ pG1_0 pv1_0 p1.Consts) (ph1_1 : RSl (RI .i64) 1 Ψ pG1_1 pv1_1 p1.At) {r : Bool} (h : m_s_SameAlpha N p0 p1 = some r) :
  CB w0 prog 292 [.agg [.string p0.Kind, iV p0.N, pv0_0, pv0_1].toArray, .agg [.string p1.Kind, iV p1.N, pv1_0, pv1_1].toArray] (.bool r) := by
 refine eN func292 rfl ntmps292 rfl w0 fun hF => ?_
 unfold m_s_SameAlpha at h
 refine sr <| lbx rfl fun b_1 => lbx rfl fun b_2 => arr 10 [0, 32, 0, 0] rfl ?_
 obtain ⟨b1, hb_1, h⟩ := bs h
 refine WL.cutN 6 [(16, .bool b1), (2, pQ b_1), (3, pQ b_2), (4, .bool false)] ?_ (fun K => ?_)
 rotate_left
 ·refine sp 10 hb_1 rfl (fun hb_1 => ?_) fun hb_1 => ?_
  ·refine arr 6 [1, 32, 1, 0] rfl ?_
   cases hb_1
   exact ku K
  ·refine arr 6 [] rfl ?_
   cases hb_1
   exact ku K
 refine la rfl ?_
 obtain ⟨b2, hb_2, h⟩ := bs h
 refine WL.cutN 6 [(23, .bool b2), (2, pQ b_1), (3, pQ b_2), (4, .bool false)] ?_ (fun K => ?_)
 rotate_left
 ·refine sp 17 hb_2 rfl (fun hb_2 => ?_) fun hb_2 => ?_
  ·refine arr 4 [3, 32, 3, 0] rfl <| ly rfl rfl <| qd hb_2 (m_s_l11Same_ok N · p0.At p1.At ph0_1 ph1_1 ·) rfl rfl rfl fun x1 hb_2 => la rfl ?_
   cases hb_2
   exact ku K
  ·refine arr 6 [] rfl ?_
   cases hb_2
   exact ku K
 refine la rfl ?_
 obtain ⟨b3, hb_3, h⟩ := bs h
 refine WL.cutN 6 [(30, .bool b3), (4, .bool false)] ?_ (fun K => ?_)
 rotate_left
 ·refine sp 24 hb_3 rfl (fun hb_3 => ?_) fun hb_3 => ?_
  ·refine arr 4 [2, 32, 2, 0] rfl <| ly rfl rfl <| qd hb_3 (m_s_l3SameVals_ok N · p0.Consts p1.Consts ph0_0 ph1_0 ·) rfl rfl rfl fun x2 hb_3 => la rfl ?_
   cases hb_3
   exact ku K
  ·refine arr 6 [] rfl ?_
   cases hb_3
   exact ku K
 refine la rfl <| en ?_
 exact rt hF h
theorem m_s_l12Find_ok (w0 : Base Ψ Φ [[pb0], ob pv0_0].flatten) (p0 : TNet) (p1 : TAlpha) (ph0_0 : OSl RTAlpha 171 4 Φ pD0_0 pv0_0 p0.Alphas) (ph0_1 : RSl RTChain 2 Ψ pG0_1 pv0_1 p0.Chains) (pp0 : Φ pb0 = some (.cells #[pv0_0, pv0_1] 52 (0, 0))) (ph1_0 : RSl RTVal 3 Ψ pG1_0 pv1_0 p1.Consts) (ph1_1 : RSl (RI .i64) 1 Ψ pG1_1 pv1_1 p1.At) (pd0_0 : Dj pD0_0 [[pb0], ob pv0_0].flatten) {r : Int × TNet} (h : m_s_l12Find N p0 p1 = some r) :
  Calls prog 202 [pQ pb0, .agg [.string p1.Kind, iV p1.N, pv1_0, pv1_1].toArray].toArray w0.w (PostG Φ w0.w [[pb0], ob pv0_0].flatten (fun Φ' Fs v => ∃ (so_0_0 : Value) (Do_0_0 : List Nat), v = iV r.1 ∧ Fs = [[pb0], ob so_0_0] ∧ OSl RTAlpha 171 4 Φ' Do_0_0 so_0_0 r.2.Alphas ∧ (∀ k ∈ Do_0_0, k ∈ (pD0_0 ++ (pG1_0 ++ pG1_1))) ∧ r.2.Chains = p0.Chains ∧ Φ' pb0 = some (.cells #[so_0_0, pv0_1] 52 (0, 0)))) := by
 refine eL func202 rfl ntmps202 rfl (L := [[pb0], ob pv0_0]) w0 (fun hF => ?_)
 have pa0_0 := Old.mk w0 ph0_0.kn pd0_0
 unfold m_s_l12Find at h
 refine sr <| lbx rfl fun b_1 => art 8 [] rfl ?_
 refine lin (σ := Int) (fun s => [(0, pQ pb0), (3, pQ b_1), (5, iV s)]) (fun s => St w0 Φ [(b_1, .cells #[.string p1.Kind, iV p1.N, pv1_0, pv1_1] 171 (0, 0))] [[pb0], ob pv0_0]) (fun m s => m_s_l12Find_l1 N p0 p1 m s = some r) (0) N h (sx [0, 0] [0]) (fun n1 ih1 s hm => ?_)
 revert hm; revert s; intro s1 hm
 have h : m_s_l12Find_l1 N p0 p1 (n1 + 1) s1 = some r := hm
 show WT _ _ [(0, pQ pb0), (3, pQ b_1), (5, iV s1)] (St w0 Φ [(b_1, .cells #[.string p1.Kind, iV p1.N, pv1_0, pv1_1] 171 (0, 0))] [[pb0], ob pv0_0])
 unfold m_s_l12Find_l1 at h
 refine atr 5 [] rfl <| lq (q_nilCheck rfl) rfl <| lf Fld_52_0 rfl rfl rfl <| lgx 0 0 (rg_cells pp0) rfl <| lno ph0_0 rfl <| la rfl <| en ?_
 refine ch h rfl ?_ ?_ <;> intro h
 ·refine att 4 [] rfl <| WT.draw mixed (by kernel_rfl) (fun _ h => h.drew) <| qq (q_move rfl) rfl <| qq (q_nilCheck rfl) rfl <| qq (q_fieldAddr Fld_52_0 rfl) rfl <| qq (q_load1 T1_49 rfl (fun w1 hw => ((rg_cells pp0).of_eq 0 1 rfl rfl : rg _ _ _ [pv0_0]).rangeAt hw.fro)) rfl <| qq (q_move rfl) rfl ?_
  obtain ⟨x1, hx1, h⟩ := bs h
  obtain ⟨cs1, F1, -, g1, hb1, hs1, r1⟩ := ph0_0.elS (idx_some hx1).2.2
  obtain ⟨v1, G1, v2, G2, rfl, rfl, h1, h2⟩ := r1
  refine qq (q_indexAddr Sl_49 rfl rfl ph0_0.rsl hx1) rfl <| qq (q_loadN Tn_171 rfl (fun w1 hw => (g1.of_eq 0 4 rfl rfl : rg _ _ _ [.string x1.Kind, iV x1.N, v1, v2]).rangeAt hw.fro) rfl) rfl <| qq (q_loadN Tn_171 rfl (fun w1 hw => hw.rgO (i := 0) rfl 0 4 [.string p1.Kind, iV p1.N, pv1_0, pv1_1] rfl) rfl) rfl ?_
  obtain ⟨x2, hx2, h⟩ := bs h
  refine qp (p_call Fun_292 rfl (fun w1 hw => m_s_SameAlpha_ok N (ba hw.fro) x1 p1 h1 h2 (ph1_0.y hw.up) (ph1_1.y hw.up) hx2)) rfl <| WQ.nil ?_
  refine ch h rfl ?_ ?_ <;> intro h
  ·refine att 5 [] rfl ?_
   exact rtg [0, 0] hF (resOk.one rfl) rfl (by cases h; exact fun w1 hw => ⟨pv0_0, pD0_0, rfl, rfl, ph0_0, (fun k hk => (List.mem_append.2 (.inl hk))), rfl, pp0⟩)
  refine att 7 [] rfl ?_
  exact lb [0, 0] [0] (ih1 _ h)
 refine xt rfl <| sq <| WT.mix (Kn w0 Φ [pb0] [(b_1, .cells #[.string p1.Kind, iV p1.N, pv1_0, pv1_1] 171 (0, 0))]) (fun i => match i with | 10 => false | _ => true) mixed (fun _ h => h.drew) <| ma 0 rfl (by kernel_rfl) (kn Kf.id (am [0] rfl)) rfl <| ma 1 rfl (by kernel_rfl) (kn Kf.id (am [0] rfl)) rfl <| mq 2 rfl (by kernel_rfl) (kn Kf.id (am [0] rfl)) (q_nilCheck rfl) rfl <| mq 3 rfl (by kernel_rfl) (kn Kf.id (am [0] rfl)) (q_fieldAddr Fld_52_0 rfl) rfl ?_
 refine mq 4 rfl (by kernel_rfl) (kn Kf.id (am [0] rfl)) (q_load1 T1_49 rfl (fun w1 hw => hw.rg (by simp) ((rg_cells pp0).of_eq 0 1 rfl rfl : rg _ _ _ [pv0_0]))) rfl <| mq 5 rfl (by kernel_rfl) (kn Kf.id (am [0] rfl)) (q_loadN Tn_171 rfl (fun w1 hw => hw.rgO (i := 0) rfl 0 4 [.string p1.Kind, iV p1.N, pv1_0, pv1_1] rfl) rfl) rfl <| mu0 ph1_0 fun h3 => mu0 ph1_1 fun h4 => ?_
 have rc1 : RC RTAlpha 4 Φ ([pG1_0 ++ (pG1_1)] : List (List Nat)) [.string p1.Kind, iV p1.N, pv1_0, pv1_1] ([p1] : List TAlpha) := RC.cons (c := [.string p1.Kind, iV p1.N, pv1_0, pv1_1]) (cells := []) ⟨pv1_0, pG1_0, pv1_1, pG1_1, rfl, rfl, h3, h4⟩ rfl (RC.nil _ _ _)
 refine WM.one 6 (by kernel_rfl) (me rfl (fun _ v Φx D w1 hq hw => Kn.of (Kf.id.se hq.1) (am [0] rfl) hw) (e_lit (vs := [(0, .agg [.string p1.Kind, iV p1.N, pv1_0, pv1_1].toArray)]) (C := #[.string p1.Kind, iV p1.N, pv1_0, pv1_1]) RTAlpha.lasts Sl_49 Zr_171 rfl rfl rfl rfl (fill_made MC_171_1 (fill_cons (C' := [.string p1.Kind, iV p1.N, pv1_0, pv1_1]) rfl rfl rfl rfl rfl (fill_nil))) rfl rc1 rfl (RC.kn RTAlpha.knows rc1)) rfl ?_)
 rintro v3 Φ_1 D1 ⟨fr1, h5⟩
 replace h5 : OSl RTAlpha 171 4 Φ_1 (pG1_0 ++ (pG1_1)) v3 ([p1] : List TAlpha) := by simpa [List.append_assoc] using h5
 replace ph0_0 := ph0_0.f0 fr1
 replace pp0 := fr1 _ _ (by simp) pp0
 obtain ⟨x3, hx3, h⟩ := bs h
 have kf1 := (Kf.id (F := [pb0]) : Kf Φ _ _).se fr1
 refine WM.one 7 (by kernel_rfl) (me rfl (fun _ v Φx D w1 hq hw => Kn.of (kf1.st hq.1.2 (hq.1.1.r (i := 1) rfl)) (am [0] rfl) hw) (e_appO RTAlpha.lasts RTAlpha.one Sl_49 Ei_171 rfl rfl rfl rfl rfl (js := [2]) (Rr := [ob v3, [pb0]]) rfl ph0_0 h5 (fun ap => (ap.o pa0_0)) (fun ap => (Dj.sub (Dj.app (ap.o ph1_0.old) (ap.o ph1_1.old)) (fun k hk => (by simpa [List.append_assoc] using hk : k ∈ (pG1_0 ++ pG1_1))))) hx3) rfl ?_)
 rintro v4 Φ_2 D2 ⟨⟨ap1, fr2⟩, h6⟩
 replace pp0 := fr2 _ _ ((ap1.q 1 rfl) _ (by simp)) pp0
 have kf2 := kf1.st fr2 (ap1.q 1 rfl)
 refine mqT 8 [9, 10] rfl (by kernel_rfl) (kn kf2 (am [0] rfl)) (q_nilCheck rfl) rfl <| mq 9 rfl (by kernel_rfl) (kn kf2 (am [0] rfl)) (q_fieldAddr Fld_52_0 rfl) rfl ?_
 refine WM.thw (js := [2]) (R := [ob v4, ob v3]) rfl pp0 (fun Φ_3 ap2 fr3 => ?_)
 replace h6 := h6.fr fr3 (ap2.q 0 rfl) (Dj.app (ap2.o pa0_0) (Dj.sub (Dj.app (ap2.o ph1_0.old) (ap2.o ph1_1.old)) (fun k hk => (by simpa [List.append_assoc] using hk : k ∈ (pG1_0 ++ pG1_1)))))
 refine on1 10 (ms1 0 rfl nk Sz_49 rfl h6.one ?_)
 refine WM.nil (by kernel_rfl) <| sr <| la rfl <| lq (q_nilCheck rfl) rfl <| arr 2 [0, 0] rfl <| lno h6 rfl <| art 3 [] rfl ?_
 refine WT.frz (js := [0]) (R := [(b_1, .cells #[.string p1.Kind, iV p1.N, pv1_0, pv1_1] 171 (0, 0))]) rfl (fun Φ_4 fr4 k1 => ?_)
 replace h6 := h6.f0 fr4
 exact rtg [0, 0] hF (resOk.one rfl) rfl (by cases h; exact fun w1 hw => ⟨v4, (pD0_0 ++ (pG1_0 ++ (pG1_1))), rfl, rfl, h6, (fun k hk => ((List.mem_append.1 hk).elim (fun h => (List.mem_append.2 (.inl h))) (fun h => ((List.mem_append.1 ((fun k hk => (by simpa [List.append_assoc] using hk : k ∈ (pG1_0 ++ pG1_1))) k h)).elim (fun h => (List.mem_append.2 (.inr (List.mem_append.2 (.inl h))))) (fun h => (List.mem_append.2 (.inr (List.mem_append.2 (.inr h))))))))), rfl, k1⟩)
theorem m_s_AlphaOf_ok (w0 : Base Ψ Φ []) (p0 : TPat) (ph0_0 : RSl RTArg 5 Ψ pG0_0 pv0_0 p0.Args) {r : TAlpha} (h : m_s_AlphaOf N p0 = some r) :
  Calls prog 203 [.agg [.string p0.Kind, pv0_0, .bool p0.Not].toArray].toArray w0.w (PostG Φ w0.w [] (fun Φ' Fs v => ∃ (sr_0_0 : Value) (sr_0_1 : Value), v = .agg [.string r.Kind, iV r.N, sr_0_0, sr_0_1].toArray ∧ Fs = [ob sr_0_0, ob sr_0_1] ∧ OSl RTVal 204 3 Φ' [] sr_0_0 r.Consts ∧ OSl (RI .i64) 3 1 Φ' [] sr_0_1 r.At)) := by
 refine eN func203 rfl ntmps203 rfl w0 fun hF => ?_
 unfold m_s_AlphaOf at h
 refine sr <| lbx rfl fun b_1 => lnz Zr_171 rfl fun b_2 => arr 7 [0, 32, 1, 32] rfl <| lnr ph0_0 rfl <| lq (q_build (vs := [(0, .string p0.Kind), (1, iV (p0.Args.length : Int))]) (C := #[.string p0.Kind, iV (p0.Args.length : Int), .slice none 0 0, .slice none 0 0]) Pl_171 Zr_171 rfl (fill_cons (C' := [.string p0.Kind, iV 0, .slice none 0 0, .slice none 0 0]) rfl rfl rfl rfl rfl (fill_cons (C' := [.string p0.Kind, iV (p0.Args.length : Int), .slice none 0 0, .slice none 0 0]) rfl rfl rfl rfl rfl (fill_nil)))) rfl <| lnz Zr_171 rfl fun b_3 => ?_
 refine soN 0 Sz_171 rfl ⟨rfl, rfl, rfl, rfl, trivial⟩ rfl ?_
 refine art 7 [] rfl <| wtS ?_
 have k1 := OSl.nil RTVal 204 3 Φ
 refine wtS ?_
 have k2 := OSl.nil (RI .i64) 3 1 Φ
 refine lin (σ := Hp × (List TVal) × Value × (List Int) × Value × Int) (fun s => [(1, pQ b_1), (2, pQ b_2), (3, pQ b_3), (4, iV s.2.2.2.2.2)]) (fun s => St w0 s.1 [(b_3, .cells #[.string p0.Kind, iV (p0.Args.length : Int), s.2.2.1, s.2.2.2.2.1] 171 (0, 0)), (b_2, .cells #[.string (⟨#[]⟩ : ByteArray), iV 0, .slice none 0 0, .slice none 0 0] 171 (0, 0)), (b_1, .cells #[.string p0.Kind, pv0_0, .bool p0.Not] 265 (0, 0))] [ob s.2.2.2.2.1, ob s.2.2.1]) (fun m s => m_s_AlphaOf_l1 N p0 m s.2.1 s.2.2.2.1 s.2.2.2.2.2 = some r ∧ (OSl RTVal 204 3 s.1 [] s.2.2.1 s.2.1) ∧ (OSl (RI .i64) 3 1 s.1 [] s.2.2.2.2.1 s.2.2.2.1)) (Φ, ([] : List TVal), (.slice none 0 0), ([] : List Int), (.slice none 0 0), 0) N ⟨h, k1, k2⟩ (sx [0, 0] [0, 0, 0]) (fun n1 ih1 s hm => ?_)
 obtain ⟨Φ_1, s1, u1, s2, u2, s3⟩ := s
 obtain ⟨h, k3, k4⟩ := hm
 dsimp only at h k3 k4 ⊢
 unfold m_s_AlphaOf_l1 at h
 refine atr 6 [1, 64] rfl <| lnr ph0_0 rfl <| la rfl <| en ?_
 refine ch h rfl ?_ ?_ <;> intro h
 ·refine atr 8 [1, 64] rfl ?_
  obtain ⟨x1, hx1, h⟩ := bs h
  obtain ⟨cs1, F1, -, g1, hb1, hs1, r1⟩ := ph0_0.el (idx_some hx1).2.2
  obtain ⟨rfl, -⟩ := r1
  refine lia ph0_0 hx1 rfl <| lf Fld_294_0 rfl rfl rfl <| lhx 0 0 g1 rfl <| la rfl <| en ?_
  refine ch h rfl ?_ ?_ <;> intro h
  ·refine sq <| wm [0, 1, 2] [11] rfl <| amm 5 [0, 2, 1, 0, 2, 1, 3, 64, 4] [0, 1, 2] rfl rfl ?_
   obtain ⟨x2, hx2, h⟩ := bs h
   obtain ⟨cs2, F2, -, g2, hb2, hs2, r2⟩ := ph0_0.el (idx_some hx2).2.2
   obtain ⟨rfl, -⟩ := r2
   refine mq 5 rfl (by kernel_rfl) (kN [0, 1, 2]) (q_indexAddr Sl_263 rfl rfl ph0_0 hx2) rfl <| amm 1 [6, 2] [0, 1, 2] rfl rfl <| mq 7 rfl (by kernel_rfl) (kN [0, 1, 2]) (q_loadN Tn_204 rfl (fun w1 hw => (g2.of_eq 2 3 rfl rfl : rg _ _ _ [iV x2.V.K, iV x2.V.N, .string x2.V.S]).rangeAt hw.1) rfl) rfl ?_
   have rc1 : RC RTVal 3 Φ_1 ([[]] : List (List Nat)) [iV x2.V.K, iV x2.V.N, .string x2.V.S] ([x2.V] : List TVal) := RC.cons (c := [iV x2.V.K, iV x2.V.N, .string x2.V.S]) (cells := []) ⟨rfl, rfl⟩ rfl (RC.nil _ _ _)
   refine WM.one 8 (by kernel_rfl) (me rfl (fun _ v Φx D w1 hq hw => Kn.of Kf.nil (ai3 0 1 2 rfl rfl rfl) hw) (e_lit (vs := [(0, .agg [iV x2.V.K, iV x2.V.N, .string x2.V.S].toArray)]) (C := #[iV x2.V.K, iV x2.V.N, .string x2.V.S]) RTVal.lasts Sl_78 Zr_204 rfl rfl rfl rfl (fill_made MC_204_1 (fill_cons (C' := [iV x2.V.K, iV x2.V.N, .string x2.V.S]) rfl rfl rfl rfl rfl (fill_nil))) rfl rc1 rfl (by simpa using Kw.nil)) rfl ?_)
   rintro v1 Φ_2 D1 ⟨fr1, h1⟩
   replace h1 : OSl RTVal 204 3 Φ_2 [] v1 ([x2.V] : List TVal) := by simpa using h1
   replace k3 := k3.f0 fr1
   replace k4 := k4.f0 fr1
   obtain ⟨x3, hx3, h⟩ := bs h
   refine WM.one 9 (by kernel_rfl) (me rfl (fun _ v Φx D w1 hq hw => Kn.of Kf.nil (ai3 0 1 2 rfl rfl rfl) hw) (e_appF RTVal.lasts RTVal.one RTVal.flat Sl_78 Ei_204 rfl rfl rfl rfl rfl (js := [2]) (Rr := [ob v1, ob u2]) rfl k3 h1.rsl hx3) rfl ?_)
   rintro v2 Φ_3 D2 ⟨⟨ap1, fr2⟩, h2⟩
   replace k4 := k4.fr fr2 (ap1.q 1 rfl) dN
   refine amm 1 [10, 2] [0, 1, 2] rfl rfl ?_
   refine on1 11 (ms1 0 rfl nk Sz_78 rfl h2.one ?_)
   refine WM.nil (by kernel_rfl) <| atr 4 [3, 0] rfl ?_
   have rc2 : RC (RI .i64) 1 Φ_3 ([[]] : List (List Nat)) [iV s3] ([s3] : List Int) := RC.cons (c := [iV s3]) (cells := []) ⟨rfl, rfl⟩ rfl (RC.nil _ _ _)
   refine le' (e_lit (vs := [(0, iV s3)]) (C := #[iV s3]) RI.lasts Sl_75 Zr_3 rfl rfl rfl rfl (fill_made MC_3_1 (fill_cons (C' := [iV s3]) rfl rfl rfl rfl rfl (fill_nil))) rfl rc2 rfl (by simpa using Kw.nil)) rfl ?_
   rintro v3 Φ_4 D3 ⟨fr3, h3⟩
   replace h3 : OSl (RI .i64) 3 1 Φ_4 [] v3 ([s3] : List Int) := by simpa using h3
   replace h2 := h2.f0 fr3
   replace k4 := k4.f0 fr3
   obtain ⟨x4, hx4, h⟩ := bs h
   refine le' (e_appF RI.lasts RI.one RI.flat Sl_75 Ei_3 rfl rfl rfl rfl rfl (js := [3]) (Rr := [ob v3, ob v2, ob v1]) rfl k4 h3.rsl hx4) rfl ?_
   rintro v4 Φ_5 D4 ⟨⟨ap2, fr4⟩, h4⟩
   replace h2 := h2.fr fr4 (ap2.q 1 rfl) dN
   refine lf Fld_171_3 rfl rfl rfl <| so1 0 Sz_75 rfl h4.one ?_
   refine art 7 [] rfl ?_
   exact lb [0, 1] [0, 0, 0] (ih1 (_, _, _, _, _, _) ⟨h, h2, h4⟩)
  refine att 7 [] rfl ?_
  exact lb [0, 0] [0, 0, 0] (ih1 (_, _, _, _, _, _) ⟨h, k3, k4⟩)
 refine atr 4 [4] rfl <| soN 1 Sz_171 rfl ⟨rfl, rfl, k3.one, k4.one, trivial⟩ rfl ?_
 refine en ?_
 exact rtg [1, 0] hF (resOk.one (rv_cell Tn_171 rfl (fun w1 hw => hw.rgO (i := 1) rfl 0 4 [.string p0.Kind, iV (p0.Args.length : Int), u1, u2] rfl) rfl)) rfl (by cases h; exact fun w1 hw => ⟨u1, u2, rfl, rfl, k3, k4⟩)
theorem m_s_l12Net_ok (w0 : Base Ψ Φ []) (p0 : TDef) (ph0_0 : RSl RTRule 5 Ψ pG0_0 pv0_0 p0.Rules) {r : TNet} (h : m_s_l12Net N p0 = some r) :
  Calls prog 99 [.agg [.string p0.Name, pv0_0].toArray].toArray w0.w (PostG Φ w0.w [] (fun Φ' Fs v => ∃ (sr_0_0 : Value) (Dr_0_0 : List Nat) (sr_0_1 : Value) (Dr_0_1 : List Nat) (X : List Nat), v = .agg [sr_0_0, sr_0_1].toArray ∧ Fs = [ob sr_0_0, ob sr_0_1, Dr_0_1, X] ∧ OSl RTAlpha 171 4 Φ' Dr_0_0 sr_0_0 r.Alphas ∧ (∀ k ∈ Dr_0_0, k ∈ X) ∧ OSl OTChain 175 2 Φ' Dr_0_1 sr_0_1 r.Chains)) := by
 refine eN func99 rfl ntmps99 rfl w0 fun hF => ?_
 unfold m_s_l12Net at h
 refine sr <| lbx rfl fun b_1 => lnz Zr_52 rfl fun b_2 => en <| sr <| lq (q_build (vs := []) (C := #[.slice none 0 0, .slice none 0 0]) Pl_52 Zr_52 rfl (fill_nil)) rfl <| lnz Zr_52 rfl fun b_3 => soN 0 Sz_52 rfl ⟨rfl, rfl, trivial⟩ rfl ?_
 refine art 7 [] rfl <| wt0 <| wtS ?_
 have k1 := OSl.nil RTAlpha 171 4 Φ
 refine wtS <| wt0 ?_
 have k2 := OSl.nil OTChain 175 2 Φ
 refine lin (σ := Hp × List Nat × (List TAlpha) × Value × List Nat × (List TChain) × Value × List Nat × Int) (fun s => [(1, pQ b_1), (2, pQ b_2), (3, pQ b_3), (4, iV s.2.2.2.2.2.2.2.2)]) (fun s => St w0 s.1 [(b_3, .cells #[s.2.2.2.1, s.2.2.2.2.2.2.1] 52 (0, 0)), (b_2, .cells #[.slice none 0 0, .slice none 0 0] 52 (0, 0)), (b_1, .cells #[.string p0.Name, pv0_0] 47 (0, 0))] [s.2.2.2.2.2.2.2.1, ob s.2.2.2.2.2.2.1, ob s.2.2.2.1, s.2.1]) (fun m s => m_s_l12Net_l1 N p0 m s.2.2.1 s.2.2.2.2.2.1 s.2.2.2.2.2.2.2.2 = some r ∧ (OSl RTAlpha 171 4 s.1 s.2.2.2.2.1 s.2.2.2.1 s.2.2.1) ∧ (∀ k ∈ s.2.2.2.2.1, k ∈ s.2.1) ∧ (OSl OTChain 175 2 s.1 s.2.2.2.2.2.2.2.1 s.2.2.2.2.2.2.1 s.2.2.2.2.2.1)) (Φ, [], ([] : List TAlpha), (.slice none 0 0), [], ([] : List TChain), (.slice none 0 0), [], 0) N ⟨h, k1, (by simp), k2⟩ (sx [0, 0, 0, 0] [0, 0, 0]) (fun n1 ih1 s hm => ?_)
 obtain ⟨Φ_1, X1, s1, u1, D1, s2, u2, D2, s3⟩ := s
 obtain ⟨h, k3, i1, k4⟩ := hm
 dsimp only at h k3 i1 k4 ⊢
 unfold m_s_l12Net_l1 at h
 refine atr 6 [1, 64] rfl <| lnr ph0_0 rfl <| la rfl <| en ?_
 refine ch h rfl ?_ ?_ <;> intro h
 ·refine atr 5 [] rfl <| lq (q_build (vs := []) (C := #[.slice none 0 0, .slice none 0 0]) Pl_175 Zr_175 rfl (fill_nil)) rfl <| lnz Zr_175 rfl fun b_4 => soN 0 Sz_175 rfl ⟨rfl, rfl, trivial⟩ rfl ?_
  refine art 7 [] rfl <| wt0 <| wtS ?_
  have k5 := OSl.nil (RI .i64) 3 1 Φ_1
  refine wtS ?_
  have k6 := OSl.nil (RI .i64) 3 1 Φ_1
  refine lin (σ := Hp × List Nat × (List TAlpha) × Value × List Nat × (List Int) × Value × (List Int) × Value × Int) (fun s => [(1, pQ b_1), (2, pQ b_2), (3, pQ b_3), (4, iV s3), (5, pQ b_4), (6, iV s.2.2.2.2.2.2.2.2.2)]) (fun s => St w0 s.1 [(b_4, .cells #[s.2.2.2.2.2.2.2.2.1, s.2.2.2.2.2.2.1] 175 (0, 0)), (b_3, .cells #[s.2.2.2.1, u2] 52 (0, 0)), (b_2, .cells #[.slice none 0 0, .slice none 0 0] 52 (0, 0)), (b_1, .cells #[.string p0.Name, pv0_0] 47 (0, 0))] [ob s.2.2.2.2.2.2.2.2.1, ob s.2.2.2.2.2.2.1, s.2.1, D2, ob u2, ob s.2.2.2.1, X1]) (fun m s => m_s_l12Net_l2 N p0 s2 s3 (m_s_l12Net_l1 N p0 n1) m s.2.2.1 s.2.2.2.2.2.1 s.2.2.2.2.2.2.2.1 s.2.2.2.2.2.2.2.2.2 = some r ∧ (OSl RTAlpha 171 4 s.1 s.2.2.2.2.1 s.2.2.2.1 s.2.2.1) ∧ (∀ k ∈ s.2.2.2.2.1, k ∈ (X1 ++ s.2.1)) ∧ (OSl OTChain 175 2 s.1 D2 u2 s2) ∧ (OSl (RI .i64) 3 1 s.1 [] s.2.2.2.2.2.2.1 s.2.2.2.2.2.1) ∧ (OSl (RI .i64) 3 1 s.1 [] s.2.2.2.2.2.2.2.2.1 s.2.2.2.2.2.2.2.1)) (Φ_1, [], s1, u1, D1, ([] : List Int), (.slice none 0 0), ([] : List Int), (.slice none 0 0), 0) N ⟨h, k3, (fun k hk => (List.mem_append.2 (.inl (i1 k hk)))), k4, k5, k6⟩ (sx [0, 0, 0, 0, 0, 0, 0] [0, 0, 0, 0]) (fun n2 ih2 s hm => ?_)
  obtain ⟨Φ_2, X2, s4, u3, D3, s5, u4, s6, u5, s7⟩ := s
  obtain ⟨h, k7, i2, k4, k8, k9⟩ := hm
  dsimp only at h k7 i2 k4 k8 k9 ⊢
  unfold m_s_l12Net_l2 at h
  refine atr 7 [1, 96] rfl ?_
  obtain ⟨x1, hx1, h⟩ := bs h
  obtain ⟨cs1, F1, -, g1, hb1, hs1, r1⟩ := ph0_0.el (idx_some hx1).2.2
  obtain ⟨v1, G1, v2, G2, v3, G3, rfl, rfl, h1, h2, h3⟩ := r1
  refine lia ph0_0 hx1 rfl <| lf Fld_183_2 rfl rfl rfl <| lhx 2 0 g1 rfl <| lnr h1 rfl <| la rfl <| en ?_
  refine ch h rfl ?_ ?_ <;> intro h
  ·refine atr 8 [1, 96] rfl ?_
   obtain ⟨x2, hx2, h⟩ := bs h
   obtain ⟨cs2, F2, -, g2, hb2, hs2, r2⟩ := ph0_0.el (idx_some hx2).2.2
   obtain ⟨v4, G4, v5, G5, v6, G6, rfl, rfl, h4, h5, h6⟩ := r2
   refine lia ph0_0 hx2 rfl <| lf Fld_183_2 rfl rfl rfl <| lhx 2 0 g2 rfl <| la rfl ?_
   obtain ⟨x3, hx3, h⟩ := bs h
   obtain ⟨cs3, F3, -, g3, hb3, hs3, r3⟩ := h4.el (idx_some hx3).2.2
   obtain ⟨v7, G7, rfl, hq1, h7⟩ := r3
   obtain rfl := hq1.symm
   refine lia h4 hx3 rfl <| lhx 0 3 g3 rfl <| lnz Zr_265 rfl fun b_5 => soN 0 Sz_265 rfl ⟨rfl, h7.one, rfl, trivial⟩ rfl ?_
   refine arr 4 [3] rfl <| kab h rfl rfl rfl (fun b z q => m_s_AlphaOf_ok N b x3 (h7.y z) q) ?_
   rintro x4 h v8 Φ_3 F4 ⟨ap1, fr1, v9, v10, rfl, rfl, h8, h9⟩
   replace k7 := k7.fr fr1 (ap1.q 5 rfl) (Dj.sub (Dj.app (ap1.q 6 rfl) (ap1.q 2 rfl)) i2)
   replace k4 := k4.fr fr1 (ap1.q 4 rfl) (ap1.q 3 rfl)
   replace k8 := k8.fr fr1 (ap1.q 1 rfl) dN
   replace k9 := k9.fr fr1 (ap1.q 0 rfl) dN
   refine WL.frz (js := [2]) (R := [(b_5, .cells #[.string x3.Kind, v7, .bool x3.Not] 265 (0, 0)), (b_4, .cells #[u5, u4] 175 (0, 0)), (b_2, .cells #[.slice none 0 0, .slice none 0 0] 52 (0, 0)), (b_1, .cells #[.string p0.Name, pv0_0] 47 (0, 0))]) rfl (fun Φ_4 fr2 k10 => ?_)
   replace k7 := k7.f0 fr2
   replace k4 := k4.f0 fr2
   replace k8 := k8.f0 fr2
   replace k9 := k9.f0 fr2
   replace h8 := h8.f0 fr2
   replace h9 := h9.f0 fr2
   refine kcb [0, 7] h rfl rfl rfl rfl (fun b ap z q => m_s_l12Find_ok N b (⟨s4, s2⟩ : TNet) x4 k7 ((k4.rslG OTChain.gives).x (Dj.app (ap.q 6 rfl) (ap.q 5 rfl))) k10 (h8.rsl.x (Dj.app (ap.q 0 rfl) dN)) (h9.rsl.x (Dj.app (ap.q 1 rfl) dN)) (Dj.sub (Dj.app (ap.q 7 rfl) (ap.q 4 rfl)) i2) q) ?_
   rintro x5 h v11 Φ_5 F5 ⟨ap2, fr3, v12, D4, rfl, rfl, h10, i3, e1, h11⟩
   replace k4 := k4.fr fr3 (ap2.q 6 rfl) (ap2.q 5 rfl)
   replace k8 := k8.fr fr3 (ap2.q 3 rfl) dN
   replace k9 := k9.fr fr3 (ap2.q 2 rfl) dN
   refine art 7 [2, 0] rfl ?_
   refine ch h rfl ?_ ?_ <;> intro h
   ·refine atr 4 [1, 32] rfl ?_
    have rc1 : RC (RI .i64) 1 Φ_5 ([[]] : List (List Nat)) [iV x5.1] ([x5.1] : List Int) := RC.cons (c := [iV x5.1]) (cells := []) ⟨rfl, rfl⟩ rfl (RC.nil _ _ _)
    refine le' (e_lit (vs := [(0, iV x5.1)]) (C := #[iV x5.1]) RI.lasts Sl_75 Zr_3 rfl rfl rfl rfl (fill_made MC_3_1 (fill_cons (C' := [iV x5.1]) rfl rfl rfl rfl rfl (fill_nil))) rfl rc1 rfl (by simpa using Kw.nil)) rfl ?_
    rintro v13 Φ_6 D5 ⟨fr4, h12⟩
    replace h12 : OSl (RI .i64) 3 1 Φ_6 [] v13 ([x5.1] : List Int) := by simpa using h12
    replace k4 := k4.f0 fr4
    replace k8 := k8.f0 fr4
    replace k9 := k9.f0 fr4
    replace h10 := h10.f0 fr4
    replace h11 := fr4 _ _ (by simp) h11
    obtain ⟨x6, hx6, h⟩ := bs h
    refine le' (e_appF RI.lasts RI.one RI.flat Sl_75 Ei_3 rfl rfl rfl rfl rfl (js := [6]) (Rr := [ob v13, [b_3], ob v12, ob v9, ob v10, ob u5, X2, D2, ob u2, X1]) rfl k8 h12.rsl hx6) rfl ?_
    rintro v14 Φ_7 D6 ⟨⟨ap3, fr5⟩, h13⟩
    replace k4 := k4.fr fr5 (ap3.q 8 rfl) (ap3.q 7 rfl)
    replace k9 := k9.fr fr5 (ap3.q 5 rfl) dN
    replace h10 := h10.fr fr5 (ap3.q 2 rfl) (Dj.sub (Dj.app (Dj.sub (Dj.app (ap3.q 9 rfl) (ap3.q 6 rfl)) i2) (Dj.app (Dj.sub (ap3.q 3 rfl) apnil) (Dj.sub (ap3.q 4 rfl) apnil))) i3)
    replace h11 := fr5 _ _ ((ap3.q 1 rfl) _ (by simp)) h11
    refine lf Fld_175_1 rfl rfl rfl <| so1 1 Sz_75 rfl h13.one ?_
    refine art 7 [] rfl ?_
    refine WT.thw (js := [2]) (R := [ob v14, ob v13, ob v12, ob v9, ob v10, ob u5, X2, D2, ob u2, X1]) rfl h11 (fun Φ_8 ap4 fr6 => ?_)
    replace k4 := k4.fr fr6 (ap4.q 8 rfl) (ap4.q 7 rfl)
    replace h13 := h13.fr fr6 (ap4.q 0 rfl) dN
    replace k9 := k9.fr fr6 (ap4.q 5 rfl) dN
    replace h10 := h10.fr fr6 (ap4.q 2 rfl) (Dj.sub (Dj.app (Dj.sub (Dj.app (ap4.q 9 rfl) (ap4.q 6 rfl)) i2) (Dj.app (Dj.sub (ap4.q 3 rfl) apnil) (Dj.sub (ap4.q 4 rfl) apnil))) i3)
    refine wtL [(X2 ++ (ob v9 ++ (ob v10))), ob v14, ob v13, ob v12, ob u5, D2, ob u2, X1] (smg [6, 3, 3] rfl (SP.eq (by simp [List.append_assoc]))) ?_
    exact lb [4, 1, 0, 2, 2, 1, 1] [2, 0, 1, 1] (ih2 (_, _, _, _, _, _, _, _, _, _) ⟨h, h10, (fun k hk => ((List.mem_append.1 (i3 k hk)).elim (fun h => ((List.mem_append.1 (i2 k h)).elim (fun h => (List.mem_append.2 (.inl h))) (fun h => (List.mem_append.2 (.inr ((fun k hk => (List.mem_append.2 (.inl hk))) k h)))))) (fun h => ((List.mem_append.1 h).elim (fun h => (List.mem_append.2 (.inr ((fun k hk => (List.mem_append.2 (.inr (List.mem_append.2 (.inl hk))))) k (apnil k h))))) (fun h => (List.mem_append.2 (.inr ((fun k hk => (List.mem_append.2 (.inr (List.mem_append.2 (.inr hk))))) k (apnil k h))))))))), k4, h13, k9⟩)
   refine atr 4 [0, 32] rfl ?_
   have rc2 : RC (RI .i64) 1 Φ_5 ([[]] : List (List Nat)) [iV x5.1] ([x5.1] : List Int) := RC.cons (c := [iV x5.1]) (cells := []) ⟨rfl, rfl⟩ rfl (RC.nil _ _ _)
   refine le' (e_lit (vs := [(0, iV x5.1)]) (C := #[iV x5.1]) RI.lasts Sl_75 Zr_3 rfl rfl rfl rfl (fill_made MC_3_1 (fill_cons (C' := [iV x5.1]) rfl rfl rfl rfl rfl (fill_nil))) rfl rc2 rfl (by simpa using Kw.nil)) rfl ?_
   rintro v15 Φ_9 D7 ⟨fr7, h14⟩
   replace h14 : OSl (RI .i64) 3 1 Φ_9 [] v15 ([x5.1] : List Int) := by simpa using h14
   replace k4 := k4.f0 fr7
   replace k8 := k8.f0 fr7
   replace k9 := k9.f0 fr7
   replace h10 := h10.f0 fr7
   replace h11 := fr7 _ _ (by simp) h11
   obtain ⟨x7, hx7, h⟩ := bs h
   refine le' (e_appF RI.lasts RI.one RI.flat Sl_75 Ei_3 rfl rfl rfl rfl rfl (js := [5]) (Rr := [ob v15, [b_3], ob v12, ob v9, ob v10, ob u4, X2, D2, ob u2, X1]) rfl k9 h14.rsl hx7) rfl ?_
   rintro v16 Φ_10 D8 ⟨⟨ap5, fr8⟩, h15⟩
   replace k4 := k4.fr fr8 (ap5.q 8 rfl) (ap5.q 7 rfl)
   replace k8 := k8.fr fr8 (ap5.q 5 rfl) dN
   replace h10 := h10.fr fr8 (ap5.q 2 rfl) (Dj.sub (Dj.app (Dj.sub (Dj.app (ap5.q 9 rfl) (ap5.q 6 rfl)) i2) (Dj.app (Dj.sub (ap5.q 3 rfl) apnil) (Dj.sub (ap5.q 4 rfl) apnil))) i3)
   replace h11 := fr8 _ _ ((ap5.q 1 rfl) _ (by simp)) h11
   refine lf Fld_175_0 rfl rfl rfl <| so1 1 Sz_75 rfl h15.one ?_
   refine art 7 [] rfl ?_
   refine WT.thw (js := [2]) (R := [ob v16, ob v15, ob v12, ob v9, ob v10, ob u4, X2, D2, ob u2, X1]) rfl h11 (fun Φ_11 ap6 fr9 => ?_)
   replace k4 := k4.fr fr9 (ap6.q 8 rfl) (ap6.q 7 rfl)
   replace k8 := k8.fr fr9 (ap6.q 5 rfl) dN
   replace h15 := h15.fr fr9 (ap6.q 0 rfl) dN
   replace h10 := h10.fr fr9 (ap6.q 2 rfl) (Dj.sub (Dj.app (Dj.sub (Dj.app (ap6.q 9 rfl) (ap6.q 6 rfl)) i2) (Dj.app (Dj.sub (ap6.q 3 rfl) apnil) (Dj.sub (ap6.q 4 rfl) apnil))) i3)
   refine wtL [(X2 ++ (ob v9 ++ (ob v10))), ob v16, ob v15, ob v12, ob u4, D2, ob u2, X1] (smg [6, 3, 3] rfl (SP.eq (by simp [List.append_assoc]))) ?_
   exact lb [1, 3, 0, 2, 2, 1, 1] [2, 0, 1, 1] (ih2 (_, _, _, _, _, _, _, _, _, _) ⟨h, h10, (fun k hk => ((List.mem_append.1 (i3 k hk)).elim (fun h => ((List.mem_append.1 (i2 k h)).elim (fun h => (List.mem_append.2 (.inl h))) (fun h => (List.mem_append.2 (.inr ((fun k hk => (List.mem_append.2 (.inl hk))) k h)))))) (fun h => ((List.mem_append.1 h).elim (fun h => (List.mem_append.2 (.inr ((fun k hk => (List.mem_append.2 (.inr (List.mem_append.2 (.inl hk))))) k (apnil k h))))) (fun h => (List.mem_append.2 (.inr ((fun k hk => (List.mem_append.2 (.inr (List.mem_append.2 (.inr hk))))) k (apnil k h))))))))), k4, k8, h15⟩)
  refine atr 5 [1, 32, 2] rfl ?_
  have rc3 : RC OTChain 2 Φ_2 ([(ob u5 ++ []) ++ ((ob u4 ++ []))] : List (List Nat)) [u5, u4] ([(⟨s6, s5⟩ : TChain)] : List TChain) := RC.cons (c := [u5, u4]) (cells := []) ⟨u5, u4, rfl, rfl, k9, k8⟩ rfl (RC.nil _ _ _)
  refine le' (e_lit (vs := [(0, .agg [u5, u4].toArray)]) (C := #[u5, u4]) OTChain.lasts Sl_50 Zr_175 rfl rfl rfl rfl (fill_made MC_175_1 (fill_cons (C' := [u5, u4]) rfl rfl rfl rfl rfl (fill_nil))) rfl rc3 rfl (RC.kn OTChain.knows rc3)) rfl ?_
  rintro v17 Φ_12 D9 ⟨fr10, h16⟩
  replace h16 : OSl OTChain 175 2 Φ_12 ((ob u5 ++ []) ++ ((ob u4 ++ []))) v17 ([(⟨s6, s5⟩ : TChain)] : List TChain) := by simpa [List.append_assoc] using h16
  replace k7 := k7.f0 fr10
  replace k4 := k4.f0 fr10
  refine wlL [((ob u5 ++ []) ++ ((ob u4 ++ []))), ob v17, X2, D2, ob u2, ob u3, X1] (smg [1, 1] rfl (SP.eq (by simp [List.append_assoc, ob_nil]))) ?_
  obtain ⟨x8, hx8, h⟩ := bs h
  refine le' (e_appO OTChain.lasts OTChain.one Sl_50 Ei_175 rfl rfl rfl rfl rfl (js := [4]) (Rr := [((ob u5 ++ []) ++ ((ob u4 ++ []))), ob v17, X2, D2, ob u3, X1]) rfl k4 h16 (fun ap => ap.q 3 rfl) (fun ap => ap.q 0 rfl) hx8) rfl ?_
  rintro v18 Φ_13 D10 ⟨⟨ap7, fr11⟩, h17⟩
  replace k7 := k7.fr fr11 (ap7.q 4 rfl) (Dj.sub (Dj.app (ap7.q 5 rfl) (ap7.q 2 rfl)) i2)
  refine wlL [(D2 ++ ((ob u5 ++ []) ++ ((ob u4 ++ [])))), ob v18, ob v17, X2, ob u3, X1] (smg [4, 1] rfl (SP.eq (by simp))) <| lf Fld_52_1 rfl rfl rfl <| so1 1 Sz_50 rfl h17.one ?_
  refine art 7 [] rfl <| wtL [(X1 ++ (X2)), (D2 ++ ((ob u5 ++ []) ++ ((ob u4 ++ [])))), ob v18, ob v17, ob u3] (smg [5, 3] rfl (SP.eq (by simp [List.append_assoc]))) ?_
  exact lb [1, 1, 2, 0] [1, 1, 1] (ih1 (_, _, _, _, _, _, _, _, _) ⟨h, k7, (fun k hk => ((List.mem_append.1 (i2 k hk)).elim (fun h => ((fun k hk => (List.mem_append.2 (.inl hk))) k h)) (fun h => ((fun k hk => (List.mem_append.2 (.inr hk))) k h)))), h17⟩)
 refine atr 4 [2] rfl <| soN 1 Sz_52 rfl ⟨k3.one, k4.one, trivial⟩ rfl ?_
 refine en ?_
 refine WT.ret hF (resOk.one (rv_cell Tn_52 rfl (fun w1 hw => hw.rgO (i := 1) rfl 0 2 [u1, u2] rfl) rfl)) (fun w1 hw => ?_)
 cases h
 replace hw := hw.merge (js := [3]) (F := [X1].flatten) rfl (SP.eq (by simp))
 refine postG_of_St (js := [3, 2, 1, 0]) hw rfl ⟨u1, D1, u2, D2, [X1].flatten, rfl, rfl, k3, (fun k hk => (List.mem_flatten.2 ⟨X1, by simp, (i1 k hk)⟩)), k4⟩
theorem m_s_l3Copy_ok (w0 : Base Ψ Φ []) (p0 : TFact) (ph0_0 : RSl RTVal 3 Ψ pG0_0 pv0_0 p0.Fields) {r : TFact} (h : m_s_l3Copy N p0 = some r) :
  Calls prog 226 [.agg [.string p0.Kind, pv0_0].toArray].toArray w0.w (PostG Φ w0.w [] (fun Φ' Fs v => ∃ (sr_0_0 : Value), v = .agg [.string r.Kind, sr_0_0].toArray ∧ Fs = [ob sr_0_0] ∧ OSl RTVal 204 3 Φ' [] sr_0_0 r.Fields)) := by
 refine eN func226 rfl ntmps226 rfl w0 fun hF => ?_
 unfold m_s_l3Copy at h
 refine sr <| lbx rfl fun b_1 => lnz Zr_80 rfl fun b_2 => en <| sr <| le' (e_lit0 RTVal.lasts Sl_78 Zr_204 rfl rfl) rfl ?_
 rintro v1 Φ_1 D1 ⟨fr1, h1⟩
 refine arr 2 [1, 32] rfl <| lu0 ph0_0 fun h2 => ?_
 obtain ⟨x1, hx1, h⟩ := bs h
 refine le' (e_appF RTVal.lasts RTVal.one RTVal.flat Sl_78 Ei_204 rfl rfl rfl rfl rfl (js := [0]) (Rr := []) rfl h1 h2 hx1) rfl ?_
 rintro v2 Φ_2 D2 ⟨⟨ap1, fr2⟩, h3⟩
 refine lf Fld_80_1 rfl rfl rfl <| so1 1 Sz_78 rfl h3.one ?_
 refine arr 4 [34] rfl <| soN 0 Sz_80 rfl ⟨rfl, h3.one, trivial⟩ rfl ?_
 refine en ?_
 exact rtg [0] hF (resOk.one (rv_cell Tn_80 rfl (fun w1 hw => hw.rgO (i := 0) rfl 0 2 [.string p0.Kind, v2] rfl) rfl)) rfl (by cases h; exact fun w1 hw => ⟨v2, rfl, rfl, h3⟩)
theorem m_s_FactOf_ok (w0 : Base Ψ Φ []) (p0 : TStore) (p1 : Int) (ph0_0 : RSl RTItem 3 Ψ pG0_0 pv0_0 p0.Items) {r : TFact × Bool} (h : m_s_FactOf N p0 p1 = some r) :
  Calls prog 171 [.agg [pv0_0, iV p0.Next].toArray, iV p1].toArray w0.w (PostG Φ w0.w [] (fun Φ' Fs v => ∃ (sr_0_0 : Value), v = .tuple #[.agg [.string r.1.Kind, sr_0_0].toArray, .bool r.2] ∧ Fs = [ob sr_0_0] ∧ OSl RTVal 204 3 Φ' [] sr_0_0 r.1.Fields)) := by
 refine eN func171 rfl ntmps171 rfl w0 fun hF => ?_
 unfold m_s_FactOf at h
 refine sr <| lbx rfl fun b_1 => lnz Zr_80 rfl fun b_2 => art 8 [] rfl ?_
 refine lin (σ := Int) (fun s => [(1, iV p1), (2, pQ b_1), (4, pQ b_2), (6, iV s)]) (fun s => St w0 Φ [(b_2, .cells #[.string (⟨#[]⟩ : ByteArray), .slice none 0 0] 80 (0, 0)), (b_1, .cells #[pv0_0, iV p0.Next] 57 (0, 0))] []) (fun m s => m_s_FactOf_l1 N p0 p1 m s = some r) (0) N h (sx [] [0, 0]) (fun n1 ih1 s hm => ?_)
 revert hm; revert s; intro s1 hm
 have h : m_s_FactOf_l1 N p0 p1 (n1 + 1) s1 = some r := hm
 show WT _ _ [(1, iV p1), (2, pQ b_1), (4, pQ b_2), (6, iV s1)] (St w0 Φ [(b_2, .cells #[.string (⟨#[]⟩ : ByteArray), .slice none 0 0] 80 (0, 0)), (b_1, .cells #[pv0_0, iV p0.Next] 57 (0, 0))] [])
 unfold m_s_FactOf_l1 at h
 refine atr 6 [0, 32] rfl <| lnr ph0_0 rfl <| la rfl <| en ?_
 refine ch h rfl ?_ ?_ <;> intro h
 ·refine atr 8 [0, 32] rfl ?_
  obtain ⟨x1, hx1, h⟩ := bs h
  obtain ⟨cs1, F1, -, g1, hb1, hs1, r1⟩ := ph0_0.el (idx_some hx1).2.2
  obtain ⟨v1, G1, rfl, hq1, h1⟩ := r1
  obtain rfl := hq1.symm
  refine lia ph0_0 hx1 rfl <| lf Fld_107_0 rfl rfl rfl <| lhx 0 0 g1 rfl <| art 3 [] rfl ?_
  refine ch h rfl ?_ ?_ <;> intro h
  ·refine atr 5 [0, 32] rfl ?_
   obtain ⟨x2, hx2, h⟩ := bs h
   obtain ⟨cs2, F2, -, g2, hb2, hs2, r2⟩ := ph0_0.el (idx_some hx2).2.2
   obtain ⟨v2, G2, rfl, hq2, h2⟩ := r2
   obtain rfl := hq2.symm
   refine lia ph0_0 hx2 rfl <| lf Fld_107_1 rfl rfl rfl <| lhx 1 2 g2 rfl <| kab h rfl rfl rfl (fun b z q => m_s_l3Copy_ok N b x2.F (h2.y z) q) ?_
   rintro x3 h v3 Φ_1 F3 ⟨ap1, fr1, v4, rfl, rfl, h3⟩
   refine soN 0 Sz_80 rfl ⟨rfl, h3.one, trivial⟩ rfl ?_
   refine la rfl <| en ?_
   exact rtg [0] hF (resOk.two (rv_cell Tn_80 rfl (fun w1 hw => hw.rgO (i := 0) rfl 0 2 [.string x3.Kind, v4] rfl) rfl) rfl) rfl (by cases h; exact fun w1 hw => ⟨v4, rfl, rfl, h3⟩)
  refine att 7 [] rfl ?_
  exact lb [] [0, 0] (ih1 _ h)
 refine xt rfl <| sr <| lq (q_build (vs := []) (C := #[.string (⟨#[]⟩ : ByteArray), .slice none 0 0]) Pl_80 Zr_80 rfl (fill_nil)) rfl <| soN 0 Sz_80 rfl ⟨rfl, rfl, trivial⟩ rfl ?_
 refine la rfl <| en ?_
 refine WT.ret hF (resOk.two (rv_cell Tn_80 rfl (fun w1 hw => hw.rgO (i := 0) rfl 0 2 [.string (⟨#[]⟩ : ByteArray), .slice none 0 0] rfl) rfl) rfl) (fun w1 hw => ?_)
 cases h
 replace hw := hw.addNil
 refine postG_of_St (js := [0]) hw rfl ⟨.slice none 0 0, rfl, rfl, OSl.nil _ _ _ _⟩
theorem m_s_Passes_ok (w0 : Base Ψ Φ []) (p0 : TAlpha) (p1 : TFact) (ph0_0 : RSl RTVal 3 Ψ pG0_0 pv0_0 p0.Consts) (ph0_1 : RSl (RI .i64) 1 Ψ pG0_1 pv0_1 p0.At) (ph1_0 : RSl RTVal 3 Ψ pG1_0 pv1_0 p1.Fields) {r : Bool} (h : m_s_Passes N p0 p1 = some r) :
  CB w0 prog 218 [.agg [.string p0.Kind, iV p0.N, pv0_0, pv0_1].toArray, .agg [.string p1.Kind, pv1_0].toArray] (.bool r) := by
 refine eN func218 rfl ntmps218 rfl w0 fun hF => ?_
 unfold m_s_Passes at h
 refine sr <| lbx rfl fun b_1 => lbx rfl fun b_2 => arr 11 [0, 32, 0, 0] rfl ?_
 obtain ⟨b1, hb_1, h⟩ := bs h
 refine WL.cutN 7 [(19, .bool b1), (2, pQ b_1), (3, pQ b_2)] ?_ (fun K => ?_)
 rotate_left
 ·refine sp 12 hb_1 rfl (fun hb_1 => ?_) fun hb_1 => ?_
  ·refine arr 7 [] rfl ?_
   cases hb_1
   exact ku K
  ·refine arr 4 [1, 32, 1, 0] rfl <| ly rfl rfl <| lnr ph1_0 rfl <| arr 2 [] rfl ?_
   cases hb_1
   exact ku K
 refine en ?_
 refine ch h rfl ?_ ?_ <;> intro h
 ·refine att 4 [] rfl ?_
  exact rt hF h
 refine att 7 [] rfl ?_
 refine lin (σ := Int) (fun s => [(2, pQ b_1), (3, pQ b_2), (5, iV s)]) (fun s => St w0 Φ [(b_2, .cells #[.string p1.Kind, pv1_0] 80 (0, 0)), (b_1, .cells #[.string p0.Kind, iV p0.N, pv0_0, pv0_1] 171 (0, 0))] []) (fun m s => m_s_Passes_l1 N p0 p1 m s = some r) (0) N h (sx [] [0, 0]) (fun n1 ih1 s hm => ?_)
 revert hm; revert s; intro s1 hm
 have h : m_s_Passes_l1 N p0 p1 (n1 + 1) s1 = some r := hm
 show WT _ _ [(2, pQ b_1), (3, pQ b_2), (5, iV s1)] (St w0 Φ [(b_2, .cells #[.string p1.Kind, pv1_0] 80 (0, 0)), (b_1, .cells #[.string p0.Kind, iV p0.N, pv0_0, pv0_1] 171 (0, 0))] [])
 unfold m_s_Passes_l1 at h
 refine atr 6 [3, 32] rfl <| lnr ph0_1 rfl <| la rfl <| en ?_
 refine ch h rfl ?_ ?_ <;> intro h
 ·refine atr 8 [3, 32] rfl ?_
  obtain ⟨x1, hx1, h⟩ := bs h
  obtain ⟨cs1, F1, -, g1, hb1, hs1, r1⟩ := ph0_1.el (idx_some hx1).2.2
  obtain ⟨rfl, -⟩ := r1
  refine lia ph0_1 hx1 rfl <| lhx 0 0 g1 rfl <| art 3 [] rfl <| WT.draw mixed (by kernel_rfl) (fun _ h => h.drew) <| aqq 3 [2, 32] rfl <| qq (q_lenR Sl_78 rfl rfl ph0_0) rfl <| aqq 2 [] rfl ?_
  obtain ⟨b2, hb_2, h⟩ := bs h
  refine WQ.cutN 8 [(45, .bool b2), (2, pQ b_1), (3, pQ b_2), (5, iV s1), (6, iV x1)] ?_ (fun K => ?_)
  rotate_left
  ·refine WQ.split (d := 37) rfl (fun c4 => ?_) (fun c4 => ?_)
   ·replace hb_2 := ite_t hb_2 c4
    refine aqq 8 [] rfl ?_
    cases hb_2
    exact kq K
   ·replace hb_2 := ite_f hb_2 c4
    refine aqq 3 [1, 0] rfl <| WQ.yes rfl rfl <| qq (q_lenR Sl_78 rfl rfl ph1_0) rfl <| WQ.yes rfl rfl <| qq (q_sub rfl rfl) rfl <| WQ.yes rfl rfl ?_
    obtain ⟨x2, hx2, hb_2⟩ := bs hb_2
    refine qp (p_call Fun_148 rfl (fun w1 hw => m_s_l1In_ok N (ba hw.fro) x1 0 (wz ((p1.Fields.length : Int) - 1)) hx2)) rfl <| aqq 2 [] rfl ?_
    cases hb_2
    exact kq K
  refine qq (q_move rfl) rfl ?_
  obtain ⟨b3, hb_3, h⟩ := bs h
  refine WQ.cutN 12 [(58, .bool b3), (2, pQ b_1), (3, pQ b_2), (5, iV s1)] ?_ (fun K => ?_)
  rotate_left
  ·refine WQ.split (d := 46) rfl (fun c5 => ?_) (fun c5 => ?_)
   ·replace hb_3 := ite_t hb_3 c5
    refine aqq 12 [] rfl ?_
    cases hb_3
    exact kq K
   ·replace hb_3 := ite_f hb_3 c5
    refine aqq 3 [1, 0] rfl <| WQ.yes rfl rfl ?_
    obtain ⟨x3, hx3, hb_3⟩ := bs hb_3
    obtain ⟨cs2, F2, -, g2, hb2, hs2, r2⟩ := ph1_0.el (idx_some hx3).2.2
    obtain ⟨rfl, -⟩ := r2
    refine qq (q_indexAddr Sl_78 rfl rfl ph1_0 hx3) rfl <| WQ.yes rfl rfl <| qq (q_loadN Tn_204 rfl (fun w1 hw => (g2.of_eq 0 3 rfl rfl : rg _ _ _ [iV x3.K, iV x3.N, .string x3.S]).rangeAt hw.in0) rfl) rfl <| aqq 3 [2, 32] rfl <| WQ.yes rfl rfl ?_
    obtain ⟨x4, hx4, hb_3⟩ := bs hb_3
    obtain ⟨cs3, F3, -, g3, hb3, hs3, r3⟩ := ph0_0.el (idx_some hx4).2.2
    obtain ⟨rfl, -⟩ := r3
    refine qq (q_indexAddr Sl_78 rfl rfl ph0_0 hx4) rfl <| WQ.yes rfl rfl <| qq (q_loadN Tn_204 rfl (fun w1 hw => (g3.of_eq 0 3 rfl rfl : rg _ _ _ [iV x4.K, iV x4.N, .string x4.S]).rangeAt hw.in0) rfl) rfl <| WQ.yes rfl rfl <| qq (q_neA EqT_204 rfl rfl rfl (r := eqT_TVal x3 x4) rfl) rfl <| WQ.q (q_pick0 rfl rfl) rfl rfl rfl ?_
    cases hb_3
    exact kq K
  refine WQ.nil ?_
  refine ch h rfl ?_ ?_ <;> intro h
  ·refine att 4 [] rfl ?_
   exact rt hF h
  refine att 7 [] rfl ?_
  exact lb [] [0, 0] (ih1 _ h)
 refine att 5 [] rfl ?_
 exact rt hF h
theorem m_s_BindOf_ok (w0 : Base Ψ Φ []) (p0 : (List TBind)) (p1 : ByteArray) (ph0 : RSl RTBind 4 Ψ pG0 pv0 p0) {r : TVal × Bool} (h : m_s_BindOf N p0 p1 = some r) :
  CB w0 prog 314 [pv0, .string p1] (.tuple #[.agg [iV r.1.K, iV r.1.N, .string r.1.S].toArray, .bool r.2]) := by
 refine eN func314 rfl ntmps314 rfl w0 fun hF => ?_
 unfold m_s_BindOf at h
 refine sr <| lnz Zr_204 rfl fun b_1 => art 8 [] rfl ?_
 refine lin (σ := Int) (fun s => [(0, pv0), (1, .string p1), (4, pQ b_1), (6, iV s)]) (fun s => St w0 Φ [(b_1, .cells #[iV 0, iV 0, .string (⟨#[]⟩ : ByteArray)] 204 (0, 0))] []) (fun m s => m_s_BindOf_l1 N p0 p1 m s = some r) (0) N h (sx [] [0]) (fun n1 ih1 s hm => ?_)
 revert hm; revert s; intro s1 hm
 have h : m_s_BindOf_l1 N p0 p1 (n1 + 1) s1 = some r := hm
 show WT _ _ [(0, pv0), (1, .string p1), (4, pQ b_1), (6, iV s1)] (St w0 Φ [(b_1, .cells #[iV 0, iV 0, .string (⟨#[]⟩ : ByteArray)] 204 (0, 0))] [])
 unfold m_s_BindOf_l1 at h
 refine atr 5 [] rfl <| lnr ph0 rfl <| la rfl <| en ?_
 refine ch h rfl ?_ ?_ <;> intro h
 ·refine atr 7 [] rfl ?_
  obtain ⟨x1, hx1, h⟩ := bs h
  obtain ⟨cs1, F1, -, g1, hb1, hs1, r1⟩ := ph0.el (idx_some hx1).2.2
  obtain ⟨rfl, -⟩ := r1
  refine lia ph0 hx1 rfl <| lf Fld_206_0 rfl rfl rfl <| lhx 0 0 g1 rfl <| art 3 [] rfl ?_
  refine ch h rfl ?_ ?_ <;> intro h
  ·refine atr 4 [] rfl ?_
   obtain ⟨x2, hx2, h⟩ := bs h
   obtain ⟨cs2, F2, -, g2, hb2, hs2, r2⟩ := ph0.el (idx_some hx2).2.2
   obtain ⟨rfl, -⟩ := r2
   refine lia ph0 hx2 rfl <| lf Fld_206_1 rfl rfl rfl <| lhx 1 3 g2 rfl <| soN 0 Sz_204 rfl ⟨rfl, rfl, rfl, trivial⟩ rfl ?_
   refine la rfl <| en ?_
   refine WT.ret hF (resOk.two (rv_cell Tn_204 rfl (fun w1 hw => hw.rgO (i := 0) rfl 0 3 [iV x2.V.K, iV x2.V.N, .string x2.V.S] rfl) rfl) rfl) (fun w1 hw => ?_)
   cases h
   exact post_of_St hw
  refine att 7 [] rfl ?_
  exact lb [] [0] (ih1 _ h)
 refine xt rfl <| sr <| lq (q_build (vs := []) (C := #[iV 0, iV 0, .string (⟨#[]⟩ : ByteArray)]) Pl_204 Zr_204 rfl (fill_nil)) rfl <| soN 0 Sz_204 rfl ⟨rfl, rfl, rfl, trivial⟩ rfl ?_
 refine la rfl <| en ?_
 refine WT.ret hF (resOk.two (rv_cell Tn_204 rfl (fun w1 hw => hw.rgO (i := 0) rfl 0 3 [iV 0, iV 0, .string (⟨#[]⟩ : ByteArray)] rfl) rfl) rfl) (fun w1 hw => ?_)
 cases h
 exact post_of_St hw
theorem m_s_MatchPat_ok (w0 : Base Ψ Φ []) (p0 : TPat) (p1 : TFact) (p2 : (List TBind)) (ph0_0 : RSl RTArg 5 Ψ pG0_0 pv0_0 p0.Args) (ph1_0 : RSl RTVal 3 Ψ pG1_0 pv1_0 p1.Fields) (ph2 : RSl RTBind 4 Ψ pG2 pv2 p2) {r : (List TBind) × Bool} (h : m_s_MatchPat N p0 p1 p2 = some r) :
  Calls prog 232 [.agg [.string p0.Kind, pv0_0, .bool p0.Not].toArray, .agg [.string p1.Kind, pv1_0].toArray, pv2].toArray w0.w (PostG Φ w0.w [] (fun Φ' Fs v => ∃ (sr_0_0 : Value), v = .tuple #[sr_0_0, .bool r.2] ∧ Fs = [ob sr_0_0] ∧ OSl RTBind 206 4 Φ' [] sr_0_0 r.1)) := by
 refine eN func232 rfl ntmps232 rfl w0 fun hF => ?_
 unfold m_s_MatchPat at h
 refine sr <| lbx rfl fun b_1 => lbx rfl fun b_2 => arr 5 [] rfl <| le' (e_lit0 RTBind.lasts Sl_102 Zr_206 rfl rfl) rfl ?_
 rintro v1 Φ_1 D1 ⟨fr1, h1⟩
 refine la rfl <| lu0 ph2 fun h2 => ?_
 obtain ⟨x1, hx1, h⟩ := bs h
 refine le' (e_appF RTBind.lasts RTBind.one RTBind.flat Sl_102 Ei_206 rfl rfl rfl rfl rfl (js := [0]) (Rr := []) rfl h1 h2 hx1) rfl ?_
 rintro v2 Φ_2 D2 ⟨⟨ap1, fr2⟩, h3⟩
 refine arr 11 [0, 32, 0, 0] rfl ?_
 obtain ⟨b1, hb_1, h⟩ := bs h
 refine WL.cutN 8 [(29, .bool b1), (2, pv2), (3, pQ b_1), (4, pQ b_2), (8, v2)] ?_ (fun K => ?_)
 rotate_left
 ·refine sp 21 hb_1 rfl (fun hb_1 => ?_) fun hb_1 => ?_
  ·refine arr 8 [] rfl ?_
   cases hb_1
   exact ku K
  ·refine arr 2 [1, 32] rfl <| ly rfl rfl <| lnr ph0_0 rfl <| arr 2 [1, 0] rfl <| ly rfl rfl <| lnr ph1_0 rfl <| arr 2 [] rfl ?_
   cases hb_1
   exact ku K
 refine en ?_
 refine ch h rfl ?_ ?_ <;> intro h
 ·refine att 6 [] rfl ?_
  exact rtg [0] hF (resOk.two rfl rfl) rfl (by cases h; exact fun w1 hw => ⟨v2, rfl, rfl, h3⟩)
 refine att 7 [] rfl ?_
 refine lin (σ := Hp × (List TBind) × Value × Int) (fun s => [(2, pv2), (3, pQ b_1), (4, pQ b_2), (8, s.2.2.1), (9, iV s.2.2.2)]) (fun s => St w0 s.1 [(b_2, .cells #[.string p1.Kind, pv1_0] 80 (0, 0)), (b_1, .cells #[.string p0.Kind, pv0_0, .bool p0.Not] 265 (0, 0))] [ob s.2.2.1]) (fun m s => m_s_MatchPat_l1 N p0 p1 p2 m s.2.1 s.2.2.2 = some r ∧ (OSl RTBind 206 4 s.1 [] s.2.2.1 s.2.1)) (Φ_2, x1, v2, 0) N ⟨h, h3⟩ (sx [0] [0, 0]) (fun n1 ih1 s hm => ?_)
 obtain ⟨Φ_3, s1, u1, s2⟩ := s
 obtain ⟨h, k1⟩ := hm
 dsimp only at h k1 ⊢
 unfold m_s_MatchPat_l1 at h
 refine atr 6 [1, 32] rfl <| lnr ph0_0 rfl <| la rfl <| en ?_
 refine ch h rfl ?_ ?_ <;> intro h
 ·refine atr 8 [1, 32] rfl ?_
  obtain ⟨x2, hx2, h⟩ := bs h
  obtain ⟨cs1, F1, -, g1, hb1, hs1, r1⟩ := ph0_0.el (idx_some hx2).2.2
  obtain ⟨rfl, -⟩ := r1
  refine lia ph0_0 hx2 rfl <| lhx 0 5 g1 rfl <| lnz Zr_294 rfl fun b_3 => soN 0 Sz_294 rfl ⟨rfl, rfl, rfl, rfl, rfl, trivial⟩ rfl ?_
  refine arr 6 [1, 0] rfl <| qc h (m_s_BindOf_ok N · s1 x2.S k1.rsl ·) rfl rfl rfl fun x3 h => arr 3 [] rfl <| lnz Zr_204 rfl fun b_4 => soN 0 Sz_204 rfl ⟨rfl, rfl, rfl, trivial⟩ rfl ?_
  refine art 4 [] rfl <| WT.draw mixed (by kernel_rfl) (fun _ h => h.drew) <| aqq 4 [0, 32] rfl ?_
  obtain ⟨b2, hb_2, h⟩ := bs h
  refine WQ.cutN 9 [(62, .bool b2), (2, pv2), (3, pQ b_1), (4, pQ b_2), (8, u1), (9, iV s2), (10, pQ b_3), (11, pQ b_4), (12, .bool x3.2)] ?_ (fun K => ?_)
  rotate_left
  ·refine WQ.split (d := 53) rfl (fun c4 => ?_) (fun c4 => ?_)
   ·replace hb_2 := ite_t hb_2 c4
    refine aqq 5 [2, 35, 1, 64] rfl <| WQ.yes rfl rfl ?_
    obtain ⟨x4, hx4, hb_2⟩ := bs hb_2
    obtain ⟨cs2, F2, -, g2, hb2, hs2, r2⟩ := ph1_0.el (idx_some hx4).2.2
    obtain ⟨rfl, -⟩ := r2
    refine qq (q_indexAddr Sl_78 rfl rfl ph1_0 hx4) rfl <| WQ.yes rfl rfl <| qq (q_loadN Tn_204 rfl (fun w1 hw => (g2.of_eq 0 3 rfl rfl : rg _ _ _ [iV x4.K, iV x4.N, .string x4.S]).rangeAt hw.in0) rfl) rfl <| WQ.yes rfl rfl <| qq (q_neA EqT_204 rfl rfl rfl (r := eqT_TVal x2.V x4) rfl) rfl <| WQ.q (q_pick1 rfl rfl) rfl rfl rfl ?_
    cases hb_2
    exact kq K
   ·replace hb_2 := ite_f hb_2 c4
    refine aqq 9 [] rfl ?_
    cases hb_2
    exact kq K
  refine qq (q_move rfl) rfl ?_
  obtain ⟨b3, hb_3, h⟩ := bs h
  refine WQ.cutN 16 [(79, .bool b3), (2, pv2), (3, pQ b_1), (4, pQ b_2), (8, u1), (9, iV s2), (10, pQ b_3), (12, .bool x3.2)] ?_ (fun K => ?_)
  rotate_left
  ·refine WQ.split (d := 63) rfl (fun c5 => ?_) (fun c5 => ?_)
   ·replace hb_3 := ite_t hb_3 c5
    refine aqq 16 [] rfl ?_
    cases hb_3
    exact kq K
   ·replace hb_3 := ite_f hb_3 c5
    refine aqq 4 [0, 32] rfl ?_
    obtain ⟨b4, hb_4, hb_3⟩ := bs hb_3
    refine WQ.cutN 2 [(69, .bool b4), (2, pv2), (3, pQ b_1), (4, pQ b_2), (8, u1), (9, iV s2), (10, pQ b_3), (11, pQ b_4), (12, .bool x3.2), (63, .bool false)] ?_ (fun K => ?_)
    rotate_left
    ·refine WQ.split (d := 67) rfl (fun c6 => ?_) (fun c6 => ?_)
     ·replace hb_4 := ite_t hb_4 c6
      refine aqq 2 [] rfl ?_
      cases hb_4
      exact kq K
     ·replace hb_4 := ite_f hb_4 c6
      refine aqq 2 [] rfl ?_
      cases hb_4
      exact kq K
    refine WQ.yes rfl rfl <| qq (q_move rfl) rfl ?_
    obtain ⟨b5, hb_5, hb_3⟩ := bs hb_3
    refine WQ.cutN 8 [(78, .bool b5), (2, pv2), (3, pQ b_1), (4, pQ b_2), (8, u1), (9, iV s2), (10, pQ b_3), (12, .bool x3.2), (63, .bool false)] ?_ (fun K => ?_)
    rotate_left
    ·refine WQ.split (d := 70) rfl (fun c7 => ?_) (fun c7 => ?_)
     ·replace hb_5 := ite_t hb_5 c7
      refine aqq 4 [3, 1, 64] rfl <| WQ.yes rfl rfl ?_
      obtain ⟨x5, hx5, hb_5⟩ := bs hb_5
      obtain ⟨cs3, F3, -, g3, hb3, hs3, r3⟩ := ph1_0.el (idx_some hx5).2.2
      obtain ⟨rfl, -⟩ := r3
      refine qq (q_indexAddr Sl_78 rfl rfl ph1_0 hx5) rfl <| WQ.yes rfl rfl <| qq (q_loadN Tn_204 rfl (fun w1 hw => (g3.of_eq 0 3 rfl rfl : rg _ _ _ [iV x5.K, iV x5.N, .string x5.S]).rangeAt hw.in0) rfl) rfl <| WQ.yes rfl rfl <| qq (q_neA EqT_204 rfl rfl rfl (r := eqT_TVal x3.1 x5) rfl) rfl <| WQ.yes rfl rfl <| WQ.q (q_pick1 rfl rfl) rfl rfl rfl ?_
      cases hb_5
      exact kq K
     ·replace hb_5 := ite_f hb_5 c7
      refine aqq 8 [] rfl ?_
      cases hb_5
      exact kq K
    refine WQ.q (q_pick0 rfl rfl) rfl rfl rfl ?_
    cases hb_3
    exact kq K
  refine WQ.nil ?_
  refine ch h rfl ?_ ?_ <;> intro h
  ·refine sr <| le' (e_lit0 RTBind.lasts Sl_102 Zr_206 rfl rfl) rfl ?_
   rintro v3 Φ_4 D3 ⟨fr3, h4⟩
   refine la rfl <| lu0 ph2 fun h5 => ?_
   obtain ⟨x6, hx6, h⟩ := bs h
   refine le' (e_appF RTBind.lasts RTBind.one RTBind.flat Sl_102 Ei_206 rfl rfl rfl rfl rfl (js := [0]) (Rr := [ob u1]) rfl h4 h5 hx6) rfl ?_
   rintro v4 Φ_5 D4 ⟨⟨ap2, fr4⟩, h6⟩
   refine art 3 [] rfl ?_
   exact rtg [0] hF (resOk.two rfl rfl) rfl (by cases h; exact fun w1 hw => ⟨v4, rfl, rfl, h6⟩)
  refine atr 7 [0, 32] rfl ?_
  obtain ⟨b6, hb_6, h⟩ := bs h
  refine WL.cutN 3 [(89, .bool b6), (2, pv2), (3, pQ b_1), (4, pQ b_2), (8, u1), (9, iV s2), (10, pQ b_3)] ?_ (fun K => ?_)
  rotate_left
  ·refine sp 86 hb_6 rfl (fun hb_6 => ?_) fun hb_6 => ?_
   ·refine arr 3 [] rfl ?_
    cases hb_6
    exact ku K
   ·refine arr 3 [] rfl ?_
    cases hb_6
    exact ku K
  refine en ?_
  refine ch h rfl ?_ ?_ <;> intro h
  ·refine wm [0, 1, 2, 3] [] rfl <| amm 6 [0, 1, 1, 2, 32, 3, 1, 4, 64, 5] [0, 1, 2, 3] rfl rfl ?_
   obtain ⟨x7, hx7, h⟩ := bs h
   obtain ⟨cs4, F4, -, g4, hb4, hs4, r4⟩ := ph1_0.el (idx_some hx7).2.2
   obtain ⟨rfl, -⟩ := r4
   refine mq 6 rfl (by kernel_rfl) (kN [0, 1, 2, 3]) (q_indexAddr Sl_78 rfl rfl ph1_0 hx7) rfl <| mq 7 rfl (by kernel_rfl) (kN [0, 1, 2, 3]) (q_loadN Tn_204 rfl (fun w1 hw => (g4.of_eq 0 3 rfl rfl : rg _ _ _ [iV x7.K, iV x7.N, .string x7.S]).rangeAt hw.1) rfl) rfl ?_
   refine mq 8 rfl (by kernel_rfl) (kN [0, 1, 2, 3]) (q_build (vs := [(0, .string x2.S), (1, .agg [iV x7.K, iV x7.N, .string x7.S].toArray)]) (C := #[.string x2.S, iV x7.K, iV x7.N, .string x7.S]) Pl_206 Zr_206 rfl (fill_cons (C' := [.string x2.S, iV 0, iV 0, .string ⟨#[]⟩]) rfl rfl rfl rfl rfl (fill_cons (C' := [.string x2.S, iV x7.K, iV x7.N, .string x7.S]) rfl rfl rfl rfl rfl (fill_nil)))) rfl ?_
   have rc3 : RC RTBind 4 Φ_3 ([[]] : List (List Nat)) [.string x2.S, iV x7.K, iV x7.N, .string x7.S] ([(⟨x2.S, x7⟩ : TBind)] : List TBind) := RC.cons (c := [.string x2.S, iV x7.K, iV x7.N, .string x7.S]) (cells := []) ⟨rfl, rfl⟩ rfl (RC.nil _ _ _)
   refine WM.one 9 (by kernel_rfl) (me rfl (fun _ v Φx D w1 hq hw => Kn.of Kf.nil (am [0, 1, 2, 3] rfl) hw) (e_lit (vs := [(0, .agg [.string x2.S, iV x7.K, iV x7.N, .string x7.S].toArray)]) (C := #[.string x2.S, iV x7.K, iV x7.N, .string x7.S]) RTBind.lasts Sl_102 Zr_206 rfl rfl rfl rfl (fill_made MC_206_1 (fill_cons (C' := [.string x2.S, iV x7.K, iV x7.N, .string x7.S]) rfl rfl rfl rfl rfl (fill_nil))) rfl rc3 rfl (by simpa using Kw.nil)) rfl ?_)
   rintro v5 Φ_6 D5 ⟨fr5, h7⟩
   replace h7 : OSl RTBind 206 4 Φ_6 [] v5 ([(⟨x2.S, x7⟩ : TBind)] : List TBind) := by simpa using h7
   replace k1 := k1.f0 fr5
   obtain ⟨x8, hx8, h⟩ := bs h
   refine WM.one 10 (by kernel_rfl) (me rfl (fun _ v Φx D w1 hq hw => Kn.of Kf.nil (am [0, 1, 2, 3] rfl) hw) (e_appF RTBind.lasts RTBind.one RTBind.flat Sl_102 Ei_206 rfl rfl rfl rfl rfl (js := [1]) (Rr := [ob v5]) rfl k1 h7.rsl hx8) rfl ?_)
   rintro v6 Φ_7 D6 ⟨⟨ap3, fr6⟩, h8⟩
   refine amm 1 [11] [0, 1, 2, 3] rfl rfl <| WM.nil (by kernel_rfl) <| att 6 [] rfl ?_
   exact lb [0] [2, 2] (ih1 (_, _, _, _) ⟨h, h8⟩)
  refine att 7 [] rfl ?_
  exact lb [0] [2, 2] (ih1 (_, _, _, _) ⟨h, k1⟩)
 refine att 7 [] rfl ?_
 exact rtg [0] hF (resOk.two rfl rfl) rfl (by cases h; exact fun w1 hw => ⟨u1, rfl, rfl, k1⟩)
theorem m_s_l13Binds_ok (w0 : Base Ψ Φ []) (p0 : TRule) (p1 : TStore) (p2 : (List Int)) (ph0_0 : RSl RTPat 3 Ψ pG0_0 pv0_0 p0.Pats) (ph0_1 : RSl RTCond 11 Ψ pG0_1 pv0_1 p0.Conds) (ph0_2 : RSl RTAct 5 Ψ pG0_2 pv0_2 p0.Acts) (ph1_0 : RSl RTItem 3 Ψ pG1_0 pv1_0 p1.Items) (ph2 : RSl (RI .i64) 1 Ψ pG2 pv2 p2) {r : (List TBind) × Bool} (h : m_s_l13Binds N p0 p1 p2 = some r) :
  Calls prog 269 [.agg [.string p0.Name, iV p0.Sal, pv0_0, pv0_1, pv0_2].toArray, .agg [pv1_0, iV p1.Next].toArray, pv2].toArray w0.w (PostG Φ w0.w [] (fun Φ' Fs v => ∃ (sr_0_0 : Value), v = .tuple #[sr_0_0, .bool r.2] ∧ Fs = [ob sr_0_0] ∧ OSl RTBind 206 4 Φ' [] sr_0_0 r.1)) := by
 refine eN func269 rfl ntmps269 rfl w0 fun hF => ?_
 unfold m_s_l13Binds at h
 refine sr <| lbx rfl fun b_1 => lbx rfl fun b_2 => arr 5 [] rfl <| le' (e_lit0 RTBind.lasts Sl_102 Zr_206 rfl rfl) rfl ?_
 rintro v1 Φ_1 D1 ⟨fr1, h1⟩
 refine art 8 [] rfl ?_
 refine lin (σ := Hp × (List TBind) × Value × Int) (fun s => [(2, pv2), (3, pQ b_1), (4, pQ b_2), (8, s.2.2.1), (9, iV s.2.2.2)]) (fun s => St w0 s.1 [(b_2, .cells #[pv1_0, iV p1.Next] 57 (0, 0)), (b_1, .cells #[.string p0.Name, iV p0.Sal, pv0_0, pv0_1, pv0_2] 183 (0, 0))] [ob s.2.2.1]) (fun m s => m_s_l13Binds_l1 N p0 p1 p2 m s.2.1 s.2.2.2 = some r ∧ (OSl RTBind 206 4 s.1 [] s.2.2.1 s.2.1)) (Φ_1, ([] : List TBind), v1, 0) N ⟨h, h1⟩ (sx [0] [0, 0]) (fun n1 ih1 s hm => ?_)
 obtain ⟨Φ_2, s1, u1, s2⟩ := s
 obtain ⟨h, k1⟩ := hm
 dsimp only at h k1 ⊢
 unfold m_s_l13Binds_l1 at h
 refine atr 5 [] rfl <| lnr ph2 rfl <| la rfl <| en ?_
 refine ch h rfl ?_ ?_ <;> intro h
 ·refine att 4 [] rfl ?_
  refine cut (σ := Hp × Nat × (List TVal) × Value × Bool × ByteArray) (fun s => [(2, pv2), (3, pQ b_1), (4, pQ b_2), (8, u1), (9, iV s2), (10, .pointer (some ⟨s.2.1, 0, none⟩)), (11, .bool s.2.2.2.2.1)]) (fun s => St w0 s.1 [(s.2.1, .cells #[.string s.2.2.2.2.2, s.2.2.2.1] 80 (0, 0)), (b_2, .cells #[pv1_0, iV p1.Next] 57 (0, 0)), (b_1, .cells #[.string p0.Name, iV p0.Sal, pv0_0, pv0_1, pv0_2] 183 (0, 0))] [ob s.2.2.2.1, ob u1]) (fun s => m_s_l13Binds_j2 N p0 s1 s2 (m_s_l13Binds_l1 N p0 p1 p2 n1) s.2.2.1 s.2.2.2.2.1 s.2.2.2.2.2 = some r ∧ (OSl RTBind 206 4 s.1 [] u1 s1) ∧ (OSl RTVal 204 3 s.1 [] s.2.2.2.1 s.2.2.1)) (fun s hm => ?_) (fun K => ?_)
  ·clear h
   obtain ⟨Φ_4, b_4, s3, u2, s4, s5⟩ := s
   obtain ⟨h, k1, k2⟩ := hm
   dsimp only at h k1 k2 ⊢
   unfold m_s_l13Binds_j2 at h
   refine sq <| wm [0, 1, 2] [] rfl <| amm 3 [0, 2, 1, 64, 2] [0, 1, 2] rfl rfl ?_
   obtain ⟨x3, hx3, h⟩ := bs h
   obtain ⟨cs2, F3, -, g2, hb2, hs2, r2⟩ := ph0_0.el (idx_some hx3).2.2
   obtain ⟨v4, G1, rfl, hq1, h3⟩ := r2
   obtain rfl := hq1.symm
   refine mq 3 rfl (by kernel_rfl) (kN [0, 1, 2]) (q_indexAddr Sl_179 rfl rfl ph0_0 hx3) rfl <| mq 4 rfl (by kernel_rfl) (kN [0, 1, 2]) (q_loadN Tn_265 rfl (fun w1 hw => (g2.of_eq 0 3 rfl rfl : rg _ _ _ [.string x3.Kind, v4, .bool x3.Not]).rangeAt hw.1) rfl) rfl <| amm 2 [5, 2, 6] [0, 1, 2] rfl rfl ?_
   obtain ⟨x4, hx4, h⟩ := bs h
   refine WM.one 7 (by kernel_rfl) (mc rfl (fun _ v Φx D w1 hq hw => Kn.of Kf.nil (ai3 0 1 2 rfl rfl rfl) hw) (k_call (js := []) (R := [ob u2, ob u1]) Fun_232 rfl rfl (fun w1 hw ap hl => m_s_MatchPat_ok N (ba hw.fro) x3 (⟨s5, s3⟩ : TFact) s1 (h3.y hw.up) k2.rsl k1.rsl  hx4)) rfl ?_)
   rintro v5 Φ_5 F4 ⟨ap2, fr3, v6, rfl, rfl, h4⟩
   replace k1 := k1.fr fr3 (ap2.q 1 rfl) dN
   refine amm 5 [8, 9, 10, 11, 12] [0, 1, 2] rfl rfl <| WM.nil (by kernel_rfl) <| atr 6 [] rfl ?_
   obtain ⟨b1, hb_1, h⟩ := bs h
   refine WL.cutN 3 [(46, .bool b1), (2, pv2), (3, pQ b_1), (4, pQ b_2), (8, u1), (9, iV s2), (12, v6)] ?_ (fun K => ?_)
   rotate_left
   ·refine sp 43 hb_1 rfl (fun hb_1 => ?_) fun hb_1 => ?_
    ·refine arr 3 [] rfl ?_
     cases hb_1
     exact ku K
    ·refine arr 3 [] rfl ?_
     cases hb_1
     exact ku K
   refine en ?_
   refine ch h rfl ?_ ?_ <;> intro h
   ·refine att 6 [] rfl ?_
    exact rtg [2] hF (resOk.two rfl rfl) rfl (by cases h; exact fun w1 hw => ⟨u1, rfl, rfl, k1⟩)
   refine att 11 [] rfl ?_
   exact lb [0] [1, 1] (ih1 (_, _, _, _) ⟨h, h4⟩)
  refine wm [0, 1] [] rfl <| amm 3 [0, 2, 1, 2] [0, 1] rfl rfl ?_
  obtain ⟨x5, hx5, h⟩ := bs h
  obtain ⟨cs3, F5, -, g3, hb3, hs3, r3⟩ := ph2.el (idx_some hx5).2.2
  obtain ⟨rfl, -⟩ := r3
  refine mq 3 rfl (by kernel_rfl) (kN [0, 1]) (q_indexAddr Sl_75 rfl rfl ph2 hx5) rfl <| mq 4 rfl (by kernel_rfl) (kN [0, 1]) (q_load1 T1_3 rfl (fun w1 hw => (g3.of_eq 0 1 rfl rfl : rg _ _ _ [iV x5]).rangeAt hw.1)) rfl ?_
  refine WM.two 5 9 (by kernel_rfl) ?_ ?_
  ·obtain ⟨x6, hx6, h⟩ := bs h
   refine mc rfl (fun _ v Φx D w1 hq hw => Kn.of Kf.nil (ai2 0 1 rfl rfl) hw) (k_call (js := []) (R := [ob u1]) Fun_171 rfl rfl (fun w1 hw ap hl => m_s_FactOf_ok N (ba hw.fro) p1 x5 (ph1_0.y hw.up)  hx6)) rfl ?_
   rintro v7 Φ_6 F6 ⟨ap3, fr4, v8, rfl, rfl, h5⟩
   replace k1 := k1.fr fr4 (ap3.q 0 rfl) dN
   refine amm 3 [6, 7, 8] [0, 1] rfl rfl ?_
   refine on1 9 (mn rfl (kB [1, 2]) (nz Zr_80) rfl (fun b_5 => ?_))
   refine on1 10 (msK 0 [1, 2] rfl Sz_80 rfl ⟨rfl, h5.one, trivial⟩ rfl rfl ?_)
   refine amm 1 [11] [1, 2] rfl rfl <| WM.nil (by kernel_rfl) ?_
   exact wo [0, 0] [0, 0, 0] (K (_, _, _, _, _, _) ⟨h, k1, h5⟩)
  refine mn rfl (fun _ b w1 hw => Kn.of Kf.nil (ai2 1 2 rfl rfl) hw) (nz Zr_80) rfl (fun b_6 => ?_)
  obtain ⟨x7, hx7, h⟩ := bs h
  refine WM.one 5 (by kernel_rfl) (mc rfl (fun _ v Φx D w1 hq hw => Kn.of Kf.nil (ai2 1 2 rfl rfl) hw) (k_call (js := []) (R := [ob u1]) Fun_171 rfl rfl (fun w1 hw ap hl => m_s_FactOf_ok N (ba hw.fro) p1 x5 (ph1_0.y hw.up)  hx7)) rfl ?_)
  rintro v9 Φ_7 F7 ⟨ap4, fr5, v10, rfl, rfl, h6⟩
  replace k1 := k1.fr fr5 (ap4.q 0 rfl) dN
  refine amm 3 [6, 7, 8] [1, 2] rfl rfl ?_
  refine on1 10 (msK 0 [1, 2] rfl Sz_80 rfl ⟨rfl, h6.one, trivial⟩ rfl rfl ?_)
  refine amm 1 [11] [1, 2] rfl rfl <| WM.nil (by kernel_rfl) ?_
  exact wo [0, 0] [0, 0, 0] (K (_, _, _, _, _, _) ⟨h, k1, h6⟩)
 refine att 7 [] rfl ?_
 exact rtg [0] hF (resOk.two rfl rfl) rfl (by cases h; exact fun w1 hw => ⟨u1, rfl, rfl, k1⟩)
theorem m_s_l13Hit_ok (w0 : Base Ψ Φ []) (p0 : TRule) (p1 : TFact) (p2 : (List TBind)) (ph0_0 : RSl RTPat 3 Ψ pG0_0 pv0_0 p0.Pats) (ph0_1 : RSl RTCond 11 Ψ pG0_1 pv0_1 p0.Conds) (ph0_2 : RSl RTAct 5 Ψ pG0_2 pv0_2 p0.Acts) (ph1_0 : RSl RTVal 3 Ψ pG1_0 pv1_0 p1.Fields) (ph2 : RSl RTBind 4 Ψ pG2 pv2 p2) {r : (List Int)} (h : m_s_l13Hit N p0 p1 p2 = some r) :
  Calls prog 270 [.agg [.string p0.Name, iV p0.Sal, pv0_0, pv0_1, pv0_2].toArray, .agg [.string p1.Kind, pv1_0].toArray, pv2].toArray w0.w (PostG Φ w0.w [] (fun Φ' Fs v => ∃ (sr_0_0 : Value), v = sr_0_0 ∧ Fs = [ob sr_0_0] ∧ OSl (RI .i64) 3 1 Φ' [] sr_0_0 r)) := by
 refine eN func270 rfl ntmps270 rfl w0 fun hF => ?_
 unfold m_s_l13Hit at h
 refine sr <| lbx rfl fun b_1 => lbx rfl fun b_2 => arr 4 [] rfl <| le' (e_lit0 (R := RI .i64) RI.lasts Sl_75 Zr_3 rfl rfl) rfl ?_
 rintro v1 Φ_1 D1 ⟨fr1, h1⟩
 refine art 8 [] rfl ?_
 refine lin (σ := Hp × (List Int) × Value × Int) (fun s => [(2, pv2), (3, pQ b_1), (4, pQ b_2), (7, s.2.2.1), (8, iV s.2.2.2)]) (fun s => St w0 s.1 [(b_2, .cells #[.string p1.Kind, pv1_0] 80 (0, 0)), (b_1, .cells #[.string p0.Name, iV p0.Sal, pv0_0, pv0_1, pv0_2] 183 (0, 0))] [ob s.2.2.1]) (fun m s => m_s_l13Hit_l1 N p0 p1 p2 m s.2.1 s.2.2.2 = some r ∧ (OSl (RI .i64) 3 1 s.1 [] s.2.2.1 s.2.1)) (Φ_1, ([] : List Int), v1, 0) N ⟨h, h1⟩ (sx [0] [0, 0]) (fun n1 ih1 s hm => ?_)
 obtain ⟨Φ_2, s1, u1, s2⟩ := s
 obtain ⟨h, k1⟩ := hm
 dsimp only at h k1 ⊢
 unfold m_s_l13Hit_l1 at h
 refine atr 6 [2, 32] rfl <| lnr ph0_0 rfl <| la rfl <| en ?_
 refine ch h rfl ?_ ?_ <;> intro h
 ·refine atr 8 [2, 32] rfl ?_
  obtain ⟨x1, hx1, h⟩ := bs h
  obtain ⟨cs1, F1, -, g1, hb1, hs1, r1⟩ := ph0_0.el (idx_some hx1).2.2
  obtain ⟨v2, G1, rfl, hq1, h2⟩ := r1
  obtain rfl := hq1.symm
  refine lia ph0_0 hx1 rfl <| lf Fld_265_2 rfl rfl rfl <| lhx 2 0 g1 rfl <| en ?_
  refine ch h rfl ?_ ?_ <;> intro h
  ·refine sq <| wm [0, 1] [] rfl <| amm 3 [0, 2, 1, 32, 2] [0, 1] rfl rfl ?_
   obtain ⟨x2, hx2, h⟩ := bs h
   obtain ⟨cs2, F2, -, g2, hb2, hs2, r2⟩ := ph0_0.el (idx_some hx2).2.2
   obtain ⟨v3, G2, rfl, hq2, h3⟩ := r2
   obtain rfl := hq2.symm
   refine mq 3 rfl (by kernel_rfl) (kN [0, 1]) (q_indexAddr Sl_179 rfl rfl ph0_0 hx2) rfl <| mq 4 rfl (by kernel_rfl) (kN [0, 1]) (q_loadN Tn_265 rfl (fun w1 hw => (g2.of_eq 0 3 rfl rfl : rg _ _ _ [.string x2.Kind, v3, .bool x2.Not]).rangeAt hw.1) rfl) rfl <| amm 2 [5, 2, 6] [0, 1] rfl rfl ?_
   obtain ⟨x3, hx3, h⟩ := bs h
   refine WM.one 7 (by kernel_rfl) (mc rfl (fun _ v Φx D w1 hq hw => Kn.of Kf.nil (ai2 0 1 rfl rfl) hw) (k_call (js := []) (R := [ob u1]) Fun_232 rfl rfl (fun w1 hw ap hl => m_s_MatchPat_ok N (ba hw.fro) x2 p1 p2 (h3.y hw.up) (ph1_0.y hw.up) (ph2.y hw.up)  hx3)) rfl ?_)
   rintro v4 Φ_3 F3 ⟨ap1, fr2, v5, rfl, rfl, h4⟩
   replace k1 := k1.fr fr2 (ap1.q 0 rfl) dN
   refine amm 5 [8, 9, 10, 11, 12] [0, 1] rfl rfl <| WM.nil (by kernel_rfl) <| att 9 [] rfl ?_
   refine cut (σ := Int) (fun s => [(2, pv2), (3, pQ b_1), (4, pQ b_2), (7, u1), (8, iV s2), (11, iV s)]) (fun s => St w0 Φ_3 [(b_2, .cells #[.string p1.Kind, pv1_0] 80 (0, 0)), (b_1, .cells #[.string p0.Name, iV p0.Sal, pv0_0, pv0_1, pv0_2] 183 (0, 0))] [ob u1]) (fun s => m_s_l13Hit_j2 N s1 s2 (m_s_l13Hit_l1 N p0 p1 p2 n1) s = some r) (fun s hm => ?_) (fun K => ?_)
   ·clear h
    revert hm; revert s; intro s3 hm
    have h : m_s_l13Hit_j2 N s1 s2 (m_s_l13Hit_l1 N p0 p1 p2 n1) s3 = some r := hm
    show WT _ _ [(2, pv2), (3, pQ b_1), (4, pQ b_2), (7, u1), (8, iV s2), (11, iV s3)] (St w0 Φ_3 [(b_2, .cells #[.string p1.Kind, pv1_0] 80 (0, 0)), (b_1, .cells #[.string p0.Name, iV p0.Sal, pv0_0, pv0_1, pv0_2] 183 (0, 0))] [ob u1])
    unfold m_s_l13Hit_j2 at h
    refine atr 3 [] rfl ?_
    have rc2 : RC (RI .i64) 1 Φ_3 ([[]] : List (List Nat)) [iV s3] ([s3] : List Int) := RC.cons (c := [iV s3]) (cells := []) ⟨rfl, rfl⟩ rfl (RC.nil _ _ _)
    refine le' (e_lit (vs := [(0, iV s3)]) (C := #[iV s3]) RI.lasts Sl_75 Zr_3 rfl rfl rfl rfl (fill_made MC_3_1 (fill_cons (C' := [iV s3]) rfl rfl rfl rfl rfl (fill_nil))) rfl rc2 rfl (by simpa using Kw.nil)) rfl ?_
    rintro v6 Φ_4 D2 ⟨fr3, h5⟩
    replace h5 : OSl (RI .i64) 3 1 Φ_4 [] v6 ([s3] : List Int) := by simpa using h5
    replace k1 := k1.f0 fr3
    obtain ⟨x4, hx4, h⟩ := bs h
    refine le' (e_appF RI.lasts RI.one RI.flat Sl_75 Ei_3 rfl rfl rfl rfl rfl (js := [1]) (Rr := [ob v6]) rfl k1 h5.rsl hx4) rfl ?_
    rintro v7 Φ_5 D3 ⟨⟨ap2, fr4⟩, h6⟩
    refine art 8 [] rfl ?_
    exact lb [0] [0, 0] (ih1 (_, _, _, _) ⟨h, h6⟩)
   refine ch h rfl ?_ ?_ <;> intro h
   ·refine att 3 [] rfl ?_
    exact wo [1] [0, 0] (K _ h)
   refine WT.skip ?_
   exact wo [1] [0, 0] (K _ h)
  refine att 7 [] rfl ?_
  exact lb [0] [0, 0] (ih1 (_, _, _, _) ⟨h, k1⟩)
 refine att 6 [] rfl ?_
 exact rtg [0] hF (resOk.one rfl) rfl (by cases h; exact fun w1 hw => ⟨u1, rfl, rfl, k1⟩)
theorem m_s_l13Turn_ok (w0 : Base Ψ Φ [ob pv2, pD2].flatten) (p0 : TRule) (p1 : TStore) (p2 : (List TTok)) (p3 : TFact) (p4 : Int) (ph0_0 : RSl RTPat 3 Ψ pG0_0 pv0_0 p0.Pats) (ph0_1 : RSl RTCond 11 Ψ pG0_1 pv0_1 p0.Conds) (ph0_2 : RSl RTAct 5 Ψ pG0_2 pv0_2 p0.Acts) (ph1_0 : RSl RTItem 3 Ψ pG1_0 pv1_0 p1.Items) (ph2 : OSl OTTok 185 2 Φ pD2 pv2 p2) (ph3_0 : RSl RTVal 3 Ψ pG3_0 pv3_0 p3.Fields) {r : (List TTok)} (h : m_s_l13Turn N p0 p1 p2 p3 p4 = some r) :
  Calls prog 174 [.agg [.string p0.Name, iV p0.Sal, pv0_0, pv0_1, pv0_2].toArray, .agg [pv1_0, iV p1.Next].toArray, pv2, .agg [.string p3.Kind, pv3_0].toArray, iV p4].toArray w0.w (PostG Φ w0.w [ob pv2, pD2].flatten (fun Φ' Fs v => ∃ (Do_0_0 : List Nat), v = .tuple #[] ∧ Fs = [ob pv2, Do_0_0] ∧ OSl OTTok 185 2 Φ' Do_0_0 pv2 r)) := by
 refine eL func174 rfl ntmps174 rfl (L := [ob pv2, pD2]) w0 (fun hF => ?_)
 unfold m_s_l13Turn at h
 refine sr <| lbx rfl fun b_1 => lbx rfl fun b_2 => lbx rfl fun b_3 => art 6 [] rfl ?_
 refine lin (σ := Hp × (List TTok) × List Nat × Int) (fun s => [(2, pv2), (4, iV p4), (5, pQ b_1), (6, pQ b_2), (8, pQ b_3), (10, iV s.2.2.2)]) (fun s => St w0 s.1 [(b_3, .cells #[.string p3.Kind, pv3_0] 80 (0, 0)), (b_2, .cells #[pv1_0, iV p1.Next] 57 (0, 0)), (b_1, .cells #[.string p0.Name, iV p0.Sal, pv0_0, pv0_1, pv0_2] 183 (0, 0))] [ob pv2, s.2.2.1]) (fun m s => m_s_l13Turn_l1 N p0 p1 p3 p4 m s.2.1 s.2.2.2 = some r ∧ (OSl OTTok 185 2 s.1 s.2.2.1 pv2 s.2.1)) (Φ, p2, pD2, 0) N ⟨h, ph2⟩ (sx [0, 0] [0, 0, 0]) (fun n1 ih1 s hm => ?_)
 obtain ⟨Φ_1, s1, D1, s2⟩ := s
 obtain ⟨h, k1⟩ := hm
 dsimp only at h k1 ⊢
 unfold m_s_l13Turn_l1 at h
 refine atr 5 [] rfl <| lno k1 rfl <| la rfl <| en ?_
 refine ch h rfl ?_ ?_ <;> intro h
 ·refine att 4 [] rfl <| WT.mix (Kn w0 Φ_1 (ob pv2) [(b_3, .cells #[.string p3.Kind, pv3_0] 80 (0, 0)), (b_2, .cells #[pv1_0, iV p1.Next] 57 (0, 0)), (b_1, .cells #[.string p0.Name, iV p0.Sal, pv0_0, pv0_1, pv0_2] 183 (0, 0))]) (fun _ => true) mixed (fun _ h => h.drew) <| mq 0 rfl (by kernel_rfl) (kn Kf.id (ai3 0 1 2 rfl rfl rfl)) (q_loadN Tn_183 rfl (fun w1 hw => hw.rgO (i := 2) rfl 0 5 [.string p0.Name, iV p0.Sal, pv0_0, pv0_1, pv0_2] rfl) rfl) rfl ?_
  refine mq 1 rfl (by kernel_rfl) (kn Kf.id (ai3 0 1 2 rfl rfl rfl)) (q_loadN Tn_57 rfl (fun w1 hw => hw.rgO (i := 1) rfl 0 2 [pv1_0, iV p1.Next] rfl) rfl) rfl <| ma 2 rfl (by kernel_rfl) (kn Kf.id (ai3 0 1 2 rfl rfl rfl)) rfl <| ma 3 rfl (by kernel_rfl) (kn Kf.id (ai3 0 1 2 rfl rfl rfl)) rfl ?_
  obtain ⟨x1, hx1, h⟩ := bs h
  obtain ⟨cs1, F1, -, g1, hb1, hs1, r1⟩ := k1.elS (idx_some hx1).2.2
  obtain ⟨v1, v2, rfl, rfl, h1, h2⟩ := r1
  have h3 := h1.rsl
  have h4 := h2.rsl
  refine mq 4 rfl (by kernel_rfl) (kn Kf.id (ai3 0 1 2 rfl rfl rfl)) (q_indexAddr Sl_154 rfl rfl k1.rsl hx1) rfl <| mq 5 rfl (by kernel_rfl) (kn Kf.id (ai3 0 1 2 rfl rfl rfl)) (q_fieldAddr Fld_185_0 rfl) rfl <| mq 6 rfl (by kernel_rfl) (kn Kf.id (ai3 0 1 2 rfl rfl rfl)) (q_load1 T1_75 rfl (fun w1 hw => hw.rg hb1 (g1.of_eq 0 1 rfl rfl : rg _ _ _ [v1]))) rfl ?_
  obtain ⟨x2, hx2, h⟩ := bs h
  refine WM.one 7 (by kernel_rfl) (mc rfl (fun _ v Φx D w1 hq hw => Kn.of (Kf.id.st hq.2.1 (hq.1.r (i := 0) rfl)) (ai3 0 1 2 rfl rfl rfl) hw) (k_call (js := []) (R := [ob pv2, D1]) Fun_269 rfl rfl (fun w1 hw ap hl => m_s_l13Binds_ok N (ba hw.fro) p0 p1 x1.Ids (ph0_0.y hw.up) (ph0_1.y hw.up) (ph0_2.y hw.up) (ph1_0.y hw.up) h3  hx2)) rfl ?_)
  rintro v3 Φ_2 F2 ⟨ap1, fr1, v4, rfl, rfl, h5⟩
  replace k1 := k1.fr fr1 (ap1.q 0 rfl) (ap1.q 1 rfl)
  have kf1 := (Kf.id (F := (ob pv2)) : Kf Φ_1 _ _).st fr1 (ap1.q 0 rfl)
  refine ma 8 rfl (by kernel_rfl) (kn kf1 (ai3 0 1 2 rfl rfl rfl)) rfl <| ma 9 rfl (by kernel_rfl) (kn kf1 (ai3 0 1 2 rfl rfl rfl)) rfl <| ma 10 rfl (by kernel_rfl) (kn kf1 (ai3 0 1 2 rfl rfl rfl)) rfl <| ma 11 rfl (by kernel_rfl) (kn kf1 (ai3 0 1 2 rfl rfl rfl)) rfl <| ma 12 rfl (by kernel_rfl) (kn kf1 (ai3 0 1 2 rfl rfl rfl)) rfl <| WM.nil (by kernel_rfl) <| atr 5 [69, 2] rfl <| kab h rfl rfl rfl (fun b z q => m_s_l13Hit_ok N b p0 p3 x2.1 (ph0_0.y z) (ph0_1.y z) (ph0_2.y z) (ph3_0.y z) h5.rsl q) ?_
  rintro x3 h v5 Φ_3 F3 ⟨ap2, fr2, v6, rfl, rfl, h6⟩
  replace k1 := k1.fr fr2 (ap2.q 1 rfl) (ap2.q 2 rfl)
  refine art 7 [] rfl ?_
  refine lin (σ := Hp × (List TTok) × List Nat × Int) (fun s => [(2, pv2), (4, iV p4), (5, pQ b_1), (6, pQ b_2), (8, pQ b_3), (10, iV s2), (12, .bool x2.2), (13, v5), (14, iV s.2.2.2)]) (fun s => St w0 s.1 [(b_3, .cells #[.string p3.Kind, pv3_0] 80 (0, 0)), (b_2, .cells #[pv1_0, iV p1.Next] 57 (0, 0)), (b_1, .cells #[.string p0.Name, iV p0.Sal, pv0_0, pv0_1, pv0_2] 183 (0, 0))] [ob v5, ob pv2, s.2.2.1]) (fun m s => m_s_l13Turn_l2 N p4 s2 (m_s_l13Turn_l1 N p0 p1 p3 p4 n1) x2 x3 m s.2.1 s.2.2.2 = some r ∧ (OSl OTTok 185 2 s.1 s.2.2.1 pv2 s.2.1) ∧ (OSl (RI .i64) 3 1 s.1 [] v5 x3)) (Φ_3, s1, D1, 0) N ⟨h, k1, h6⟩ (sx [0, 1, 1] [0, 0, 0]) (fun n2 ih2 s hm => ?_)
  obtain ⟨Φ_4, s3, D2, s4⟩ := s
  obtain ⟨h, k2, h6⟩ := hm
  dsimp only at h k2 h6 ⊢
  unfold m_s_l13Turn_l2 at h
  refine atr 5 [] rfl <| lno h6 rfl <| arr 2 [] rfl ?_
  obtain ⟨b1, hb_1, h⟩ := bs h
  refine WL.cutN 2 [(42, .bool b1), (2, pv2), (4, iV p4), (5, pQ b_1), (6, pQ b_2), (8, pQ b_3), (10, iV s2), (12, .bool x2.2), (13, v5), (14, iV s4)] ?_ (fun K => ?_)
  rotate_left
  ·refine sp 40 hb_1 rfl (fun hb_1 => ?_) fun hb_1 => ?_
   ·refine arr 2 [] rfl ?_
    cases hb_1
    exact ku K
   ·refine arr 2 [] rfl ?_
    cases hb_1
    exact ku K
  refine en ?_
  refine ch h rfl ?_ ?_ <;> intro h
  ·refine att 3 [] rfl ?_
   obtain ⟨x4, hx4, h⟩ := bs h
   obtain ⟨cs2, F4, D3, h7, r2, kf1, sp1⟩ := k2.focus hx4
   obtain ⟨v7, v8, rfl, rfl, h8, h9⟩ := r2
   refine wtL [ob v7, ob v8, D3, ob v5, ob pv2] (sre [2] [ob v7, ob v8, D3] rfl (by simpa [List.append_assoc] using sp1)) <| WT.mix (Kn w0 Φ_4 (ob pv2 ++ (ob v8 ++ ob v5)) [(b_3, .cells #[.string p3.Kind, pv3_0] 80 (0, 0)), (b_2, .cells #[pv1_0, iV p1.Next] 57 (0, 0)), (b_1, .cells #[.string p0.Name, iV p0.Sal, pv0_0, pv0_1, pv0_2] 183 (0, 0))]) (fun i => match i with | 22 => false | _ => true) mixed (fun _ h => h.drew) <| ma 0 rfl (by kernel_rfl) (kn Kf.id (ai3 0 1 2 rfl rfl rfl)) rfl <| ma 1 rfl (by kernel_rfl) (kn Kf.id (ai3 0 1 2 rfl rfl rfl)) rfl ?_
   refine mq 2 rfl (by kernel_rfl) (kn Kf.id (ai3 0 1 2 rfl rfl rfl)) (q_indexAddrH Sl_154 rfl rfl h7 hx4) rfl <| mq 3 rfl (by kernel_rfl) (kn Kf.id (ai3 0 1 2 rfl rfl rfl)) (q_fieldAddr Fld_185_1 rfl) rfl <| mq 4 rfl (by kernel_rfl) (kn Kf.id (ai3 0 1 2 rfl rfl rfl)) (q_load1 T1_75 rfl (fun w1 hw => hw.rg (List.mem_append.2 (.inl h7.hb)) (h7.rg.of_eq 1 1 rfl rfl : rg _ _ _ [v8]))) rfl <| ma 5 rfl (by kernel_rfl) (kn Kf.id (ai3 0 1 2 rfl rfl rfl)) rfl <| ma 6 rfl (by kernel_rfl) (kn Kf.id (ai3 0 1 2 rfl rfl rfl)) rfl <| ma 7 rfl (by kernel_rfl) (kn Kf.id (ai3 0 1 2 rfl rfl rfl)) rfl ?_
   refine mq 8 rfl (by kernel_rfl) (kn Kf.id (ai3 0 1 2 rfl rfl rfl)) (q_indexAddrH Sl_154 rfl rfl h7 hx4) rfl <| mq 9 rfl (by kernel_rfl) (kn Kf.id (ai3 0 1 2 rfl rfl rfl)) (q_fieldAddr Fld_185_1 rfl) rfl <| mq 10 rfl (by kernel_rfl) (kn Kf.id (ai3 0 1 2 rfl rfl rfl)) (q_load1 T1_75 rfl (fun w1 hw => hw.rg (List.mem_append.2 (.inl h7.hb)) (h7.rg.of_eq 1 1 rfl rfl : rg _ _ _ [v8]))) rfl <| ma 11 rfl (by kernel_rfl) (kn Kf.id (ai3 0 1 2 rfl rfl rfl)) rfl ?_
   obtain ⟨x5, hx5, h⟩ := bs h
   obtain ⟨cs3, F5, -, g2, hb3, hs2, r3⟩ := h9.elS (idx_some hx5).2.2
   obtain ⟨rfl, -⟩ := r3
   refine mq 12 rfl (by kernel_rfl) (kn Kf.id (ai3 0 1 2 rfl rfl rfl)) (q_indexAddr Sl_75 rfl rfl h9.rsl hx5) rfl <| mq 13 rfl (by kernel_rfl) (kn Kf.id (ai3 0 1 2 rfl rfl rfl)) (q_load1 T1_3 rfl (fun w1 hw => hw.rg (List.mem_append.2 (.inr (List.mem_append.2 (.inl hb3)))) (g2.of_eq 0 1 rfl rfl : rg _ _ _ [iV x5]))) rfl <| ma 14 rfl (by kernel_rfl) (kn Kf.id (ai3 0 1 2 rfl rfl rfl)) rfl <| ma 15 rfl (by kernel_rfl) (kn Kf.id (ai3 0 1 2 rfl rfl rfl)) rfl <| ma 16 rfl (by kernel_rfl) (kn Kf.id (ai3 0 1 2 rfl rfl rfl)) rfl ?_
   obtain ⟨x6, hx6, h⟩ := bs h
   obtain ⟨cs4, F6, -, g3, hb4, hs3, r4⟩ := h6.elS (idx_some hx6).2.2
   obtain ⟨rfl, -⟩ := r4
   refine mq 17 rfl (by kernel_rfl) (kn Kf.id (ai3 0 1 2 rfl rfl rfl)) (q_indexAddr Sl_75 rfl rfl h6.rsl hx6) rfl <| mq 18 rfl (by kernel_rfl) (kn Kf.id (ai3 0 1 2 rfl rfl rfl)) (q_load1 T1_3 rfl (fun w1 hw => hw.rg (List.mem_append.2 (.inr (List.mem_append.2 (.inr hb4)))) (g3.of_eq 0 1 rfl rfl : rg _ _ _ [iV x6]))) rfl <| ma 19 rfl (by kernel_rfl) (kn Kf.id (ai3 0 1 2 rfl rfl rfl)) rfl <| ma 20 rfl (by kernel_rfl) (kn Kf.id (ai3 0 1 2 rfl rfl rfl)) rfl ?_
   obtain ⟨x7, hx7, h⟩ := bs h
   obtain ⟨cs5, F7, -, g4, hb5, hs4, r5⟩ := h9.elS (idx_some hx7).2.2
   obtain ⟨rfl, -⟩ := r5
   refine mq 21 rfl (by kernel_rfl) (kn Kf.id (ai3 0 1 2 rfl rfl rfl)) (q_indexAddr Sl_75 rfl rfl h9.rsl hx7) rfl ?_
   refine WM.one 22 (by kernel_rfl) (mu rfl (fun hc => by cases hc) (u_setF (js := [1]) (Rr := [ob v7, D3, ob v5, ob pv2]) (vs := [iV (wz (x5 + (wz (p4 * x6))))]) (x' := wz (x5 + (wz (p4 * x6)))) RI.lasts RI.flat Sz_3 rfl rfl rfl rfl ⟨rfl, trivial⟩ rfl h9 (idx_lt hx7) ⟨rfl, rfl⟩) rfl ?_)
   rintro Φ_5 D4 ⟨⟨ap3, fr3⟩, h10⟩
   replace h7 := h7.fr fr3 (ap3.q 3 rfl) (ap3.q 1 rfl)
   replace h6 := h6.fr fr3 (ap3.q 2 rfl) dN
   replace h8 := h8.fr fr3 (ap3.q 0 rfl) dN
   refine WM.nil (by kernel_rfl) <| att 6 [] rfl ?_
   have r6 : OTTok Φ_5 _ [v7, v8] (⟨x4.Ids, (x4.Hits.set s4.toNat (wz (x5 + (wz (p4 * x6)))))⟩ : TTok) := ⟨v7, v8, rfl, rfl, h8, h10⟩
   obtain ⟨D5, h11, sp2⟩ := h7.unfocus r6 (OTTok.knows _ _ _ _ r6)
   refine wtL [D5, ob v5, ob pv2] (smg [1, 0, 0] rfl (by simpa [List.append_assoc, ob_nil] using sp2)) ?_
   exact lb [1, 1, 0] [0, 0, 0] (ih2 (_, _, _, _) ⟨h, h11, h6⟩)
  refine att 7 [] rfl ?_
  exact lb [1, 1] [0, 0, 0] (ih1 (_, _, _, _) ⟨h, k2⟩)
 refine xt rfl ?_
 refine WT.fin hF resOk.none (fun w1 hw => ?_)
 cases h
 refine postG_of_St (js := [0, 0]) hw rfl ⟨D1, rfl, rfl, k1⟩
theorem m_s_l13Join_ok (w0 : Base Ψ Φ [ob pv0, pD0].flatten) (p0 : (List TTok)) (p1 : TRule) (p2 : TStore) (p3 : (List Int)) (p4 : Int) (ph0 : OSl OTTok 185 2 Φ pD0 pv0 p0) (ph1_0 : RSl RTPat 3 Ψ pG1_0 pv1_0 p1.Pats) (ph1_1 : RSl RTCond 11 Ψ pG1_1 pv1_1 p1.Conds) (ph1_2 : RSl RTAct 5 Ψ pG1_2 pv1_2 p1.Acts) (ph2_0 : RSl RTItem 3 Ψ pG2_0 pv2_0 p2.Items) (ph3 : RSl (RI .i64) 1 Ψ pG3 pv3 p3) {r : (List TTok)} (h : m_s_l13Join N p0 p1 p2 p3 p4 = some r) :
  Calls prog 309 [pv0, .agg [.string p1.Name, iV p1.Sal, pv1_0, pv1_1, pv1_2].toArray, .agg [pv2_0, iV p2.Next].toArray, pv3, iV p4].toArray w0.w (PostG Φ w0.w [ob pv0, pD0].flatten (fun Φ' Fs v => ∃ (sr_0_0 : Value) (Dr_0_0 : List Nat), v = sr_0_0 ∧ Fs = [ob sr_0_0, Dr_0_0] ∧ OSl OTTok 185 2 Φ' Dr_0_0 sr_0_0 r)) := by
 refine eL func309 rfl ntmps309 rfl (L := [ob pv0, pD0]) w0 (fun hF => ?_)
 unfold m_s_l13Join at h
 refine sr <| lbx rfl fun b_1 => lbx rfl fun b_2 => arr 4 [] rfl <| le' (e_lit0 (R := RI .i64) RI.lasts Sl_75 Zr_3 rfl rfl) rfl ?_
 rintro v1 Φ_1 D1 ⟨fr1, h1⟩
 replace ph0 := ph0.f0 fr1
 refine la rfl <| lu0 ph3 fun h2 => ?_
 obtain ⟨x1, hx1, h⟩ := bs h
 refine le' (e_appF RI.lasts RI.one RI.flat Sl_75 Ei_3 rfl rfl rfl rfl rfl (js := [0]) (Rr := [ob pv0, pD0]) rfl h1 h2 hx1) rfl ?_
 rintro v2 Φ_2 D2 ⟨⟨ap1, fr2⟩, h3⟩
 replace ph0 := ph0.fr fr2 (ap1.q 0 rfl) (ap1.q 1 rfl)
 refine la rfl ?_
 have rc2 : RC (RI .i64) 1 Φ_2 ([[]] : List (List Nat)) [iV p4] ([p4] : List Int) := RC.cons (c := [iV p4]) (cells := []) ⟨rfl, rfl⟩ rfl (RC.nil _ _ _)
 refine le' (e_lit (vs := [(0, iV p4)]) (C := #[iV p4]) RI.lasts Sl_75 Zr_3 rfl rfl rfl rfl (fill_made MC_3_1 (fill_cons (C' := [iV p4]) rfl rfl rfl rfl rfl (fill_nil))) rfl rc2 rfl (by simpa using Kw.nil)) rfl ?_
 rintro v3 Φ_3 D3 ⟨fr3, h4⟩
 replace h4 : OSl (RI .i64) 3 1 Φ_3 [] v3 ([p4] : List Int) := by simpa using h4
 replace ph0 := ph0.f0 fr3
 replace h3 := h3.f0 fr3
 obtain ⟨x2, hx2, h⟩ := bs h
 refine le' (e_appF RI.lasts RI.one RI.flat Sl_75 Ei_3 rfl rfl rfl rfl rfl (js := [1]) (Rr := [ob v3, ob pv0, pD0]) rfl h3 h4.rsl hx2) rfl ?_
 rintro v4 Φ_4 D4 ⟨⟨ap2, fr4⟩, h5⟩
 replace ph0 := ph0.fr fr4 (ap2.q 1 rfl) (ap2.q 2 rfl)
 refine arr 7 [37, 2] rfl <| kab h rfl rfl rfl (fun b z q => m_s_l13Binds_ok N b p1 p2 x2 (ph1_0.y z) (ph1_1.y z) (ph1_2.y z) (ph2_0.y z) h5.rsl q) ?_
 rintro x3 h v5 Φ_5 F1 ⟨ap3, fr5, v6, rfl, rfl, h6⟩
 replace ph0 := ph0.fr fr5 (ap3.q 2 rfl) (ap3.q 3 rfl)
 replace h5 := h5.fr fr5 (ap3.q 0 rfl) dN
 refine art 12 [] rfl ?_
 refine ch h rfl ?_ ?_ <;> intro h
 ·refine att 5 [] rfl ?_
  exact rtg [3, 3] hF (resOk.one rfl) rfl (by cases h; exact fun w1 hw => ⟨pv0, pD0, rfl, rfl, ph0⟩)
 refine atr 5 [] rfl <| le' (e_lit0 (R := RI .i64) RI.lasts Sl_75 Zr_3 rfl rfl) rfl ?_
 rintro v7 Φ_6 D5 ⟨fr6, h7⟩
 replace ph0 := ph0.f0 fr6
 replace h5 := h5.f0 fr6
 refine lq (q_build (vs := [(0, v4), (1, v7)]) (C := #[v4, v7]) Pl_185 Zr_185 rfl (fill_cons (C' := [v4, .slice none 0 0]) rfl (one_cells h5.one) rfl rfl rfl (fill_cons (C' := [v4, v7]) rfl (one_cells h7.one) rfl rfl rfl (fill_nil)))) rfl ?_
 have rc4 : RC OTTok 2 Φ_6 ([(ob v4 ++ []) ++ ((ob v7 ++ []))] : List (List Nat)) [v4, v7] ([(⟨x2, ([] : List Int)⟩ : TTok)] : List TTok) := RC.cons (c := [v4, v7]) (cells := []) ⟨v4, v7, rfl, rfl, h5, h7⟩ rfl (RC.nil _ _ _)
 refine le' (e_lit (vs := [(0, .agg [v4, v7].toArray)]) (C := #[v4, v7]) OTTok.lasts Sl_154 Zr_185 rfl rfl rfl rfl (fill_made MC_185_1 (fill_cons (C' := [v4, v7]) rfl rfl rfl rfl rfl (fill_nil))) rfl rc4 rfl (RC.kn OTTok.knows rc4)) rfl ?_
 rintro v8 Φ_7 D6 ⟨fr7, h8⟩
 replace h8 : OSl OTTok 185 2 Φ_7 ((ob v4 ++ []) ++ ((ob v7 ++ []))) v8 ([(⟨x2, ([] : List Int)⟩ : TTok)] : List TTok) := by simpa [List.append_assoc] using h8
 replace ph0 := ph0.f0 fr7
 refine wlL [((ob v4 ++ []) ++ ((ob v7 ++ []))), ob v8, ob v6, ob v3, ob pv0, pD0] (smg [3, 1] rfl (SP.eq (by simp [List.append_assoc, ob_nil]))) ?_
 obtain ⟨x4, hx4, h⟩ := bs h
 refine le' (e_appO OTTok.lasts OTTok.one Sl_154 Ei_185 rfl rfl rfl rfl rfl (js := [4]) (Rr := [((ob v4 ++ []) ++ ((ob v7 ++ []))), ob v8, ob v6, ob v3, pD0]) rfl ph0 h8 (fun ap => ap.q 4 rfl) (fun ap => ap.q 0 rfl) hx4) rfl ?_
 rintro v9 Φ_8 D7 ⟨⟨ap4, fr8⟩, h9⟩
 refine wlL [(pD0 ++ ((ob v4 ++ []) ++ ((ob v7 ++ [])))), ob v9, ob v8, ob v6, ob v3] (smg [5, 1] rfl (SP.eq (by simp))) <| la rfl <| en ?_
 exact rtg [1, 0] hF (resOk.one rfl) rfl (by cases h; exact fun w1 hw => ⟨v9, (pD0 ++ ((ob v4 ++ []) ++ ((ob v7 ++ [])))), rfl, rfl, h9⟩)
end Go.Proofs.YtdihjeeniojdmaaGreat
