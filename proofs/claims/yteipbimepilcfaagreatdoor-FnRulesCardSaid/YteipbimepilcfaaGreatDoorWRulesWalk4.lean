/- Printed by a program of ours: each Go function computes its Lean function. -/
import Derived.Test.YteipbimepilcfaaGreatDoorProg
import Derived.Test.YteipbimepilcfaaGreatDoorWRulesWalk3
namespace Go.Proofs.YteipbimepilcfaaGreatDoor
open Eng Tryz
open Go.RowKit (Below)
set_option linter.unusedVariables false
set_option linter.unusedSimpArgs false

set_option maxRecDepth 100000
set_option maxHeartbeats 1000000
variable {Ψ Φ : Hp} {pv0_0 pv0 pv1 pv0_1 pv0_2 : Value} {pG0_0 pG0 pG1 pG0_1 pG0_2 : List Nat} {pbc0 pb0 : Nat} (N : Nat)
theorem m_s_ArgOk_ok  (w0 : Base Ψ Φ []) (p0 : TArg)  {r : Bool} (h : m_s_ArgOk N p0 = some r) :
  CB w0 prog 152 [.agg [iV p0.K, .string p0.S, iV p0.V.K, iV p0.V.N, .string p0.V.S].toArray] (.bool r) := by
 refine eN func152 rfl ntmps152 rfl w0 fun hF => ?_
 unfold m_s_ArgOk at h
 refine sr <| lbx rfl fun b_1 => arr 6 [2, 3] rfl <| lq (q_build (vs := []) (C := #[iV 0, iV 0, .string (⟨#[]⟩ : ByteArray)]) Pl_58 Zr_58 rfl (fill_nil)) rfl <| lq (q_eqA EqT_58 rfl rfl rfl (r := eqT_TVal p0.V (⟨0, 0, (⟨#[]⟩ : ByteArray)⟩ : TVal)) rfl) rfl <| art 14 [0, 0] rfl ?_
 refine ch h rfl ?_ ?_ <;> intro h
 ·refine atr 4 [1, 0] rfl <| qc h (m_s_l5VarOk_ok N · p0.S ·) rfl rfl rfl fun x1 h => la rfl ?_
  obtain ⟨b1, hb_1, h⟩ := bs h
  refine WL.cutN 2 [(17, .bool b1), (2, .bool false)] ?_ (fun K => ?_)
  rotate_left
  ·refine sp 15 hb_1 rfl (fun hb_1 => ?_) fun hb_1 => ?_
   ·refine arr 2 [] rfl ?_
    cases hb_1
    exact ku K
   ·refine arr 2 [] rfl ?_
    cases hb_1
    exact ku K
  refine la rfl <| en ?_
  exact rt hF h
 refine att 5 [] rfl ?_
 refine ch h rfl ?_ ?_ <;> intro h
 ·refine atr 4 [2, 3] rfl <| qc h (m_s_ValOk_ok N · p0.V ·) rfl rfl rfl fun x2 h => la rfl ?_
  obtain ⟨b2, hb_2, h⟩ := bs h
  refine WL.cutN 4 [(27, .bool b2), (2, .bool false)] ?_ (fun K => ?_)
  rotate_left
  ·refine sp 23 hb_2 rfl (fun hb_2 => ?_) fun hb_2 => ?_
   ·refine arr 4 [1, 0] rfl ?_
    cases hb_2
    exact ku K
   ·refine arr 4 [] rfl ?_
    cases hb_2
    exact ku K
  refine la rfl <| en ?_
  exact rt hF h
 refine att 5 [] rfl ?_
 refine ch h rfl ?_ ?_ <;> intro h
 ·refine atr 6 [1, 0] rfl ?_
  obtain ⟨b3, hb_3, h⟩ := bs h
  refine WL.cutN 2 [(35, .bool b3), (2, .bool false)] ?_ (fun K => ?_)
  rotate_left
  ·refine sp 33 hb_3 rfl (fun hb_3 => ?_) fun hb_3 => ?_
   ·refine arr 2 [] rfl ?_
    cases hb_3
    exact ku K
   ·refine arr 2 [] rfl ?_
    cases hb_3
    exact ku K
  refine la rfl <| en ?_
  exact rt hF h
 refine att 6 [] rfl ?_
 exact rt hF h
theorem m_s_PatOk_ok (w0 : Base Ψ Φ []) (p0 : TPat) (ph0_0 : RSl RTArg 5 Ψ pG0_0 pv0_0 p0.Args) {r : Bool} (h : m_s_PatOk N p0 = some r) :
  CB w0 prog 92 [.agg [.string p0.Kind, pv0_0, .bool p0.Not].toArray] (.bool r) := by
 refine eN func92 rfl ntmps92 rfl w0 fun hF => ?_
 unfold m_s_PatOk at h
 refine sr <| lbx rfl fun b_1 => art 8 [] rfl ?_
 refine lin (σ := Int) (fun s => [(1, pQ b_1), (3, iV s)]) (fun s => St w0 Φ [(b_1, .cells #[.string p0.Kind, pv0_0, .bool p0.Not] 35 (0, 0))] []) (fun m s => m_s_PatOk_l1 N p0 m s = some r) (0) N h (sx [] [0]) (fun n1 ih1 s hm => ?_)
 revert hm; revert s; intro s1 hm
 have h : m_s_PatOk_l1 N p0 (n1 + 1) s1 = some r := hm
 show WT _ _ [(1, pQ b_1), (3, iV s1)] (St w0 Φ [(b_1, .cells #[.string p0.Kind, pv0_0, .bool p0.Not] 35 (0, 0))] [])
 unfold m_s_PatOk_l1 at h
 refine atr 6 [1, 0] rfl <| lnr ph0_0 rfl <| la rfl <| en ?_
 refine ch h rfl ?_ ?_ <;> intro h
 ·refine atr 8 [1, 0] rfl ?_
  obtain ⟨x1, hx1, h⟩ := bs h
  obtain ⟨cs1, F1, -, g1, hb1, hs1, r1⟩ := ph0_0.el (idx_some hx1).2.2
  obtain ⟨rfl, -⟩ := r1
  refine lia ph0_0 hx1 rfl <| lhx 0 5 g1 rfl <| qc h (m_s_ArgOk_ok N · x1 ·) rfl rfl rfl fun x2 h => la rfl <| en ?_
  refine ch h rfl ?_ ?_ <;> intro h
  ·refine att 4 [] rfl ?_
   exact rt hF h
  refine att 7 [] rfl ?_
  exact lb [] [0] (ih1 _ h)
 refine atr 5 [0, 0] rfl <| qc h (m_s_NameOk_ok N · p0.Kind ·) rfl rfl rfl fun x3 h => la rfl ?_
 obtain ⟨b1, hb_1, h⟩ := bs h
 refine WL.cutN 5 [(26, .bool b1)] ?_ (fun K => ?_)
 rotate_left
 ·refine sp 21 hb_1 rfl (fun hb_1 => ?_) fun hb_1 => ?_
  ·refine arr 2 [1, 0] rfl <| ly rfl rfl <| lnr ph0_0 rfl <| arr 2 [] rfl ?_
   cases hb_1
   exact ku K
  ·refine arr 5 [] rfl ?_
   cases hb_1
   exact ku K
 refine la rfl <| en ?_
 exact rt hF h
theorem m_s_l9Pats_ok (w0 : Base Ψ Φ []) (p0 : (List TPat)) (ph0 : RSl RTPat 3 Ψ pG0 pv0 p0) {r : Bool} (h : m_s_l9Pats N p0 = some r) :
  CB w0 prog 42 [pv0] (.bool r) := by
 refine eN func42 rfl ntmps42 rfl w0 fun hF => ?_
 unfold m_s_l9Pats at h
 refine att 10 [] rfl ?_
 refine lin (σ := Int) (fun s => [(0, pv0), (3, iV s)]) (fun s => St w0 Φ [] []) (fun m s => m_s_l9Pats_l1 N p0 m s = some r) (0) N h (sx [] []) (fun n1 ih1 s hm => ?_)
 revert hm; revert s; intro s1 hm
 have h : m_s_l9Pats_l1 N p0 (n1 + 1) s1 = some r := hm
 show WT _ _ [(0, pv0), (3, iV s1)] (St w0 Φ [] [])
 unfold m_s_l9Pats_l1 at h
 refine atr 5 [] rfl <| lnr ph0 rfl <| la rfl <| en ?_
 refine ch h rfl ?_ ?_ <;> intro h
 ·refine atr 9 [] rfl ?_
  obtain ⟨b1, hb_1, h⟩ := bs h
  refine WL.cutN 7 [(19, .bool b1), (0, pv0), (3, iV s1)] ?_ (fun K => ?_)
  rotate_left
  ·refine sp 12 hb_1 rfl (fun hb_1 => ?_) fun hb_1 => ?_
   ·refine arr 2 [] rfl <| ly rfl rfl ?_
    obtain ⟨x1, hx1, hb_1⟩ := bs hb_1
    obtain ⟨cs1, F1, -, g1, hb1, hs1, r1⟩ := ph0.el (idx_some hx1).2.2
    obtain ⟨v1, G1, rfl, hq1, h1⟩ := r1
    obtain rfl := hq1.symm
    refine lia ph0 hx1 rfl <| ly rfl rfl <| lf Fld_35_2 rfl rfl rfl <| ly rfl rfl <| lhx 2 0 g1 rfl <| arr 2 [] rfl ?_
    cases hb_1
    exact ku K
   ·refine arr 7 [] rfl ?_
    cases hb_1
    exact ku K
  refine en ?_
  refine ch h rfl ?_ ?_ <;> intro h
  ·refine att 4 [] rfl ?_
   exact rt hF h
  refine atr 5 [] rfl ?_
  obtain ⟨x2, hx2, h⟩ := bs h
  obtain ⟨cs2, F2, -, g2, hb2, hs2, r2⟩ := ph0.el (idx_some hx2).2.2
  obtain ⟨v2, G2, rfl, hq2, h2⟩ := r2
  obtain rfl := hq2.symm
  refine lia ph0 hx2 rfl <| lhx 0 3 g2 rfl <| qd h (m_s_PatOk_ok N · x2 h2 ·) rfl rfl rfl fun x3 h => arr 2 [] rfl ?_
  obtain ⟨b2, hb_2, h⟩ := bs h
  refine WL.cutN 10 [(36, .bool b2), (0, pv0), (3, iV s1)] ?_ (fun K => ?_)
  rotate_left
  ·refine sp 26 hb_2 rfl (fun hb_2 => ?_) fun hb_2 => ?_
   ·refine arr 10 [] rfl ?_
    cases hb_2
    exact ku K
   ·refine arr 3 [] rfl ?_
    obtain ⟨b3, hb_3, hb_2⟩ := bs hb_2
    refine WL.cutN 6 [(35, .bool b3), (0, pv0), (3, iV s1), (26, .bool false)] ?_ (fun K => ?_)
    rotate_left
    ·refine sp 29 hb_3 rfl (fun hb_3 => ?_) fun hb_3 => ?_
     ·refine arr 2 [] rfl <| ly rfl rfl ?_
      obtain ⟨x4, hx4, hb_3⟩ := bs hb_3
      obtain ⟨cs3, F3, -, g3, hb3, hs3, r3⟩ := ph0.el (idx_some hx4).2.2
      obtain ⟨v3, G3, rfl, hq3, h3⟩ := r3
      obtain rfl := hq3.symm
      refine lia ph0 hx4 rfl <| ly rfl rfl <| lf Fld_35_2 rfl rfl rfl <| ly rfl rfl <| lhx 2 0 g3 rfl <| ly rfl rfl <| la rfl ?_
      cases hb_3
      exact ku K
     ·refine arr 6 [] rfl ?_
      cases hb_3
      exact ku K
    refine la rfl ?_
    cases hb_2
    exact ku K
  refine la rfl ?_
  obtain ⟨b4, hb_4, h⟩ := bs h
  refine WL.cutN 19 [(56, .bool b4), (0, pv0), (3, iV s1)] ?_ (fun K => ?_)
  rotate_left
  ·refine sp 37 hb_4 rfl (fun hb_4 => ?_) fun hb_4 => ?_
   ·refine arr 19 [] rfl ?_
    cases hb_4
    exact ku K
   ·refine arr 3 [] rfl ?_
    obtain ⟨b5, hb_5, hb_4⟩ := bs hb_4
    refine WL.cutN 7 [(47, .bool b5), (0, pv0), (3, iV s1), (37, .bool false)] ?_ (fun K => ?_)
    rotate_left
    ·refine sp 40 hb_5 rfl (fun hb_5 => ?_) fun hb_5 => ?_
     ·refine arr 3 [] rfl <| ly rfl rfl ?_
      obtain ⟨x5, hx5, hb_5⟩ := bs hb_5
      obtain ⟨cs4, F4, -, g4, hb4, hs4, r4⟩ := ph0.el (idx_some hx5).2.2
      obtain ⟨v4, G4, rfl, hq4, h4⟩ := r4
      obtain rfl := hq4.symm
      refine lia ph0 hx5 rfl <| ly rfl rfl <| lf Fld_35_2 rfl rfl rfl <| ly rfl rfl <| lhx 2 0 g4 rfl <| ly rfl rfl <| la rfl ?_
      cases hb_5
      exact ku K
     ·refine arr 7 [] rfl ?_
      cases hb_5
      exact ku K
    refine ly rfl rfl <| la rfl ?_
    obtain ⟨b6, hb_6, hb_4⟩ := bs hb_4
    refine WL.cutN 7 [(55, .bool b6), (0, pv0), (3, iV s1), (37, .bool false)] ?_ (fun K => ?_)
    rotate_left
    ·refine sp 48 hb_6 rfl (fun hb_6 => ?_) fun hb_6 => ?_
     ·refine arr 2 [] rfl <| ly rfl rfl ?_
      obtain ⟨x6, hx6, hb_6⟩ := bs hb_6
      obtain ⟨cs5, F5, -, g5, hb5, hs5, r5⟩ := ph0.el (idx_some hx6).2.2
      obtain ⟨v5, G5, rfl, hq5, h5⟩ := r5
      obtain rfl := hq5.symm
      refine lia ph0 hx6 rfl <| ly rfl rfl <| lf Fld_35_2 rfl rfl rfl <| ly rfl rfl <| lhx 2 0 g5 rfl <| arr 2 [] rfl ?_
      cases hb_6
      exact ku K
     ·refine arr 7 [] rfl ?_
      cases hb_6
      exact ku K
    refine la rfl ?_
    cases hb_4
    exact ku K
  refine en ?_
  refine ch h rfl ?_ ?_ <;> intro h
  ·refine att 4 [] rfl ?_
   exact rt hF h
  refine att 7 [] rfl ?_
  exact lb [] [] (ih1 _ h)
 refine atr 4 [] rfl <| lnr ph0 rfl <| qc h (m_s_l1In_ok N · (p0.length : Int) 1 6 ·) rfl rfl rfl fun x7 h => la rfl <| en ?_
 exact rt hF h
theorem m_s_CondOk_ok  (w0 : Base Ψ Φ []) (p0 : TCond)  {r : Bool} (h : m_s_CondOk N p0 = some r) :
  CB w0 prog 93 [.agg [iV p0.Op, iV p0.L.K, .string p0.L.S, iV p0.L.V.K, iV p0.L.V.N, .string p0.L.V.S, iV p0.R.K, .string p0.R.S, iV p0.R.V.K, iV p0.R.V.N, .string p0.R.V.S].toArray] (.bool r) := by
 refine eN func93 rfl ntmps93 rfl w0 fun hF => ?_
 unfold m_s_CondOk at h
 refine sr <| lbx rfl fun b_1 => arr 6 [0, 0] rfl <| qc h (m_s_l1In_ok N · p0.Op 1 3 ·) rfl rfl rfl fun x1 h => la rfl ?_
 obtain ⟨b1, hb_1, h⟩ := bs h
 refine WL.cutN 4 [(10, .bool b1), (1, pQ b_1), (2, .bool false)] ?_ (fun K => ?_)
 rotate_left
 ·refine sp 6 hb_1 rfl (fun hb_1 => ?_) fun hb_1 => ?_
  ·refine arr 2 [1, 5] rfl <| ly rfl rfl <| qc hb_1 (m_s_ArgOk_ok N · p0.L ·) rfl rfl rfl fun x2 hb_1 => la rfl ?_
   cases hb_1
   exact ku K
  ·refine arr 4 [] rfl ?_
   cases hb_1
   exact ku K
 refine la rfl ?_
 obtain ⟨b2, hb_2, h⟩ := bs h
 refine WL.cutN 4 [(15, .bool b2), (1, pQ b_1), (2, .bool false)] ?_ (fun K => ?_)
 rotate_left
 ·refine sp 11 hb_2 rfl (fun hb_2 => ?_) fun hb_2 => ?_
  ·refine arr 2 [6, 5] rfl <| ly rfl rfl <| qc hb_2 (m_s_ArgOk_ok N · p0.R ·) rfl rfl rfl fun x3 hb_2 => la rfl ?_
   cases hb_2
   exact ku K
  ·refine arr 4 [] rfl ?_
   cases hb_2
   exact ku K
 refine la rfl ?_
 obtain ⟨b3, hb_3, h⟩ := bs h
 refine WL.cutN 5 [(21, .bool b3), (1, pQ b_1), (2, .bool false)] ?_ (fun K => ?_)
 rotate_left
 ·refine sp 16 hb_3 rfl (fun hb_3 => ?_) fun hb_3 => ?_
  ·refine arr 5 [1, 0, 0] rfl ?_
   cases hb_3
   exact ku K
  ·refine arr 5 [] rfl ?_
   cases hb_3
   exact ku K
 refine la rfl ?_
 obtain ⟨b4, hb_4, h⟩ := bs h
 refine WL.cutN 5 [(27, .bool b4), (2, .bool false)] ?_ (fun K => ?_)
 rotate_left
 ·refine sp 22 hb_4 rfl (fun hb_4 => ?_) fun hb_4 => ?_
  ·refine arr 5 [6, 0, 0] rfl ?_
   cases hb_4
   exact ku K
  ·refine arr 5 [] rfl ?_
   cases hb_4
   exact ku K
 refine la rfl <| en ?_
 exact rt hF h
theorem m_s_l9Conds_ok (w0 : Base Ψ Φ []) (p0 : (List TCond)) (p1 : (List ByteArray)) (ph0 : RSl RTCond 11 Ψ pG0 pv0 p0) (ph1 : RSl RS 1 Ψ pG1 pv1 p1) {r : Bool} (h : m_s_l9Conds N p0 p1 = some r) :
  CB w0 prog 43 [pv0, pv1] (.bool r) := by
 refine eN func43 rfl ntmps43 rfl w0 fun hF => ?_
 unfold m_s_l9Conds at h
 refine att 10 [] rfl ?_
 refine lin (σ := Int) (fun s => [(0, pv0), (1, pv1), (5, iV s)]) (fun s => St w0 Φ [] []) (fun m s => m_s_l9Conds_l1 N p0 p1 m s = some r) (0) N h (sx [] []) (fun n1 ih1 s hm => ?_)
 revert hm; revert s; intro s1 hm
 have h : m_s_l9Conds_l1 N p0 p1 (n1 + 1) s1 = some r := hm
 show WT _ _ [(0, pv0), (1, pv1), (5, iV s1)] (St w0 Φ [] [])
 unfold m_s_l9Conds_l1 at h
 refine atr 5 [] rfl <| lnr ph0 rfl <| la rfl <| en ?_
 refine ch h rfl ?_ ?_ <;> intro h
 ·refine atr 7 [] rfl ?_
  obtain ⟨x1, hx1, h⟩ := bs h
  obtain ⟨cs1, F1, -, g1, hb1, hs1, r1⟩ := ph0.el (idx_some hx1).2.2
  obtain ⟨rfl, -⟩ := r1
  refine lia ph0 hx1 rfl <| lhx 0 11 g1 rfl <| qc h (m_s_CondOk_ok N · x1 ·) rfl rfl rfl fun x2 h => arr 2 [] rfl ?_
  obtain ⟨b1, hb_1, h⟩ := bs h
  refine WL.cutN 9 [(27, .bool b1), (0, pv0), (1, pv1), (5, iV s1)] ?_ (fun K => ?_)
  rotate_left
  ·refine sp 18 hb_1 rfl (fun hb_1 => ?_) fun hb_1 => ?_
   ·refine arr 9 [] rfl ?_
    cases hb_1
    exact ku K
   ·refine arr 2 [] rfl <| ly rfl rfl ?_
    obtain ⟨x3, hx3, hb_1⟩ := bs hb_1
    obtain ⟨cs2, F2, -, g2, hb2, hs2, r2⟩ := ph0.el (idx_some hx3).2.2
    obtain ⟨rfl, -⟩ := r2
    refine lia ph0 hx3 rfl <| ly rfl rfl <| lf Fld_62_1 rfl rfl rfl <| ly rfl rfl <| lhx 1 5 g2 rfl <| ly rfl rfl <| la rfl <| ly rfl rfl <| qd hb_1 (m_s_l9Known_ok N · x3.L p1 ph1 ·) rfl rfl rfl fun x4 hb_1 => arr 2 [] rfl ?_
    cases hb_1
    exact ku K
  refine la rfl ?_
  obtain ⟨b2, hb_2, h⟩ := bs h
  refine WL.cutN 9 [(37, .bool b2), (0, pv0), (1, pv1), (5, iV s1)] ?_ (fun K => ?_)
  rotate_left
  ·refine sp 28 hb_2 rfl (fun hb_2 => ?_) fun hb_2 => ?_
   ·refine arr 9 [] rfl ?_
    cases hb_2
    exact ku K
   ·refine arr 2 [] rfl <| ly rfl rfl ?_
    obtain ⟨x5, hx5, hb_2⟩ := bs hb_2
    obtain ⟨cs3, F3, -, g3, hb3, hs3, r3⟩ := ph0.el (idx_some hx5).2.2
    obtain ⟨rfl, -⟩ := r3
    refine lia ph0 hx5 rfl <| ly rfl rfl <| lf Fld_62_2 rfl rfl rfl <| ly rfl rfl <| lhx 6 5 g3 rfl <| ly rfl rfl <| la rfl <| ly rfl rfl <| qd hb_2 (m_s_l9Known_ok N · x5.R p1 ph1 ·) rfl rfl rfl fun x6 hb_2 => arr 2 [] rfl ?_
    cases hb_2
    exact ku K
  refine en ?_
  refine ch h rfl ?_ ?_ <;> intro h
  ·refine att 4 [] rfl ?_
   exact rt hF h
  refine att 7 [] rfl ?_
  exact lb [] [] (ih1 _ h)
 refine atr 4 [] rfl <| lnr ph0 rfl <| art 3 [] rfl ?_
 exact rt hF h
theorem m_s_l8Given_ok  (w0 : Base Ψ Φ []) (p0 : TArg)  {r : Bool} (h : m_s_l8Given N p0 = some r) :
  CB w0 prog 217 [.agg [iV p0.K, .string p0.S, iV p0.V.K, iV p0.V.N, .string p0.V.S].toArray] (.bool r) := by
 refine eN func217 rfl ntmps217 rfl w0 fun hF => ?_
 unfold m_s_l8Given at h
 refine sr <| lbx rfl fun b_1 => arr 5 [5] rfl <| qc h (m_s_ArgOk_ok N · p0 ·) rfl rfl rfl fun x1 h => la rfl ?_
 obtain ⟨b1, hb_1, h⟩ := bs h
 refine WL.cutN 4 [(9, .bool b1), (2, .bool false)] ?_ (fun K => ?_)
 rotate_left
 ·refine sp 5 hb_1 rfl (fun hb_1 => ?_) fun hb_1 => ?_
  ·refine arr 4 [0, 0] rfl ?_
   cases hb_1
   exact ku K
  ·refine arr 4 [] rfl ?_
   cases hb_1
   exact ku K
 refine la rfl <| en ?_
 exact rt hF h
theorem m_s_ExprOk_ok  (w0 : Base Ψ Φ []) (p0 : TExpr)  {r : Bool} (h : m_s_ExprOk N p0 = some r) :
  CB w0 prog 198 [.agg [.string p0.Op, iV p0.L.K, .string p0.L.S, iV p0.L.V.K, iV p0.L.V.N, .string p0.L.V.S, iV p0.R.K, .string p0.R.S, iV p0.R.V.K, iV p0.R.V.N, .string p0.R.V.S].toArray] (.bool r) := by
 refine eN func198 rfl ntmps198 rfl w0 fun hF => ?_
 unfold m_s_ExprOk at h
 refine sr <| lbx rfl fun b_1 => art 14 [0, 0] rfl ?_
 refine ch h rfl ?_ ?_ <;> intro h
 ·refine atr 4 [1, 5] rfl <| qc h (m_s_l8Given_ok N · p0.L ·) rfl rfl rfl fun x1 h => la rfl ?_
  obtain ⟨b1, hb_1, h⟩ := bs h
  refine WL.cutN 5 [(15, .bool b1), (2, .bool false)] ?_ (fun K => ?_)
  rotate_left
  ·refine sp 10 hb_1 rfl (fun hb_1 => ?_) fun hb_1 => ?_
   ·refine arr 2 [6, 5] rfl <| ly rfl rfl <| lq (q_build (vs := []) (C := #[iV 0, .string (⟨#[]⟩ : ByteArray), iV 0, iV 0, .string (⟨#[]⟩ : ByteArray)]) Pl_60 Zr_60 rfl (fill_nil)) rfl <| ly rfl rfl <| lq (q_eqA EqT_60 rfl rfl rfl (r := eqT_TArg p0.R (⟨0, (⟨#[]⟩ : ByteArray), (⟨0, 0, (⟨#[]⟩ : ByteArray)⟩ : TVal)⟩ : TArg)) rfl) rfl <| la rfl ?_
    cases hb_1
    exact ku K
   ·refine arr 5 [] rfl ?_
    cases hb_1
    exact ku K
  refine la rfl <| en ?_
  exact rt hF h
 refine att 6 [] rfl ?_
 refine cut (σ := Bool) (fun s => [(1, pQ b_1), (16, .bool s)]) (fun s => St w0 Φ [(b_1, .cells #[.string p0.Op, iV p0.L.K, .string p0.L.S, iV p0.L.V.K, iV p0.L.V.N, .string p0.L.V.S, iV p0.R.K, .string p0.R.S, iV p0.R.V.K, iV p0.R.V.N, .string p0.R.V.S] 116 (0, 0))] []) (fun s => m_s_ExprOk_j1 N p0 s = some r) (fun s hm => ?_) (fun K => ?_)
 ·clear h
  revert hm; revert s; intro s1 hm
  have h : m_s_ExprOk_j1 N p0 s1 = some r := hm
  show WT _ _ [(1, pQ b_1), (16, .bool s1)] (St w0 Φ [(b_1, .cells #[.string p0.Op, iV p0.L.K, .string p0.L.S, iV p0.L.V.K, iV p0.L.V.N, .string p0.L.V.S, iV p0.R.K, .string p0.R.S, iV p0.R.V.K, iV p0.R.V.N, .string p0.R.V.S] 116 (0, 0))] [])
  unfold m_s_ExprOk_j1 at h
  refine ch h rfl ?_ ?_ <;> intro h
  ·refine atr 4 [1, 5] rfl <| qc h (m_s_l8Given_ok N · p0.L ·) rfl rfl rfl fun x2 h => la rfl ?_
   obtain ⟨b2, hb_2, h⟩ := bs h
   refine WL.cutN 4 [(26, .bool b2)] ?_ (fun K => ?_)
   rotate_left
   ·refine sp 22 hb_2 rfl (fun hb_2 => ?_) fun hb_2 => ?_
    ·refine arr 2 [6, 5] rfl <| ly rfl rfl <| qc hb_2 (m_s_l8Given_ok N · p0.R ·) rfl rfl rfl fun x3 hb_2 => la rfl ?_
     cases hb_2
     exact ku K
    ·refine arr 4 [] rfl ?_
     cases hb_2
     exact ku K
   refine la rfl <| en ?_
   exact rt hF h
  refine att 6 [] rfl ?_
  exact rt hF h
 refine ch h rfl ?_ ?_ <;> intro h
 ·refine WT.skip ?_
  exact wo [] [0] (K _ h)
 refine att 4 [] rfl ?_
 exact wo [] [0] (K _ h)
theorem m_s_l8Args_ok (w0 : Base Ψ Φ []) (p0 : (List TExpr)) (ph0 : RSl RTExpr 11 Ψ pG0 pv0 p0) {r : Bool} (h : m_s_l8Args N p0 = some r) :
  CB w0 prog 153 [pv0] (.bool r) := by
 refine eN func153 rfl ntmps153 rfl w0 fun hF => ?_
 unfold m_s_l8Args at h
 refine att 10 [] rfl ?_
 refine lin (σ := Int) (fun s => [(0, pv0), (3, iV s)]) (fun s => St w0 Φ [] []) (fun m s => m_s_l8Args_l1 N p0 m s = some r) (0) N h (sx [] []) (fun n1 ih1 s hm => ?_)
 revert hm; revert s; intro s1 hm
 have h : m_s_l8Args_l1 N p0 (n1 + 1) s1 = some r := hm
 show WT _ _ [(0, pv0), (3, iV s1)] (St w0 Φ [] [])
 unfold m_s_l8Args_l1 at h
 refine atr 5 [] rfl <| lnr ph0 rfl <| la rfl <| en ?_
 refine ch h rfl ?_ ?_ <;> intro h
 ·refine atr 7 [] rfl ?_
  obtain ⟨x1, hx1, h⟩ := bs h
  obtain ⟨cs1, F1, -, g1, hb1, hs1, r1⟩ := ph0.el (idx_some hx1).2.2
  obtain ⟨rfl, -⟩ := r1
  refine lia ph0 hx1 rfl <| lhx 0 11 g1 rfl <| qc h (m_s_ExprOk_ok N · x1 ·) rfl rfl rfl fun x2 h => la rfl <| en ?_
  refine ch h rfl ?_ ?_ <;> intro h
  ·refine att 4 [] rfl ?_
   exact rt hF h
  refine att 7 [] rfl ?_
  exact lb [] [] (ih1 _ h)
 refine atr 4 [] rfl <| lnr ph0 rfl <| art 3 [] rfl ?_
 exact rt hF h
theorem m_s_ActOk_ok (w0 : Base Ψ Φ []) (p0 : TAct) (ph0_0 : RSl RTExpr 11 Ψ pG0_0 pv0_0 p0.Args) {r : Bool} (h : m_s_ActOk N p0 = some r) :
  CB w0 prog 95 [.agg [iV p0.Kind, .string p0.Name, pv0_0, iV p0.N, .string p0.Undo].toArray] (.bool r) := by
 refine eN func95 rfl ntmps95 rfl w0 fun hF => ?_
 unfold m_s_ActOk at h
 refine sr <| lbx rfl fun b_1 => arr 8 [1, 0] rfl ?_
 obtain ⟨b1, hb_1, h⟩ := bs h
 refine WL.cutN 5 [(12, .bool b1), (1, pQ b_1)] ?_ (fun K => ?_)
 rotate_left
 ·refine sp 7 hb_1 rfl (fun hb_1 => ?_) fun hb_1 => ?_
  ·refine arr 2 [2, 0] rfl <| ly rfl rfl <| lnr ph0_0 rfl <| arr 2 [] rfl ?_
   cases hb_1
   exact ku K
  ·refine arr 5 [] rfl ?_
   cases hb_1
   exact ku K
 refine la rfl ?_
 obtain ⟨b2, hb_2, h⟩ := bs h
 refine WL.cutN 4 [(17, .bool b2), (1, pQ b_1)] ?_ (fun K => ?_)
 rotate_left
 ·refine sp 13 hb_2 rfl (fun hb_2 => ?_) fun hb_2 => ?_
  ·refine arr 4 [4, 0] rfl ?_
   cases hb_2
   exact ku K
  ·refine arr 4 [] rfl ?_
   cases hb_2
   exact ku K
 refine art 14 [0, 0] rfl ?_
 refine ch h rfl ?_ ?_ <;> intro h
 ·refine atr 4 [1, 0] rfl <| qc h (m_s_NameOk_ok N · p0.Name ·) rfl rfl rfl fun x1 h => la rfl ?_
  obtain ⟨b3, hb_3, h⟩ := bs h
  refine WL.cutN 4 [(29, .bool b3), (1, pQ b_1)] ?_ (fun K => ?_)
  rotate_left
  ·refine sp 25 hb_3 rfl (fun hb_3 => ?_) fun hb_3 => ?_
   ·refine arr 2 [2, 0] rfl <| ly rfl rfl <| qd hb_3 (m_s_l8Args_ok N · p0.Args ph0_0 ·) rfl rfl rfl fun x2 hb_3 => la rfl ?_
    cases hb_3
    exact ku K
   ·refine arr 4 [] rfl ?_
    cases hb_3
    exact ku K
  refine la rfl ?_
  obtain ⟨b4, hb_4, h⟩ := bs h
  refine WL.cutN 4 [(34, .bool b4), (1, pQ b_1)] ?_ (fun K => ?_)
  rotate_left
  ·refine sp 30 hb_4 rfl (fun hb_4 => ?_) fun hb_4 => ?_
   ·refine arr 4 [3, 0] rfl ?_
    cases hb_4
    exact ku K
   ·refine arr 4 [] rfl ?_
    cases hb_4
    exact ku K
  refine la rfl ?_
  obtain ⟨b5, hb_5, h⟩ := bs h
  refine WL.cutN 4 [(39, .bool b5)] ?_ (fun K => ?_)
  rotate_left
  ·refine sp 35 hb_5 rfl (fun hb_5 => ?_) fun hb_5 => ?_
   ·refine arr 4 [4, 0] rfl ?_
    cases hb_5
    exact ku K
   ·refine arr 4 [] rfl ?_
    cases hb_5
    exact ku K
  refine la rfl <| en ?_
  exact rt hF h
 refine att 5 [] rfl ?_
 refine ch h rfl ?_ ?_ <;> intro h
 ·refine atr 4 [1, 0] rfl <| qc h (m_s_NameOk_ok N · p0.Name ·) rfl rfl rfl fun x3 h => la rfl ?_
  obtain ⟨b6, hb_6, h⟩ := bs h
  refine WL.cutN 4 [(49, .bool b6), (1, pQ b_1)] ?_ (fun K => ?_)
  rotate_left
  ·refine sp 45 hb_6 rfl (fun hb_6 => ?_) fun hb_6 => ?_
   ·refine arr 2 [2, 0] rfl <| ly rfl rfl <| qd hb_6 (m_s_l8Args_ok N · p0.Args ph0_0 ·) rfl rfl rfl fun x4 hb_6 => la rfl ?_
    cases hb_6
    exact ku K
   ·refine arr 4 [] rfl ?_
    cases hb_6
    exact ku K
  refine la rfl ?_
  obtain ⟨b7, hb_7, h⟩ := bs h
  refine WL.cutN 4 [(54, .bool b7), (1, pQ b_1)] ?_ (fun K => ?_)
  rotate_left
  ·refine sp 50 hb_7 rfl (fun hb_7 => ?_) fun hb_7 => ?_
   ·refine arr 4 [3, 0] rfl ?_
    cases hb_7
    exact ku K
   ·refine arr 4 [] rfl ?_
    cases hb_7
    exact ku K
  refine la rfl ?_
  obtain ⟨b8, hb_8, h⟩ := bs h
  refine WL.cutN 9 [(64, .bool b8)] ?_ (fun K => ?_)
  rotate_left
  ·refine sp 55 hb_8 rfl (fun hb_8 => ?_) fun hb_8 => ?_
   ·refine arr 4 [4, 0] rfl ?_
    obtain ⟨b9, hb_9, hb_8⟩ := bs hb_8
    refine WL.cutN 4 [(63, .bool b9), (55, .bool true)] ?_ (fun K => ?_)
    rotate_left
    ·refine sp 59 hb_9 rfl (fun hb_9 => ?_) fun hb_9 => ?_
     ·refine arr 4 [] rfl ?_
      cases hb_9
      exact ku K
     ·refine arr 2 [4, 0] rfl <| ly rfl rfl <| qc hb_9 (m_s_NameOk_ok N · p0.Undo ·) rfl rfl rfl fun x5 hb_9 => ly rfl rfl <| la rfl ?_
      cases hb_9
      exact ku K
    refine la rfl ?_
    cases hb_8
    exact ku K
   ·refine arr 9 [] rfl ?_
    cases hb_8
    exact ku K
  refine la rfl <| en ?_
  exact rt hF h
 refine att 5 [] rfl ?_
 refine ch h rfl ?_ ?_ <;> intro h
 ·refine atr 4 [1, 0] rfl <| qc h (m_s_NameOk_ok N · p0.Name ·) rfl rfl rfl fun x6 h => la rfl ?_
  obtain ⟨b10, hb_10, h⟩ := bs h
  refine WL.cutN 4 [(74, .bool b10), (1, pQ b_1)] ?_ (fun K => ?_)
  rotate_left
  ·refine sp 70 hb_10 rfl (fun hb_10 => ?_) fun hb_10 => ?_
   ·refine arr 2 [2, 0] rfl <| ly rfl rfl <| qd hb_10 (m_s_l8Args_ok N · p0.Args ph0_0 ·) rfl rfl rfl fun x7 hb_10 => la rfl ?_
    cases hb_10
    exact ku K
   ·refine arr 4 [] rfl ?_
    cases hb_10
    exact ku K
  refine la rfl ?_
  obtain ⟨b11, hb_11, h⟩ := bs h
  refine WL.cutN 4 [(79, .bool b11), (1, pQ b_1)] ?_ (fun K => ?_)
  rotate_left
  ·refine sp 75 hb_11 rfl (fun hb_11 => ?_) fun hb_11 => ?_
   ·refine arr 2 [3, 0] rfl <| ly rfl rfl <| qc hb_11 (m_s_l1In_ok N · p0.N 0 100000 ·) rfl rfl rfl fun x8 hb_11 => la rfl ?_
    cases hb_11
    exact ku K
   ·refine arr 4 [] rfl ?_
    cases hb_11
    exact ku K
  refine la rfl ?_
  obtain ⟨b12, hb_12, h⟩ := bs h
  refine WL.cutN 4 [(84, .bool b12)] ?_ (fun K => ?_)
  rotate_left
  ·refine sp 80 hb_12 rfl (fun hb_12 => ?_) fun hb_12 => ?_
   ·refine arr 4 [4, 0] rfl ?_
    cases hb_12
    exact ku K
   ·refine arr 4 [] rfl ?_
    cases hb_12
    exact ku K
  refine la rfl <| en ?_
  exact rt hF h
 refine att 5 [] rfl ?_
 refine ch h rfl ?_ ?_ <;> intro h
 ·refine atr 4 [] rfl ?_
  obtain ⟨b13, hb_13, h⟩ := bs h
  refine WL.cutN 4 [(92, .bool b13)] ?_ (fun K => ?_)
  rotate_left
  ·refine sp 88 hb_13 rfl (fun hb_13 => ?_) fun hb_13 => ?_
   ·refine arr 2 [3, 0] rfl <| ly rfl rfl <| qc hb_13 (m_s_l1In_ok N · p0.N 0 7 ·) rfl rfl rfl fun x9 hb_13 => la rfl ?_
    cases hb_13
    exact ku K
   ·refine arr 4 [] rfl ?_
    cases hb_13
    exact ku K
  refine la rfl <| en ?_
  exact rt hF h
 refine att 6 [] rfl ?_
 refine cut (σ := Bool) (fun s => [(1, pQ b_1), (3, .bool b2), (93, .bool s)]) (fun s => St w0 Φ [(b_1, .cells #[iV p0.Kind, .string p0.Name, pv0_0, iV p0.N, .string p0.Undo] 66 (0, 0))] []) (fun s => m_s_ActOk_j1 N p0 b2 s = some r) (fun s hm => ?_) (fun K => ?_)
 ·clear h
  revert hm; revert s; intro s1 hm
  have h : m_s_ActOk_j1 N p0 b2 s1 = some r := hm
  show WT _ _ [(1, pQ b_1), (3, .bool b2), (93, .bool s1)] (St w0 Φ [(b_1, .cells #[iV p0.Kind, .string p0.Name, pv0_0, iV p0.N, .string p0.Undo] 66 (0, 0))] [])
  unfold m_s_ActOk_j1 at h
  refine ch h rfl ?_ ?_ <;> intro h
  ·refine atr 4 [] rfl ?_
   obtain ⟨b14, hb_14, h⟩ := bs h
   refine WL.cutN 4 [(101, .bool b14)] ?_ (fun K => ?_)
   rotate_left
   ·refine sp 97 hb_14 rfl (fun hb_14 => ?_) fun hb_14 => ?_
    ·refine arr 4 [3, 0] rfl ?_
     cases hb_14
     exact ku K
    ·refine arr 4 [] rfl ?_
     cases hb_14
     exact ku K
   refine la rfl <| en ?_
   exact rt hF h
  refine att 6 [] rfl ?_
  exact rt hF h
 refine ch h rfl ?_ ?_ <;> intro h
 ·refine WT.skip ?_
  exact wo [] [0] (K _ h)
 refine att 4 [] rfl ?_
 exact wo [] [0] (K _ h)
theorem m_s_l9Acts_ok (w0 : Base Ψ Φ []) (p0 : (List TAct)) (p1 : (List ByteArray)) (p2 : Int) (ph0 : RSl RTAct 5 Ψ pG0 pv0 p0) (ph1 : RSl RS 1 Ψ pG1 pv1 p1) {r : Bool} (h : m_s_l9Acts N p0 p1 p2 = some r) :
  CB w0 prog 44 [pv0, pv1, iV p2] (.bool r) := by
 refine eN func44 rfl ntmps44 rfl w0 fun hF => ?_
 unfold m_s_l9Acts at h
 refine att 10 [] rfl ?_
 refine lin (σ := Int) (fun s => [(0, pv0), (1, pv1), (2, iV p2), (7, iV s)]) (fun s => St w0 Φ [] []) (fun m s => m_s_l9Acts_l1 N p0 p1 p2 m s = some r) (0) N h (sx [] []) (fun n1 ih1 s hm => ?_)
 revert hm; revert s; intro s1 hm
 have h : m_s_l9Acts_l1 N p0 p1 p2 (n1 + 1) s1 = some r := hm
 show WT _ _ [(0, pv0), (1, pv1), (2, iV p2), (7, iV s1)] (St w0 Φ [] [])
 unfold m_s_l9Acts_l1 at h
 refine atr 5 [] rfl <| lnr ph0 rfl <| la rfl <| en ?_
 refine ch h rfl ?_ ?_ <;> intro h
 ·refine atr 8 [] rfl ?_
  obtain ⟨x1, hx1, h⟩ := bs h
  obtain ⟨cs1, F1, -, g1, hb1, hs1, r1⟩ := ph0.el (idx_some hx1).2.2
  obtain ⟨v1, G1, rfl, hq1, h1⟩ := r1
  obtain rfl := hq1.symm
  refine lia ph0 hx1 rfl <| lhx 0 5 g1 rfl <| qd h (m_s_ActOk_ok N · x1 h1 ·) rfl rfl rfl fun x2 h => arr 2 [] rfl ?_
  obtain ⟨b1, hb_1, h⟩ := bs h
  refine WL.cutN 16 [(37, .bool b1), (0, pv0), (1, pv1), (2, iV p2), (7, iV s1)] ?_ (fun K => ?_)
  rotate_left
  ·refine sp 21 hb_1 rfl (fun hb_1 => ?_) fun hb_1 => ?_
   ·refine arr 16 [] rfl ?_
    cases hb_1
    exact ku K
   ·refine arr 2 [] rfl <| ly rfl rfl ?_
    obtain ⟨x3, hx3, hb_1⟩ := bs hb_1
    obtain ⟨cs2, F2, -, g2, hb2, hs2, r2⟩ := ph0.el (idx_some hx3).2.2
    obtain ⟨v2, G2, rfl, hq2, h2⟩ := r2
    obtain rfl := hq2.symm
    refine lia ph0 hx3 rfl <| ly rfl rfl <| lf Fld_66_0 rfl rfl rfl <| ly rfl rfl <| lhx 0 0 g2 rfl <| arr 2 [] rfl ?_
    obtain ⟨b2, hb_2, hb_1⟩ := bs hb_1
    refine WL.cutN 8 [(36, .bool b2), (0, pv0), (1, pv1), (2, iV p2), (7, iV s1), (21, .bool false)] ?_ (fun K => ?_)
    rotate_left
    ·refine sp 28 hb_2 rfl (fun hb_2 => ?_) fun hb_2 => ?_
     ·refine arr 2 [] rfl <| ly rfl rfl ?_
      obtain ⟨x4, hx4, hb_2⟩ := bs hb_2
      obtain ⟨cs3, F3, -, g3, hb3, hs3, r3⟩ := ph0.el (idx_some hx4).2.2
      obtain ⟨v3, G3, rfl, hq3, h3⟩ := r3
      obtain rfl := hq3.symm
      refine lia ph0 hx4 rfl <| ly rfl rfl <| lf Fld_66_3 rfl rfl rfl <| ly rfl rfl <| lhx 3 0 g3 rfl <| arr 3 [] rfl ?_
      cases hb_2
      exact ku K
     ·refine arr 8 [] rfl ?_
      cases hb_2
      exact ku K
    refine la rfl ?_
    cases hb_1
    exact ku K
  refine en ?_
  refine ch h rfl ?_ ?_ <;> intro h
  ·refine att 4 [] rfl ?_
   exact rt hF h
  refine att 6 [] rfl ?_
  refine lin (σ := Int) (fun s => [(0, pv0), (1, pv1), (2, iV p2), (7, iV s1), (8, iV s)]) (fun s => St w0 Φ [] []) (fun m s => m_s_l9Acts_l2 N p0 p1 s1 (m_s_l9Acts_l1 N p0 p1 p2 n1) m s = some r) (0) N h (sx [] []) (fun n2 ih2 s hm => ?_)
  revert hm; revert s; intro s2 hm
  have h : m_s_l9Acts_l2 N p0 p1 s1 (m_s_l9Acts_l1 N p0 p1 p2 n1) (n2 + 1) s2 = some r := hm
  show WT _ _ [(0, pv0), (1, pv1), (2, iV p2), (7, iV s1), (8, iV s2)] (St w0 Φ [] [])
  unfold m_s_l9Acts_l2 at h
  refine atr 6 [] rfl ?_
  obtain ⟨x5, hx5, h⟩ := bs h
  obtain ⟨cs4, F4, -, g4, hb4, hs4, r4⟩ := ph0.el (idx_some hx5).2.2
  obtain ⟨v4, G4, rfl, hq4, h4⟩ := r4
  obtain rfl := hq4.symm
  refine lia ph0 hx5 rfl <| lf Fld_66_2 rfl rfl rfl <| lhx 2 0 g4 rfl <| lnr h4 rfl <| la rfl <| en ?_
  refine ch h rfl ?_ ?_ <;> intro h
  ·refine atr 7 [] rfl ?_
   obtain ⟨x6, hx6, h⟩ := bs h
   obtain ⟨cs5, F5, -, g5, hb5, hs5, r5⟩ := ph0.el (idx_some hx6).2.2
   obtain ⟨v5, G5, rfl, hq5, h5⟩ := r5
   obtain rfl := hq5.symm
   refine lia ph0 hx6 rfl <| lf Fld_66_2 rfl rfl rfl <| lhx 2 0 g5 rfl <| la rfl ?_
   obtain ⟨x7, hx7, h⟩ := bs h
   obtain ⟨cs6, F6, -, g6, hb6, hs6, r6⟩ := h5.el (idx_some hx7).2.2
   obtain ⟨rfl, -⟩ := r6
   refine lia h5 hx7 rfl <| lf Fld_116_1 rfl rfl rfl <| lhx 1 5 g6 rfl <| la rfl <| qd h (m_s_l9Known_ok N · x7.L p1 ph1 ·) rfl rfl rfl fun x8 h => arr 2 [] rfl ?_
   obtain ⟨b3, hb_3, h⟩ := bs h
   refine WL.cutN 13 [(73, .bool b3), (0, pv0), (1, pv1), (2, iV p2), (7, iV s1), (8, iV s2)] ?_ (fun K => ?_)
   rotate_left
   ·refine sp 60 hb_3 rfl (fun hb_3 => ?_) fun hb_3 => ?_
    ·refine arr 13 [] rfl ?_
     cases hb_3
     exact ku K
    ·refine arr 2 [] rfl <| ly rfl rfl ?_
     obtain ⟨x9, hx9, hb_3⟩ := bs hb_3
     obtain ⟨cs7, F7, -, g7, hb7, hs7, r7⟩ := ph0.el (idx_some hx9).2.2
     obtain ⟨v6, G6, rfl, hq6, h6⟩ := r7
     obtain rfl := hq6.symm
     refine lia ph0 hx9 rfl <| ly rfl rfl <| lf Fld_66_2 rfl rfl rfl <| ly rfl rfl <| lhx 2 0 g7 rfl <| ly rfl rfl <| la rfl <| ly rfl rfl ?_
     obtain ⟨x10, hx10, hb_3⟩ := bs hb_3
     obtain ⟨cs8, F8, -, g8, hb8, hs8, r8⟩ := h6.el (idx_some hx10).2.2
     obtain ⟨rfl, -⟩ := r8
     refine lia h6 hx10 rfl <| ly rfl rfl <| lf Fld_116_2 rfl rfl rfl <| ly rfl rfl <| lhx 6 5 g8 rfl <| ly rfl rfl <| la rfl <| ly rfl rfl <| qd hb_3 (m_s_l9Known_ok N · x10.R p1 ph1 ·) rfl rfl rfl fun x11 hb_3 => arr 2 [] rfl ?_
     cases hb_3
     exact ku K
   refine en ?_
   refine ch h rfl ?_ ?_ <;> intro h
   ·refine att 4 [] rfl ?_
    exact rt hF h
   refine att 7 [] rfl ?_
   exact lb [] [] (ih2 _ h)
  refine att 7 [] rfl ?_
  exact lb [] [] (ih1 _ h)
 refine atr 4 [] rfl <| lnr ph0 rfl <| qc h (m_s_l1In_ok N · (p0.length : Int) 1 6 ·) rfl rfl rfl fun x12 h => la rfl <| en ?_
 exact rt hF h
theorem m_s_RuleOk_ok (w0 : Base Ψ Φ []) (p0 : TRule) (ph0_0 : RSl RTPat 3 Ψ pG0_0 pv0_0 p0.Pats) (ph0_1 : RSl RTCond 11 Ψ pG0_1 pv0_1 p0.Conds) (ph0_2 : RSl RTAct 5 Ψ pG0_2 pv0_2 p0.Acts) {r : Bool} (h : m_s_RuleOk N p0 = some r) :
  CB w0 prog 11 [.agg [.string p0.Name, iV p0.Sal, pv0_0, pv0_1, pv0_2].toArray] (.bool r) := by
 refine eN func11 rfl ntmps11 rfl w0 fun hF => ?_
 unfold m_s_RuleOk at h
 refine sr <| lbx rfl fun b_1 => arr 5 [5] rfl <| kab h rfl rfl rfl (fun b z q => m_s_PosVars_ok N b p0 (ph0_0.y z) (ph0_1.y z) (ph0_2.y z) q) ?_
 rintro x1 h v1 Φ_1 F1 ⟨ap1, fr1, v2, rfl, rfl, h1⟩
 refine art 3 [] rfl <| WT.draw mixed (by kernel_rfl) (fun _ h => h.drew) <| aqq 2 [0, 0] rfl ?_
 obtain ⟨x2, hx2, h⟩ := bs h
 refine qp (p_call Fun_40 rfl (fun w1 hw => m_s_NameOk_ok N (ba hw.fro) p0.Name hx2)) rfl <| qq (q_move rfl) rfl ?_
 obtain ⟨b1, hb_1, h⟩ := bs h
 refine WQ.cutN 4 [(13, .bool b1), (1, pQ b_1), (3, v1)] ?_ (fun K => ?_)
 rotate_left
 ·refine WQ.split (d := 9) rfl (fun c1 => ?_) (fun c1 => ?_)
  ·replace hb_1 := ite_t hb_1 c1
   refine aqq 2 [1, 0] rfl <| WQ.yes rfl rfl ?_
   obtain ⟨x3, hx3, hb_1⟩ := bs hb_1
   refine qp (p_call Fun_41 rfl (fun w1 hw => m_s_l1In_ok N (ba hw.fro) p0.Sal (-100) 100 hx3)) rfl <| WQ.q (q_pick1 rfl rfl) rfl rfl rfl ?_
   cases hb_1
   exact kq K
  ·replace hb_1 := ite_f hb_1 c1
   refine aqq 4 [] rfl ?_
   cases hb_1
   exact kq K
 refine qq (q_move rfl) rfl ?_
 obtain ⟨b2, hb_2, h⟩ := bs h
 refine WQ.cutN 4 [(18, .bool b2), (1, pQ b_1), (3, v1)] ?_ (fun K => ?_)
 rotate_left
 ·refine WQ.split (d := 14) rfl (fun c2 => ?_) (fun c2 => ?_)
  ·replace hb_2 := ite_t hb_2 c2
   refine aqq 2 [2, 0] rfl <| WQ.yes rfl rfl ?_
   obtain ⟨x4, hx4, hb_2⟩ := bs hb_2
   refine qp (p_call Fun_42 rfl (fun w1 hw => m_s_l9Pats_ok N (ba hw.in0) p0.Pats ph0_0 hx4)) rfl <| WQ.q (q_pick1 rfl rfl) rfl rfl rfl ?_
   cases hb_2
   exact kq K
  ·replace hb_2 := ite_f hb_2 c2
   refine aqq 4 [] rfl ?_
   cases hb_2
   exact kq K
 refine qq (q_move rfl) rfl ?_
 obtain ⟨b3, hb_3, h⟩ := bs h
 refine WQ.cutN 5 [(24, .bool b3), (1, pQ b_1), (3, v1)] ?_ (fun K => ?_)
 rotate_left
 ·refine WQ.split (d := 19) rfl (fun c3 => ?_) (fun c3 => ?_)
  ·replace hb_3 := ite_t hb_3 c3
   refine aqq 3 [3, 0] rfl <| WQ.yes rfl rfl ?_
   obtain ⟨x5, hx5, hb_3⟩ := bs hb_3
   refine qp (p_call Fun_43 rfl (fun w1 hw => m_s_l9Conds_ok N (ba hw.fro) p0.Conds x1 (ph0_1.y hw.up) h1.rsl hx5)) rfl <| WQ.q (q_pick1 rfl rfl) rfl rfl rfl ?_
   cases hb_3
   exact kq K
  ·replace hb_3 := ite_f hb_3 c3
   refine aqq 5 [] rfl ?_
   cases hb_3
   exact kq K
 refine qq (q_move rfl) rfl ?_
 obtain ⟨b4, hb_4, h⟩ := bs h
 refine WQ.cutN 7 [(32, .bool b4)] ?_ (fun K => ?_)
 rotate_left
 ·refine WQ.split (d := 25) rfl (fun c4 => ?_) (fun c4 => ?_)
  ·replace hb_4 := ite_t hb_4 c4
   refine aqq 4 [4, 0, 5] rfl <| WQ.yes rfl rfl ?_
   obtain ⟨x6, hx6, hb_4⟩ := bs hb_4
   refine qp (p_call Fun_45 rfl (fun w1 hw => m_s_PosCount_ok N (ba hw.in0) p0 ph0_0 ph0_1 ph0_2 hx6)) rfl <| WQ.yes rfl rfl ?_
   obtain ⟨x7, hx7, hb_4⟩ := bs hb_4
   refine qp (p_call Fun_44 rfl (fun w1 hw => m_s_l9Acts_ok N (ba hw.fro) p0.Acts x1 x6 (ph0_2.y hw.up) h1.rsl hx7)) rfl <| WQ.q (q_pick1 rfl rfl) rfl rfl rfl ?_
   cases hb_4
   exact kq K
  ·replace hb_4 := ite_f hb_4 c4
   refine aqq 7 [] rfl ?_
   cases hb_4
   exact kq K
 refine aqt 2 [] rfl ?_
 exact rt hF h
theorem m_sl_IndexFunc_Si_Rule_i_Rule_ok {p1f : Nat} {p1fr : List Value} (w0 : Base Ψ Φ []) (p0 : (List TRule)) (p1 : TRule → Option (Bool)) (ph0 : RSl RTRule 5 Ψ pG0 pv0 p0) (p1hF : Fun prog p1f = true) (p1h : ∀ {Φ' : Hp} {w' : World}, FrH [] Φ Φ' → In Φ' w' → ∀ (p1a0 : TRule) {p1v0_0 : Value} {p1G0_0 : List Nat} {p1v0_1 : Value} {p1G0_1 : List Nat} {p1v0_2 : Value} {p1G0_2 : List Nat} (_ : RSl RTPat 3 Φ' p1G0_0 p1v0_0 p1a0.Pats) (_ : RSl RTCond 11 Φ' p1G0_1 p1v0_1 p1a0.Conds) (_ : RSl RTAct 5 Φ' p1G0_2 p1v0_2 p1a0.Acts) {r : Bool}, p1 p1a0 = some r → Calls prog p1f (([.agg [.string p1a0.Name, iV p1a0.Sal, p1v0_0, p1v0_1, p1v0_2].toArray] : List Value) ++ p1fr).toArray w' (Post (.bool r) w')) {r : Int} (h : m_sl_IndexFunc_Si_Rule_i_Rule N p0 p1 = some r) :
  CB w0 prog 58 [pv0, .func (.func p1f) #[] p1fr.toArray] (iV r) := by
 refine eN func58 rfl ntmps58 rfl w0 fun hF => ?_
 unfold m_sl_IndexFunc_Si_Rule_i_Rule at h
 refine atr 8 [] rfl <| lnr ph0 rfl <| art 3 [] rfl ?_
 refine lin (σ := Int) (fun s => [(0, pv0), (1, .func (.func p1f) #[] p1fr.toArray), (7, iV (p0.length : Int)), (8, iV s)]) (fun s => St w0 Φ [] []) (fun m s => m_sl_IndexFunc_Si_Rule_i_Rule_l1 N p0 p1 m s = some r) (0) N h (sx [] []) (fun n1 ih1 s hm => ?_)
 revert hm; revert s; intro s1 hm
 have h : m_sl_IndexFunc_Si_Rule_i_Rule_l1 N p0 p1 (n1 + 1) s1 = some r := hm
 show WT _ _ [(0, pv0), (1, .func (.func p1f) #[] p1fr.toArray), (7, iV (p0.length : Int)), (8, iV s1)] (St w0 Φ [] [])
 unfold m_sl_IndexFunc_Si_Rule_i_Rule_l1 at h
 refine att 5 [] rfl ?_
 refine ch h rfl ?_ ?_ <;> intro h
 ·refine atr 13 [] rfl ?_
  obtain ⟨x1, hx1, h⟩ := bs h
  obtain ⟨cs1, F1, -, g1, hb1, hs1, r1⟩ := ph0.el (idx_some hx1).2.2
  obtain ⟨v1, G1, v2, G2, v3, G3, rfl, rfl, h1, h2, h3⟩ := r1
  refine lia ph0 hx1 rfl <| lhx 0 5 g1 rfl ?_
  obtain ⟨x2, hx2, h⟩ := bs h
  refine lp (p_callV p1hF rfl rfl (fun w1 hw => p1h hw.frB hw.fro x1 (h1.y hw.up) (h2.y hw.up) (h3.y hw.up) hx2)) rfl <| en ?_
  refine ch h rfl ?_ ?_ <;> intro h
  ·refine att 5 [] rfl ?_
   exact rt hF h
  refine att 6 [] rfl ?_
  exact lb [] [] (ih1 _ h)
 refine att 5 [] rfl ?_
 exact rt hF h
theorem m_i_RuleAt_c1_ok (w0 : Base Ψ Φ []) (p0 : TRule) (c0 : ByteArray) (ph0_0 : RSl RTPat 3 Ψ pG0_0 pv0_0 p0.Pats) (ph0_1 : RSl RTCond 11 Ψ pG0_1 pv0_1 p0.Conds) (ph0_2 : RSl RTAct 5 Ψ pG0_2 pv0_2 p0.Acts) (ppc0 : Ψ pbc0 = some (.cells #[.string c0] 9 (0, 0))) {r : Bool} (h : m_i_RuleAt_c1 N p0 c0 = some r) :
  CB w0 prog 59 [.agg [.string p0.Name, iV p0.Sal, pv0_0, pv0_1, pv0_2].toArray, pQ pbc0] (.bool r) := by
 refine eN func59 rfl ntmps59 rfl w0 fun hF => ?_
 unfold m_i_RuleAt_c1 at h
 refine sr <| lbx rfl fun b_1 => arr 6 [0, 0] rfl <| lhx 0 0 (rg_cells ppc0) rfl <| art 3 [] rfl ?_
 exact rt hF h
theorem m_i_RuleAt_ok (w0 : Base Ψ Φ []) (p0 : TDef) (p1 : ByteArray) (ph0_0 : RSl RTRule 5 Ψ pG0_0 pv0_0 p0.Rules) {r : Int} (h : m_i_RuleAt N p0 p1 = some r) :
  CB w0 prog 20 [.agg [.string p0.Name, pv0_0].toArray, .string p1] (iV r) := by
 refine eN func20 rfl ntmps20 rfl w0 fun hF => ?_
 unfold m_i_RuleAt at h
 refine sr <| lbx rfl fun b_1 => ?_
 refine ln (n_box (C := #[.string p1]) rfl (rfl)) rfl (fun b_2 => ?_)
 refine arr 6 [1, 32] rfl ?_
 refine WL.frz (js := [0]) (R := [(b_1, .cells #[.string p0.Name, pv0_0] 38 (0, 0))]) rfl (fun Φ_1 fr1 k1 => ?_)
 refine lq (q_makeFunc rfl) rfl <| qz h (fun b z q => m_sl_IndexFunc_Si_Rule_i_Rule_ok N b p0.Rules (fun a0 => m_i_RuleAt_c1 N a0 p1) (ph0_0.y z) Fun_59 (fun hle' hin a0 => fun f0 f1 f2 => fun hr => m_i_RuleAt_c1_ok N (ba hin) a0 p1 f0 f1 f2 (hle' _ _ (by simp) k1) hr) q) rfl rfl rfl fun x1 h => la rfl <| en ?_
 exact rt hF h
theorem m_i_DefOk_ok (w0 : Base Ψ Φ []) (p0 : TDef) (ph0_0 : RSl RTRule 5 Ψ pG0_0 pv0_0 p0.Rules) {r : Bool} (h : m_i_DefOk N p0 = some r) :
  CB w0 prog 17 [.agg [.string p0.Name, pv0_0].toArray] (.bool r) := by
 refine eN func17 rfl ntmps17 rfl w0 fun hF => ?_
 unfold m_i_DefOk at h
 refine sr <| lbx rfl fun b_1 => arr 7 [0, 0] rfl <| qc h (m_i_NameOk_ok N · p0.Name ·) rfl rfl rfl fun x1 h => arr 2 [] rfl ?_
 obtain ⟨b1, hb_1, h⟩ := bs h
 refine WL.cutN 6 [(15, .bool b1), (1, pQ b_1)] ?_ (fun K => ?_)
 rotate_left
 ·refine sp 9 hb_1 rfl (fun hb_1 => ?_) fun hb_1 => ?_
  ·refine arr 6 [] rfl ?_
   cases hb_1
   exact ku K
  ·refine arr 2 [1, 0] rfl <| ly rfl rfl <| lnr ph0_0 rfl <| ly rfl rfl <| qc hb_1 (m_i_inRange_ok N · (p0.Rules.length : Int) 1 12 ·) rfl rfl rfl fun x2 hb_1 => arr 2 [] rfl ?_
   cases hb_1
   exact ku K
 refine en ?_
 refine ch h rfl ?_ ?_ <;> intro h
 ·refine att 4 [] rfl ?_
  exact rt hF h
 refine atr 6 [1, 0] rfl <| lnr ph0_0 rfl <| art 3 [] rfl ?_
 refine lin (σ := Int) (fun s => [(1, pQ b_1), (17, pv0_0), (18, iV (p0.Rules.length : Int)), (19, iV s)]) (fun s => St w0 Φ [(b_1, .cells #[.string p0.Name, pv0_0] 38 (0, 0))] []) (fun m s => m_i_DefOk_l1 N p0 m s = some r) (0) N h (sx [] [0]) (fun n1 ih1 s hm => ?_)
 revert hm; revert s; intro s1 hm
 have h : m_i_DefOk_l1 N p0 (n1 + 1) s1 = some r := hm
 show WT _ _ [(1, pQ b_1), (17, pv0_0), (18, iV (p0.Rules.length : Int)), (19, iV s1)] (St w0 Φ [(b_1, .cells #[.string p0.Name, pv0_0] 38 (0, 0))] [])
 unfold m_i_DefOk_l1 at h
 refine att 5 [] rfl ?_
 refine ch h rfl ?_ ?_ <;> intro h
 ·refine atr 6 [] rfl ?_
  obtain ⟨x3, hx3, h⟩ := bs h
  obtain ⟨cs1, F1, -, g1, hb1, hs1, r1⟩ := ph0_0.el (idx_some hx3).2.2
  obtain ⟨v1, G1, v2, G2, v3, G3, rfl, rfl, h1, h2, h3⟩ := r1
  refine lia ph0_0 hx3 rfl <| lhx 0 5 g1 rfl <| lnz Zr_28 rfl fun b_2 => la rfl <| soN 0 Sz_28 rfl ⟨rfl, rfl, h1.one, h2.one, h3.one, trivial⟩ rfl ?_
  refine arr 4 [5] rfl <| qd h (m_i_RuleOk_ok N · x3 h1 h2 h3 ·) rfl rfl rfl fun x4 h => arr 2 [] rfl ?_
  obtain ⟨b2, hb_2, h⟩ := bs h
  refine WL.cutN 7 [(34, .bool b2), (1, pQ b_1), (17, pv0_0), (18, iV (p0.Rules.length : Int)), (19, iV s1)] ?_ (fun K => ?_)
  rotate_left
  ·refine sp 27 hb_2 rfl (fun hb_2 => ?_) fun hb_2 => ?_
   ·refine arr 7 [] rfl ?_
    cases hb_2
    exact ku K
   ·refine arr 3 [34, 0, 0] rfl <| ly rfl rfl <| qd hb_2 (m_i_RuleAt_ok N · p0 x3.Name ph0_0 ·) rfl rfl rfl fun x5 hb_2 => arr 3 [] rfl ?_
    cases hb_2
    exact ku K
  refine en ?_
  refine ch h rfl ?_ ?_ <;> intro h
  ·refine att 4 [] rfl ?_
   exact rt hF h
  refine att 6 [] rfl ?_
  exact lb [] [1] (ih1 _ h)
 refine att 5 [] rfl ?_
 exact rt hF h
theorem m_i_DefText_ok {Ψ Φ : Hp} {pv0_0 : Value} {pG0_0 : List Nat} (N : Nat) (w0 : Base Ψ Φ []) (p0 : TDef) (hT : Tab Ψ) (ph0_0 : RSl RTRule 5 Ψ pG0_0 pv0_0 p0.Rules) {r : ByteArray} (h : m_i_DefText N p0 = some r) :
    CB w0 prog 15 [.agg [.string p0.Name, pv0_0].toArray] (.string r) := by
  refine eN func15 rfl ntmps15 rfl w0 fun hF => ?_
  unfold m_i_DefText at h
  refine WT.seq ?_
  refine WT.region ?_
  refine ln (n_box (C := #[.string p0.Name, pv0_0]) rfl rfl) rfl (fun b_1 => ?_)
  refine lq (q_assign rfl) rfl ?_
  refine WL.nil ?_
  refine WT.seq ?_
  refine WT.seq ?_
  refine WT.region ?_
  refine lq (q_loadN Tn_38 rfl (fun w1 hw => hw.rgO (i := 0) rfl 0 2 [.string p0.Name, pv0_0] rfl) rfl) rfl ?_
  obtain ⟨x1, hx1, h⟩ := bind_some h
  refine lp (p_call Fun_17 rfl (fun w1 hw => m_i_DefOk_ok N (ba hw.in0) p0 ph0_0 hx1)) rfl ?_
  refine lq (q_not rfl) rfl ?_
  refine WL.nil ?_
  refine WT.cond rfl (fun c1 => ?_) (fun c1 => ?_)
  · replace h := ite_t h c1
    refine WT.seq ?_
    refine WT.region ?_
    refine lq (q_assign rfl) rfl ?_
    refine WL.nil ?_
    refine WT.ret hF (resOk.one rfl) (fun w1 hw => ?_)
    cases h
    exact post_of_St hw
  replace h := ite_f h c1
  refine WT.skip ?_
  refine WT.seq ?_
  refine WT.region ?_
  refine ln (n_bld (e := 5) Zr_83 rfl) rfl (fun b_2 => ?_)
  refine WL.nil ?_
  refine WT.seq ?_
  refine WT.region ?_
  refine lq (q_fieldAddr Fld_38_0 rfl) rfl ?_
  refine lq (q_load1 T1_9 rfl (fun w2 hw => SB.rgO hw (i := 0) rfl 0 1 [.string p0.Name] rfl)) rfl ?_
  obtain ⟨z1, hz1, h⟩ := bind_some h
  refine lq (q_cat rfl rfl hz1) rfl ?_
  obtain ⟨z2, hz2, h⟩ := bind_some h
  refine lq (q_cat rfl rfl hz2) rfl ?_
  obtain ⟨x2, hx2, h⟩ := bind_some h
  refine lcb (c_callB Fun_51 rfl (fun w1 hw => bld_write hw hx2)) rfl ?_
  refine WL.nil ?_
  refine WT.seq ?_
  refine WT.seq ?_
  refine WT.region ?_
  refine lq (q_fieldAddr Fld_38_1 rfl) rfl ?_
  refine lq (q_load1 T1_36 rfl (fun w2 hw => SB.rgO hw (i := 0) rfl 1 1 [pv0_0] rfl)) rfl ?_
  refine lq (q_lenR Sl_36 rfl rfl ph0_0) rfl ?_
  refine lq (q_move rfl) rfl ?_
  refine WL.nil ?_
  refine WT.block ?_
  refine loop_in (σ := ByteArray × Int) (fun s => [(3, pQ b_2), (15, pv0_0), (16, iV (p0.Rules.length : Int)), (17, iV s.2)]) (fun s => SB w0 Φ [(b_1, .cells #[.string p0.Name, pv0_0] 38 (0, 0))] 83 5 b_2 s.1) (fun n s => m_i_DefText_l1 N p0 n s.1 s.2 = some r) (x2, 0) N h ⟨rfl, rfl, rfl, rfl, trivial⟩ (fun _ hw => hw) (fun s hm => none_ne hm) (fun n1 ih1 s hm => ?_)
  clear h
  obtain ⟨s1, s2⟩ := s
  dsimp only at hm ⊢
  unfold m_i_DefText_l1 at hm
  refine WT.seq ?_
  refine WT.region ?_
  refine lq (q_lss rfl rfl) rfl ?_
  refine WL.nil ?_
  refine WT.seq ?_
  refine WT.cond rfl (fun c2 => ?_) (fun c2 => ?_)
  · replace hm := ite_t hm c2
    refine WT.skip ?_
    refine WT.seq ?_
    refine WT.block ?_
    refine WT.seq ?_
    refine WT.region ?_
    obtain ⟨x3, hx3, hm⟩ := bind_some hm
    obtain ⟨cs1, F1, -, g1, hb1, hs1, r1⟩ := ph0_0.el (idx_some hx3).2.2
    obtain ⟨v1, G1, v2, G2, v3, G3, rfl, rfl, h1, h2, h3⟩ := r1
    refine lq (q_indexAddr Sl_36 rfl rfl ph0_0 hx3) rfl ?_
    refine lq (q_loadN Tn_28 rfl (fun w2 hw => (g1.of_eq 0 5 rfl rfl : rg _ _ _ [.string x3.Name, iV x3.Sal, v1, v2, v3]).rangeAt (SB.in0 hw)) rfl) rfl ?_
    refine ln (n_allocX (C := #[.string (⟨#[]⟩ : ByteArray), iV 0, .slice none 0 0, .slice none 0 0, .slice none 0 0]) Zr_28 rfl) rfl (fun b_3 => ?_)
    refine ls (s_storeX (vs := [.string x3.Name, iV x3.Sal, v1, v2, v3]) (C' := [.string x3.Name, iV x3.Sal, v1, v2, v3]) Sz_28 rfl rfl rfl rfl rfl ⟨rfl, rfl, h1.one, h2.one, h3.one, trivial⟩ rfl) rfl ?_
    refine WL.nil ?_
    refine WT.region ?_
    refine lq (q_loadN Tn_28 rfl (fun w2 hw => SX.rg hw 0 5 [.string x3.Name, iV x3.Sal, v1, v2, v3] rfl) rfl) rfl ?_
    obtain ⟨x4, hx4, hm⟩ := bind_some hm
    refine lcb (c_callB Fun_38 rfl (fun w1 hw => (m_i_ruleText_ok N (ba (SB.in0 (SX.sb hw))) x3 hT h1 h2 h3 hx4).mono fun e w' ⟨q1, q2⟩ => ⟨q1, SB.below (SX.sb hw) q2⟩)) rfl ?_
    obtain ⟨x5, hx5, hm⟩ := bind_some hm
    refine lcb (c_callB Fun_51 rfl (fun w1 hw => bld_write hw hx5)) rfl ?_
    refine WL.nil ?_
    refine WT.inBlock ?_
    refine WT.region ?_
    refine lq (q_add rfl rfl) rfl ?_
    refine lq (q_move rfl) rfl ?_
    refine WL.nil ?_
    exact lback (ih1 (x5, _) hm) ⟨rfl, rfl, rfl, rfl, trivial⟩ (fun _ hw => hw)
  replace hm := ite_f hm c2
  refine WT.exit rfl ?_
  refine WT.seq ?_
  refine WT.region ?_
  refine lcb (c_callB Fun_52 rfl (fun w1 hw => bld_string hw)) rfl ?_
  refine lq (q_assign rfl) rfl ?_
  refine WL.nil ?_
  refine WT.ret hF (resOk.one rfl) (fun w1 hw => ?_)
  cases hm
  exact post_of_SE hw

theorem m_i_runEnd_ok {p2f : Nat} {p2fr : List Value} (w0 : Base Ψ Φ []) (p0 : ByteArray) (p1 : Int) (p2 : Int → Option (Bool)) (p2hF : Fun prog p2f = true) (p2h : ∀ {Φ' : Hp} {w' : World}, FrH [] Φ Φ' → In Φ' w' → ∀ (p2a0 : Int)   {r : Bool}, p2 p2a0 = some r → Calls prog p2f (([.int .u8 p2a0] : List Value) ++ p2fr).toArray w' (Post (.bool r) w')) {r : Int} (h : m_i_runEnd N p0 p1 p2 = some r) :
  CB w0 prog 54 [.string p0, iV p1, .func (.func p2f) #[] p2fr.toArray] (iV r) := by
 refine eN func54 rfl ntmps54 rfl w0 fun hF => ?_
 unfold m_i_runEnd at h
 refine att 6 [] rfl ?_
 refine lin (σ := Int) (fun s => [(0, .string p0), (1, iV s), (2, .func (.func p2f) #[] p2fr.toArray)]) (fun s => St w0 Φ [] []) (fun m s => m_i_runEnd_l1 N p0 p2 m s = some r) (p1) N h (sx [] []) (fun n1 ih1 s hm => ?_)
 revert hm; revert s; intro s1 hm
 have h : m_i_runEnd_l1 N p0 p2 (n1 + 1) s1 = some r := hm
 show WT _ _ [(0, .string p0), (1, iV s1), (2, .func (.func p2f) #[] p2fr.toArray)] (St w0 Φ [] [])
 unfold m_i_runEnd_l1 at h
 refine atr 5 [] rfl <| lq (q_lenS Str_9 rfl rfl) rfl <| arr 2 [] rfl ?_
 obtain ⟨b1, hb_1, h⟩ := bs h
 refine WL.cutN 6 [(17, .bool b1), (0, .string p0), (1, iV s1), (2, .func (.func p2f) #[] p2fr.toArray)] ?_ (fun K => ?_)
 rotate_left
 ·refine sp 11 hb_1 rfl (fun hb_1 => ?_) fun hb_1 => ?_
  ·refine arr 3 [] rfl <| ly rfl rfl ?_
   obtain ⟨y1, hy1, hb_1⟩ := bs hb_1
   refine lq (q_indexS Str_9 rfl rfl hy1) rfl <| ly rfl rfl ?_
   obtain ⟨x1, hx1, hb_1⟩ := bs hb_1
   refine lp (p_callV p2hF rfl rfl (fun w1 hw => p2h hw.frB hw.fro (y1.toNat : Int) hx1)) rfl <| la rfl ?_
   cases hb_1
   exact ku K
  ·refine arr 6 [] rfl ?_
   cases hb_1
   exact ku K
 refine en ?_
 refine ch h rfl ?_ ?_ <;> intro h
 ·refine att 8 [] rfl ?_
  exact lb [] [] (ih1 _ h)
 refine att 6 [] rfl ?_
 exact rt hF h
theorem m_i_Lex_c1_ok  (w0 : Base Ψ Φ []) (p0 : Int)  {r : Bool} (h : m_i_Lex_c1 N p0 = some r) :
  CB w0 prog 55 [.int .u8 p0] (.bool r) := by
 refine eN func55 rfl ntmps55 rfl w0 fun hF => ?_
 unfold m_i_Lex_c1 at h
 refine att 10 [] rfl ?_
 exact rt hF h
theorem m_internal_stringslite_HasPrefix_ok  (w0 : Base Ψ Φ []) (p0 : ByteArray) (p1 : ByteArray)  {r : Bool} (h : m_internal_stringslite_HasPrefix N p0 p1 = some r) :
  CB w0 prog 165 [.string p0, .string p1] (.bool r) := by
 refine eN func165 rfl ntmps165 rfl w0 fun hF => ?_
 unfold m_internal_stringslite_HasPrefix at h
 refine atr 7 [] rfl <| lq (q_lenS Str_9 rfl rfl) rfl <| la rfl <| lq (q_lenS Str_9 rfl rfl) rfl <| arr 2 [] rfl ?_
 obtain ⟨b1, hb_1, h⟩ := bs h
 refine WL.cutN 7 [(17, .bool b1), (4, .bool false)] ?_ (fun K => ?_)
 rotate_left
 ·refine sp 10 hb_1 rfl (fun hb_1 => ?_) fun hb_1 => ?_
  ·refine arr 2 [] rfl <| ly rfl rfl <| lq (q_lenS Str_9 rfl rfl) rfl <| ly rfl rfl ?_
   obtain ⟨z1, hz1, hb_1⟩ := bs hb_1
   refine lq (q_sstH Str_9 rfl rfl hz1) rfl <| arr 3 [] rfl ?_
   cases hb_1
   exact ku K
  ·refine arr 7 [] rfl ?_
   cases hb_1
   exact ku K
 refine la rfl <| en ?_
 exact rt hF h
theorem m_internal_stringslite_TrimPrefix_ok  (w0 : Base Ψ Φ []) (p0 : ByteArray) (p1 : ByteArray)  {r : ByteArray} (h : m_internal_stringslite_TrimPrefix N p0 p1 = some r) :
  CB w0 prog 201 [.string p0, .string p1] (.string r) := by
 refine eN func201 rfl ntmps201 rfl w0 fun hF => ?_
 unfold m_internal_stringslite_TrimPrefix at h
 refine atr 9 [] rfl <| qc h (m_internal_stringslite_HasPrefix_ok N · p0 p1 ·) rfl rfl rfl fun x1 h => en ?_
 refine ch h rfl ?_ ?_ <;> intro h
 ·refine atr 4 [] rfl <| lq (q_lenS Str_9 rfl rfl) rfl ?_
  obtain ⟨z1, hz1, h⟩ := bs h
  refine lq (q_sstL Str_9 rfl rfl hz1) rfl <| la rfl <| en ?_
  exact rt hF h
 refine att 6 [] rfl ?_
 exact rt hF h
theorem m_strings_TrimPrefix_ok  (w0 : Base Ψ Φ []) (p0 : ByteArray) (p1 : ByteArray)  {r : ByteArray} (h : m_strings_TrimPrefix N p0 p1 = some r) :
  CB w0 prog 160 [.string p0, .string p1] (.string r) := by
 refine eN func160 rfl ntmps160 rfl w0 fun hF => ?_
 unfold m_strings_TrimPrefix at h
 refine atr 8 [] rfl <| qc h (m_internal_stringslite_TrimPrefix_ok N · p0 p1 ·) rfl rfl rfl fun x1 h => la rfl <| en ?_
 exact rt hF h
theorem m_i_parseNumber_ok  (w0 : Base Ψ Φ []) (p0 : ByteArray) (p1 : Int) (hT : Tab Ψ) {r : Int × Bool} (h : m_i_parseNumber N p0 p1 = some r) :
  CB w0 prog 104 [.string p0, iV p1] (.tuple #[iV r.1, .bool r.2]) := by
 refine eN func104 rfl ntmps104 rfl w0 fun hF => ?_
 unfold m_i_parseNumber at h
 refine atr 8 [] rfl <| qc h (m_strings_TrimPrefix_ok N · p0 (⟨#[45]⟩ : ByteArray) ·) rfl rfl rfl fun x1 h => arr 6 [] rfl <| lq (q_lenS Str_9 rfl rfl) rfl <| arr 2 [] rfl ?_
 obtain ⟨b1, hb_1, h⟩ := bs h
 refine WL.cutN 5 [(19, .bool b1), (0, .string p0)] ?_ (fun K => ?_)
 rotate_left
 ·refine sp 14 hb_1 rfl (fun hb_1 => ?_) fun hb_1 => ?_
  ·refine arr 5 [] rfl ?_
   cases hb_1
   exact ku K
  ·refine ly rfl rfl <| la rfl <| ly rfl rfl <| lq (q_lenS Str_9 rfl rfl) rfl <| arr 3 [] rfl ?_
   cases hb_1
   exact ku K
 refine en ?_
 refine ch h rfl ?_ ?_ <;> intro h
 ·refine att 5 [] rfl ?_
  refine WT.ret hF (resOk.two rfl rfl) (fun w1 hw => ?_)
  cases h
  exact post_of_St hw
 refine atr 4 [] rfl <| qc h (m_strconv_Atoi_ok N · p0 ·) rfl rfl rfl fun x2 h => arr 10 [] rfl <| lq (q_eqI If_85 rfl) rfl <| la rfl ?_
 obtain ⟨b2, hb_2, h⟩ := bs h
 refine WL.cutN 5 [(33, .bool b2), (25, iV x2)] ?_ (fun K => ?_)
 rotate_left
 ·refine sp 28 hb_2 rfl (fun hb_2 => ?_) fun hb_2 => ?_
  ·refine ly rfl rfl <| la rfl <| ly rfl rfl <| qd hb_2 (m_strconv_Itoa_ok N · x2 hT ·) rfl rfl rfl fun x3 hb_2 => arr 3 [] rfl ?_
   cases hb_2
   exact ku K
  ·refine arr 5 [] rfl ?_
   cases hb_2
   exact ku K
 refine art 3 [] rfl ?_
 refine WT.ret hF (resOk.two rfl rfl) (fun w1 hw => ?_)
 cases h
 exact post_of_St hw
theorem m_i_isMark_ok  (w0 : Base Ψ Φ []) (p0 : ByteArray)  {r : Bool} (h : m_i_isMark N p0 = some r) :
  CB w0 prog 163 [.string p0] (.bool r) := by
 refine eN func163 rfl ntmps163 rfl w0 fun hF => ?_
 unfold m_i_isMark at h
 refine att 16 [] rfl ?_
 refine cut (σ := Bool) (fun s => [(4, .bool s)]) (fun s => St w0 Φ [] []) (fun s => m_i_isMark_j1 N s = some r) (fun s hm => ?_) (fun K => ?_)
 ·clear h
  revert hm; revert s; intro s1 hm
  have h : m_i_isMark_j1 N s1 = some r := hm
  show WT _ _ [(4, .bool s1)] (St w0 Φ [] [])
  unfold m_i_isMark_j1 at h
  refine ch h rfl ?_ ?_ <;> intro h
  ·refine att 4 [] rfl ?_
   exact rt hF h
  refine att 6 [] rfl ?_
  exact rt hF h
 refine ch h rfl ?_ ?_ <;> intro h
 ·refine WT.skip ?_
  exact wo [] [] (K _ h)
 refine att 5 [] rfl ?_
 refine ch h rfl ?_ ?_ <;> intro h
 ·refine WT.skip ?_
  exact wo [] [] (K _ h)
 refine att 5 [] rfl ?_
 refine ch h rfl ?_ ?_ <;> intro h
 ·refine WT.skip ?_
  exact wo [] [] (K _ h)
 refine att 5 [] rfl ?_
 refine ch h rfl ?_ ?_ <;> intro h
 ·refine WT.skip ?_
  exact wo [] [] (K _ h)
 refine att 5 [] rfl ?_
 refine ch h rfl ?_ ?_ <;> intro h
 ·refine WT.skip ?_
  exact wo [] [] (K _ h)
 refine att 5 [] rfl ?_
 refine ch h rfl ?_ ?_ <;> intro h
 ·refine WT.skip ?_
  exact wo [] [] (K _ h)
 refine att 5 [] rfl ?_
 refine ch h rfl ?_ ?_ <;> intro h
 ·refine WT.skip ?_
  exact wo [] [] (K _ h)
 refine att 5 [] rfl ?_
 refine ch h rfl ?_ ?_ <;> intro h
 ·refine WT.skip ?_
  exact wo [] [] (K _ h)
 refine att 5 [] rfl ?_
 refine ch h rfl ?_ ?_ <;> intro h
 ·refine WT.skip ?_
  exact wo [] [] (K _ h)
 refine att 5 [] rfl ?_
 refine ch h rfl ?_ ?_ <;> intro h
 ·refine WT.skip ?_
  exact wo [] [] (K _ h)
 refine att 5 [] rfl ?_
 refine ch h rfl ?_ ?_ <;> intro h
 ·refine WT.skip ?_
  exact wo [] [] (K _ h)
 refine att 5 [] rfl ?_
 refine ch h rfl ?_ ?_ <;> intro h
 ·refine WT.skip ?_
  exact wo [] [] (K _ h)
 refine att 4 [] rfl ?_
 exact wo [] [] (K _ h)
theorem m_i_TokenOk_ok  (w0 : Base Ψ Φ []) (p0 : TToken)  {r : Bool} (h : m_i_TokenOk N p0 = some r) :
  CB w0 prog 105 [.agg [iV p0.K, iV p0.N, .string p0.S].toArray] (.bool r) := by
 refine eN func105 rfl ntmps105 rfl w0 fun hF => ?_
 unfold m_i_TokenOk at h
 refine sr <| lbx rfl fun b_1 => art 14 [0, 0] rfl ?_
 refine ch h rfl ?_ ?_ <;> intro h
 ·refine atr 4 [1, 0] rfl <| qc h (m_i_inRange_ok N · p0.N 0 1000000000 ·) rfl rfl rfl fun x1 h => la rfl ?_
  obtain ⟨b1, hb_1, h⟩ := bs h
  refine WL.cutN 4 [(14, .bool b1), (2, .bool false)] ?_ (fun K => ?_)
  rotate_left
  ·refine sp 10 hb_1 rfl (fun hb_1 => ?_) fun hb_1 => ?_
   ·refine arr 4 [2, 0] rfl ?_
    cases hb_1
    exact ku K
   ·refine arr 4 [] rfl ?_
    cases hb_1
    exact ku K
  refine la rfl <| en ?_
  exact rt hF h
 refine att 5 [] rfl ?_
 refine ch h rfl ?_ ?_ <;> intro h
 ·refine atr 6 [1, 0] rfl ?_
  obtain ⟨b2, hb_2, h⟩ := bs h
  refine WL.cutN 4 [(24, .bool b2), (2, .bool false)] ?_ (fun K => ?_)
  rotate_left
  ·refine sp 20 hb_2 rfl (fun hb_2 => ?_) fun hb_2 => ?_
   ·refine arr 2 [2, 0] rfl <| ly rfl rfl <| qc hb_2 (m_i_NameOk_ok N · p0.S ·) rfl rfl rfl fun x2 hb_2 => la rfl ?_
    cases hb_2
    exact ku K
   ·refine arr 4 [] rfl ?_
    cases hb_2
    exact ku K
  refine la rfl <| en ?_
  exact rt hF h
 refine att 5 [] rfl ?_
 refine ch h rfl ?_ ?_ <;> intro h
 ·refine atr 6 [1, 0] rfl ?_
  obtain ⟨b3, hb_3, h⟩ := bs h
  refine WL.cutN 4 [(34, .bool b3), (2, .bool false)] ?_ (fun K => ?_)
  rotate_left
  ·refine sp 30 hb_3 rfl (fun hb_3 => ?_) fun hb_3 => ?_
   ·refine arr 2 [2, 0] rfl <| ly rfl rfl <| qc hb_3 (m_i_isVar_ok N · p0.S ·) rfl rfl rfl fun x3 hb_3 => la rfl ?_
    cases hb_3
    exact ku K
   ·refine arr 4 [] rfl ?_
    cases hb_3
    exact ku K
  refine la rfl <| en ?_
  exact rt hF h
 refine att 5 [] rfl ?_
 refine ch h rfl ?_ ?_ <;> intro h
 ·refine atr 6 [1, 0] rfl ?_
  obtain ⟨b4, hb_4, h⟩ := bs h
  refine WL.cutN 4 [(44, .bool b4), (2, .bool false)] ?_ (fun K => ?_)
  rotate_left
  ·refine sp 40 hb_4 rfl (fun hb_4 => ?_) fun hb_4 => ?_
   ·refine arr 2 [2, 0] rfl <| ly rfl rfl <| qc hb_4 (m_i_isWord_ok N · p0.S 20 ·) rfl rfl rfl fun x4 hb_4 => la rfl ?_
    cases hb_4
    exact ku K
   ·refine arr 4 [] rfl ?_
    cases hb_4
    exact ku K
  refine la rfl <| en ?_
  exact rt hF h
 refine att 5 [] rfl ?_
 refine ch h rfl ?_ ?_ <;> intro h
 ·refine atr 6 [1, 0] rfl ?_
  obtain ⟨b5, hb_5, h⟩ := bs h
  refine WL.cutN 4 [(54, .bool b5), (2, .bool false)] ?_ (fun K => ?_)
  rotate_left
  ·refine sp 50 hb_5 rfl (fun hb_5 => ?_) fun hb_5 => ?_
   ·refine arr 2 [2, 0] rfl <| ly rfl rfl <| qc hb_5 (m_i_isMark_ok N · p0.S ·) rfl rfl rfl fun x5 hb_5 => la rfl ?_
    cases hb_5
    exact ku K
   ·refine arr 4 [] rfl ?_
    cases hb_5
    exact ku K
  refine la rfl <| en ?_
  exact rt hF h
 refine att 6 [] rfl ?_
 exact rt hF h
theorem m_i_tokenAt_c1_ok  (w0 : Base Ψ Φ []) (p0 : Int)  {r : Bool} (h : m_i_tokenAt_c1 N p0 = some r) :
  CB w0 prog 108 [.int .u8 p0] (.bool r) := by
 refine eN func108 rfl ntmps108 rfl w0 fun hF => ?_
 unfold m_i_tokenAt_c1 at h
 refine atr 7 [] rfl <| qc h (m_i_isWordByte_ok N · p0 ·) rfl rfl rfl fun x1 h => la rfl ?_
 obtain ⟨b1, hb_1, h⟩ := bs h
 refine WL.cutN 3 [(8, .bool b1), (2, .bool false)] ?_ (fun K => ?_)
 rotate_left
 ·refine sp 5 hb_1 rfl (fun hb_1 => ?_) fun hb_1 => ?_
  ·refine arr 3 [] rfl ?_
   cases hb_1
   exact ku K
  ·refine ly rfl rfl <| la rfl <| ly rfl rfl <| qc hb_1 (m_i_isLarge_ok N · p0 ·) rfl rfl rfl fun x2 hb_1 => la rfl ?_
   cases hb_1
   exact ku K
 refine la rfl <| en ?_
 exact rt hF h
theorem m_strings_HasPrefix_ok  (w0 : Base Ψ Φ []) (p0 : ByteArray) (p1 : ByteArray)  {r : Bool} (h : m_strings_HasPrefix N p0 p1 = some r) :
  CB w0 prog 110 [.string p0, .string p1] (.bool r) := by
 refine eN func110 rfl ntmps110 rfl w0 fun hF => ?_
 unfold m_strings_HasPrefix at h
 refine atr 8 [] rfl <| qc h (m_internal_stringslite_HasPrefix_ok N · p0 p1 ·) rfl rfl rfl fun x1 h => la rfl <| en ?_
 exact rt hF h
theorem m_i_tokenAt_ok  (w0 : Base Ψ Φ []) (p0 : ByteArray) (p1 : Int) (hT : Tab Ψ) {r : TToken × Int × Bool} (h : m_i_tokenAt N p0 p1 = some r) :
  CB w0 prog 56 [.string p0, iV p1] (.tuple #[.agg [iV r.1.K, iV r.1.N, .string r.1.S].toArray, iV r.2.1, .bool r.2.2]) := by
 refine eN func56 rfl ntmps56 rfl w0 fun hF => ?_
 unfold m_i_tokenAt at h
 refine sr <| lnz Zr_77 rfl fun b_1 => arr 7 [] rfl ?_
 obtain ⟨y1, hy1, h⟩ := bs h
 refine lq (q_indexS Str_9 rfl rfl hy1) rfl <| arr 7 [] rfl <| qc h (m_i_isDigit_ok N · (y1.toNat : Int) ·) rfl rfl rfl fun x1 h => la rfl <| en ?_
 refine ch h rfl ?_ ?_ <;> intro h
 ·refine atr 4 [] rfl <| qc h (m_i_runEnd_ok N · p0 p1 (m_i_isDigit N) Fun_103 (fun hle' hin a0 => fun hr => m_i_isDigit_ok N (ba hin) a0  hr) ·) rfl rfl rfl fun x2 h => arr 7 [] rfl ?_
  obtain ⟨z1, hz1, h⟩ := bs h
  refine lq (q_sstLH Str_9 rfl rfl rfl hz1) rfl <| qd h (m_i_parseNumber_ok N · z1 10 hT ·) rfl rfl rfl fun x3 h => arr 9 [] rfl <| lq (q_build (vs := [(0, iV 1), (1, iV x3.1)]) (C := #[iV 1, iV x3.1, .string (⟨#[]⟩ : ByteArray)]) Pl_77 Zr_77 rfl (fill_cons (C' := [iV 1, iV 0, .string ⟨#[]⟩]) rfl rfl rfl rfl rfl (fill_cons (C' := [iV 1, iV x3.1, .string ⟨#[]⟩]) rfl rfl rfl rfl rfl (fill_nil)))) rfl <| lnz Zr_77 rfl fun b_2 => soN 0 Sz_77 rfl ⟨rfl, rfl, rfl, trivial⟩ rfl ?_
  refine en <| sq <| wm [0] [] rfl <| amm 4 [0, 3, 1, 2, 3] [0] rfl rfl ?_
  refine WM.split (d := 42) rfl (fun c2 => ?_) (fun c2 => ?_)
  ·replace h := ite_t h c2
   refine mqG 4 [5, 6, 7, 8, 9] rfl (by kernel_rfl) (kN [0]) (q_loadN Tn_77 rfl (fun w1 hw => hw.rgO (i := 0) rfl 0 3 [iV 1, iV x3.1, .string (⟨#[]⟩ : ByteArray)] rfl) rfl) rfl ?_
   obtain ⟨x4, hx4, h⟩ := bs h
   refine on1 5 (mpG rfl (kS [0]) (pcP rfl (m_i_TokenOk_ok N · (⟨1, x3.1, (⟨#[]⟩ : ByteArray)⟩ : TToken) hx4)) rfl ?_)
   refine amm 1 [6] [0] rfl rfl ?_
   refine on1 7 (msK 1 [0] rfl Sz_77 rfl ⟨rfl, rfl, rfl, trivial⟩ rfl rfl ?_)
   refine amm 2 [8, 9] [0] rfl rfl <| WM.nil (by kernel_rfl) ?_
   refine WT.ret hF (resOk.three (rv_cell Tn_77 rfl (fun w1 hw => hw.rgO (i := 1) rfl 0 3 [iV 1, iV x3.1, .string (⟨#[]⟩ : ByteArray)] rfl) rfl) rfl rfl) (fun w1 hw => ?_)
   cases h
   exact post_of_St hw
  replace h := ite_f h c2
  refine mno 4 [5, 6, 7, 8, 9] rfl (by kernel_rfl) (kn Kf.nil (am [0] rfl)) rfl (.inl rfl) rfl rfl <| mno 5 [6, 7, 8, 9] rfl (by kernel_rfl) (kn Kf.nil (am [0] rfl)) rfl (.inl rfl) rfl rfl <| amm 1 [6] [0] rfl rfl ?_
  refine on1 7 (msK 1 [0] rfl Sz_77 rfl ⟨rfl, rfl, rfl, trivial⟩ rfl rfl ?_)
  refine amm 2 [8, 9] [0] rfl rfl <| WM.nil (by kernel_rfl) ?_
  refine WT.ret hF (resOk.three (rv_cell Tn_77 rfl (fun w1 hw => hw.rgO (i := 1) rfl 0 3 [iV 1, iV x3.1, .string (⟨#[]⟩ : ByteArray)] rfl) rfl) rfl rfl) (fun w1 hw => ?_)
  cases h
  exact post_of_St hw
 refine sr <| la rfl <| qc h (m_i_isSmall_ok N · (y1.toNat : Int) ·) rfl rfl rfl fun x5 h => la rfl <| en ?_
 refine ch h rfl ?_ ?_ <;> intro h
 ·refine atr 4 [] rfl <| qc h (m_i_runEnd_ok N · p0 p1 (m_i_isWordByte N) Fun_106 (fun hle' hin a0 => fun hr => m_i_isWordByte_ok N (ba hin) a0  hr) ·) rfl rfl rfl fun x6 h => arr 7 [] rfl ?_
  obtain ⟨z2, hz2, h⟩ := bs h
  refine lq (q_sstLH Str_9 rfl rfl rfl hz2) rfl <| lq (q_build (vs := [(0, iV 2), (2, .string z2)]) (C := #[iV 2, iV 0, .string z2]) Pl_77 Zr_77 rfl (fill_cons (C' := [iV 2, iV 0, .string ⟨#[]⟩]) rfl rfl rfl rfl rfl (fill_cons (C' := [iV 2, iV 0, .string z2]) rfl rfl rfl rfl rfl (fill_nil)))) rfl <| lnz Zr_77 rfl fun b_3 => soN 0 Sz_77 rfl ⟨rfl, rfl, rfl, trivial⟩ rfl ?_
  refine en <| sq <| wm [0] [] rfl <| amm 3 [0, 3, 1, 2, 3] [0] rfl rfl ?_
  obtain ⟨x7, hx7, h⟩ := bs h
  refine on1 3 (mp rfl (kS [0]) (pcP rfl (m_i_TokenOk_ok N · (⟨2, 0, z2⟩ : TToken) hx7)) rfl ?_)
  refine on1 4 (msK 1 [0] rfl Sz_77 rfl ⟨rfl, rfl, rfl, trivial⟩ rfl rfl ?_)
  refine amm 2 [5, 6] [0] rfl rfl <| WM.nil (by kernel_rfl) ?_
  refine WT.ret hF (resOk.three (rv_cell Tn_77 rfl (fun w1 hw => hw.rgO (i := 1) rfl 0 3 [iV 2, iV 0, .string z2] rfl) rfl) rfl rfl) (fun w1 hw => ?_)
  cases h
  exact post_of_St hw
 refine sr <| la rfl <| qc h (m_i_isLarge_ok N · (y1.toNat : Int) ·) rfl rfl rfl fun x8 h => la rfl <| en ?_
 refine ch h rfl ?_ ?_ <;> intro h
 ·refine atr 4 [] rfl <| qc h (m_i_runEnd_ok N · p0 p1 (m_i_tokenAt_c1 N) Fun_108 (fun hle' hin a0 => fun hr => m_i_tokenAt_c1_ok N (ba hin) a0  hr) ·) rfl rfl rfl fun x9 h => arr 7 [] rfl ?_
  obtain ⟨z3, hz3, h⟩ := bs h
  refine lq (q_sstLH Str_9 rfl rfl rfl hz3) rfl <| lq (q_build (vs := [(0, iV 3), (2, .string z3)]) (C := #[iV 3, iV 0, .string z3]) Pl_77 Zr_77 rfl (fill_cons (C' := [iV 3, iV 0, .string ⟨#[]⟩]) rfl rfl rfl rfl rfl (fill_cons (C' := [iV 3, iV 0, .string z3]) rfl rfl rfl rfl rfl (fill_nil)))) rfl <| lnz Zr_77 rfl fun b_4 => soN 0 Sz_77 rfl ⟨rfl, rfl, rfl, trivial⟩ rfl ?_
  refine en <| sq <| wm [0] [] rfl <| amm 3 [0, 3, 1, 2, 3] [0] rfl rfl ?_
  obtain ⟨x10, hx10, h⟩ := bs h
  refine on1 3 (mp rfl (kS [0]) (pcP rfl (m_i_TokenOk_ok N · (⟨3, 0, z3⟩ : TToken) hx10)) rfl ?_)
  refine on1 4 (msK 1 [0] rfl Sz_77 rfl ⟨rfl, rfl, rfl, trivial⟩ rfl rfl ?_)
  refine amm 2 [5, 6] [0] rfl rfl <| WM.nil (by kernel_rfl) ?_
  refine WT.ret hF (resOk.three (rv_cell Tn_77 rfl (fun w1 hw => hw.rgO (i := 1) rfl 0 3 [iV 3, iV 0, .string z3] rfl) rfl) rfl rfl) (fun w1 hw => ?_)
  cases h
  exact post_of_St hw
 refine att 6 [] rfl ?_
 refine ch h rfl ?_ ?_ <;> intro h
 ·refine atr 5 [] rfl ?_
  obtain ⟨z4, hz4, h⟩ := bs h
  refine lq (q_sstL Str_9 rfl rfl hz4) rfl <| qc h (m_strings_IndexByte_ok N · z4 39 ·) rfl rfl rfl fun x11 h => art 8 [] rfl ?_
  refine ch h rfl ?_ ?_ <;> intro h
  ·refine sr <| lq (q_build (vs := []) (C := #[iV 0, iV 0, .string (⟨#[]⟩ : ByteArray)]) Pl_77 Zr_77 rfl (fill_nil)) rfl <| soN 0 Sz_77 rfl ⟨rfl, rfl, rfl, trivial⟩ rfl ?_
   refine art 3 [] rfl ?_
   refine WT.ret hF (resOk.three (rv_cell Tn_77 rfl (fun w1 hw => hw.rgO (i := 0) rfl 0 3 [iV 0, iV 0, .string (⟨#[]⟩ : ByteArray)] rfl) rfl) rfl rfl) (fun w1 hw => ?_)
   cases h
   exact post_of_St hw
  refine atr 10 [] rfl ?_
  obtain ⟨z5, hz5, h⟩ := bs h
  refine lq (q_sstLH Str_9 rfl rfl rfl hz5) rfl <| lq (q_build (vs := [(0, iV 4), (2, .string z5)]) (C := #[iV 4, iV 0, .string z5]) Pl_77 Zr_77 rfl (fill_cons (C' := [iV 4, iV 0, .string ⟨#[]⟩]) rfl rfl rfl rfl rfl (fill_cons (C' := [iV 4, iV 0, .string z5]) rfl rfl rfl rfl rfl (fill_nil)))) rfl <| lnz Zr_77 rfl fun b_5 => soN 0 Sz_77 rfl ⟨rfl, rfl, rfl, trivial⟩ rfl ?_
  refine en <| sq <| wm [0] [] rfl <| amm 6 [0, 3, 1, 2, 3, 4, 5, 3] [0] rfl rfl ?_
  obtain ⟨x12, hx12, h⟩ := bs h
  refine on1 6 (mp rfl (kS [0]) (pcP rfl (m_i_TokenOk_ok N · (⟨4, 0, z5⟩ : TToken) hx12)) rfl ?_)
  refine on1 7 (msK 1 [0] rfl Sz_77 rfl ⟨rfl, rfl, rfl, trivial⟩ rfl rfl ?_)
  refine amm 2 [8, 9] [0] rfl rfl <| WM.nil (by kernel_rfl) ?_
  refine WT.ret hF (resOk.three (rv_cell Tn_77 rfl (fun w1 hw => hw.rgO (i := 1) rfl 0 3 [iV 4, iV 0, .string z5] rfl) rfl) rfl rfl) (fun w1 hw => ?_)
  cases h
  exact post_of_St hw
 refine atr 13 [] rfl ?_
 obtain ⟨z6, hz6, h⟩ := bs h
 refine lq (q_sstL Str_9 rfl rfl hz6) rfl <| qc h (m_strings_HasPrefix_ok N · z6 (⟨#[45, 62]⟩ : ByteArray) ·) rfl rfl rfl fun x13 h => en ?_
 refine cut (σ := Int) (fun s => [(0, .string p0), (1, iV p1), (4, pQ b_1), (18, iV s)]) (fun s => St w0 Φ [(b_1, .cells #[iV 0, iV 0, .string (⟨#[]⟩ : ByteArray)] 77 (0, 0))] []) (fun s => m_i_tokenAt_j1 N p0 p1 s = some r) (fun s hm => ?_) (fun K => ?_)
 ·clear h
  revert hm; revert s; intro s1 hm
  have h : m_i_tokenAt_j1 N p0 p1 s1 = some r := hm
  show WT _ _ [(0, .string p0), (1, iV p1), (4, pQ b_1), (18, iV s1)] (St w0 Φ [(b_1, .cells #[iV 0, iV 0, .string (⟨#[]⟩ : ByteArray)] 77 (0, 0))] [])
  unfold m_i_tokenAt_j1 at h
  refine atr 5 [] rfl ?_
  obtain ⟨z7, hz7, h⟩ := bs h
  refine lq (q_sstLH Str_9 rfl rfl rfl hz7) rfl <| lq (q_build (vs := [(0, iV 5), (2, .string z7)]) (C := #[iV 5, iV 0, .string z7]) Pl_77 Zr_77 rfl (fill_cons (C' := [iV 5, iV 0, .string ⟨#[]⟩]) rfl rfl rfl rfl rfl (fill_cons (C' := [iV 5, iV 0, .string z7]) rfl rfl rfl rfl rfl (fill_nil)))) rfl <| lnz Zr_77 rfl fun b_6 => soN 0 Sz_77 rfl ⟨rfl, rfl, rfl, trivial⟩ rfl ?_
  refine en <| sq <| wm [0] [] rfl <| amm 3 [0, 3, 1, 2, 3] [0] rfl rfl ?_
  obtain ⟨x14, hx14, h⟩ := bs h
  refine on1 3 (mp rfl (kS [0]) (pcP rfl (m_i_TokenOk_ok N · (⟨5, 0, z7⟩ : TToken) hx14)) rfl ?_)
  refine on1 4 (msK 1 [0] rfl Sz_77 rfl ⟨rfl, rfl, rfl, trivial⟩ rfl rfl ?_)
  refine amm 2 [5, 6] [0] rfl rfl <| WM.nil (by kernel_rfl) ?_
  refine WT.ret hF (resOk.three (rv_cell Tn_77 rfl (fun w1 hw => hw.rgO (i := 1) rfl 0 3 [iV 5, iV 0, .string z7] rfl) rfl) rfl rfl) (fun w1 hw => ?_)
  cases h
  exact post_of_St hw
 refine ch h rfl ?_ ?_ <;> intro h
 ·refine att 5 [] rfl ?_
  exact wo [] [0] (K _ h)
 refine WT.skip ?_
 exact wo [] [0] (K _ h)
theorem m_i_Lex_ok  (w0 : Base Ψ Φ []) (p0 : ByteArray) (hT : Tab Ψ) {r : (List TToken) × Int} (h : m_i_Lex N p0 = some r) :
  Calls prog 18 [.string p0].toArray w0.w (PostG Φ w0.w [] (fun Φ' Fs v => ∃ (sr_0_0 : Value), v = .tuple #[sr_0_0, iV r.2] ∧ Fs = [ob sr_0_0] ∧ OSl RTToken 77 3 Φ' [] sr_0_0 r.1)) := by
 refine eN func18 rfl ntmps18 rfl w0 fun hF => ?_
 unfold m_i_Lex at h
 refine att 15 [] rfl <| wtS ?_
 have k1 := OSl.nil RTToken 77 3 Φ
 refine lin (σ := Hp × (List TToken) × Value × Int) (fun s => [(0, .string p0), (4, s.2.2.1), (5, iV s.2.2.2)]) (fun s => St w0 s.1 [] [ob s.2.2.1]) (fun m s => m_i_Lex_l1 N p0 m s.2.1 s.2.2.2 = some r ∧ (OSl RTToken 77 3 s.1 [] s.2.2.1 s.2.1)) (Φ, ([] : List TToken), (.slice none 0 0), 0) N ⟨h, k1⟩ (sx [0] []) (fun n1 ih1 s hm => ?_)
 obtain ⟨Φ_1, s1, u1, s2⟩ := s
 obtain ⟨h, k2⟩ := hm
 dsimp only at h k2 ⊢
 unfold m_i_Lex_l1 at h
 refine atr 5 [] rfl <| lq (q_lenS Str_9 rfl rfl) rfl <| la rfl <| en ?_
 refine ch h rfl ?_ ?_ <;> intro h
 ·refine atr 7 [] rfl ?_
  obtain ⟨y1, hy1, h⟩ := bs h
  refine lq (q_indexS Str_9 rfl rfl hy1) rfl <| art 8 [] rfl ?_
  refine cut (σ := Bool) (fun s => [(0, .string p0), (4, u1), (5, iV s2), (15, .int .u8 (y1.toNat : Int)), (16, .bool s)]) (fun s => St w0 Φ_1 [] [ob u1]) (fun s => m_i_Lex_j2 N p0 s1 s2 (m_i_Lex_l1 N p0 n1) y1 s = some r) (fun s hm => ?_) (fun K => ?_)
  ·clear h
   revert hm; revert s; intro s3 hm
   have h : m_i_Lex_j2 N p0 s1 s2 (m_i_Lex_l1 N p0 n1) y1 s3 = some r := hm
   show WT _ _ [(0, .string p0), (4, u1), (5, iV s2), (15, .int .u8 (y1.toNat : Int)), (16, .bool s3)] (St w0 Φ_1 [] [ob u1])
   unfold m_i_Lex_j2 at h
   refine ch h rfl ?_ ?_ <;> intro h
   ·refine att 7 [] rfl ?_
    exact lb [0] [] (ih1 (_, _, _, _) ⟨h, k2⟩)
   refine att 5 [] rfl ?_
   refine ch h rfl ?_ ?_ <;> intro h
   ·refine atr 4 [] rfl <| qc h (m_i_runEnd_ok N · p0 s2 (m_i_Lex_c1 N) Fun_55 (fun hle' hin a0 => fun hr => m_i_Lex_c1_ok N (ba hin) a0  hr) ·) rfl rfl rfl fun x1 h => art 3 [] rfl ?_
    exact lb [0] [] (ih1 (_, _, _, _) ⟨h, k2⟩)
   refine atr 6 [] rfl <| qd h (m_i_tokenAt_ok N · p0 s2 hT ·) rfl rfl rfl fun x2 h => arr 4 [] rfl <| lnz Zr_77 rfl fun b_1 => soN 0 Sz_77 rfl ⟨rfl, rfl, rfl, trivial⟩ rfl ?_
   refine arr 9 [] rfl ?_
   obtain ⟨b1, hb_1, h⟩ := bs h
   refine WL.cutN 4 [(41, .bool b1), (0, .string p0), (4, u1), (5, iV s2), (6, pQ b_1), (7, iV x2.2.1)] ?_ (fun K => ?_)
   rotate_left
   ·refine sp 37 hb_1 rfl (fun hb_1 => ?_) fun hb_1 => ?_
    ·refine arr 4 [] rfl ?_
     cases hb_1
     exact ku K
    ·refine ly rfl rfl <| la rfl <| ly rfl rfl <| lno k2 rfl <| arr 2 [] rfl ?_
     cases hb_1
     exact ku K
   refine en ?_
   refine ch h rfl ?_ ?_ <;> intro h
   ·refine att 6 [] rfl ?_
    refine WT.ret hF (resOk.two rfl rfl) (fun w1 hw => ?_)
    cases h
    replace hw := hw.addNil
    refine postG_of_St (js := [0]) hw rfl ⟨.slice none 0 0, rfl, rfl, OSl.nil _ _ _ _⟩
   refine atr 5 [3] rfl ?_
   have rc1 : RC RTToken 3 Φ_1 ([[]] : List (List Nat)) [iV x2.1.K, iV x2.1.N, .string x2.1.S] ([x2.1] : List TToken) := RC.cons (c := [iV x2.1.K, iV x2.1.N, .string x2.1.S]) (cells := []) ⟨rfl, rfl⟩ rfl (RC.nil _ _ _)
   refine le' (e_lit (vs := [(0, .agg [iV x2.1.K, iV x2.1.N, .string x2.1.S].toArray)]) (C := #[iV x2.1.K, iV x2.1.N, .string x2.1.S]) RTToken.lasts Sl_44 Zr_77 rfl rfl rfl rfl (fill_made MC_77_1 (fill_cons (C' := [iV x2.1.K, iV x2.1.N, .string x2.1.S]) rfl rfl rfl rfl rfl (fill_nil))) rfl rc1 rfl (by simpa using Kw.nil)) rfl ?_
   rintro v1 Φ_2 D1 ⟨fr1, h1⟩
   replace h1 : OSl RTToken 77 3 Φ_2 [] v1 ([x2.1] : List TToken) := by simpa using h1
   replace k2 := k2.f0 fr1
   obtain ⟨x3, hx3, h⟩ := bs h
   refine le' (e_appF RTToken.lasts RTToken.one RTToken.flat Sl_44 Ei_77 rfl rfl rfl rfl rfl (js := [1]) (Rr := [ob v1]) rfl k2 h1.rsl hx3) rfl ?_
   rintro v2 Φ_3 D2 ⟨⟨ap1, fr2⟩, h2⟩
   refine art 7 [] rfl ?_
   exact lb [0] [] (ih1 (_, _, _, _) ⟨h, h2⟩)
  refine ch h rfl ?_ ?_ <;> intro h
  ·refine WT.skip ?_
   exact wo [0] [] (K _ h)
  refine att 5 [] rfl ?_
  refine ch h rfl ?_ ?_ <;> intro h
  ·refine WT.skip ?_
   exact wo [0] [] (K _ h)
  refine att 5 [] rfl ?_
  refine ch h rfl ?_ ?_ <;> intro h
  ·refine WT.skip ?_
   exact wo [0] [] (K _ h)
  refine att 4 [] rfl ?_
  exact wo [0] [] (K _ h)
 refine att 7 [] rfl ?_
 exact rtg [0] hF (resOk.two rfl rfl) rfl (by cases h; exact fun w1 hw => ⟨u1, rfl, rfl, k2⟩)
theorem m_i_parser_next_ok (w0 : Base Ψ Φ []) (p0 : Tparser) (ph0_0 : RSl RTToken 3 Ψ pG0_0 pv0_0 p0.tokens) (pp0 : Ψ pb0 = some (.cells #[pv0_0, iV p0.at_, .bool p0.bad] 75 (0, 0))) {r : TToken} (h : m_i_parser_next N p0 = some r) :
  CB w0 prog 97 [pQ pb0] (.agg [iV r.K, iV r.N, .string r.S].toArray) := by
 refine eN func97 rfl ntmps97 rfl w0 fun hF => ?_
 unfold m_i_parser_next at h
 refine sr <| lnz Zr_77 rfl fun b_1 => art 3 [] rfl <| WT.draw mixed (by kernel_rfl) (fun _ h => h.drew) <| qq (q_move rfl) rfl <| qq (q_nilCheck rfl) rfl <| qq (q_fieldAddr Fld_75_2 rfl) rfl <| qq (q_load1 T1_4 rfl (fun w1 hw => ((rg_cells pp0).of_eq 2 1 rfl rfl : rg _ _ _ [.bool p0.bad]).rangeAt hw.in0)) rfl <| qq (q_move rfl) rfl ?_
 obtain ⟨b1, hb_1, h⟩ := bs h
 refine WQ.cutN 11 [(18, .bool b1), (0, pQ pb0), (2, pQ b_1)] ?_ (fun K => ?_)
 rotate_left
 ·refine WQ.split (d := 7) rfl (fun c1 => ?_) (fun c1 => ?_)
  ·replace hb_1 := ite_t hb_1 c1
   refine aqq 11 [] rfl ?_
   cases hb_1
   exact kq K
  ·replace hb_1 := ite_f hb_1 c1
   refine WQ.yes rfl rfl <| qq (q_move rfl) rfl <| WQ.yes rfl rfl <| qq (q_nilCheck rfl) rfl <| WQ.yes rfl rfl <| qq (q_fieldAddr Fld_75_1 rfl) rfl <| WQ.yes rfl rfl <| qq (q_load1 T1_3 rfl (fun w1 hw => ((rg_cells pp0).of_eq 1 1 rfl rfl : rg _ _ _ [iV p0.at_]).rangeAt hw.in0)) rfl <| WQ.yes rfl rfl <| qq (q_move rfl) rfl <| WQ.yes rfl rfl <| qq (q_nilCheck rfl) rfl <| WQ.yes rfl rfl <| qq (q_fieldAddr Fld_75_0 rfl) rfl <| WQ.yes rfl rfl <| qq (q_load1 T1_44 rfl (fun w1 hw => ((rg_cells pp0).of_eq 0 1 rfl rfl : rg _ _ _ [pv0_0]).rangeAt hw.in0)) rfl <| WQ.yes rfl rfl ?_
   refine qq (q_lenR Sl_44 rfl rfl ph0_0) rfl <| aqq 2 [] rfl ?_
   cases hb_1
   exact kq K
 refine WQ.nil ?_
 refine ch h rfl ?_ ?_ <;> intro h
 ·refine sr <| lq (q_build (vs := []) (C := #[iV 0, iV 0, .string (⟨#[]⟩ : ByteArray)]) Pl_77 Zr_77 rfl (fill_nil)) rfl <| soN 0 Sz_77 rfl ⟨rfl, rfl, rfl, trivial⟩ rfl ?_
  refine en ?_
  refine WT.ret hF (resOk.one (rv_cell Tn_77 rfl (fun w1 hw => hw.rgO (i := 0) rfl 0 3 [iV 0, iV 0, .string (⟨#[]⟩ : ByteArray)] rfl) rfl)) (fun w1 hw => ?_)
  cases h
  exact post_of_St hw
 refine att 2 [] rfl <| wm [0] [10] rfl <| amm 1 [0] [0] rfl rfl <| mq 1 rfl (by kernel_rfl) (kN [0]) (q_nilCheck rfl) rfl <| amm 1 [2, 0] [0] rfl rfl <| mq 3 rfl (by kernel_rfl) (kN [0]) (q_load1 T1_44 rfl (fun w1 hw => ((rg_cells pp0).of_eq 0 1 rfl rfl : rg _ _ _ [pv0_0]).rangeAt hw.1)) rfl <| amm 1 [4] [0] rfl rfl <| mq 5 rfl (by kernel_rfl) (kN [0]) (q_nilCheck rfl) rfl <| amm 1 [6, 1] [0] rfl rfl <| mq 7 rfl (by kernel_rfl) (kN [0]) (q_load1 T1_3 rfl (fun w1 hw => ((rg_cells pp0).of_eq 1 1 rfl rfl : rg _ _ _ [iV p0.at_]).rangeAt hw.1)) rfl ?_
 obtain ⟨x1, hx1, h⟩ := bs h
 obtain ⟨cs1, F1, -, g1, hb1, hs1, r1⟩ := ph0_0.el (idx_some hx1).2.2
 obtain ⟨rfl, -⟩ := r1
 refine mq 8 rfl (by kernel_rfl) (kN [0]) (q_indexAddr Sl_44 rfl rfl ph0_0 hx1) rfl <| mq 9 rfl (by kernel_rfl) (kN [0]) (q_loadN Tn_77 rfl (fun w1 hw => (g1.of_eq 0 3 rfl rfl : rg _ _ _ [iV x1.K, iV x1.N, .string x1.S]).rangeAt hw.1) rfl) rfl ?_
 refine on1 10 (msN 0 rfl nk Sz_77 rfl ⟨rfl, rfl, rfl, trivial⟩ rfl rfl ?_)
 refine WM.nil (by kernel_rfl) ?_
 refine WT.ret hF (resOk.one (rv_cell Tn_77 rfl (fun w1 hw => hw.rgO (i := 0) rfl 0 3 [iV x1.K, iV x1.N, .string x1.S] rfl) rfl)) (fun w1 hw => ?_)
 cases h
 exact post_of_St hw
theorem m_i_parser_is_ok (w0 : Base Ψ Φ []) (p0 : Tparser) (p1 : Int) (p2 : ByteArray) (ph0_0 : RSl RTToken 3 Ψ pG0_0 pv0_0 p0.tokens) (pp0 : Ψ pb0 = some (.cells #[pv0_0, iV p0.at_, .bool p0.bad] 75 (0, 0))) {r : Bool} (h : m_i_parser_is N p0 p1 p2 = some r) :
  CB w0 prog 154 [pQ pb0, iV p1, .string p2] (.bool r) := by
 refine eN func154 rfl ntmps154 rfl w0 fun hF => ?_
 unfold m_i_parser_is at h
 refine atr 7 [] rfl <| qd h (m_i_parser_next_ok N · p0 ph0_0 pp0 ·) rfl rfl rfl fun x1 h => arr 2 [] rfl <| lq (q_build (vs := [(0, iV p1), (2, .string p2)]) (C := #[iV p1, iV 0, .string p2]) Pl_77 Zr_77 rfl (fill_cons (C' := [iV p1, iV 0, .string ⟨#[]⟩]) rfl rfl rfl rfl rfl (fill_cons (C' := [iV p1, iV 0, .string p2]) rfl rfl rfl rfl rfl (fill_nil)))) rfl <| lq (q_eqA EqT_77 rfl rfl rfl (r := eqT_TToken x1 (⟨p1, 0, p2⟩ : TToken)) rfl) rfl <| la rfl <| en ?_
 exact rt hF h
theorem m_i_parser_skip_ok (w0 : Base Ψ Φ [[pb0]].flatten) (p0 : Tparser) (p1 : Int) (p2 : ByteArray) (ph0_0 : RSl RTToken 3 Ψ pG0_0 pv0_0 p0.tokens) (pp0 : Φ pb0 = some (.cells #[pv0_0, iV p0.at_, .bool p0.bad] 75 (0, 0))) {r : Bool × Tparser} (h : m_i_parser_skip N p0 p1 p2 = some r) :
  Calls prog 96 [pQ pb0, iV p1, .string p2].toArray w0.w (PostG Φ w0.w [[pb0]].flatten (fun Φ' Fs v => v = .bool r.1 ∧ Fs = [[pb0]] ∧ r.2.tokens = p0.tokens ∧ Φ' pb0 = some (.cells #[pv0_0, iV r.2.at_, .bool r.2.bad] 75 (0, 0)))) := by
 refine eL func96 rfl ntmps96 rfl (L := [[pb0]]) w0 (fun hF => ?_)
 unfold m_i_parser_skip at h
 refine atr 10 [] rfl <| qz h (fun b z q => m_i_parser_is_ok N b p0 p1 p2 (ph0_0.y z) pp0 q) rfl rfl rfl fun x1 h => la rfl <| en ?_
 refine ch h rfl ?_ ?_ <;> intro h
 ·refine att 4 [] rfl ?_
  exact rtg [0] hF (resOk.one rfl) rfl (by cases h; exact fun w1 hw => ⟨rfl, rfl, rfl, pp0⟩)
 refine atr 4 [] rfl <| lq (q_nilCheck rfl) rfl <| lf Fld_75_1 rfl rfl rfl <| lgx 1 0 (rg_cells pp0) rfl <| la rfl <| lq (q_nilCheck rfl) rfl <| lf Fld_75_1 rfl rfl rfl ?_
 refine WL.thw (js := [0]) (R := []) rfl pp0 (fun Φ_1 ap1 fr1 => ?_)
 refine so1 0 Sz_3 rfl rfl ?_
 refine art 5 [] rfl ?_
 refine WT.frz (js := [0]) (R := []) rfl (fun Φ_2 fr2 k1 => ?_)
 exact rtg [0] hF (resOk.one rfl) rfl (by cases h; exact fun w1 hw => ⟨rfl, rfl, rfl, k1⟩)
theorem m_i_parser_take_ok (w0 : Base Ψ Φ [[pb0]].flatten) (p0 : Tparser) (p1 : Int) (p2 : ByteArray) (ph0_0 : RSl RTToken 3 Ψ pG0_0 pv0_0 p0.tokens) (pp0 : Φ pb0 = some (.cells #[pv0_0, iV p0.at_, .bool p0.bad] 75 (0, 0))) {r : Tparser} (h : m_i_parser_take N p0 p1 p2 = some r) :
  Calls prog 46 [pQ pb0, iV p1, .string p2].toArray w0.w (PostG Φ w0.w [[pb0]].flatten (fun Φ' Fs v => v = .tuple #[] ∧ Fs = [[pb0]] ∧ r.tokens = p0.tokens ∧ Φ' pb0 = some (.cells #[pv0_0, iV r.at_, .bool r.bad] 75 (0, 0)))) := by
 refine eL func46 rfl ntmps46 rfl (L := [[pb0]]) w0 (fun hF => ?_)
 unfold m_i_parser_take at h
 refine atr 5 [] rfl <| kcb [0] h rfl rfl rfl rfl (fun b ap z q => m_i_parser_skip_ok N b p0 p1 p2 (ph0_0.y z) pp0 q) ?_
 rintro x1 h v1 Φ_1 F1 ⟨ap1, fr1, rfl, rfl, e1, h1⟩
 refine la rfl <| en ?_
 refine ch h rfl ?_ ?_ <;> intro h
 ·refine atr 2 [] rfl <| lq (q_nilCheck rfl) rfl <| lf Fld_75_2 rfl rfl rfl ?_
  refine WL.thw (js := [0]) (R := []) rfl h1 (fun Φ_2 ap2 fr2 => ?_)
  refine so1 0 Sz_4 rfl rfl ?_
  refine en ?_
  refine WT.frz (js := [0]) (R := []) rfl (fun Φ_3 fr3 k1 => ?_)
  refine WT.fin hF resOk.none (fun w1 hw => ?_)
  cases h
  refine postG_of_St (js := [0]) hw rfl ⟨rfl, rfl, rfl, k1⟩
 refine WT.skip ?_
 refine WT.fin hF resOk.none (fun w1 hw => ?_)
 cases h
 refine postG_of_St (js := [0]) hw rfl ⟨rfl, rfl, rfl, h1⟩
theorem m_i_parser_word_ok (w0 : Base Ψ Φ [[pb0]].flatten) (p0 : Tparser) (p1 : Int) (ph0_0 : RSl RTToken 3 Ψ pG0_0 pv0_0 p0.tokens) (pp0 : Φ pb0 = some (.cells #[pv0_0, iV p0.at_, .bool p0.bad] 75 (0, 0))) {r : TToken × Tparser} (h : m_i_parser_word N p0 p1 = some r) :
  Calls prog 47 [pQ pb0, iV p1].toArray w0.w (PostG Φ w0.w [[pb0]].flatten (fun Φ' Fs v => v = .agg [iV r.1.K, iV r.1.N, .string r.1.S].toArray ∧ Fs = [[pb0]] ∧ r.2.tokens = p0.tokens ∧ Φ' pb0 = some (.cells #[pv0_0, iV r.2.at_, .bool r.2.bad] 75 (0, 0)))) := by
 refine eL func47 rfl ntmps47 rfl (L := [[pb0]]) w0 (fun hF => ?_)
 unfold m_i_parser_word at h
 refine sr <| lnz Zr_77 rfl fun b_1 => arr 4 [] rfl <| qz h (fun b z q => m_i_parser_next_ok N b p0 (ph0_0.y z) pp0 q) rfl rfl rfl fun x1 h => lnz Zr_77 rfl fun b_2 => soN 0 Sz_77 rfl ⟨rfl, rfl, rfl, trivial⟩ rfl ?_
 refine art 9 [0, 0] rfl ?_
 refine ch h rfl ?_ ?_ <;> intro h
 ·refine sr <| la rfl <| lq (q_nilCheck rfl) rfl <| lf Fld_75_2 rfl rfl rfl ?_
  refine WL.thw (js := [0]) (R := []) rfl pp0 (fun Φ_1 ap1 fr1 => ?_)
  refine so1 0 Sz_4 rfl rfl ?_
  refine en <| sr <| lq (q_build (vs := []) (C := #[iV 0, iV 0, .string (⟨#[]⟩ : ByteArray)]) Pl_77 Zr_77 rfl (fill_nil)) rfl <| soN 2 Sz_77 rfl ⟨rfl, rfl, rfl, trivial⟩ rfl ?_
  refine en ?_
  refine WT.frz (js := [0]) (R := [(b_2, .cells #[iV x1.K, iV x1.N, .string x1.S] 77 (0, 0)), (b_1, .cells #[iV 0, iV 0, .string (⟨#[]⟩ : ByteArray)] 77 (0, 0))]) rfl (fun Φ_2 fr2 k1 => ?_)
  exact rtg [0] hF (resOk.one (rv_cell Tn_77 rfl (fun w1 hw => hw.rgO (i := 1) rfl 0 3 [iV 0, iV 0, .string (⟨#[]⟩ : ByteArray)] rfl) rfl)) rfl (by cases h; exact fun w1 hw => ⟨rfl, rfl, rfl, k1⟩)
 refine atr 4 [] rfl <| lq (q_nilCheck rfl) rfl <| lf Fld_75_1 rfl rfl rfl <| lgx 1 0 (rg_cells pp0) rfl <| la rfl <| lq (q_nilCheck rfl) rfl <| lf Fld_75_1 rfl rfl rfl ?_
 refine WL.thw (js := [0]) (R := []) rfl pp0 (fun Φ_3 ap2 fr3 => ?_)
 refine so1 0 Sz_3 rfl rfl ?_
 refine arr 4 [35] rfl <| soN 2 Sz_77 rfl ⟨rfl, rfl, rfl, trivial⟩ rfl ?_
 refine en ?_
 refine WT.frz (js := [0]) (R := [(b_2, .cells #[iV x1.K, iV x1.N, .string x1.S] 77 (0, 0)), (b_1, .cells #[iV x1.K, iV x1.N, .string x1.S] 77 (0, 0))]) rfl (fun Φ_4 fr4 k2 => ?_)
 exact rtg [0] hF (resOk.one (rv_cell Tn_77 rfl (fun w1 hw => hw.rgO (i := 1) rfl 0 3 [iV x1.K, iV x1.N, .string x1.S] rfl) rfl)) rfl (by cases h; exact fun w1 hw => ⟨rfl, rfl, rfl, k2⟩)
theorem m_i_parser_number_ok (w0 : Base Ψ Φ [[pb0]].flatten) (p0 : Tparser) (ph0_0 : RSl RTToken 3 Ψ pG0_0 pv0_0 p0.tokens) (pp0 : Φ pb0 = some (.cells #[pv0_0, iV p0.at_, .bool p0.bad] 75 (0, 0))) {r : Int × Tparser} (h : m_i_parser_number N p0 = some r) :
  Calls prog 98 [pQ pb0].toArray w0.w (PostG Φ w0.w [[pb0]].flatten (fun Φ' Fs v => v = iV r.1 ∧ Fs = [[pb0]] ∧ r.2.tokens = p0.tokens ∧ Φ' pb0 = some (.cells #[pv0_0, iV r.2.at_, .bool r.2.bad] 75 (0, 0)))) := by
 refine eL func98 rfl ntmps98 rfl (L := [[pb0]]) w0 (fun hF => ?_)
 unfold m_i_parser_number at h
 refine atr 8 [] rfl <| kcb [0] h rfl rfl rfl rfl (fun b ap z q => m_i_parser_skip_ok N b p0 5 (⟨#[45]⟩ : ByteArray) (ph0_0.y z) pp0 q) ?_
 rintro x1 h v1 Φ_1 F1 ⟨ap1, fr1, rfl, rfl, e1, h1⟩
 refine en ?_
 refine ch h rfl ?_ ?_ <;> intro h
 ·refine sr <| la rfl <| kcb [0] h rfl rfl rfl rfl (fun b ap z q => m_i_parser_word_ok N b (⟨p0.tokens, x1.2.at_, x1.2.bad⟩ : Tparser) 1 (ph0_0.y z) h1 q) ?_
  rintro x2 h v2 Φ_2 F2 ⟨ap2, fr2, rfl, rfl, e2, h2⟩
  refine lq (q_field1 Fd1_77_1 rfl rfl) rfl <| lq (q_neg rfl) rfl <| la rfl <| en ?_
  exact rtg [0] hF (resOk.one rfl) rfl (by cases h; exact fun w1 hw => ⟨rfl, rfl, rfl, h2⟩)
 refine atr 4 [] rfl <| kcb [0] h rfl rfl rfl rfl (fun b ap z q => m_i_parser_word_ok N b (⟨p0.tokens, x1.2.at_, x1.2.bad⟩ : Tparser) 1 (ph0_0.y z) h1 q) ?_
 rintro x3 h v3 Φ_3 F3 ⟨ap3, fr3, rfl, rfl, e3, h3⟩
 refine lq (q_field1 Fd1_77_1 rfl rfl) rfl <| la rfl <| en ?_
 exact rtg [0] hF (resOk.one rfl) rfl (by cases h; exact fun w1 hw => ⟨rfl, rfl, rfl, h3⟩)
theorem m_i_parser_arg_ok (w0 : Base Ψ Φ [[pb0]].flatten) (p0 : Tparser) (ph0_0 : RSl RTToken 3 Ψ pG0_0 pv0_0 p0.tokens) (pp0 : Φ pb0 = some (.cells #[pv0_0, iV p0.at_, .bool p0.bad] 75 (0, 0))) {r : TArg × Tparser} (h : m_i_parser_arg N p0 = some r) :
  Calls prog 157 [pQ pb0].toArray w0.w (PostG Φ w0.w [[pb0]].flatten (fun Φ' Fs v => v = .agg [iV r.1.K, .string r.1.S, iV r.1.V.K, iV r.1.V.N, .string r.1.V.S].toArray ∧ Fs = [[pb0]] ∧ r.2.tokens = p0.tokens ∧ Φ' pb0 = some (.cells #[pv0_0, iV r.2.at_, .bool r.2.bad] 75 (0, 0)))) := by
 refine eL func157 rfl ntmps157 rfl (L := [[pb0]]) w0 (fun hF => ?_)
 unfold m_i_parser_arg at h
 refine sr <| lnz Zr_60 rfl fun b_1 => arr 4 [] rfl <| qz h (fun b z q => m_i_parser_next_ok N b p0 (ph0_0.y z) pp0 q) rfl rfl rfl fun x1 h => lnz Zr_77 rfl fun b_2 => soN 0 Sz_77 rfl ⟨rfl, rfl, rfl, trivial⟩ rfl ?_
 refine art 10 [0, 0] rfl ?_
 refine ch h rfl ?_ ?_ <;> intro h
 ·refine sr <| la rfl <| lq (q_nilCheck rfl) rfl <| lf Fld_75_1 rfl rfl rfl <| lgx 1 0 (rg_cells pp0) rfl <| la rfl <| lq (q_nilCheck rfl) rfl <| lf Fld_75_1 rfl rfl rfl ?_
  refine WL.thw (js := [0]) (R := []) rfl pp0 (fun Φ_1 ap1 fr1 => ?_)
  refine so1 0 Sz_3 rfl rfl ?_
  refine arr 5 [2, 32] rfl <| lq (q_build (vs := [(0, iV 1), (1, .string x1.S)]) (C := #[iV 1, .string x1.S, iV 0, iV 0, .string (⟨#[]⟩ : ByteArray)]) Pl_60 Zr_60 rfl (fill_cons (C' := [iV 1, .string ⟨#[]⟩, iV 0, iV 0, .string ⟨#[]⟩]) rfl rfl rfl rfl rfl (fill_cons (C' := [iV 1, .string x1.S, iV 0, iV 0, .string ⟨#[]⟩]) rfl rfl rfl rfl rfl (fill_nil)))) rfl <| soN 2 Sz_60 rfl ⟨rfl, rfl, rfl, rfl, rfl, trivial⟩ rfl ?_
  refine en ?_
  refine WT.frz (js := [0]) (R := [(b_2, .cells #[iV x1.K, iV x1.N, .string x1.S] 77 (0, 0)), (b_1, .cells #[iV 1, .string x1.S, iV 0, iV 0, .string (⟨#[]⟩ : ByteArray)] 60 (0, 0))]) rfl (fun Φ_2 fr2 k1 => ?_)
  exact rtg [0] hF (resOk.one (rv_cell Tn_60 rfl (fun w1 hw => hw.rgO (i := 1) rfl 0 5 [iV 1, .string x1.S, iV 0, iV 0, .string (⟨#[]⟩ : ByteArray)] rfl) rfl)) rfl (by cases h; exact fun w1 hw => ⟨rfl, rfl, rfl, k1⟩)
 refine att 7 [0, 0] rfl ?_
 refine ch h rfl ?_ ?_ <;> intro h
 ·refine sr <| la rfl <| lq (q_nilCheck rfl) rfl <| lf Fld_75_1 rfl rfl rfl <| lgx 1 0 (rg_cells pp0) rfl <| la rfl <| lq (q_nilCheck rfl) rfl <| lf Fld_75_1 rfl rfl rfl ?_
  refine WL.thw (js := [0]) (R := []) rfl pp0 (fun Φ_3 ap2 fr3 => ?_)
  refine so1 0 Sz_3 rfl rfl ?_
  refine arr 5 [2, 32] rfl <| lq (q_build (vs := [(0, iV 2), (2, .string x1.S)]) (C := #[iV 2, iV 0, .string x1.S]) Pl_58 Zr_58 rfl (fill_cons (C' := [iV 2, iV 0, .string ⟨#[]⟩]) rfl rfl rfl rfl rfl (fill_cons (C' := [iV 2, iV 0, .string x1.S]) rfl rfl rfl rfl rfl (fill_nil)))) rfl ?_
  refine lq (q_build (vs := [(0, iV 2), (2, .agg [iV 2, iV 0, .string x1.S].toArray)]) (C := #[iV 2, .string (⟨#[]⟩ : ByteArray), iV 2, iV 0, .string x1.S]) Pl_60 Zr_60 rfl (fill_cons (C' := [iV 2, .string ⟨#[]⟩, iV 0, iV 0, .string ⟨#[]⟩]) rfl rfl rfl rfl rfl (fill_cons (C' := [iV 2, .string ⟨#[]⟩, iV 2, iV 0, .string x1.S]) rfl rfl rfl rfl rfl (fill_nil)))) rfl <| soN 2 Sz_60 rfl ⟨rfl, rfl, rfl, rfl, rfl, trivial⟩ rfl ?_
  refine en ?_
  refine WT.frz (js := [0]) (R := [(b_2, .cells #[iV x1.K, iV x1.N, .string x1.S] 77 (0, 0)), (b_1, .cells #[iV 2, .string (⟨#[]⟩ : ByteArray), iV 2, iV 0, .string x1.S] 60 (0, 0))]) rfl (fun Φ_4 fr4 k2 => ?_)
  exact rtg [0] hF (resOk.one (rv_cell Tn_60 rfl (fun w1 hw => hw.rgO (i := 1) rfl 0 5 [iV 2, .string (⟨#[]⟩ : ByteArray), iV 2, iV 0, .string x1.S] rfl) rfl)) rfl (by cases h; exact fun w1 hw => ⟨rfl, rfl, rfl, k2⟩)
 refine sr <| la rfl <| kcb [0] h rfl rfl rfl rfl (fun b ap z q => m_i_parser_skip_ok N b p0 5 (⟨#[95]⟩ : ByteArray) (ph0_0.y z) pp0 q) ?_
 rintro x2 h v1 Φ_5 F1 ⟨ap3, fr5, rfl, rfl, e1, h1⟩
 refine la rfl <| en ?_
 refine ch h rfl ?_ ?_ <;> intro h
 ·refine sr <| lq (q_build (vs := [(0, iV 3)]) (C := #[iV 3, .string (⟨#[]⟩ : ByteArray), iV 0, iV 0, .string (⟨#[]⟩ : ByteArray)]) Pl_60 Zr_60 rfl (fill_cons (C' := [iV 3, .string ⟨#[]⟩, iV 0, iV 0, .string ⟨#[]⟩]) rfl rfl rfl rfl rfl (fill_nil))) rfl <| soN 1 Sz_60 rfl ⟨rfl, rfl, rfl, rfl, rfl, trivial⟩ rfl ?_
  refine en ?_
  exact rtg [0] hF (resOk.one (rv_cell Tn_60 rfl (fun w1 hw => hw.rgO (i := 1) rfl 0 5 [iV 3, .string (⟨#[]⟩ : ByteArray), iV 0, iV 0, .string (⟨#[]⟩ : ByteArray)] rfl) rfl)) rfl (by cases h; exact fun w1 hw => ⟨rfl, rfl, rfl, h1⟩)
 refine atr 5 [] rfl <| kcb [0] h rfl rfl rfl rfl (fun b ap z q => m_i_parser_number_ok N b (⟨p0.tokens, x2.2.at_, x2.2.bad⟩ : Tparser) (ph0_0.y z) h1 q) ?_
 rintro x3 h v2 Φ_6 F2 ⟨ap4, fr6, rfl, rfl, e2, h2⟩
 refine lq (q_build (vs := [(0, iV 1), (1, iV x3.1)]) (C := #[iV 1, iV x3.1, .string (⟨#[]⟩ : ByteArray)]) Pl_58 Zr_58 rfl (fill_cons (C' := [iV 1, iV 0, .string ⟨#[]⟩]) rfl rfl rfl rfl rfl (fill_cons (C' := [iV 1, iV x3.1, .string ⟨#[]⟩]) rfl rfl rfl rfl rfl (fill_nil)))) rfl ?_
 refine lq (q_build (vs := [(0, iV 2), (2, .agg [iV 1, iV x3.1, .string (⟨#[]⟩ : ByteArray)].toArray)]) (C := #[iV 2, .string (⟨#[]⟩ : ByteArray), iV 1, iV x3.1, .string (⟨#[]⟩ : ByteArray)]) Pl_60 Zr_60 rfl (fill_cons (C' := [iV 2, .string ⟨#[]⟩, iV 0, iV 0, .string ⟨#[]⟩]) rfl rfl rfl rfl rfl (fill_cons (C' := [iV 2, .string ⟨#[]⟩, iV 1, iV x3.1, .string (⟨#[]⟩ : ByteArray)]) rfl rfl rfl rfl rfl (fill_nil)))) rfl <| soN 1 Sz_60 rfl ⟨rfl, rfl, rfl, rfl, rfl, trivial⟩ rfl ?_
 refine en ?_
 exact rtg [0] hF (resOk.one (rv_cell Tn_60 rfl (fun w1 hw => hw.rgO (i := 1) rfl 0 5 [iV 2, .string (⟨#[]⟩ : ByteArray), iV 1, iV x3.1, .string (⟨#[]⟩ : ByteArray)] rfl) rfl)) rfl (by cases h; exact fun w1 hw => ⟨rfl, rfl, rfl, h2⟩)
end Go.Proofs.YteipbimepilcfaaGreatDoor
