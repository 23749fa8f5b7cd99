/- Printed by a program of ours: each Go function computes its Lean function. -/
import Derived.Test.YteipbimepilcfaaGreatDoorProg
import Derived.Test.YteipbimepilcfaaGreatDoorWDefsWalk5
namespace Go.Proofs.YteipbimepilcfaaGreatDoor
open Eng Tryz
open Go.RowKit (Below)
set_option linter.unusedVariables false
set_option linter.unusedSimpArgs false

set_option maxRecDepth 100000
set_option maxHeartbeats 1000000
variable {Ψ Φ : Hp} {pv0_0 pv0_1 pv0_2 pv0 pv1 pv1_0 pv1_1 pv1_2 : Value} {pG0_0 pG0_1 pG0_2 pG0 pG1 pG1_0 pG1_1 pG1_2 : List Nat} (N : Nat)
theorem m_s_DefOk_ok (w0 : Base Ψ Φ []) (p0 : TDef) (ph0_0 : RSl RTRule 5 Ψ pG0_0 pv0_0 p0.Rules) {r : Bool} (h : m_s_DefOk N p0 = some r) :
  CB w0 prog 16 [.agg [.string p0.Name, pv0_0].toArray] (.bool r) := by
 refine eN func16 rfl ntmps16 rfl w0 fun hF => ?_
 unfold m_s_DefOk at h
 refine sr <| lbx rfl fun b_1 => art 8 [] rfl ?_
 refine lin (σ := Int) (fun s => [(1, pQ b_1), (3, iV s)]) (fun s => St w0 Φ [(b_1, .cells #[.string p0.Name, pv0_0] 38 (0, 0))] []) (fun m s => m_s_DefOk_l1 N p0 m s = some r) (0) N h (sx [] [0]) (fun n1 ih1 s hm => ?_)
 revert hm; revert s; intro s1 hm
 have h : m_s_DefOk_l1 N p0 (n1 + 1) s1 = some r := hm
 show WT _ _ [(1, pQ b_1), (3, iV s1)] (St w0 Φ [(b_1, .cells #[.string p0.Name, pv0_0] 38 (0, 0))] [])
 unfold m_s_DefOk_l1 at h
 refine atr 6 [1, 0] rfl <| lnr ph0_0 rfl <| la rfl <| en ?_
 refine ch h rfl ?_ ?_ <;> intro h
 ·refine att 4 [] rfl <| WT.draw mixed (by kernel_rfl) (fun _ h => h.drew) <| aqq 3 [1, 0] rfl ?_
  obtain ⟨x1, hx1, h⟩ := bs h
  obtain ⟨cs1, F1, -, g1, hb1, hs1, r1⟩ := ph0_0.el (idx_some hx1).2.2
  obtain ⟨v1, G1, v2, G2, v3, G3, rfl, rfl, h1, h2, h3⟩ := r1
  refine qq (q_indexAddr Sl_36 rfl rfl ph0_0 hx1) rfl <| qq (q_loadN Tn_28 rfl (fun w1 hw => (g1.of_eq 0 5 rfl rfl : rg _ _ _ [.string x1.Name, iV x1.Sal, v1, v2, v3]).rangeAt hw.in0) rfl) rfl ?_
  obtain ⟨x2, hx2, h⟩ := bs h
  refine qp (p_call Fun_11 rfl (fun w1 hw => m_s_RuleOk_ok N (ba hw.in0) x1 h1 h2 h3 hx2)) rfl <| aqq 2 [] rfl ?_
  obtain ⟨b1, hb_1, h⟩ := bs h
  refine WQ.cutN 11 [(29, .bool b1), (1, pQ b_1), (3, iV s1)] ?_ (fun K => ?_)
  rotate_left
  ·refine WQ.split (d := 18) rfl (fun c2 => ?_) (fun c2 => ?_)
   ·replace hb_1 := ite_t hb_1 c2
    refine aqq 11 [] rfl ?_
    cases hb_1
    exact kq K
   ·replace hb_1 := ite_f hb_1 c2
    refine aqq 4 [2, 1, 0] rfl <| WQ.yes rfl rfl ?_
    obtain ⟨x3, hx3, hb_1⟩ := bs hb_1
    obtain ⟨cs2, F2, -, g2, hb2, hs2, r2⟩ := ph0_0.el (idx_some hx3).2.2
    obtain ⟨v4, G4, v5, G5, v6, G6, rfl, rfl, h4, h5, h6⟩ := r2
    refine qq (q_indexAddr Sl_36 rfl rfl ph0_0 hx3) rfl <| WQ.yes rfl rfl <| qq (q_fieldAddr Fld_28_0 rfl) rfl <| WQ.yes rfl rfl <| qq (q_load1 T1_9 rfl (fun w1 hw => (g2.of_eq 0 1 rfl rfl : rg _ _ _ [.string x3.Name]).rangeAt hw.in0)) rfl <| WQ.yes rfl rfl ?_
    obtain ⟨x4, hx4, hb_1⟩ := bs hb_1
    refine qp (p_call Fun_53 rfl (fun w1 hw => m_s_RuleAt_ok N (ba hw.in0) p0 x3.Name ph0_0 hx4)) rfl <| aqq 3 [] rfl ?_
    cases hb_1
    exact kq K
  refine WQ.nil ?_
  refine ch h rfl ?_ ?_ <;> intro h
  ·refine att 4 [] rfl ?_
   exact rt hF h
  refine att 7 [] rfl ?_
  exact lb [] [0] (ih1 _ h)
 refine atr 5 [0, 0] rfl <| qc h (m_s_NameOk_ok N · p0.Name ·) rfl rfl rfl fun x5 h => la rfl ?_
 obtain ⟨b2, hb_2, h⟩ := bs h
 refine WL.cutN 5 [(38, .bool b2)] ?_ (fun K => ?_)
 rotate_left
 ·refine sp 33 hb_2 rfl (fun hb_2 => ?_) fun hb_2 => ?_
  ·refine arr 2 [1, 0] rfl <| ly rfl rfl <| lnr ph0_0 rfl <| ly rfl rfl <| qc hb_2 (m_s_l1In_ok N · (p0.Rules.length : Int) 1 12 ·) rfl rfl rfl fun x6 hb_2 => la rfl ?_
   cases hb_2
   exact ku K
  ·refine arr 5 [] rfl ?_
   cases hb_2
   exact ku K
 refine la rfl <| en ?_
 exact rt hF h
theorem m_s_l2Num_ok (N : Nat) : ∀ {Ψ Φ : Hp}  (w0 : Base Ψ Φ []) (p0 : Int)  {r : ByteArray} (h : m_s_l2Num N p0 = some r),
  CB w0 prog 111 [iV p0] (.string r) := by
 induction N with
 | zero => intros; rename_i h; simp [m_s_l2Num] at h
 | succ N ih =>
 intro Ψ Φ w0 p0 r h
 refine eN func111 rfl ntmps111 rfl w0 fun hF => ?_
 unfold m_s_l2Num at h
 refine att 12 [] rfl ?_
 refine ch h rfl ?_ ?_ <;> intro h
 ·refine sr <| la rfl <| lq (q_neg rfl) rfl <| qc h (ih · (wz (0 - p0)) ·) rfl rfl rfl fun x1 h => ?_
  obtain ⟨z1, hz1, h⟩ := bs h
  refine lq (q_cat rfl rfl hz1) rfl <| la rfl <| en ?_
  exact rt hF h
 refine att 6 [] rfl ?_
 refine ch h rfl ?_ ?_ <;> intro h
 ·refine atr 4 [] rfl <| lq (q_convI Ik_3 Ik_5 rfl) rfl ?_
  have rc1 : RC (RI .u8) 1 Φ ([[]] : List (List Nat)) [.int .u8 (IntKind.u8.wrap (wz (48 + p0)))] ([(IntKind.u8.wrap (wz (48 + p0)))] : List Int) := RC.cons (c := [.int .u8 (IntKind.u8.wrap (wz (48 + p0)))]) (cells := []) ⟨rfl, rfl⟩ rfl (RC.nil _ _ _)
  refine le' (e_lit (vs := [(0, .int .u8 (IntKind.u8.wrap (wz (48 + p0))))]) (C := #[.int .u8 (IntKind.u8.wrap (wz (48 + p0)))]) RI.lasts Sl_22 Zr_5 rfl rfl rfl rfl (fill_made MC_5_1 (fill_cons (C' := [.int .u8 (IntKind.u8.wrap (wz (48 + p0)))]) rfl rfl rfl rfl rfl (fill_nil))) rfl rc1 rfl (by simpa using Kw.nil)) rfl ?_
  rintro v1 Φ_1 D1 ⟨fr1, h1⟩
  replace h1 : OSl (RI .u8) 5 1 Φ_1 [] v1 ([(IntKind.u8.wrap (wz (48 + p0)))] : List Int) := by simpa using h1
  refine lq (q_convB Sl_22 Ik_5 Str_9 rfl (fun w1 hw => h1.rsl)) rfl <| la rfl <| en ?_
  exact rt hF h
 refine att 3 [] rfl ?_
 refine cut (σ := Hp × ByteArray) (fun s => [(2, .string s.2)]) (fun s => St w0 s.1 [] []) (fun s => m_s_l2Num_j1 N s.2 = some r) (fun s hm => ?_) (fun K => ?_)
 ·clear h
  obtain ⟨Φ_3, s1⟩ := s
  have h : m_s_l2Num_j1 N s1 = some r := hm
  show WT _ _ [(2, .string s1)] (St w0 Φ_3 [] [])
  unfold m_s_l2Num_j1 at h
  exact rt hF h
 refine wm [] [] rfl <| amm 1 [0] [] rfl rfl <| mq 1 rfl (by kernel_rfl) (kN []) (q_quo rfl rfl (by decide)) rfl <| amm 1 [3] [] rfl rfl <| mq 4 rfl (by kernel_rfl) (kN []) (q_rem rfl rfl (by decide)) rfl <| amm 1 [5] [] rfl rfl <| mq 6 rfl (by kernel_rfl) (kN []) (q_convI Ik_3 Ik_5 rfl) rfl ?_
 refine WM.two 2 7 (by kernel_rfl) ?_ ?_
 ·obtain ⟨x3, hx3, h⟩ := bs h
  refine mp rfl (fun _ w1 hw => Kn.of Kf.nil aN hw) (p_call Fun_111 rfl (fun w1 hw => ih (ba hw.fro) (wz (p0.tdiv 10)) hx3)) rfl ?_
  have rc3 : RC (RI .u8) 1 Φ ([[]] : List (List Nat)) [.int .u8 (IntKind.u8.wrap (wz (48 + (p0.tmod 10))))] ([(IntKind.u8.wrap (wz (48 + (p0.tmod 10))))] : List Int) := RC.cons (c := [.int .u8 (IntKind.u8.wrap (wz (48 + (p0.tmod 10))))]) (cells := []) ⟨rfl, rfl⟩ rfl (RC.nil _ _ _)
  refine WM.one 7 (by kernel_rfl) (me rfl (fun _ v Φx D w1 hq hw => Kn.of Kf.nil aN hw) (e_lit (vs := [(0, .int .u8 (IntKind.u8.wrap (wz (48 + (p0.tmod 10)))))]) (C := #[.int .u8 (IntKind.u8.wrap (wz (48 + (p0.tmod 10))))]) RI.lasts Sl_22 Zr_5 rfl rfl rfl rfl (fill_made MC_5_1 (fill_cons (C' := [.int .u8 (IntKind.u8.wrap (wz (48 + (p0.tmod 10))))]) rfl rfl rfl rfl rfl (fill_nil))) rfl rc3 rfl (by simpa using Kw.nil)) rfl ?_)
  rintro v3 Φ_4 D3 ⟨fr3, h3⟩
  replace h3 : OSl (RI .u8) 5 1 Φ_4 [] v3 ([(IntKind.u8.wrap (wz (48 + (p0.tmod 10))))] : List Int) := by simpa using h3
  refine on1 8 (mv rfl (kS []) (q_convB Sl_22 Ik_5 Str_9 rfl (fun w1 hw => h3.rsl)) rfl ?_)
  obtain ⟨z3, hz3, h⟩ := bs h
  refine mq 9 rfl (by kernel_rfl) (kN []) (q_cat rfl rfl hz3) rfl <| amm 1 [10] [] rfl rfl <| WM.nil (by kernel_rfl) ?_
  exact wo [] [] (K (_, _) h)
 have rc4 : RC (RI .u8) 1 Φ ([[]] : List (List Nat)) [.int .u8 (IntKind.u8.wrap (wz (48 + (p0.tmod 10))))] ([(IntKind.u8.wrap (wz (48 + (p0.tmod 10))))] : List Int) := RC.cons (c := [.int .u8 (IntKind.u8.wrap (wz (48 + (p0.tmod 10))))]) (cells := []) ⟨rfl, rfl⟩ rfl (RC.nil _ _ _)
 refine me rfl (fun _ v Φx D w1 hq hw => Kn.of Kf.nil aN hw) (e_lit (vs := [(0, .int .u8 (IntKind.u8.wrap (wz (48 + (p0.tmod 10)))))]) (C := #[.int .u8 (IntKind.u8.wrap (wz (48 + (p0.tmod 10))))]) RI.lasts Sl_22 Zr_5 rfl rfl rfl rfl (fill_made MC_5_1 (fill_cons (C' := [.int .u8 (IntKind.u8.wrap (wz (48 + (p0.tmod 10))))]) rfl rfl rfl rfl rfl (fill_nil))) rfl rc4 rfl (by simpa using Kw.nil)) rfl ?_
 rintro v4 Φ_5 D4 ⟨fr4, h4⟩
 replace h4 : OSl (RI .u8) 5 1 Φ_5 [] v4 ([(IntKind.u8.wrap (wz (48 + (p0.tmod 10))))] : List Int) := by simpa using h4
 refine WM.two 2 8 (by kernel_rfl) ?_ ?_
 ·obtain ⟨x4, hx4, h⟩ := bs h
  refine mp rfl (fun _ w1 hw => Kn.of Kf.nil aN hw) (p_call Fun_111 rfl (fun w1 hw => ih (ba hw.fro) (wz (p0.tdiv 10)) hx4)) rfl ?_
  refine on1 8 (mv rfl (kS []) (q_convB Sl_22 Ik_5 Str_9 rfl (fun w1 hw => h4.rsl)) rfl ?_)
  obtain ⟨z4, hz4, h⟩ := bs h
  refine mq 9 rfl (by kernel_rfl) (kN []) (q_cat rfl rfl hz4) rfl <| amm 1 [10] [] rfl rfl <| WM.nil (by kernel_rfl) ?_
  exact wo [] [] (K (_, _) h)
 refine mv rfl (fun _ w1 hw => Kn.of Kf.nil aN hw) (q_convB Sl_22 Ik_5 Str_9 rfl (fun w1 hw => h4.rsl)) rfl ?_
 obtain ⟨x5, hx5, h⟩ := bs h
 refine on1 2 (mp rfl (kS []) (pcP rfl (ih · (wz (p0.tdiv 10)) hx5)) rfl ?_)
 obtain ⟨z5, hz5, h⟩ := bs h
 refine mq 9 rfl (by kernel_rfl) (kN []) (q_cat rfl rfl hz5) rfl <| amm 1 [10] [] rfl rfl <| WM.nil (by kernel_rfl) ?_
 exact wo [] [] (K (_, _) h)
theorem m_s_l2Text_ok  (w0 : Base Ψ Φ []) (p0 : TVal)  {r : ByteArray} (h : m_s_l2Text N p0 = some r) :
  CB w0 prog 205 [.agg [iV p0.K, iV p0.N, .string p0.S].toArray] (.string r) := by
 refine eN func205 rfl ntmps205 rfl w0 fun hF => ?_
 unfold m_s_l2Text at h
 refine sr <| lbx rfl fun b_1 => art 9 [0, 0] rfl ?_
 refine ch h rfl ?_ ?_ <;> intro h
 ·refine atr 4 [1, 0] rfl <| qc h (m_s_l2Num_ok N · p0.N ·) rfl rfl rfl fun x1 h => la rfl <| en ?_
  exact rt hF h
 refine atr 5 [2, 0] rfl ?_
 obtain ⟨z1, hz1, h⟩ := bs h
 refine lq (q_cat rfl rfl hz1) rfl ?_
 obtain ⟨z2, hz2, h⟩ := bs h
 refine lq (q_cat rfl rfl hz2) rfl <| la rfl <| en ?_
 exact rt hF h
theorem m_s_l6ArgText_ok  (w0 : Base Ψ Φ []) (p0 : TArg)  {r : ByteArray} (h : m_s_l6ArgText N p0 = some r) :
  CB w0 prog 166 [.agg [iV p0.K, .string p0.S, iV p0.V.K, iV p0.V.N, .string p0.V.S].toArray] (.string r) := by
 refine eN func166 rfl ntmps166 rfl w0 fun hF => ?_
 unfold m_s_l6ArgText at h
 refine sr <| lbx rfl fun b_1 => art 14 [0, 0] rfl ?_
 refine ch h rfl ?_ ?_ <;> intro h
 ·refine att 6 [1, 0] rfl ?_
  exact rt hF h
 refine att 5 [] rfl ?_
 refine ch h rfl ?_ ?_ <;> intro h
 ·refine atr 4 [2, 3] rfl <| qc h (m_s_l2Text_ok N · p0.V ·) rfl rfl rfl fun x1 h => la rfl <| en ?_
  exact rt hF h
 refine att 6 [] rfl ?_
 exact rt hF h
theorem m_s_PatText_ok (w0 : Base Ψ Φ []) (p0 : TPat) (ph0_0 : RSl RTArg 5 Ψ pG0_0 pv0_0 p0.Args) {r : ByteArray} (h : m_s_PatText N p0 = some r) :
  CB w0 prog 112 [.agg [.string p0.Kind, pv0_0, .bool p0.Not].toArray] (.string r) := by
 refine eN func112 rfl ntmps112 rfl w0 fun hF => ?_
 unfold m_s_PatText at h
 refine sr <| lbx rfl fun b_1 => arr 6 [3] rfl <| qd h (m_s_PatOk_ok N · p0 ph0_0 ·) rfl rfl rfl fun x1 h => la rfl <| en ?_
 refine ch h rfl ?_ ?_ <;> intro h
 ·refine att 4 [] rfl ?_
  exact rt hF h
 refine atr 5 [0, 0] rfl ?_
 obtain ⟨z1, hz1, h⟩ := bs h
 refine lq (q_cat rfl rfl hz1) rfl <| art 8 [2, 0] rfl ?_
 refine cut (σ := ByteArray) (fun s => [(1, pQ b_1), (3, .string s)]) (fun s => St w0 Φ [(b_1, .cells #[.string p0.Kind, pv0_0, .bool p0.Not] 35 (0, 0))] []) (fun s => m_s_PatText_j1 N p0 s = some r) (fun s hm => ?_) (fun K => ?_)
 ·clear h
  revert hm; revert s; intro s1 hm
  have h : m_s_PatText_j1 N p0 s1 = some r := hm
  show WT _ _ [(1, pQ b_1), (3, .string s1)] (St w0 Φ [(b_1, .cells #[.string p0.Kind, pv0_0, .bool p0.Not] 35 (0, 0))] [])
  unfold m_s_PatText_j1 at h
  refine att 6 [] rfl ?_
  refine lin (σ := ByteArray × Int) (fun s => [(1, pQ b_1), (3, .string s.1), (4, iV s.2)]) (fun s => St w0 Φ [(b_1, .cells #[.string p0.Kind, pv0_0, .bool p0.Not] 35 (0, 0))] []) (fun m s => m_s_PatText_l2 N p0 m s.1 s.2 = some r) (s1, 0) N h (sx [] [0]) (fun n2 ih2 s hm => ?_)
  obtain ⟨s2, s3⟩ := s
  have h : m_s_PatText_l2 N p0 (n2 + 1) s2 s3 = some r := hm
  show WT _ _ [(1, pQ b_1), (3, .string s2), (4, iV s3)] (St w0 Φ [(b_1, .cells #[.string p0.Kind, pv0_0, .bool p0.Not] 35 (0, 0))] [])
  unfold m_s_PatText_l2 at h
  refine atr 6 [1, 0] rfl <| lnr ph0_0 rfl <| la rfl <| en ?_
  refine ch h rfl ?_ ?_ <;> intro h
  ·refine att 9 [] rfl ?_
   refine cut (σ := ByteArray) (fun s => [(1, pQ b_1), (3, .string s), (4, iV s3)]) (fun s => St w0 Φ [(b_1, .cells #[.string p0.Kind, pv0_0, .bool p0.Not] 35 (0, 0))] []) (fun s => m_s_PatText_j3 N p0 s3 (m_s_PatText_l2 N p0 n2) s = some r) (fun s hm => ?_) (fun K => ?_)
   ·clear h
    revert hm; revert s; intro s4 hm
    have h : m_s_PatText_j3 N p0 s3 (m_s_PatText_l2 N p0 n2) s4 = some r := hm
    show WT _ _ [(1, pQ b_1), (3, .string s4), (4, iV s3)] (St w0 Φ [(b_1, .cells #[.string p0.Kind, pv0_0, .bool p0.Not] 35 (0, 0))] [])
    unfold m_s_PatText_j3 at h
    refine atr 5 [1, 0] rfl ?_
    obtain ⟨x2, hx2, h⟩ := bs h
    obtain ⟨cs1, F1, -, g1, hb1, hs1, r1⟩ := ph0_0.el (idx_some hx2).2.2
    obtain ⟨rfl, -⟩ := r1
    refine lia ph0_0 hx2 rfl <| lhx 0 5 g1 rfl <| qc h (m_s_l6ArgText_ok N · x2 ·) rfl rfl rfl fun x3 h => ?_
    obtain ⟨z2, hz2, h⟩ := bs h
    refine lq (q_cat rfl rfl hz2) rfl <| art 8 [] rfl ?_
    exact lb [] [0] (ih2 (_, _) h)
   refine ch h rfl ?_ ?_ <;> intro h
   ·refine atr 2 [] rfl ?_
    obtain ⟨z3, hz3, h⟩ := bs h
    refine lq (q_cat rfl rfl hz3) rfl <| la rfl <| en ?_
    exact wo [] [0] (K _ h)
   refine WT.skip ?_
   exact wo [] [0] (K _ h)
  refine atr 4 [] rfl ?_
  obtain ⟨z4, hz4, h⟩ := bs h
  refine lq (q_cat rfl rfl hz4) rfl <| la rfl <| en ?_
  exact rt hF h
 refine ch h rfl ?_ ?_ <;> intro h
 ·refine atr 2 [] rfl ?_
  obtain ⟨z5, hz5, h⟩ := bs h
  refine lq (q_cat rfl rfl hz5) rfl <| la rfl <| en ?_
  exact wo [] [0] (K _ h)
 refine WT.skip ?_
 exact wo [] [0] (K _ h)
theorem m_s_CondText_ok  (w0 : Base Ψ Φ []) (p0 : TCond)  {r : ByteArray} (h : m_s_CondText N p0 = some r) :
  CB w0 prog 113 [.agg [iV p0.Op, iV p0.L.K, .string p0.L.S, iV p0.L.V.K, iV p0.L.V.N, .string p0.L.V.S, iV p0.R.K, .string p0.R.S, iV p0.R.V.K, iV p0.R.V.N, .string p0.R.V.S].toArray] (.string r) := by
 refine eN func113 rfl ntmps113 rfl w0 fun hF => ?_
 unfold m_s_CondText at h
 refine sr <| lbx rfl fun b_1 => arr 6 [11] rfl <| qc h (m_s_CondOk_ok N · p0 ·) rfl rfl rfl fun x1 h => la rfl <| en ?_
 refine ch h rfl ?_ ?_ <;> intro h
 ·refine att 4 [] rfl ?_
  exact rt hF h
 refine atr 3 [] rfl ?_
 have rc1 : RC RS 1 Φ ([[], [], []] : List (List Nat)) [.string (⟨#[61]⟩ : ByteArray), .string (⟨#[35]⟩ : ByteArray), .string (⟨#[60]⟩ : ByteArray)] ([(⟨#[61]⟩ : ByteArray), (⟨#[35]⟩ : ByteArray), (⟨#[60]⟩ : ByteArray)] : List ByteArray) := RC.cons (c := [.string (⟨#[61]⟩ : ByteArray)]) (cells := [.string (⟨#[35]⟩ : ByteArray), .string (⟨#[60]⟩ : ByteArray)]) ⟨rfl, rfl⟩ rfl (RC.cons (c := [.string (⟨#[35]⟩ : ByteArray)]) (cells := [.string (⟨#[60]⟩ : ByteArray)]) ⟨rfl, rfl⟩ rfl (RC.cons (c := [.string (⟨#[60]⟩ : ByteArray)]) (cells := []) ⟨rfl, rfl⟩ rfl (RC.nil _ _ _)))
 refine le' (e_lit (vs := [(0, .string (⟨#[61]⟩ : ByteArray)), (1, .string (⟨#[35]⟩ : ByteArray)), (2, .string (⟨#[60]⟩ : ByteArray))]) (C := #[.string (⟨#[61]⟩ : ByteArray), .string (⟨#[35]⟩ : ByteArray), .string (⟨#[60]⟩ : ByteArray)]) RS.lasts Sl_68 Zr_9 rfl rfl rfl rfl (fill_made MC_9_3 (fill_cons (C' := [.string (⟨#[61]⟩ : ByteArray), .string ⟨#[]⟩, .string ⟨#[]⟩]) rfl rfl rfl rfl rfl (fill_cons (C' := [.string (⟨#[61]⟩ : ByteArray), .string (⟨#[35]⟩ : ByteArray), .string ⟨#[]⟩]) rfl rfl rfl rfl rfl (fill_cons (C' := [.string (⟨#[61]⟩ : ByteArray), .string (⟨#[35]⟩ : ByteArray), .string (⟨#[60]⟩ : ByteArray)]) rfl rfl rfl rfl rfl (fill_nil))))) rfl rc1 rfl (by simpa using Kw.nil)) rfl ?_
 rintro v1 Φ_1 D1 ⟨fr1, h1⟩
 replace h1 : OSl RS 9 1 Φ_1 [] v1 ([(⟨#[61]⟩ : ByteArray), (⟨#[35]⟩ : ByteArray), (⟨#[60]⟩ : ByteArray)] : List ByteArray) := by simpa using h1
 refine art 3 [] rfl <| WT.draw mixed (by kernel_rfl) (fun _ h => h.drew) <| aqq 2 [1, 5] rfl ?_
 obtain ⟨x2, hx2, h⟩ := bs h
 refine qp (p_call Fun_166 rfl (fun w1 hw => m_s_l6ArgText_ok N (ba hw.fro) p0.L hx2)) rfl ?_
 obtain ⟨z1, hz1, h⟩ := bs h
 refine qq (q_cat rfl rfl hz1) rfl <| aqq 4 [0, 0] rfl ?_
 obtain ⟨x3, hx3, h⟩ := bs h
 obtain ⟨cs1, F1, -, g1, hb1, hs1, r1⟩ := h1.elS (idx_some hx3).2.2
 obtain ⟨rfl, -⟩ := r1
 refine qq (q_indexAddr Sl_68 rfl rfl h1.rsl hx3) rfl <| qq (q_load1 T1_9 rfl (fun w1 hw => (g1.of_eq 0 1 rfl rfl : rg _ _ _ [.string x3]).rangeAt hw.fro)) rfl ?_
 obtain ⟨z2, hz2, h⟩ := bs h
 refine qq (q_cat rfl rfl hz2) rfl ?_
 obtain ⟨z3, hz3, h⟩ := bs h
 refine qq (q_cat rfl rfl hz3) rfl <| aqq 2 [6, 5] rfl ?_
 obtain ⟨x4, hx4, h⟩ := bs h
 refine qp (p_call Fun_166 rfl (fun w1 hw => m_s_l6ArgText_ok N (ba hw.fro) p0.R hx4)) rfl ?_
 obtain ⟨z4, hz4, h⟩ := bs h
 refine qq (q_cat rfl rfl hz4) rfl <| aqt 2 [] rfl ?_
 exact rt hF h
theorem m_s_ExprText_ok  (w0 : Base Ψ Φ []) (p0 : TExpr)  {r : ByteArray} (h : m_s_ExprText N p0 = some r) :
  CB w0 prog 206 [.agg [.string p0.Op, iV p0.L.K, .string p0.L.S, iV p0.L.V.K, iV p0.L.V.N, .string p0.L.V.S, iV p0.R.K, .string p0.R.S, iV p0.R.V.K, iV p0.R.V.N, .string p0.R.V.S].toArray] (.string r) := by
 refine eN func206 rfl ntmps206 rfl w0 fun hF => ?_
 unfold m_s_ExprText at h
 refine sr <| lbx rfl fun b_1 => arr 6 [11] rfl <| qc h (m_s_ExprOk_ok N · p0 ·) rfl rfl rfl fun x1 h => la rfl <| en ?_
 refine ch h rfl ?_ ?_ <;> intro h
 ·refine att 4 [] rfl ?_
  exact rt hF h
 refine att 8 [0, 0] rfl ?_
 refine ch h rfl ?_ ?_ <;> intro h
 ·refine atr 4 [1, 5] rfl <| qc h (m_s_l6ArgText_ok N · p0.L ·) rfl rfl rfl fun x2 h => la rfl <| en ?_
  exact rt hF h
 refine att 2 [] rfl <| WT.draw mixed (by kernel_rfl) (fun _ h => h.drew) <| aqq 2 [1, 5] rfl ?_
 obtain ⟨x3, hx3, h⟩ := bs h
 refine qp (p_call Fun_166 rfl (fun w1 hw => m_s_l6ArgText_ok N (ba hw.fro) p0.L hx3)) rfl ?_
 obtain ⟨z1, hz1, h⟩ := bs h
 refine qq (q_cat rfl rfl hz1) rfl <| aqq 2 [0, 0] rfl ?_
 obtain ⟨z2, hz2, h⟩ := bs h
 refine qq (q_cat rfl rfl hz2) rfl ?_
 obtain ⟨z3, hz3, h⟩ := bs h
 refine qq (q_cat rfl rfl hz3) rfl <| aqq 2 [6, 5] rfl ?_
 obtain ⟨x4, hx4, h⟩ := bs h
 refine qp (p_call Fun_166 rfl (fun w1 hw => m_s_l6ArgText_ok N (ba hw.fro) p0.R hx4)) rfl ?_
 obtain ⟨z4, hz4, h⟩ := bs h
 refine qq (q_cat rfl rfl hz4) rfl <| aqt 2 [] rfl ?_
 exact rt hF h
theorem m_s_l8ArgsText_ok (w0 : Base Ψ Φ []) (p0 : TAct) (ph0_0 : RSl RTExpr 11 Ψ pG0_0 pv0_0 p0.Args) {r : ByteArray} (h : m_s_l8ArgsText N p0 = some r) :
  CB w0 prog 167 [.agg [iV p0.Kind, .string p0.Name, pv0_0, iV p0.N, .string p0.Undo].toArray] (.string r) := by
 refine eN func167 rfl ntmps167 rfl w0 fun hF => ?_
 unfold m_s_l8ArgsText at h
 refine sr <| lbx rfl fun b_1 => arr 6 [1, 0] rfl ?_
 obtain ⟨z1, hz1, h⟩ := bs h
 refine lq (q_cat rfl rfl hz1) rfl <| art 8 [] rfl ?_
 refine lin (σ := ByteArray × Int) (fun s => [(1, pQ b_1), (3, .string s.1), (4, iV s.2)]) (fun s => St w0 Φ [(b_1, .cells #[iV p0.Kind, .string p0.Name, pv0_0, iV p0.N, .string p0.Undo] 66 (0, 0))] []) (fun m s => m_s_l8ArgsText_l1 N p0 m s.1 s.2 = some r) (z1, 0) N h (sx [] [0]) (fun n1 ih1 s hm => ?_)
 obtain ⟨s1, s2⟩ := s
 have h : m_s_l8ArgsText_l1 N p0 (n1 + 1) s1 s2 = some r := hm
 show WT _ _ [(1, pQ b_1), (3, .string s1), (4, iV s2)] (St w0 Φ [(b_1, .cells #[iV p0.Kind, .string p0.Name, pv0_0, iV p0.N, .string p0.Undo] 66 (0, 0))] [])
 unfold m_s_l8ArgsText_l1 at h
 refine atr 6 [2, 0] rfl <| lnr ph0_0 rfl <| la rfl <| en ?_
 refine ch h rfl ?_ ?_ <;> intro h
 ·refine att 9 [] rfl ?_
  refine cut (σ := ByteArray) (fun s => [(1, pQ b_1), (3, .string s), (4, iV s2)]) (fun s => St w0 Φ [(b_1, .cells #[iV p0.Kind, .string p0.Name, pv0_0, iV p0.N, .string p0.Undo] 66 (0, 0))] []) (fun s => m_s_l8ArgsText_j2 N p0 s2 (m_s_l8ArgsText_l1 N p0 n1) s = some r) (fun s hm => ?_) (fun K => ?_)
  ·clear h
   revert hm; revert s; intro s3 hm
   have h : m_s_l8ArgsText_j2 N p0 s2 (m_s_l8ArgsText_l1 N p0 n1) s3 = some r := hm
   show WT _ _ [(1, pQ b_1), (3, .string s3), (4, iV s2)] (St w0 Φ [(b_1, .cells #[iV p0.Kind, .string p0.Name, pv0_0, iV p0.N, .string p0.Undo] 66 (0, 0))] [])
   unfold m_s_l8ArgsText_j2 at h
   refine atr 5 [2, 0] rfl ?_
   obtain ⟨x1, hx1, h⟩ := bs h
   obtain ⟨cs1, F1, -, g1, hb1, hs1, r1⟩ := ph0_0.el (idx_some hx1).2.2
   obtain ⟨rfl, -⟩ := r1
   refine lia ph0_0 hx1 rfl <| lhx 0 11 g1 rfl <| qc h (m_s_ExprText_ok N · x1 ·) rfl rfl rfl fun x2 h => ?_
   obtain ⟨z2, hz2, h⟩ := bs h
   refine lq (q_cat rfl rfl hz2) rfl <| art 8 [] rfl ?_
   exact lb [] [0] (ih1 (_, _) h)
  refine ch h rfl ?_ ?_ <;> intro h
  ·refine atr 2 [] rfl ?_
   obtain ⟨z3, hz3, h⟩ := bs h
   refine lq (q_cat rfl rfl hz3) rfl <| la rfl <| en ?_
   exact wo [] [0] (K _ h)
  refine WT.skip ?_
  exact wo [] [0] (K _ h)
 refine atr 4 [] rfl ?_
 obtain ⟨z4, hz4, h⟩ := bs h
 refine lq (q_cat rfl rfl hz4) rfl <| la rfl <| en ?_
 exact rt hF h
theorem m_s_ActText_ok (w0 : Base Ψ Φ []) (p0 : TAct) (ph0_0 : RSl RTExpr 11 Ψ pG0_0 pv0_0 p0.Args) {r : ByteArray} (h : m_s_ActText N p0 = some r) :
  CB w0 prog 114 [.agg [iV p0.Kind, .string p0.Name, pv0_0, iV p0.N, .string p0.Undo].toArray] (.string r) := by
 refine eN func114 rfl ntmps114 rfl w0 fun hF => ?_
 unfold m_s_ActText at h
 refine sr <| lbx rfl fun b_1 => arr 6 [5] rfl <| qd h (m_s_ActOk_ok N · p0 ph0_0 ·) rfl rfl rfl fun x1 h => la rfl <| en ?_
 refine ch h rfl ?_ ?_ <;> intro h
 ·refine att 4 [] rfl ?_
  exact rt hF h
 refine att 13 [0, 0] rfl ?_
 refine ch h rfl ?_ ?_ <;> intro h
 ·refine atr 3 [5] rfl <| qd h (m_s_l8ArgsText_ok N · p0 ph0_0 ·) rfl rfl rfl fun x2 h => ?_
  obtain ⟨z1, hz1, h⟩ := bs h
  refine lq (q_cat rfl rfl hz1) rfl <| la rfl <| en ?_
  exact rt hF h
 refine att 5 [] rfl ?_
 refine ch h rfl ?_ ?_ <;> intro h
 ·refine atr 4 [3, 0] rfl <| qc h (m_s_l2Num_ok N · p0.N ·) rfl rfl rfl fun x3 h => ?_
  obtain ⟨z2, hz2, h⟩ := bs h
  refine lq (q_cat rfl rfl hz2) rfl <| la rfl <| en ?_
  exact rt hF h
 refine att 5 [] rfl ?_
 refine ch h rfl ?_ ?_ <;> intro h
 ·refine sq <| WT.draw mixed (by kernel_rfl) (fun _ h => h.drew) <| aqq 2 [3, 0] rfl ?_
  obtain ⟨x4, hx4, h⟩ := bs h
  refine qp (p_call Fun_111 rfl (fun w1 hw => m_s_l2Num_ok N (ba hw.fro) p0.N hx4)) rfl ?_
  obtain ⟨z3, hz3, h⟩ := bs h
  refine qq (q_cat rfl rfl hz3) rfl ?_
  obtain ⟨z4, hz4, h⟩ := bs h
  refine qq (q_cat rfl rfl hz4) rfl <| qq (q_loadN Tn_66 rfl (fun w1 hw => hw.rgO (i := 0) rfl 0 5 [iV p0.Kind, .string p0.Name, pv0_0, iV p0.N, .string p0.Undo] rfl) rfl) rfl ?_
  obtain ⟨x5, hx5, h⟩ := bs h
  refine qp (p_call Fun_167 rfl (fun w1 hw => m_s_l8ArgsText_ok N (ba hw.in0) p0 ph0_0 hx5)) rfl ?_
  obtain ⟨z5, hz5, h⟩ := bs h
  refine qq (q_cat rfl rfl hz5) rfl <| aqt 2 [] rfl ?_
  exact rt hF h
 refine att 5 [] rfl ?_
 refine ch h rfl ?_ ?_ <;> intro h
 ·refine att 4 [] rfl ?_
  exact rt hF h
 refine att 5 [] rfl ?_
 refine ch h rfl ?_ ?_ <;> intro h
 ·refine att 4 [] rfl ?_
  exact rt hF h
 refine att 9 [4, 0] rfl ?_
 refine ch h rfl ?_ ?_ <;> intro h
 ·refine atr 3 [5] rfl <| qd h (m_s_l8ArgsText_ok N · p0 ph0_0 ·) rfl rfl rfl fun x6 h => ?_
  obtain ⟨z6, hz6, h⟩ := bs h
  refine lq (q_cat rfl rfl hz6) rfl <| la rfl <| en ?_
  exact rt hF h
 refine att 2 [] rfl <| WT.draw mixed (by kernel_rfl) (fun _ h => h.drew) <| qq (q_loadN Tn_66 rfl (fun w1 hw => hw.rgO (i := 0) rfl 0 5 [iV p0.Kind, .string p0.Name, pv0_0, iV p0.N, .string p0.Undo] rfl) rfl) rfl ?_
 obtain ⟨x7, hx7, h⟩ := bs h
 refine qp (p_call Fun_167 rfl (fun w1 hw => m_s_l8ArgsText_ok N (ba hw.in0) p0 ph0_0 hx7)) rfl ?_
 obtain ⟨z7, hz7, h⟩ := bs h
 refine qq (q_cat rfl rfl hz7) rfl ?_
 obtain ⟨z8, hz8, h⟩ := bs h
 refine qq (q_cat rfl rfl hz8) rfl <| aqq 2 [4, 0] rfl ?_
 obtain ⟨z9, hz9, h⟩ := bs h
 refine qq (q_cat rfl rfl hz9) rfl <| aqt 2 [] rfl ?_
 exact rt hF h
theorem m_s_l9Text_ok (w0 : Base Ψ Φ []) (p0 : TRule) (ph0_0 : RSl RTPat 3 Ψ pG0_0 pv0_0 p0.Pats) (ph0_1 : RSl RTCond 11 Ψ pG0_1 pv0_1 p0.Conds) (ph0_2 : RSl RTAct 5 Ψ pG0_2 pv0_2 p0.Acts) {r : ByteArray} (h : m_s_l9Text N p0 = some r) :
  CB w0 prog 57 [.agg [.string p0.Name, iV p0.Sal, pv0_0, pv0_1, pv0_2].toArray] (.string r) := by
 refine eN func57 rfl ntmps57 rfl w0 fun hF => ?_
 unfold m_s_l9Text at h
 refine sr <| lbx rfl fun b_1 => art 3 [] rfl <| WT.draw mixed (by kernel_rfl) (fun _ h => h.drew) <| aqq 2 [0, 0] rfl ?_
 obtain ⟨z1, hz1, h⟩ := bs h
 refine qq (q_cat rfl rfl hz1) rfl ?_
 obtain ⟨z2, hz2, h⟩ := bs h
 refine qq (q_cat rfl rfl hz2) rfl <| aqq 2 [1, 0] rfl ?_
 obtain ⟨x1, hx1, h⟩ := bs h
 refine qp (p_call Fun_111 rfl (fun w1 hw => m_s_l2Num_ok N (ba hw.fro) p0.Sal hx1)) rfl ?_
 obtain ⟨z3, hz3, h⟩ := bs h
 refine qq (q_cat rfl rfl hz3) rfl ?_
 obtain ⟨z4, hz4, h⟩ := bs h
 refine qq (q_cat rfl rfl hz4) rfl <| aqt 8 [] rfl ?_
 refine lin (σ := ByteArray × Int) (fun s => [(1, pQ b_1), (3, .string s.1), (4, iV s.2)]) (fun s => St w0 Φ [(b_1, .cells #[.string p0.Name, iV p0.Sal, pv0_0, pv0_1, pv0_2] 28 (0, 0))] []) (fun m s => m_s_l9Text_l1 N p0 m s.1 s.2 = some r) (z4, 0) N h (sx [] [0]) (fun n1 ih1 s hm => ?_)
 obtain ⟨s1, s2⟩ := s
 have h : m_s_l9Text_l1 N p0 (n1 + 1) s1 s2 = some r := hm
 show WT _ _ [(1, pQ b_1), (3, .string s1), (4, iV s2)] (St w0 Φ [(b_1, .cells #[.string p0.Name, iV p0.Sal, pv0_0, pv0_1, pv0_2] 28 (0, 0))] [])
 unfold m_s_l9Text_l1 at h
 refine atr 6 [2, 0] rfl <| lnr ph0_0 rfl <| la rfl <| en ?_
 refine ch h rfl ?_ ?_ <;> intro h
 ·refine att 9 [] rfl ?_
  refine cut (σ := ByteArray) (fun s => [(1, pQ b_1), (3, .string s), (4, iV s2)]) (fun s => St w0 Φ [(b_1, .cells #[.string p0.Name, iV p0.Sal, pv0_0, pv0_1, pv0_2] 28 (0, 0))] []) (fun s => m_s_l9Text_j2 N p0 s2 (m_s_l9Text_l1 N p0 n1) s = some r) (fun s hm => ?_) (fun K => ?_)
  ·clear h
   revert hm; revert s; intro s3 hm
   have h : m_s_l9Text_j2 N p0 s2 (m_s_l9Text_l1 N p0 n1) s3 = some r := hm
   show WT _ _ [(1, pQ b_1), (3, .string s3), (4, iV s2)] (St w0 Φ [(b_1, .cells #[.string p0.Name, iV p0.Sal, pv0_0, pv0_1, pv0_2] 28 (0, 0))] [])
   unfold m_s_l9Text_j2 at h
   refine atr 5 [2, 0] rfl ?_
   obtain ⟨x2, hx2, h⟩ := bs h
   obtain ⟨cs1, F1, -, g1, hb1, hs1, r1⟩ := ph0_0.el (idx_some hx2).2.2
   obtain ⟨v1, G1, rfl, hq1, h1⟩ := r1
   obtain rfl := hq1.symm
   refine lia ph0_0 hx2 rfl <| lhx 0 3 g1 rfl <| qd h (m_s_PatText_ok N · x2 h1 ·) rfl rfl rfl fun x3 h => ?_
   obtain ⟨z5, hz5, h⟩ := bs h
   refine lq (q_cat rfl rfl hz5) rfl <| art 8 [] rfl ?_
   exact lb [] [0] (ih1 (_, _) h)
  refine ch h rfl ?_ ?_ <;> intro h
  ·refine atr 2 [] rfl ?_
   obtain ⟨z6, hz6, h⟩ := bs h
   refine lq (q_cat rfl rfl hz6) rfl <| la rfl <| en ?_
   exact wo [] [0] (K _ h)
  refine WT.skip ?_
  exact wo [] [0] (K _ h)
 refine att 7 [] rfl ?_
 refine lin (σ := ByteArray × Int) (fun s => [(1, pQ b_1), (3, .string s.1), (5, iV s.2)]) (fun s => St w0 Φ [(b_1, .cells #[.string p0.Name, iV p0.Sal, pv0_0, pv0_1, pv0_2] 28 (0, 0))] []) (fun m s => m_s_l9Text_l3 N p0 m s.1 s.2 = some r) (s1, 0) N h (sx [] [0]) (fun n3 ih3 s hm => ?_)
 obtain ⟨s4, s5⟩ := s
 have h : m_s_l9Text_l3 N p0 (n3 + 1) s4 s5 = some r := hm
 show WT _ _ [(1, pQ b_1), (3, .string s4), (5, iV s5)] (St w0 Φ [(b_1, .cells #[.string p0.Name, iV p0.Sal, pv0_0, pv0_1, pv0_2] 28 (0, 0))] [])
 unfold m_s_l9Text_l3 at h
 refine atr 6 [3, 0] rfl <| lnr ph0_1 rfl <| la rfl <| en ?_
 refine ch h rfl ?_ ?_ <;> intro h
 ·refine att 9 [] rfl ?_
  refine cut (σ := ByteArray) (fun s => [(1, pQ b_1), (3, .string s), (5, iV s5)]) (fun s => St w0 Φ [(b_1, .cells #[.string p0.Name, iV p0.Sal, pv0_0, pv0_1, pv0_2] 28 (0, 0))] []) (fun s => m_s_l9Text_j4 N p0 s5 (m_s_l9Text_l3 N p0 n3) s = some r) (fun s hm => ?_) (fun K => ?_)
  ·clear h
   revert hm; revert s; intro s6 hm
   have h : m_s_l9Text_j4 N p0 s5 (m_s_l9Text_l3 N p0 n3) s6 = some r := hm
   show WT _ _ [(1, pQ b_1), (3, .string s6), (5, iV s5)] (St w0 Φ [(b_1, .cells #[.string p0.Name, iV p0.Sal, pv0_0, pv0_1, pv0_2] 28 (0, 0))] [])
   unfold m_s_l9Text_j4 at h
   refine atr 5 [3, 0] rfl ?_
   obtain ⟨x4, hx4, h⟩ := bs h
   obtain ⟨cs2, F2, -, g2, hb2, hs2, r2⟩ := ph0_1.el (idx_some hx4).2.2
   obtain ⟨rfl, -⟩ := r2
   refine lia ph0_1 hx4 rfl <| lhx 0 11 g2 rfl <| qc h (m_s_CondText_ok N · x4 ·) rfl rfl rfl fun x5 h => ?_
   obtain ⟨z7, hz7, h⟩ := bs h
   refine lq (q_cat rfl rfl hz7) rfl <| art 8 [] rfl ?_
   exact lb [] [0] (ih3 (_, _) h)
  refine ch h rfl ?_ ?_ <;> intro h
  ·refine atr 2 [] rfl ?_
   obtain ⟨z8, hz8, h⟩ := bs h
   refine lq (q_cat rfl rfl hz8) rfl <| la rfl <| en ?_
   exact wo [] [0] (K _ h)
  refine atr 2 [] rfl ?_
  obtain ⟨z9, hz9, h⟩ := bs h
  refine lq (q_cat rfl rfl hz9) rfl <| la rfl <| en ?_
  exact wo [] [0] (K _ h)
 refine atr 4 [] rfl ?_
 obtain ⟨z10, hz10, h⟩ := bs h
 refine lq (q_cat rfl rfl hz10) rfl <| art 8 [] rfl ?_
 refine lin (σ := ByteArray × Int) (fun s => [(1, pQ b_1), (3, .string s.1), (6, iV s.2)]) (fun s => St w0 Φ [(b_1, .cells #[.string p0.Name, iV p0.Sal, pv0_0, pv0_1, pv0_2] 28 (0, 0))] []) (fun m s => m_s_l9Text_l5 N p0 m s.1 s.2 = some r) (z10, 0) N h (sx [] [0]) (fun n5 ih5 s hm => ?_)
 obtain ⟨s7, s8⟩ := s
 have h : m_s_l9Text_l5 N p0 (n5 + 1) s7 s8 = some r := hm
 show WT _ _ [(1, pQ b_1), (3, .string s7), (6, iV s8)] (St w0 Φ [(b_1, .cells #[.string p0.Name, iV p0.Sal, pv0_0, pv0_1, pv0_2] 28 (0, 0))] [])
 unfold m_s_l9Text_l5 at h
 refine atr 6 [4, 0] rfl <| lnr ph0_2 rfl <| la rfl <| en ?_
 refine ch h rfl ?_ ?_ <;> intro h
 ·refine att 9 [] rfl ?_
  refine cut (σ := ByteArray) (fun s => [(1, pQ b_1), (3, .string s), (6, iV s8)]) (fun s => St w0 Φ [(b_1, .cells #[.string p0.Name, iV p0.Sal, pv0_0, pv0_1, pv0_2] 28 (0, 0))] []) (fun s => m_s_l9Text_j6 N p0 s8 (m_s_l9Text_l5 N p0 n5) s = some r) (fun s hm => ?_) (fun K => ?_)
  ·clear h
   revert hm; revert s; intro s9 hm
   have h : m_s_l9Text_j6 N p0 s8 (m_s_l9Text_l5 N p0 n5) s9 = some r := hm
   show WT _ _ [(1, pQ b_1), (3, .string s9), (6, iV s8)] (St w0 Φ [(b_1, .cells #[.string p0.Name, iV p0.Sal, pv0_0, pv0_1, pv0_2] 28 (0, 0))] [])
   unfold m_s_l9Text_j6 at h
   refine atr 5 [4, 0] rfl ?_
   obtain ⟨x6, hx6, h⟩ := bs h
   obtain ⟨cs3, F3, -, g3, hb3, hs3, r3⟩ := ph0_2.el (idx_some hx6).2.2
   obtain ⟨v2, G2, rfl, hq2, h2⟩ := r3
   obtain rfl := hq2.symm
   refine lia ph0_2 hx6 rfl <| lhx 0 5 g3 rfl <| qd h (m_s_ActText_ok N · x6 h2 ·) rfl rfl rfl fun x7 h => ?_
   obtain ⟨z11, hz11, h⟩ := bs h
   refine lq (q_cat rfl rfl hz11) rfl <| art 8 [] rfl ?_
   exact lb [] [0] (ih5 (_, _) h)
  refine ch h rfl ?_ ?_ <;> intro h
  ·refine atr 2 [] rfl ?_
   obtain ⟨z12, hz12, h⟩ := bs h
   refine lq (q_cat rfl rfl hz12) rfl <| la rfl <| en ?_
   exact wo [] [0] (K _ h)
  refine WT.skip ?_
  exact wo [] [0] (K _ h)
 refine atr 4 [] rfl ?_
 obtain ⟨z13, hz13, h⟩ := bs h
 refine lq (q_cat rfl rfl hz13) rfl <| la rfl <| en ?_
 exact rt hF h
theorem m_s_DefText_ok (w0 : Base Ψ Φ []) (p0 : TDef) (ph0_0 : RSl RTRule 5 Ψ pG0_0 pv0_0 p0.Rules) {r : ByteArray} (h : m_s_DefText N p0 = some r) :
  CB w0 prog 19 [.agg [.string p0.Name, pv0_0].toArray] (.string r) := by
 refine eN func19 rfl ntmps19 rfl w0 fun hF => ?_
 unfold m_s_DefText at h
 refine sr <| lbx rfl fun b_1 => arr 6 [2] rfl <| qd h (m_s_DefOk_ok N · p0 ph0_0 ·) rfl rfl rfl fun x1 h => la rfl <| en ?_
 refine ch h rfl ?_ ?_ <;> intro h
 ·refine att 4 [] rfl ?_
  exact rt hF h
 refine atr 5 [0, 0] rfl ?_
 obtain ⟨z1, hz1, h⟩ := bs h
 refine lq (q_cat rfl rfl hz1) rfl ?_
 obtain ⟨z2, hz2, h⟩ := bs h
 refine lq (q_cat rfl rfl hz2) rfl <| art 8 [] rfl ?_
 refine lin (σ := ByteArray × Int) (fun s => [(1, pQ b_1), (3, .string s.1), (4, iV s.2)]) (fun s => St w0 Φ [(b_1, .cells #[.string p0.Name, pv0_0] 38 (0, 0))] []) (fun m s => m_s_DefText_l1 N p0 m s.1 s.2 = some r) (z2, 0) N h (sx [] [0]) (fun n1 ih1 s hm => ?_)
 obtain ⟨s1, s2⟩ := s
 have h : m_s_DefText_l1 N p0 (n1 + 1) s1 s2 = some r := hm
 show WT _ _ [(1, pQ b_1), (3, .string s1), (4, iV s2)] (St w0 Φ [(b_1, .cells #[.string p0.Name, pv0_0] 38 (0, 0))] [])
 unfold m_s_DefText_l1 at h
 refine atr 6 [1, 0] rfl <| lnr ph0_0 rfl <| la rfl <| en ?_
 refine ch h rfl ?_ ?_ <;> intro h
 ·refine atr 8 [1, 0] rfl ?_
  obtain ⟨x2, hx2, h⟩ := bs h
  obtain ⟨cs1, F1, -, g1, hb1, hs1, r1⟩ := ph0_0.el (idx_some hx2).2.2
  obtain ⟨v1, G1, v2, G2, v3, G3, rfl, rfl, h1, h2, h3⟩ := r1
  refine lia ph0_0 hx2 rfl <| lhx 0 5 g1 rfl <| qd h (m_s_l9Text_ok N · x2 h1 h2 h3 ·) rfl rfl rfl fun x3 h => ?_
  obtain ⟨z3, hz3, h⟩ := bs h
  refine lq (q_cat rfl rfl hz3) rfl <| art 8 [] rfl ?_
  exact lb [] [0] (ih1 (_, _) h)
 refine att 6 [] rfl ?_
 exact rt hF h
theorem m_sl_EqualFunc_Si_Rule_Si_Rule_i_Rule_i_Rule_ok {p2f : Nat} {p2fr : List Value} (w0 : Base Ψ Φ []) (p0 : (List TRule)) (p1 : (List TRule)) (p2 : TRule → TRule → Option (Bool)) (ph0 : RSl RTRule 5 Ψ pG0 pv0 p0) (ph1 : RSl RTRule 5 Ψ pG1 pv1 p1) (p2hF : Fun prog p2f = true) (p2h : ∀ {Φ' : Hp} {w' : World}, FrH [] Φ Φ' → In Φ' w' → ∀ (p2a0 : TRule) (p2a1 : TRule) {p2v0_0 : Value} {p2G0_0 : List Nat} {p2v0_1 : Value} {p2G0_1 : List Nat} {p2v0_2 : Value} {p2G0_2 : List Nat} {p2v1_0 : Value} {p2G1_0 : List Nat} {p2v1_1 : Value} {p2G1_1 : List Nat} {p2v1_2 : Value} {p2G1_2 : List Nat} (_ : RSl RTPat 3 Φ' p2G0_0 p2v0_0 p2a0.Pats) (_ : RSl RTCond 11 Φ' p2G0_1 p2v0_1 p2a0.Conds) (_ : RSl RTAct 5 Φ' p2G0_2 p2v0_2 p2a0.Acts) (_ : RSl RTPat 3 Φ' p2G1_0 p2v1_0 p2a1.Pats) (_ : RSl RTCond 11 Φ' p2G1_1 p2v1_1 p2a1.Conds) (_ : RSl RTAct 5 Φ' p2G1_2 p2v1_2 p2a1.Acts) {r : Bool}, p2 p2a0 p2a1 = some r → Calls prog p2f (([.agg [.string p2a0.Name, iV p2a0.Sal, p2v0_0, p2v0_1, p2v0_2].toArray, .agg [.string p2a1.Name, iV p2a1.Sal, p2v1_0, p2v1_1, p2v1_2].toArray] : List Value) ++ p2fr).toArray w' (Post (.bool r) w')) {r : Bool} (h : m_sl_EqualFunc_Si_Rule_Si_Rule_i_Rule_i_Rule N p0 p1 p2 = some r) :
  CB w0 prog 60 [pv0, pv1, .func (.func p2f) #[] p2fr.toArray] (.bool r) := by
 refine eN func60 rfl ntmps60 rfl w0 fun hF => ?_
 unfold m_sl_EqualFunc_Si_Rule_Si_Rule_i_Rule_i_Rule at h
 refine atr 8 [] rfl <| lnr ph0 rfl <| la rfl <| lnr ph1 rfl <| la rfl <| en ?_
 refine ch h rfl ?_ ?_ <;> intro h
 ·refine att 4 [] rfl ?_
  exact rt hF h
 refine atr 5 [] rfl <| lnr ph0 rfl <| art 3 [] rfl ?_
 refine lin (σ := Int) (fun s => [(1, pv1), (2, .func (.func p2f) #[] p2fr.toArray), (15, pv0), (16, iV (p0.length : Int)), (17, iV s)]) (fun s => St w0 Φ [] []) (fun m s => m_sl_EqualFunc_Si_Rule_Si_Rule_i_Rule_i_Rule_l1 N p0 p1 p2 m s = some r) (0) N h (sx [] []) (fun n1 ih1 s hm => ?_)
 revert hm; revert s; intro s1 hm
 have h : m_sl_EqualFunc_Si_Rule_Si_Rule_i_Rule_i_Rule_l1 N p0 p1 p2 (n1 + 1) s1 = some r := hm
 show WT _ _ [(1, pv1), (2, .func (.func p2f) #[] p2fr.toArray), (15, pv0), (16, iV (p0.length : Int)), (17, iV s1)] (St w0 Φ [] [])
 unfold m_sl_EqualFunc_Si_Rule_Si_Rule_i_Rule_i_Rule_l1 at h
 refine att 5 [] rfl ?_
 refine ch h rfl ?_ ?_ <;> intro h
 ·refine atr 6 [] rfl ?_
  obtain ⟨x1, hx1, h⟩ := bs h
  obtain ⟨cs1, F1, -, g1, hb1, hs1, r1⟩ := ph0.el (idx_some hx1).2.2
  obtain ⟨v1, G1, v2, G2, v3, G3, rfl, rfl, h1, h2, h3⟩ := r1
  refine lia ph0 hx1 rfl <| lhx 0 5 g1 rfl <| lnz Zr_28 rfl fun b_1 => la rfl <| soN 0 Sz_28 rfl ⟨rfl, rfl, h1.one, h2.one, h3.one, trivial⟩ rfl ?_
  refine arr 5 [] rfl ?_
  obtain ⟨x2, hx2, h⟩ := bs h
  obtain ⟨cs2, F2, -, g2, hb2, hs2, r2⟩ := ph1.el (idx_some hx2).2.2
  obtain ⟨v4, G4, v5, G5, v6, G6, rfl, rfl, h4, h5, h6⟩ := r2
  refine lia ph1 hx2 rfl <| lhx 0 5 g2 rfl <| lnz Zr_28 rfl fun b_2 => soN 0 Sz_28 rfl ⟨rfl, rfl, h4.one, h5.one, h6.one, trivial⟩ rfl ?_
  refine arr 6 [37, 5] rfl ?_
  obtain ⟨x3, hx3, h⟩ := bs h
  refine lp (p_callV p2hF rfl rfl (fun w1 hw => p2h hw.frB hw.fro x1 x2 (h1.y hw.up) (h2.y hw.up) (h3.y hw.up) (h4.y hw.up) (h5.y hw.up) (h6.y hw.up) hx3)) rfl <| la rfl <| en ?_
  refine ch h rfl ?_ ?_ <;> intro h
  ·refine att 4 [] rfl ?_
   exact rt hF h
  refine att 6 [] rfl ?_
  exact lb [] [] (ih1 _ h)
 refine att 5 [] rfl ?_
 exact rt hF h
theorem m_sl_Equal_Si_Cond_i_Cond_ok (w0 : Base Ψ Φ []) (p0 : (List TCond)) (p1 : (List TCond)) (ph0 : RSl RTCond 11 Ψ pG0 pv0 p0) (ph1 : RSl RTCond 11 Ψ pG1 pv1 p1) {r : Bool} (h : m_sl_Equal_Si_Cond_i_Cond N p0 p1 = some r) :
  CB w0 prog 115 [pv0, pv1] (.bool r) := by
 refine eN func115 rfl ntmps115 rfl w0 fun hF => ?_
 unfold m_sl_Equal_Si_Cond_i_Cond at h
 refine atr 8 [] rfl <| lnr ph0 rfl <| la rfl <| lnr ph1 rfl <| la rfl <| en ?_
 refine ch h rfl ?_ ?_ <;> intro h
 ·refine att 4 [] rfl ?_
  exact rt hF h
 refine atr 5 [] rfl <| lnr ph0 rfl <| art 3 [] rfl ?_
 refine lin (σ := Int) (fun s => [(0, pv0), (1, pv1), (12, iV (p0.length : Int)), (13, iV s)]) (fun s => St w0 Φ [] []) (fun m s => m_sl_Equal_Si_Cond_i_Cond_l1 N p0 p1 m s = some r) (0) N h (sx [] []) (fun n1 ih1 s hm => ?_)
 revert hm; revert s; intro s1 hm
 have h : m_sl_Equal_Si_Cond_i_Cond_l1 N p0 p1 (n1 + 1) s1 = some r := hm
 show WT _ _ [(0, pv0), (1, pv1), (12, iV (p0.length : Int)), (13, iV s1)] (St w0 Φ [] [])
 unfold m_sl_Equal_Si_Cond_i_Cond_l1 at h
 refine att 5 [] rfl ?_
 refine ch h rfl ?_ ?_ <;> intro h
 ·refine att 9 [] rfl <| WT.draw mixed (by kernel_rfl) (fun _ h => h.drew) <| aqq 2 [] rfl ?_
  obtain ⟨x1, hx1, h⟩ := bs h
  obtain ⟨cs1, F1, -, g1, hb1, hs1, r1⟩ := ph0.el (idx_some hx1).2.2
  obtain ⟨rfl, -⟩ := r1
  refine qq (q_indexAddr Sl_25 rfl rfl ph0 hx1) rfl <| qq (q_loadN Tn_62 rfl (fun w1 hw => (g1.of_eq 0 11 rfl rfl : rg _ _ _ [iV x1.Op, iV x1.L.K, .string x1.L.S, iV x1.L.V.K, iV x1.L.V.N, .string x1.L.V.S, iV x1.R.K, .string x1.R.S, iV x1.R.V.K, iV x1.R.V.N, .string x1.R.V.S]).rangeAt hw.in0) rfl) rfl <| aqq 2 [] rfl ?_
  obtain ⟨x2, hx2, h⟩ := bs h
  obtain ⟨cs2, F2, -, g2, hb2, hs2, r2⟩ := ph1.el (idx_some hx2).2.2
  obtain ⟨rfl, -⟩ := r2
  refine qq (q_indexAddr Sl_25 rfl rfl ph1 hx2) rfl <| qq (q_loadN Tn_62 rfl (fun w1 hw => (g2.of_eq 0 11 rfl rfl : rg _ _ _ [iV x2.Op, iV x2.L.K, .string x2.L.S, iV x2.L.V.K, iV x2.L.V.N, .string x2.L.V.S, iV x2.R.K, .string x2.R.S, iV x2.R.V.K, iV x2.R.V.N, .string x2.R.V.S]).rangeAt hw.in0) rfl) rfl <| qq (q_neA EqT_62 rfl rfl rfl (r := eqT_TCond x1 x2) rfl) rfl <| WQ.nil ?_
  refine ch h rfl ?_ ?_ <;> intro h
  ·refine att 4 [] rfl ?_
   exact rt hF h
  refine att 6 [] rfl ?_
  exact lb [] [] (ih1 _ h)
 refine att 5 [] rfl ?_
 exact rt hF h
theorem m_sl_EqualFunc_Si_Pat_Si_Pat_i_Pat_i_Pat_ok {p2f : Nat} {p2fr : List Value} (w0 : Base Ψ Φ []) (p0 : (List TPat)) (p1 : (List TPat)) (p2 : TPat → TPat → Option (Bool)) (ph0 : RSl RTPat 3 Ψ pG0 pv0 p0) (ph1 : RSl RTPat 3 Ψ pG1 pv1 p1) (p2hF : Fun prog p2f = true) (p2h : ∀ {Φ' : Hp} {w' : World}, FrH [] Φ Φ' → In Φ' w' → ∀ (p2a0 : TPat) (p2a1 : TPat) {p2v0_0 : Value} {p2G0_0 : List Nat} {p2v1_0 : Value} {p2G1_0 : List Nat} (_ : RSl RTArg 5 Φ' p2G0_0 p2v0_0 p2a0.Args) (_ : RSl RTArg 5 Φ' p2G1_0 p2v1_0 p2a1.Args) {r : Bool}, p2 p2a0 p2a1 = some r → Calls prog p2f (([.agg [.string p2a0.Kind, p2v0_0, .bool p2a0.Not].toArray, .agg [.string p2a1.Kind, p2v1_0, .bool p2a1.Not].toArray] : List Value) ++ p2fr).toArray w' (Post (.bool r) w')) {r : Bool} (h : m_sl_EqualFunc_Si_Pat_Si_Pat_i_Pat_i_Pat N p0 p1 p2 = some r) :
  CB w0 prog 116 [pv0, pv1, .func (.func p2f) #[] p2fr.toArray] (.bool r) := by
 refine eN func116 rfl ntmps116 rfl w0 fun hF => ?_
 unfold m_sl_EqualFunc_Si_Pat_Si_Pat_i_Pat_i_Pat at h
 refine atr 8 [] rfl <| lnr ph0 rfl <| la rfl <| lnr ph1 rfl <| la rfl <| en ?_
 refine ch h rfl ?_ ?_ <;> intro h
 ·refine att 4 [] rfl ?_
  exact rt hF h
 refine atr 5 [] rfl <| lnr ph0 rfl <| art 3 [] rfl ?_
 refine lin (σ := Int) (fun s => [(1, pv1), (2, .func (.func p2f) #[] p2fr.toArray), (15, pv0), (16, iV (p0.length : Int)), (17, iV s)]) (fun s => St w0 Φ [] []) (fun m s => m_sl_EqualFunc_Si_Pat_Si_Pat_i_Pat_i_Pat_l1 N p0 p1 p2 m s = some r) (0) N h (sx [] []) (fun n1 ih1 s hm => ?_)
 revert hm; revert s; intro s1 hm
 have h : m_sl_EqualFunc_Si_Pat_Si_Pat_i_Pat_i_Pat_l1 N p0 p1 p2 (n1 + 1) s1 = some r := hm
 show WT _ _ [(1, pv1), (2, .func (.func p2f) #[] p2fr.toArray), (15, pv0), (16, iV (p0.length : Int)), (17, iV s1)] (St w0 Φ [] [])
 unfold m_sl_EqualFunc_Si_Pat_Si_Pat_i_Pat_i_Pat_l1 at h
 refine att 5 [] rfl ?_
 refine ch h rfl ?_ ?_ <;> intro h
 ·refine atr 6 [] rfl ?_
  obtain ⟨x1, hx1, h⟩ := bs h
  obtain ⟨cs1, F1, -, g1, hb1, hs1, r1⟩ := ph0.el (idx_some hx1).2.2
  obtain ⟨v1, G1, rfl, hq1, h1⟩ := r1
  obtain rfl := hq1.symm
  refine lia ph0 hx1 rfl <| lhx 0 3 g1 rfl <| lnz Zr_35 rfl fun b_1 => la rfl <| soN 0 Sz_35 rfl ⟨rfl, h1.one, rfl, trivial⟩ rfl ?_
  refine arr 5 [] rfl ?_
  obtain ⟨x2, hx2, h⟩ := bs h
  obtain ⟨cs2, F2, -, g2, hb2, hs2, r2⟩ := ph1.el (idx_some hx2).2.2
  obtain ⟨v2, G2, rfl, hq2, h2⟩ := r2
  obtain rfl := hq2.symm
  refine lia ph1 hx2 rfl <| lhx 0 3 g2 rfl <| lnz Zr_35 rfl fun b_2 => soN 0 Sz_35 rfl ⟨rfl, h2.one, rfl, trivial⟩ rfl ?_
  refine arr 6 [35, 3] rfl ?_
  obtain ⟨x3, hx3, h⟩ := bs h
  refine lp (p_callV p2hF rfl rfl (fun w1 hw => p2h hw.frB hw.fro x1 x2 (h1.y hw.up) (h2.y hw.up) hx3)) rfl <| la rfl <| en ?_
  refine ch h rfl ?_ ?_ <;> intro h
  ·refine att 4 [] rfl ?_
   exact rt hF h
  refine att 6 [] rfl ?_
  exact lb [] [] (ih1 _ h)
 refine att 5 [] rfl ?_
 exact rt hF h
theorem m_sl_Equal_Si_Arg_i_Arg_ok (w0 : Base Ψ Φ []) (p0 : (List TArg)) (p1 : (List TArg)) (ph0 : RSl RTArg 5 Ψ pG0 pv0 p0) (ph1 : RSl RTArg 5 Ψ pG1 pv1 p1) {r : Bool} (h : m_sl_Equal_Si_Arg_i_Arg N p0 p1 = some r) :
  CB w0 prog 168 [pv0, pv1] (.bool r) := by
 refine eN func168 rfl ntmps168 rfl w0 fun hF => ?_
 unfold m_sl_Equal_Si_Arg_i_Arg at h
 refine atr 8 [] rfl <| lnr ph0 rfl <| la rfl <| lnr ph1 rfl <| la rfl <| en ?_
 refine ch h rfl ?_ ?_ <;> intro h
 ·refine att 4 [] rfl ?_
  exact rt hF h
 refine atr 5 [] rfl <| lnr ph0 rfl <| art 3 [] rfl ?_
 refine lin (σ := Int) (fun s => [(0, pv0), (1, pv1), (12, iV (p0.length : Int)), (13, iV s)]) (fun s => St w0 Φ [] []) (fun m s => m_sl_Equal_Si_Arg_i_Arg_l1 N p0 p1 m s = some r) (0) N h (sx [] []) (fun n1 ih1 s hm => ?_)
 revert hm; revert s; intro s1 hm
 have h : m_sl_Equal_Si_Arg_i_Arg_l1 N p0 p1 (n1 + 1) s1 = some r := hm
 show WT _ _ [(0, pv0), (1, pv1), (12, iV (p0.length : Int)), (13, iV s1)] (St w0 Φ [] [])
 unfold m_sl_Equal_Si_Arg_i_Arg_l1 at h
 refine att 5 [] rfl ?_
 refine ch h rfl ?_ ?_ <;> intro h
 ·refine att 9 [] rfl <| WT.draw mixed (by kernel_rfl) (fun _ h => h.drew) <| aqq 2 [] rfl ?_
  obtain ⟨x1, hx1, h⟩ := bs h
  obtain ⟨cs1, F1, -, g1, hb1, hs1, r1⟩ := ph0.el (idx_some hx1).2.2
  obtain ⟨rfl, -⟩ := r1
  refine qq (q_indexAddr Sl_33 rfl rfl ph0 hx1) rfl <| qq (q_loadN Tn_60 rfl (fun w1 hw => (g1.of_eq 0 5 rfl rfl : rg _ _ _ [iV x1.K, .string x1.S, iV x1.V.K, iV x1.V.N, .string x1.V.S]).rangeAt hw.in0) rfl) rfl <| aqq 2 [] rfl ?_
  obtain ⟨x2, hx2, h⟩ := bs h
  obtain ⟨cs2, F2, -, g2, hb2, hs2, r2⟩ := ph1.el (idx_some hx2).2.2
  obtain ⟨rfl, -⟩ := r2
  refine qq (q_indexAddr Sl_33 rfl rfl ph1 hx2) rfl <| qq (q_loadN Tn_60 rfl (fun w1 hw => (g2.of_eq 0 5 rfl rfl : rg _ _ _ [iV x2.K, .string x2.S, iV x2.V.K, iV x2.V.N, .string x2.V.S]).rangeAt hw.in0) rfl) rfl <| qq (q_neA EqT_60 rfl rfl rfl (r := eqT_TArg x1 x2) rfl) rfl <| WQ.nil ?_
  refine ch h rfl ?_ ?_ <;> intro h
  ·refine att 4 [] rfl ?_
   exact rt hF h
  refine att 6 [] rfl ?_
  exact lb [] [] (ih1 _ h)
 refine att 5 [] rfl ?_
 exact rt hF h
theorem m_i_samePat_ok (w0 : Base Ψ Φ []) (p0 : TPat) (p1 : TPat) (ph0_0 : RSl RTArg 5 Ψ pG0_0 pv0_0 p0.Args) (ph1_0 : RSl RTArg 5 Ψ pG1_0 pv1_0 p1.Args) {r : Bool} (h : m_i_samePat N p0 p1 = some r) :
  CB w0 prog 117 [.agg [.string p0.Kind, pv0_0, .bool p0.Not].toArray, .agg [.string p1.Kind, pv1_0, .bool p1.Not].toArray] (.bool r) := by
 refine eN func117 rfl ntmps117 rfl w0 fun hF => ?_
 unfold m_i_samePat at h
 refine sr <| lbx rfl fun b_1 => lbx rfl fun b_2 => arr 10 [0, 32, 0, 0] rfl ?_
 obtain ⟨b1, hb_1, h⟩ := bs h
 refine WL.cutN 6 [(16, .bool b1), (2, pQ b_1), (3, pQ b_2), (4, .bool false)] ?_ (fun K => ?_)
 rotate_left
 ·refine sp 10 hb_1 rfl (fun hb_1 => ?_) fun hb_1 => ?_
  ·refine arr 4 [2, 32, 2, 0] rfl <| ly rfl rfl <| lq (q_beq Bo_4 rfl rfl) rfl <| la rfl ?_
   cases hb_1
   exact ku K
  ·refine arr 6 [] rfl ?_
   cases hb_1
   exact ku K
 refine la rfl ?_
 obtain ⟨b2, hb_2, h⟩ := bs h
 refine WL.cutN 6 [(23, .bool b2), (4, .bool false)] ?_ (fun K => ?_)
 rotate_left
 ·refine sp 17 hb_2 rfl (fun hb_2 => ?_) fun hb_2 => ?_
  ·refine arr 4 [1, 32, 1, 0] rfl <| ly rfl rfl <| qd hb_2 (m_sl_Equal_Si_Arg_i_Arg_ok N · p0.Args p1.Args ph0_0 ph1_0 ·) rfl rfl rfl fun x1 hb_2 => la rfl ?_
   cases hb_2
   exact ku K
  ·refine arr 6 [] rfl ?_
   cases hb_2
   exact ku K
 refine la rfl <| en ?_
 exact rt hF h
theorem m_sl_EqualFunc_Si_Act_Si_Act_i_Act_i_Act_ok {p2f : Nat} {p2fr : List Value} (w0 : Base Ψ Φ []) (p0 : (List TAct)) (p1 : (List TAct)) (p2 : TAct → TAct → Option (Bool)) (ph0 : RSl RTAct 5 Ψ pG0 pv0 p0) (ph1 : RSl RTAct 5 Ψ pG1 pv1 p1) (p2hF : Fun prog p2f = true) (p2h : ∀ {Φ' : Hp} {w' : World}, FrH [] Φ Φ' → In Φ' w' → ∀ (p2a0 : TAct) (p2a1 : TAct) {p2v0_0 : Value} {p2G0_0 : List Nat} {p2v1_0 : Value} {p2G1_0 : List Nat} (_ : RSl RTExpr 11 Φ' p2G0_0 p2v0_0 p2a0.Args) (_ : RSl RTExpr 11 Φ' p2G1_0 p2v1_0 p2a1.Args) {r : Bool}, p2 p2a0 p2a1 = some r → Calls prog p2f (([.agg [iV p2a0.Kind, .string p2a0.Name, p2v0_0, iV p2a0.N, .string p2a0.Undo].toArray, .agg [iV p2a1.Kind, .string p2a1.Name, p2v1_0, iV p2a1.N, .string p2a1.Undo].toArray] : List Value) ++ p2fr).toArray w' (Post (.bool r) w')) {r : Bool} (h : m_sl_EqualFunc_Si_Act_Si_Act_i_Act_i_Act N p0 p1 p2 = some r) :
  CB w0 prog 118 [pv0, pv1, .func (.func p2f) #[] p2fr.toArray] (.bool r) := by
 refine eN func118 rfl ntmps118 rfl w0 fun hF => ?_
 unfold m_sl_EqualFunc_Si_Act_Si_Act_i_Act_i_Act at h
 refine atr 8 [] rfl <| lnr ph0 rfl <| la rfl <| lnr ph1 rfl <| la rfl <| en ?_
 refine ch h rfl ?_ ?_ <;> intro h
 ·refine att 4 [] rfl ?_
  exact rt hF h
 refine atr 5 [] rfl <| lnr ph0 rfl <| art 3 [] rfl ?_
 refine lin (σ := Int) (fun s => [(1, pv1), (2, .func (.func p2f) #[] p2fr.toArray), (15, pv0), (16, iV (p0.length : Int)), (17, iV s)]) (fun s => St w0 Φ [] []) (fun m s => m_sl_EqualFunc_Si_Act_Si_Act_i_Act_i_Act_l1 N p0 p1 p2 m s = some r) (0) N h (sx [] []) (fun n1 ih1 s hm => ?_)
 revert hm; revert s; intro s1 hm
 have h : m_sl_EqualFunc_Si_Act_Si_Act_i_Act_i_Act_l1 N p0 p1 p2 (n1 + 1) s1 = some r := hm
 show WT _ _ [(1, pv1), (2, .func (.func p2f) #[] p2fr.toArray), (15, pv0), (16, iV (p0.length : Int)), (17, iV s1)] (St w0 Φ [] [])
 unfold m_sl_EqualFunc_Si_Act_Si_Act_i_Act_i_Act_l1 at h
 refine att 5 [] rfl ?_
 refine ch h rfl ?_ ?_ <;> intro h
 ·refine atr 6 [] rfl ?_
  obtain ⟨x1, hx1, h⟩ := bs h
  obtain ⟨cs1, F1, -, g1, hb1, hs1, r1⟩ := ph0.el (idx_some hx1).2.2
  obtain ⟨v1, G1, rfl, hq1, h1⟩ := r1
  obtain rfl := hq1.symm
  refine lia ph0 hx1 rfl <| lhx 0 5 g1 rfl <| lnz Zr_66 rfl fun b_1 => la rfl <| soN 0 Sz_66 rfl ⟨rfl, rfl, h1.one, rfl, rfl, trivial⟩ rfl ?_
  refine arr 5 [] rfl ?_
  obtain ⟨x2, hx2, h⟩ := bs h
  obtain ⟨cs2, F2, -, g2, hb2, hs2, r2⟩ := ph1.el (idx_some hx2).2.2
  obtain ⟨v2, G2, rfl, hq2, h2⟩ := r2
  obtain rfl := hq2.symm
  refine lia ph1 hx2 rfl <| lhx 0 5 g2 rfl <| lnz Zr_66 rfl fun b_2 => soN 0 Sz_66 rfl ⟨rfl, rfl, h2.one, rfl, rfl, trivial⟩ rfl ?_
  refine arr 6 [37, 5] rfl ?_
  obtain ⟨x3, hx3, h⟩ := bs h
  refine lp (p_callV p2hF rfl rfl (fun w1 hw => p2h hw.frB hw.fro x1 x2 (h1.y hw.up) (h2.y hw.up) hx3)) rfl <| la rfl <| en ?_
  refine ch h rfl ?_ ?_ <;> intro h
  ·refine att 4 [] rfl ?_
   exact rt hF h
  refine att 6 [] rfl ?_
  exact lb [] [] (ih1 _ h)
 refine att 5 [] rfl ?_
 exact rt hF h
theorem m_sl_Equal_Si_Expr_i_Expr_ok (w0 : Base Ψ Φ []) (p0 : (List TExpr)) (p1 : (List TExpr)) (ph0 : RSl RTExpr 11 Ψ pG0 pv0 p0) (ph1 : RSl RTExpr 11 Ψ pG1 pv1 p1) {r : Bool} (h : m_sl_Equal_Si_Expr_i_Expr N p0 p1 = some r) :
  CB w0 prog 169 [pv0, pv1] (.bool r) := by
 refine eN func169 rfl ntmps169 rfl w0 fun hF => ?_
 unfold m_sl_Equal_Si_Expr_i_Expr at h
 refine atr 8 [] rfl <| lnr ph0 rfl <| la rfl <| lnr ph1 rfl <| la rfl <| en ?_
 refine ch h rfl ?_ ?_ <;> intro h
 ·refine att 4 [] rfl ?_
  exact rt hF h
 refine atr 5 [] rfl <| lnr ph0 rfl <| art 3 [] rfl ?_
 refine lin (σ := Int) (fun s => [(0, pv0), (1, pv1), (12, iV (p0.length : Int)), (13, iV s)]) (fun s => St w0 Φ [] []) (fun m s => m_sl_Equal_Si_Expr_i_Expr_l1 N p0 p1 m s = some r) (0) N h (sx [] []) (fun n1 ih1 s hm => ?_)
 revert hm; revert s; intro s1 hm
 have h : m_sl_Equal_Si_Expr_i_Expr_l1 N p0 p1 (n1 + 1) s1 = some r := hm
 show WT _ _ [(0, pv0), (1, pv1), (12, iV (p0.length : Int)), (13, iV s1)] (St w0 Φ [] [])
 unfold m_sl_Equal_Si_Expr_i_Expr_l1 at h
 refine att 5 [] rfl ?_
 refine ch h rfl ?_ ?_ <;> intro h
 ·refine att 9 [] rfl <| WT.draw mixed (by kernel_rfl) (fun _ h => h.drew) <| aqq 2 [] rfl ?_
  obtain ⟨x1, hx1, h⟩ := bs h
  obtain ⟨cs1, F1, -, g1, hb1, hs1, r1⟩ := ph0.el (idx_some hx1).2.2
  obtain ⟨rfl, -⟩ := r1
  refine qq (q_indexAddr Sl_64 rfl rfl ph0 hx1) rfl <| qq (q_loadN Tn_116 rfl (fun w1 hw => (g1.of_eq 0 11 rfl rfl : rg _ _ _ [.string x1.Op, iV x1.L.K, .string x1.L.S, iV x1.L.V.K, iV x1.L.V.N, .string x1.L.V.S, iV x1.R.K, .string x1.R.S, iV x1.R.V.K, iV x1.R.V.N, .string x1.R.V.S]).rangeAt hw.in0) rfl) rfl <| aqq 2 [] rfl ?_
  obtain ⟨x2, hx2, h⟩ := bs h
  obtain ⟨cs2, F2, -, g2, hb2, hs2, r2⟩ := ph1.el (idx_some hx2).2.2
  obtain ⟨rfl, -⟩ := r2
  refine qq (q_indexAddr Sl_64 rfl rfl ph1 hx2) rfl <| qq (q_loadN Tn_116 rfl (fun w1 hw => (g2.of_eq 0 11 rfl rfl : rg _ _ _ [.string x2.Op, iV x2.L.K, .string x2.L.S, iV x2.L.V.K, iV x2.L.V.N, .string x2.L.V.S, iV x2.R.K, .string x2.R.S, iV x2.R.V.K, iV x2.R.V.N, .string x2.R.V.S]).rangeAt hw.in0) rfl) rfl <| qq (q_neA EqT_116 rfl rfl rfl (r := eqT_TExpr x1 x2) rfl) rfl <| WQ.nil ?_
  refine ch h rfl ?_ ?_ <;> intro h
  ·refine att 4 [] rfl ?_
   exact rt hF h
  refine att 6 [] rfl ?_
  exact lb [] [] (ih1 _ h)
 refine att 5 [] rfl ?_
 exact rt hF h
theorem m_i_sameAct_ok (w0 : Base Ψ Φ []) (p0 : TAct) (p1 : TAct) (ph0_0 : RSl RTExpr 11 Ψ pG0_0 pv0_0 p0.Args) (ph1_0 : RSl RTExpr 11 Ψ pG1_0 pv1_0 p1.Args) {r : Bool} (h : m_i_sameAct N p0 p1 = some r) :
  CB w0 prog 119 [.agg [iV p0.Kind, .string p0.Name, pv0_0, iV p0.N, .string p0.Undo].toArray, .agg [iV p1.Kind, .string p1.Name, pv1_0, iV p1.N, .string p1.Undo].toArray] (.bool r) := by
 refine eN func119 rfl ntmps119 rfl w0 fun hF => ?_
 unfold m_i_sameAct at h
 refine sr <| lbx rfl fun b_1 => lbx rfl fun b_2 => arr 10 [0, 32, 0, 0] rfl ?_
 obtain ⟨b1, hb_1, h⟩ := bs h
 refine WL.cutN 6 [(16, .bool b1), (2, pQ b_1), (3, pQ b_2), (4, .bool false)] ?_ (fun K => ?_)
 rotate_left
 ·refine sp 10 hb_1 rfl (fun hb_1 => ?_) fun hb_1 => ?_
  ·refine arr 6 [1, 32, 1, 0] rfl ?_
   cases hb_1
   exact ku K
  ·refine arr 6 [] rfl ?_
   cases hb_1
   exact ku K
 refine la rfl ?_
 obtain ⟨b2, hb_2, h⟩ := bs h
 refine WL.cutN 6 [(23, .bool b2), (2, pQ b_1), (3, pQ b_2), (4, .bool false)] ?_ (fun K => ?_)
 rotate_left
 ·refine sp 17 hb_2 rfl (fun hb_2 => ?_) fun hb_2 => ?_
  ·refine arr 6 [3, 32, 3, 0] rfl ?_
   cases hb_2
   exact ku K
  ·refine arr 6 [] rfl ?_
   cases hb_2
   exact ku K
 refine la rfl ?_
 obtain ⟨b3, hb_3, h⟩ := bs h
 refine WL.cutN 6 [(30, .bool b3), (2, pQ b_1), (3, pQ b_2), (4, .bool false)] ?_ (fun K => ?_)
 rotate_left
 ·refine sp 24 hb_3 rfl (fun hb_3 => ?_) fun hb_3 => ?_
  ·refine arr 6 [4, 32, 4, 0] rfl ?_
   cases hb_3
   exact ku K
  ·refine arr 6 [] rfl ?_
   cases hb_3
   exact ku K
 refine la rfl ?_
 obtain ⟨b4, hb_4, h⟩ := bs h
 refine WL.cutN 6 [(37, .bool b4), (4, .bool false)] ?_ (fun K => ?_)
 rotate_left
 ·refine sp 31 hb_4 rfl (fun hb_4 => ?_) fun hb_4 => ?_
  ·refine arr 4 [2, 32, 2, 0] rfl <| ly rfl rfl <| qd hb_4 (m_sl_Equal_Si_Expr_i_Expr_ok N · p0.Args p1.Args ph0_0 ph1_0 ·) rfl rfl rfl fun x1 hb_4 => la rfl ?_
   cases hb_4
   exact ku K
  ·refine arr 6 [] rfl ?_
   cases hb_4
   exact ku K
 refine la rfl <| en ?_
 exact rt hF h
theorem m_i_sameRule_ok (w0 : Base Ψ Φ []) (p0 : TRule) (p1 : TRule) (ph0_0 : RSl RTPat 3 Ψ pG0_0 pv0_0 p0.Pats) (ph0_1 : RSl RTCond 11 Ψ pG0_1 pv0_1 p0.Conds) (ph0_2 : RSl RTAct 5 Ψ pG0_2 pv0_2 p0.Acts) (ph1_0 : RSl RTPat 3 Ψ pG1_0 pv1_0 p1.Pats) (ph1_1 : RSl RTCond 11 Ψ pG1_1 pv1_1 p1.Conds) (ph1_2 : RSl RTAct 5 Ψ pG1_2 pv1_2 p1.Acts) {r : Bool} (h : m_i_sameRule N p0 p1 = some r) :
  CB w0 prog 61 [.agg [.string p0.Name, iV p0.Sal, pv0_0, pv0_1, pv0_2].toArray, .agg [.string p1.Name, iV p1.Sal, pv1_0, pv1_1, pv1_2].toArray] (.bool r) := by
 refine eN func61 rfl ntmps61 rfl w0 fun hF => ?_
 unfold m_i_sameRule at h
 refine sr <| lbx rfl fun b_1 => lbx rfl fun b_2 => arr 11 [0, 32, 0, 0] rfl ?_
 obtain ⟨b1, hb_1, h⟩ := bs h
 refine WL.cutN 6 [(16, .bool b1), (2, pQ b_1), (3, pQ b_2)] ?_ (fun K => ?_)
 rotate_left
 ·refine sp 10 hb_1 rfl (fun hb_1 => ?_) fun hb_1 => ?_
  ·refine arr 6 [] rfl ?_
   cases hb_1
   exact ku K
  ·refine arr 6 [1, 32, 1, 0] rfl ?_
   cases hb_1
   exact ku K
 refine la rfl ?_
 obtain ⟨b2, hb_2, h⟩ := bs h
 refine WL.cutN 7 [(24, .bool b2), (2, pQ b_1), (3, pQ b_2)] ?_ (fun K => ?_)
 rotate_left
 ·refine sp 17 hb_2 rfl (fun hb_2 => ?_) fun hb_2 => ?_
  ·refine arr 7 [] rfl ?_
   cases hb_2
   exact ku K
  ·refine arr 4 [3, 32, 3, 0] rfl <| ly rfl rfl <| qd hb_2 (m_sl_Equal_Si_Cond_i_Cond_ok N · p0.Conds p1.Conds ph0_1 ph1_1 ·) rfl rfl rfl fun x1 hb_2 => arr 2 [] rfl ?_
   cases hb_2
   exact ku K
 refine en ?_
 refine ch h rfl ?_ ?_ <;> intro h
 ·refine att 4 [] rfl ?_
  exact rt hF h
 refine atr 7 [2, 32, 2, 0] rfl <| qz h (fun b z q => m_sl_EqualFunc_Si_Pat_Si_Pat_i_Pat_i_Pat_ok N b p0.Pats p1.Pats (m_i_samePat N) (ph0_0.y z) (ph1_0.y z) Fun_117 (fun hle' hin a0 a1 => fun f0 f1 => fun hr => m_i_samePat_ok N (ba hin) a0 a1 f0 f1 hr) q) rfl rfl rfl fun x2 h => la rfl ?_
 obtain ⟨b3, hb_3, h⟩ := bs h
 refine WL.cutN 6 [(36, .bool b3)] ?_ (fun K => ?_)
 rotate_left
 ·refine sp 30 hb_3 rfl (fun hb_3 => ?_) fun hb_3 => ?_
  ·refine arr 4 [4, 32, 4, 0] rfl <| ly rfl rfl <| qz hb_3 (fun b z q => m_sl_EqualFunc_Si_Act_Si_Act_i_Act_i_Act_ok N b p0.Acts p1.Acts (m_i_sameAct N) (ph0_2.y z) (ph1_2.y z) Fun_119 (fun hle' hin a0 a1 => fun f0 f1 => fun hr => m_i_sameAct_ok N (ba hin) a0 a1 f0 f1 hr) q) rfl rfl rfl fun x3 hb_3 => la rfl ?_
   cases hb_3
   exact ku K
  ·refine arr 6 [] rfl ?_
   cases hb_3
   exact ku K
 refine la rfl <| en ?_
 exact rt hF h
theorem m_i_SameDef_ok (w0 : Base Ψ Φ []) (p0 : TDef) (p1 : TDef) (ph0_0 : RSl RTRule 5 Ψ pG0_0 pv0_0 p0.Rules) (ph1_0 : RSl RTRule 5 Ψ pG1_0 pv1_0 p1.Rules) {r : Bool} (h : m_i_SameDef N p0 p1 = some r) :
  CB w0 prog 21 [.agg [.string p0.Name, pv0_0].toArray, .agg [.string p1.Name, pv1_0].toArray] (.bool r) := by
 refine eN func21 rfl ntmps21 rfl w0 fun hF => ?_
 unfold m_i_SameDef at h
 refine sr <| lbx rfl fun b_1 => lbx rfl fun b_2 => arr 10 [0, 32, 0, 0] rfl ?_
 obtain ⟨b1, hb_1, h⟩ := bs h
 refine WL.cutN 6 [(16, .bool b1), (4, .bool false)] ?_ (fun K => ?_)
 rotate_left
 ·refine sp 10 hb_1 rfl (fun hb_1 => ?_) fun hb_1 => ?_
  ·refine arr 4 [1, 32, 1, 0] rfl <| ly rfl rfl <| qz hb_1 (fun b z q => m_sl_EqualFunc_Si_Rule_Si_Rule_i_Rule_i_Rule_ok N b p0.Rules p1.Rules (m_i_sameRule N) (ph0_0.y z) (ph1_0.y z) Fun_61 (fun hle' hin a0 a1 => fun f0 f1 f2 f3 f4 f5 => fun hr => m_i_sameRule_ok N (ba hin) a0 a1 f0 f1 f2 f3 f4 f5 hr) q) rfl rfl rfl fun x1 hb_1 => la rfl ?_
   cases hb_1
   exact ku K
  ·refine arr 6 [] rfl ?_
   cases hb_1
   exact ku K
 refine la rfl <| en ?_
 exact rt hF h
theorem m_l_FnDefs_ok (w0 : Base Ψ Φ []) (p0 : (List Int)) (hT : Tab Ψ) (ph0 : RSl (RI .u8) 1 Ψ pG0 pv0 p0) {r : Bool} (h : m_l_FnDefs N p0 = some r) :
  CB w0 prog 4 [pv0] (.bool r) := by
 refine eN func4 rfl ntmps4 rfl w0 fun hF => ?_
 unfold m_l_FnDefs at h
 refine atr 8 [] rfl <| qd h (m_l_big_ok N · p0 ph0 ·) rfl rfl rfl fun x1 h => en ?_
 refine ch h rfl ?_ ?_ <;> intro h
 ·refine att 4 [] rfl ?_
  exact rt hF h
 refine atr 4 [] rfl <| kab h rfl rfl rfl (fun b z q => m_s_DrawDefText_ok N b p0 (ph0.y z) q) ?_
 rintro x2 h v1 Φ_1 F1 ⟨ap1, fr1, v2, D1, X1, rfl, rfl, h1, i1⟩
 refine lnz Zr_38 rfl fun b_1 => soN 0 Sz_38 rfl ⟨rfl, h1.one, trivial⟩ rfl ?_
 refine arr 4 [2] rfl <| qz h (fun b z q => m_i_DefText_ok N b x2 (hT.y z) h1.rsl q) rfl rfl rfl fun x4 h => arr 6 [2] rfl <| qc h (m_s_DefOk_ok N · x2 h1.rsl ·) rfl rfl rfl fun x5 h => la rfl <| en ?_
 refine ch h rfl ?_ ?_ <;> intro h
 ·refine atr 5 [] rfl ?_
  obtain ⟨b1, hb_1, h⟩ := bs h
  refine WL.cutN 4 [(25, .bool b1)] ?_ (fun K => ?_)
  rotate_left
  ·refine sp 21 hb_1 rfl (fun hb_1 => ?_) fun hb_1 => ?_
   ·refine ly rfl rfl <| ld2 Tn_38 0 rfl <| ly rfl rfl <| qc hb_1 (m_i_DefOk_ok N · x2 h1.rsl ·) rfl rfl rfl fun x6 hb_1 => arr 2 [] rfl ?_
    cases hb_1
    exact ku K
   ·refine arr 4 [] rfl ?_
    cases hb_1
    exact ku K
  refine la rfl <| en ?_
  exact rt hF h
 refine atr 4 [] rfl <| kab h rfl rfl rfl (fun b z q => m_i_ParseDef_ok N b x4 (hT.y z) q) ?_
 rintro x7 h v3 Φ_2 F2 ⟨ap2, fr2, v4, D2, rfl, rfl, h2⟩
 replace h1 := h1.fr fr2 (ap2.q 0 rfl) (Dj.sub (ap2.q 1 rfl) i1)
 refine arr 3 [] rfl <| lnz Zr_38 rfl fun b_2 => soN 0 Sz_38 rfl ⟨rfl, h2.one, trivial⟩ rfl ?_
 refine arr 5 [] rfl <| kab h rfl rfl rfl (fun b z q => m_i_Lex_ok N b x4 (hT.y z) q) ?_
 rintro x8 h v5 Φ_3 F3 ⟨ap3, fr3, v6, rfl, rfl, h3⟩
 replace h1 := h1.fr fr3 (ap3.q 2 rfl) (Dj.sub (ap3.q 3 rfl) i1)
 replace h2 := h2.fr fr3 (ap3.q 0 rfl) (ap3.q 1 rfl)
 refine arr 11 [34] rfl <| qc h (m_s_DefText_ok N · x2 h1.rsl ·) rfl rfl rfl fun x9 h => arr 2 [] rfl ?_
 obtain ⟨b2, hb_2, h⟩ := bs h
 refine WL.cutN 4 [(44, .bool b2), (3, pQ b_1), (5, pQ b_2), (6, .bool x7.2), (7, v6), (8, iV x8.2)] ?_ (fun K => ?_)
 rotate_left
 ·refine sp 40 hb_2 rfl (fun hb_2 => ?_) fun hb_2 => ?_
  ·refine arr 4 [] rfl ?_
   cases hb_2
   exact ku K
  ·refine ly rfl rfl <| ld2 Tn_38 1 rfl <| ly rfl rfl <| qc hb_2 (m_i_DefOk_ok N · x2 h1.rsl ·) rfl rfl rfl fun x10 hb_2 => arr 2 [] rfl ?_
   cases hb_2
   exact ku K
 refine en ?_
 refine ch h rfl ?_ ?_ <;> intro h
 ·refine att 4 [] rfl ?_
  exact rt hF h
 refine att 7 [] rfl ?_
 refine ch h rfl ?_ ?_ <;> intro h
 ·refine atr 5 [] rfl ?_
  obtain ⟨b3, hb_3, h⟩ := bs h
  refine WL.cutN 4 [(53, .bool b3)] ?_ (fun K => ?_)
  rotate_left
  ·refine sp 49 hb_3 rfl (fun hb_3 => ?_) fun hb_3 => ?_
   ·refine ly rfl rfl <| la rfl <| ly rfl rfl <| lno h3 rfl <| arr 2 [] rfl ?_
    cases hb_3
    exact ku K
   ·refine arr 4 [] rfl ?_
    cases hb_3
    exact ku K
  refine la rfl <| en ?_
  exact rt hF h
 refine att 7 [] rfl ?_
 refine lin (σ := Int) (fun s => [(3, pQ b_1), (5, pQ b_2), (6, .bool x7.2), (9, iV s)]) (fun s => St w0 Φ_3 [(b_2, .cells #[.string x7.1.Name, v4] 38 (0, 0)), (b_1, .cells #[.string x2.Name, v2] 38 (0, 0))] [ob v4, D2, ob v2, X1]) (fun m s => m_l_FnDefs_l1 N x2 x7 m s = some r) (0) N h (sx [1, 1, 1, 1] [0, 0]) (fun n1 ih1 s hm => ?_)
 revert hm; revert s; intro s1 hm
 have h : m_l_FnDefs_l1 N x2 x7 (n1 + 1) s1 = some r := hm
 show WT _ _ [(3, pQ b_1), (5, pQ b_2), (6, .bool x7.2), (9, iV s1)] (St w0 Φ_3 [(b_2, .cells #[.string x7.1.Name, v4] 38 (0, 0)), (b_1, .cells #[.string x2.Name, v2] 38 (0, 0))] [ob v4, D2, ob v2, X1])
 unfold m_l_FnDefs_l1 at h
 refine atr 6 [1, 32] rfl <| lno h1 rfl <| la rfl <| en ?_
 refine ch h rfl ?_ ?_ <;> intro h
 ·refine att 4 [] rfl <| WT.draw mixed (by kernel_rfl) (fun _ h => h.drew) <| aqq 4 [34, 1, 32] rfl ?_
  obtain ⟨x11, hx10, h⟩ := bs h
  obtain ⟨cs1, F4, -, g1, hb1, hs1, r1⟩ := h1.elS (idx_some hx10).2.2
  obtain ⟨v7, G1, v8, G2, v9, G3, rfl, rfl, h4, h5, h6⟩ := r1
  refine qq (q_indexAddr Sl_36 rfl rfl h1.rsl hx10) rfl <| qq (q_fieldAddr Fld_28_0 rfl) rfl <| qq (q_load1 T1_9 rfl (fun w1 hw => (g1.of_eq 0 1 rfl rfl : rg _ _ _ [.string x11.Name]).rangeAt hw.fro)) rfl ?_
  obtain ⟨x12, hx11, h⟩ := bs h
  refine qp (p_call Fun_20 rfl (fun w1 hw => m_i_RuleAt_ok N (ba hw.fro) x2 x11.Name h1.rsl hx11)) rfl <| aqt 3 [] rfl ?_
  refine ch h rfl ?_ ?_ <;> intro h
  ·refine att 4 [] rfl ?_
   exact rt hF h
  refine att 7 [] rfl ?_
  exact lb [0, 0, 0, 0] [0, 0] (ih1 _ h)
 refine atr 5 [] rfl ?_
 obtain ⟨b4, hb_4, h⟩ := bs h
 refine WL.cutN 4 [(76, .bool b4), (3, pQ b_1)] ?_ (fun K => ?_)
 rotate_left
 ·refine sp 72 hb_4 rfl (fun hb_4 => ?_) fun hb_4 => ?_
  ·refine arr 2 [2, 34] rfl <| ly rfl rfl <| qc hb_4 (m_i_SameDef_ok N · x7.1 x2 (h2.rslG OTRule.gives) h1.rsl ·) rfl rfl rfl fun x13 hb_4 => la rfl ?_
   cases hb_4
   exact ku K
  ·refine arr 4 [] rfl ?_
   cases hb_4
   exact ku K
 refine la rfl ?_
 obtain ⟨b5, hb_5, h⟩ := bs h
 refine WL.cutN 3 [(80, .bool b5), (3, pQ b_1)] ?_ (fun K => ?_)
 rotate_left
 ·refine sp 77 hb_5 rfl (fun hb_5 => ?_) fun hb_5 => ?_
  ·refine ly rfl rfl <| ld2 Tn_38 1 rfl <| ly rfl rfl <| qc hb_5 (m_i_DefOk_ok N · x2 h1.rsl ·) rfl rfl rfl fun x14 hb_5 => la rfl ?_
   cases hb_5
   exact ku K
  ·refine arr 3 [] rfl ?_
   cases hb_5
   exact ku K
 refine la rfl ?_
 obtain ⟨b6, hb_6, h⟩ := bs h
 refine WL.cutN 4 [(85, .bool b6)] ?_ (fun K => ?_)
 rotate_left
 ·refine sp 81 hb_6 rfl (fun hb_6 => ?_) fun hb_6 => ?_
  ·refine ly rfl rfl <| ld2 Tn_38 1 rfl <| ly rfl rfl <| qc hb_6 (m_i_RuleAt_ok N · x2 (⟨#[110, 111, 110, 101]⟩ : ByteArray) h1.rsl ·) rfl rfl rfl fun x15 hb_6 => arr 2 [] rfl ?_
   cases hb_6
   exact ku K
  ·refine arr 4 [] rfl ?_
   cases hb_6
   exact ku K
 refine la rfl <| en ?_
 exact rt hF h
end Go.Proofs.YteipbimepilcfaaGreatDoor
