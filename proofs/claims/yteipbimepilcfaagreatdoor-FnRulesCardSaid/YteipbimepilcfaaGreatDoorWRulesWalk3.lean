/- Printed by a program of ours: each Go function computes its Lean function. -/
import Derived.Test.YteipbimepilcfaaGreatDoorProg
import Derived.Test.YteipbimepilcfaaGreatDoorWRulesWalk2
namespace Go.Proofs.YteipbimepilcfaaGreatDoor
open Eng Tryz
open Go.RowKit (Below)
set_option linter.unusedVariables false
set_option linter.unusedSimpArgs false

set_option maxRecDepth 100000
set_option maxHeartbeats 1000000
variable {Ψ Φ : Hp} {pv0_0 pv0_1 pv0_2 pv0 pv1 : Value} {pG0_0 pG0_1 pG0_2 pG0 pG1 : List Nat} (N : Nat)
theorem m_i_inRange_ok  (w0 : Base Ψ Φ []) (p0 : Int) (p1 : Int) (p2 : Int)  {r : Bool} (h : m_i_inRange N p0 p1 p2 = some r) :
  CB w0 prog 31 [iV p0, iV p1, iV p2] (.bool r) := by
 refine eN func31 rfl ntmps31 rfl w0 fun hF => ?_
 unfold m_i_inRange at h
 refine atr 10 [] rfl ?_
 obtain ⟨b1, hb_1, h⟩ := bs h
 refine WL.cutN 4 [(14, .bool b1), (6, .bool false)] ?_ (fun K => ?_)
 rotate_left
 ·refine sp 10 hb_1 rfl (fun hb_1 => ?_) fun hb_1 => ?_
  ·refine arr 4 [] rfl ?_
   cases hb_1
   exact ku K
  ·refine arr 4 [] rfl ?_
   cases hb_1
   exact ku K
 refine la rfl <| en ?_
 exact rt hF h
theorem m_i_isLarge_ok  (w0 : Base Ψ Φ []) (p0 : Int)  {r : Bool} (h : m_i_isLarge N p0 = some r) :
  CB w0 prog 107 [.int .u8 p0] (.bool r) := by
 refine eN func107 rfl ntmps107 rfl w0 fun hF => ?_
 unfold m_i_isLarge at h
 refine atr 9 [] rfl ?_
 obtain ⟨b1, hb_1, h⟩ := bs h
 refine WL.cutN 3 [(8, .bool b1), (2, .bool false)] ?_ (fun K => ?_)
 rotate_left
 ·refine sp 5 hb_1 rfl (fun hb_1 => ?_) fun hb_1 => ?_
  ·refine arr 3 [] rfl ?_
   cases hb_1
   exact ku K
  ·refine arr 3 [] rfl ?_
   cases hb_1
   exact ku K
 refine la rfl <| en ?_
 exact rt hF h
theorem m_i_isVar_ok  (w0 : Base Ψ Φ []) (p0 : ByteArray)  {r : Bool} (h : m_i_isVar N p0 = some r) :
  CB w0 prog 162 [.string p0] (.bool r) := by
 refine eN func162 rfl ntmps162 rfl w0 fun hF => ?_
 unfold m_i_isVar at h
 refine atr 8 [] rfl <| lq (q_lenS Str_9 rfl rfl) rfl <| arr 2 [] rfl ?_
 obtain ⟨b1, hb_1, h⟩ := bs h
 refine WL.cutN 4 [(11, .bool b1), (0, .string p0)] ?_ (fun K => ?_)
 rotate_left
 ·refine sp 7 hb_1 rfl (fun hb_1 => ?_) fun hb_1 => ?_
  ·refine arr 4 [] rfl ?_
   cases hb_1
   exact ku K
  ·refine ly rfl rfl <| la rfl <| ly rfl rfl <| lq (q_lenS Str_9 rfl rfl) rfl <| arr 2 [] rfl ?_
   cases hb_1
   exact ku K
 refine la rfl ?_
 obtain ⟨b2, hb_2, h⟩ := bs h
 refine WL.cutN 5 [(17, .bool b2), (0, .string p0)] ?_ (fun K => ?_)
 rotate_left
 ·refine sp 12 hb_2 rfl (fun hb_2 => ?_) fun hb_2 => ?_
  ·refine arr 5 [] rfl ?_
   cases hb_2
   exact ku K
  ·refine ly rfl rfl <| la rfl <| ly rfl rfl ?_
   obtain ⟨y1, hy1, hb_2⟩ := bs hb_2
   refine lq (q_indexS Str_9 rfl rfl hy1) rfl <| ly rfl rfl <| qc hb_2 (m_i_isLarge_ok N · (y1.toNat : Int) ·) rfl rfl rfl fun x1 hb_2 => arr 2 [] rfl ?_
   cases hb_2
   exact ku K
 refine en ?_
 refine ch h rfl ?_ ?_ <;> intro h
 ·refine att 4 [] rfl ?_
  exact rt hF h
 refine att 7 [] rfl ?_
 refine lin (σ := Int) (fun s => [(0, .string p0), (3, iV s)]) (fun s => St w0 Φ [] []) (fun m s => m_i_isVar_l1 N p0 m s = some r) (0) N h (sx [] []) (fun n1 ih1 s hm => ?_)
 revert hm; revert s; intro s1 hm
 have h : m_i_isVar_l1 N p0 (n1 + 1) s1 = some r := hm
 show WT _ _ [(0, .string p0), (3, iV s1)] (St w0 Φ [] [])
 unfold m_i_isVar_l1 at h
 refine atr 5 [] rfl <| lq (q_lenS Str_9 rfl rfl) rfl <| la rfl <| en ?_
 refine ch h rfl ?_ ?_ <;> intro h
 ·refine atr 7 [] rfl ?_
  obtain ⟨y2, hy2, h⟩ := bs h
  refine lq (q_indexS Str_9 rfl rfl hy2) rfl <| qc h (m_i_isWordByte_ok N · (y2.toNat : Int) ·) rfl rfl rfl fun x2 h => arr 2 [] rfl ?_
  obtain ⟨b3, hb_3, h⟩ := bs h
  refine WL.cutN 6 [(35, .bool b3), (0, .string p0), (3, iV s1)] ?_ (fun K => ?_)
  rotate_left
  ·refine sp 29 hb_3 rfl (fun hb_3 => ?_) fun hb_3 => ?_
   ·refine arr 2 [] rfl <| ly rfl rfl ?_
    obtain ⟨y3, hy3, hb_3⟩ := bs hb_3
    refine lq (q_indexS Str_9 rfl rfl hy3) rfl <| ly rfl rfl <| qc hb_3 (m_i_isLarge_ok N · (y3.toNat : Int) ·) rfl rfl rfl fun x3 hb_3 => arr 2 [] rfl ?_
    cases hb_3
    exact ku K
   ·refine arr 6 [] rfl ?_
    cases hb_3
    exact ku K
  refine en ?_
  refine ch h rfl ?_ ?_ <;> intro h
  ·refine att 4 [] rfl ?_
   exact rt hF h
  refine att 7 [] rfl ?_
  exact lb [] [] (ih1 _ h)
 refine att 5 [] rfl ?_
 exact rt hF h
theorem m_i_ValOk_ok  (w0 : Base Ψ Φ []) (p0 : TVal)  {r : Bool} (h : m_i_ValOk N p0 = some r) :
  CB w0 prog 192 [.agg [iV p0.K, iV p0.N, .string p0.S].toArray] (.bool r) := by
 refine eN func192 rfl ntmps192 rfl w0 fun hF => ?_
 unfold m_i_ValOk at h
 refine sr <| lbx rfl fun b_1 => art 14 [0, 0] rfl ?_
 refine ch h rfl ?_ ?_ <;> intro h
 ·refine atr 4 [1, 0] rfl <| qc h (m_i_inRange_ok N · p0.N (-1000000000) 1000000000 ·) rfl rfl rfl fun x1 h => la rfl ?_
  obtain ⟨b1, hb_1, h⟩ := bs h
  refine WL.cutN 4 [(14, .bool b1), (2, .bool false)] ?_ (fun K => ?_)
  rotate_left
  ·refine sp 10 hb_1 rfl (fun hb_1 => ?_) fun hb_1 => ?_
   ·refine arr 4 [2, 0] rfl ?_
    cases hb_1
    exact ku K
   ·refine arr 4 [] rfl ?_
    cases hb_1
    exact ku K
  refine la rfl <| en ?_
  exact rt hF h
 refine att 5 [] rfl ?_
 refine ch h rfl ?_ ?_ <;> intro h
 ·refine atr 6 [1, 0] rfl ?_
  obtain ⟨b2, hb_2, h⟩ := bs h
  refine WL.cutN 4 [(24, .bool b2), (2, .bool false)] ?_ (fun K => ?_)
  rotate_left
  ·refine sp 20 hb_2 rfl (fun hb_2 => ?_) fun hb_2 => ?_
   ·refine arr 2 [2, 0] rfl <| ly rfl rfl <| qc hb_2 (m_i_isWord_ok N · p0.S 20 ·) rfl rfl rfl fun x2 hb_2 => la rfl ?_
    cases hb_2
    exact ku K
   ·refine arr 4 [] rfl ?_
    cases hb_2
    exact ku K
  refine la rfl <| en ?_
  exact rt hF h
 refine att 6 [] rfl ?_
 exact rt hF h
theorem m_i_ArgOk_ok  (w0 : Base Ψ Φ []) (p0 : TArg)  {r : Bool} (h : m_i_ArgOk N p0 = some r) :
  CB w0 prog 145 [.agg [iV p0.K, .string p0.S, iV p0.V.K, iV p0.V.N, .string p0.V.S].toArray] (.bool r) := by
 refine eN func145 rfl ntmps145 rfl w0 fun hF => ?_
 unfold m_i_ArgOk at h
 refine sr <| lbx rfl fun b_1 => art 14 [0, 0] rfl ?_
 refine ch h rfl ?_ ?_ <;> intro h
 ·refine atr 4 [1, 0] rfl <| qc h (m_i_isVar_ok N · p0.S ·) rfl rfl rfl fun x1 h => la rfl ?_
  obtain ⟨b1, hb_1, h⟩ := bs h
  refine WL.cutN 5 [(15, .bool b1), (2, .bool false)] ?_ (fun K => ?_)
  rotate_left
  ·refine sp 10 hb_1 rfl (fun hb_1 => ?_) fun hb_1 => ?_
   ·refine arr 2 [2, 3] rfl <| ly rfl rfl <| lq (q_build (vs := []) (C := #[iV 0, iV 0, .string (⟨#[]⟩ : ByteArray)]) Pl_58 Zr_58 rfl (fill_nil)) rfl <| ly rfl rfl <| lq (q_eqA EqT_58 rfl rfl rfl (r := eqT_TVal p0.V (⟨0, 0, (⟨#[]⟩ : ByteArray)⟩ : TVal)) rfl) rfl <| la rfl ?_
    cases hb_1
    exact ku K
   ·refine arr 5 [] rfl ?_
    cases hb_1
    exact ku K
  refine la rfl <| en ?_
  exact rt hF h
 refine att 5 [] rfl ?_
 refine ch h rfl ?_ ?_ <;> intro h
 ·refine atr 6 [1, 0] rfl ?_
  obtain ⟨b2, hb_2, h⟩ := bs h
  refine WL.cutN 4 [(25, .bool b2), (2, .bool false)] ?_ (fun K => ?_)
  rotate_left
  ·refine sp 21 hb_2 rfl (fun hb_2 => ?_) fun hb_2 => ?_
   ·refine arr 2 [2, 3] rfl <| ly rfl rfl <| qc hb_2 (m_i_ValOk_ok N · p0.V ·) rfl rfl rfl fun x2 hb_2 => la rfl ?_
    cases hb_2
    exact ku K
   ·refine arr 4 [] rfl ?_
    cases hb_2
    exact ku K
  refine la rfl <| en ?_
  exact rt hF h
 refine att 5 [] rfl ?_
 refine ch h rfl ?_ ?_ <;> intro h
 ·refine atr 6 [1, 0] rfl ?_
  obtain ⟨b3, hb_3, h⟩ := bs h
  refine WL.cutN 5 [(36, .bool b3), (2, .bool false)] ?_ (fun K => ?_)
  rotate_left
  ·refine sp 31 hb_3 rfl (fun hb_3 => ?_) fun hb_3 => ?_
   ·refine arr 2 [2, 3] rfl <| ly rfl rfl <| lq (q_build (vs := []) (C := #[iV 0, iV 0, .string (⟨#[]⟩ : ByteArray)]) Pl_58 Zr_58 rfl (fill_nil)) rfl <| ly rfl rfl <| lq (q_eqA EqT_58 rfl rfl rfl (r := eqT_TVal p0.V (⟨0, 0, (⟨#[]⟩ : ByteArray)⟩ : TVal)) rfl) rfl <| la rfl ?_
    cases hb_3
    exact ku K
   ·refine arr 5 [] rfl ?_
    cases hb_3
    exact ku K
  refine la rfl <| en ?_
  exact rt hF h
 refine att 6 [] rfl ?_
 exact rt hF h
theorem m_i_PatOk_ok (w0 : Base Ψ Φ []) (p0 : TPat) (ph0_0 : RSl RTArg 5 Ψ pG0_0 pv0_0 p0.Args) {r : Bool} (h : m_i_PatOk N p0 = some r) :
  CB w0 prog 78 [.agg [.string p0.Kind, pv0_0, .bool p0.Not].toArray] (.bool r) := by
 refine eN func78 rfl ntmps78 rfl w0 fun hF => ?_
 unfold m_i_PatOk at h
 refine sr <| lbx rfl fun b_1 => arr 7 [0, 0] rfl <| qc h (m_i_NameOk_ok N · p0.Kind ·) rfl rfl rfl fun x1 h => arr 2 [] rfl ?_
 obtain ⟨b1, hb_1, h⟩ := bs h
 refine WL.cutN 5 [(14, .bool b1), (1, pQ b_1)] ?_ (fun K => ?_)
 rotate_left
 ·refine sp 9 hb_1 rfl (fun hb_1 => ?_) fun hb_1 => ?_
  ·refine arr 5 [] rfl ?_
   cases hb_1
   exact ku K
  ·refine arr 2 [1, 0] rfl <| ly rfl rfl <| lnr ph0_0 rfl <| arr 2 [] rfl ?_
   cases hb_1
   exact ku K
 refine en ?_
 refine ch h rfl ?_ ?_ <;> intro h
 ·refine att 4 [] rfl ?_
  exact rt hF h
 refine atr 6 [1, 0] rfl <| lnr ph0_0 rfl <| art 3 [] rfl ?_
 refine lin (σ := Int) (fun s => [(16, pv0_0), (17, iV (p0.Args.length : Int)), (18, iV s)]) (fun s => St w0 Φ [] []) (fun m s => m_i_PatOk_l1 N p0 m s = some r) (0) N h (sx [] []) (fun n1 ih1 s hm => ?_)
 revert hm; revert s; intro s1 hm
 have h : m_i_PatOk_l1 N p0 (n1 + 1) s1 = some r := hm
 show WT _ _ [(16, pv0_0), (17, iV (p0.Args.length : Int)), (18, iV s1)] (St w0 Φ [] [])
 unfold m_i_PatOk_l1 at h
 refine att 5 [] rfl ?_
 refine ch h rfl ?_ ?_ <;> intro h
 ·refine atr 5 [] rfl ?_
  obtain ⟨x2, hx2, h⟩ := bs h
  obtain ⟨cs1, F1, -, g1, hb1, hs1, r1⟩ := ph0_0.el (idx_some hx2).2.2
  obtain ⟨rfl, -⟩ := r1
  refine lia ph0_0 hx2 rfl <| lhx 0 5 g1 rfl <| lnz Zr_60 rfl fun b_2 => soN 0 Sz_60 rfl ⟨rfl, rfl, rfl, rfl, rfl, trivial⟩ rfl ?_
  refine arr 4 [5] rfl <| qc h (m_i_ArgOk_ok N · x2 ·) rfl rfl rfl fun x3 h => la rfl <| en ?_
  refine ch h rfl ?_ ?_ <;> intro h
  ·refine att 4 [] rfl ?_
   exact rt hF h
  refine att 6 [] rfl ?_
  exact lb [] [] (ih1 _ h)
 refine att 5 [] rfl ?_
 exact rt hF h
theorem m_i_patsOk_ok (w0 : Base Ψ Φ []) (p0 : TRule) (ph0_0 : RSl RTPat 3 Ψ pG0_0 pv0_0 p0.Pats) (ph0_1 : RSl RTCond 11 Ψ pG0_1 pv0_1 p0.Conds) (ph0_2 : RSl RTAct 5 Ψ pG0_2 pv0_2 p0.Acts) {r : Bool} (h : m_i_patsOk N p0 = some r) :
  CB w0 prog 32 [.agg [.string p0.Name, iV p0.Sal, pv0_0, pv0_1, pv0_2].toArray] (.bool r) := by
 refine eN func32 rfl ntmps32 rfl w0 fun hF => ?_
 unfold m_i_patsOk at h
 refine sr <| lbx rfl fun b_1 => arr 7 [2, 0] rfl <| lnr ph0_0 rfl <| qc h (m_i_inRange_ok N · (p0.Pats.length : Int) 1 6 ·) rfl rfl rfl fun x1 h => arr 2 [] rfl ?_
 obtain ⟨b1, hb_1, h⟩ := bs h
 refine WL.cutN 5 [(15, .bool b1), (1, pQ b_1)] ?_ (fun K => ?_)
 rotate_left
 ·refine sp 10 hb_1 rfl (fun hb_1 => ?_) fun hb_1 => ?_
  ·refine arr 5 [] rfl ?_
   cases hb_1
   exact ku K
  ·refine ly rfl rfl <| ld5 Tn_28 0 rfl <| ly rfl rfl <| qd hb_1 (m_i_PosCount_ok N · p0 ph0_0 ph0_1 ph0_2 ·) rfl rfl rfl fun x2 hb_1 => ly rfl rfl <| qc hb_1 (m_i_inRange_ok N · x2 1 3 ·) rfl rfl rfl fun x3 hb_1 => arr 2 [] rfl ?_
   cases hb_1
   exact ku K
 refine en ?_
 refine ch h rfl ?_ ?_ <;> intro h
 ·refine att 4 [] rfl ?_
  exact rt hF h
 refine atr 6 [2, 0] rfl <| lnr ph0_0 rfl <| art 3 [] rfl ?_
 refine lin (σ := Int) (fun s => [(1, pQ b_1), (17, pv0_0), (18, iV (p0.Pats.length : Int)), (19, iV s)]) (fun s => St w0 Φ [(b_1, .cells #[.string p0.Name, iV p0.Sal, pv0_0, pv0_1, pv0_2] 28 (0, 0))] []) (fun m s => m_i_patsOk_l1 N p0 m s = some r) (0) N h (sx [] [0]) (fun n1 ih1 s hm => ?_)
 revert hm; revert s; intro s1 hm
 have h : m_i_patsOk_l1 N p0 (n1 + 1) s1 = some r := hm
 show WT _ _ [(1, pQ b_1), (17, pv0_0), (18, iV (p0.Pats.length : Int)), (19, iV s1)] (St w0 Φ [(b_1, .cells #[.string p0.Name, iV p0.Sal, pv0_0, pv0_1, pv0_2] 28 (0, 0))] [])
 unfold m_i_patsOk_l1 at h
 refine att 5 [] rfl ?_
 refine ch h rfl ?_ ?_ <;> intro h
 ·refine atr 6 [] rfl ?_
  obtain ⟨x4, hx4, h⟩ := bs h
  obtain ⟨cs1, F1, -, g1, hb1, hs1, r1⟩ := ph0_0.el (idx_some hx4).2.2
  obtain ⟨v1, G1, rfl, hq1, h1⟩ := r1
  obtain rfl := hq1.symm
  refine lia ph0_0 hx4 rfl <| lhx 0 3 g1 rfl <| lnz Zr_35 rfl fun b_2 => la rfl <| soN 0 Sz_35 rfl ⟨rfl, h1.one, rfl, trivial⟩ rfl ?_
  refine en <| sq <| WT.draw mixed (by kernel_rfl) (fun _ h => h.drew) <| qq (q_loadN Tn_35 rfl (fun w1 hw => hw.rgO (i := 0) rfl 0 3 [.string x4.Kind, v1, .bool x4.Not] rfl) rfl) rfl ?_
  obtain ⟨x5, hx5, h⟩ := bs h
  refine qp (p_call Fun_78 rfl (fun w1 hw => m_i_PatOk_ok N (ba hw.in0) x4 h1 hx5)) rfl <| aqq 2 [] rfl ?_
  obtain ⟨b2, hb_2, h⟩ := bs h
  refine WQ.cutN 8 [(35, .bool b2), (1, pQ b_1), (17, pv0_0), (18, iV (p0.Pats.length : Int)), (19, iV s1)] ?_ (fun K => ?_)
  rotate_left
  ·refine WQ.split (d := 27) rfl (fun c4 => ?_) (fun c4 => ?_)
   ·replace hb_2 := ite_t hb_2 c4
    refine aqq 8 [] rfl ?_
    cases hb_2
    exact kq K
   ·replace hb_2 := ite_f hb_2 c4
    refine aqq 4 [2, 0, 37] rfl <| WQ.yes rfl rfl ?_
    obtain ⟨x6, hx6, hb_2⟩ := bs hb_2
    refine qp (p_call Fun_12 rfl (fun w1 hw => m_i_PosCount_ok N (ba hw.in0) p0 ph0_0 ph0_1 ph0_2 hx6)) rfl <| WQ.yes rfl rfl <| qq (q_geq rfl rfl) rfl <| WQ.yes rfl rfl <| qq (q_bne Bo_4 rfl rfl) rfl <| WQ.q (q_pick0 rfl rfl) rfl rfl rfl ?_
    cases hb_2
    exact kq K
  refine WQ.nil ?_
  refine ch h rfl ?_ ?_ <;> intro h
  ·refine att 4 [] rfl ?_
   exact rt hF h
  refine att 6 [] rfl ?_
  exact lb [] [1] (ih1 _ h)
 refine att 5 [] rfl ?_
 exact rt hF h
theorem m_i_isTerm_ok  (w0 : Base Ψ Φ []) (p0 : TArg)  {r : Bool} (h : m_i_isTerm N p0 = some r) :
  CB w0 prog 79 [.agg [iV p0.K, .string p0.S, iV p0.V.K, iV p0.V.N, .string p0.V.S].toArray] (.bool r) := by
 refine eN func79 rfl ntmps79 rfl w0 fun hF => ?_
 unfold m_i_isTerm at h
 refine sr <| lbx rfl fun b_1 => arr 8 [0, 0] rfl ?_
 obtain ⟨b1, hb_1, h⟩ := bs h
 refine WL.cutN 3 [(9, .bool b1), (2, .bool false)] ?_ (fun K => ?_)
 rotate_left
 ·refine sp 6 hb_1 rfl (fun hb_1 => ?_) fun hb_1 => ?_
  ·refine ly rfl rfl <| ld5 Tn_60 0 rfl <| ly rfl rfl <| qc hb_1 (m_i_ArgOk_ok N · p0 ·) rfl rfl rfl fun x1 hb_1 => la rfl ?_
   cases hb_1
   exact ku K
  ·refine arr 3 [] rfl ?_
   cases hb_1
   exact ku K
 refine la rfl <| en ?_
 exact rt hF h
theorem m_i_CondOk_ok  (w0 : Base Ψ Φ []) (p0 : TCond)  {r : Bool} (h : m_i_CondOk N p0 = some r) :
  CB w0 prog 33 [.agg [iV p0.Op, iV p0.L.K, .string p0.L.S, iV p0.L.V.K, iV p0.L.V.N, .string p0.L.V.S, iV p0.R.K, .string p0.R.S, iV p0.R.V.K, iV p0.R.V.N, .string p0.R.V.S].toArray] (.bool r) := by
 refine eN func33 rfl ntmps33 rfl w0 fun hF => ?_
 unfold m_i_CondOk at h
 refine sr <| lbx rfl fun b_1 => arr 6 [0, 0] rfl <| qc h (m_i_inRange_ok N · p0.Op 1 3 ·) rfl rfl rfl fun x1 h => la rfl ?_
 obtain ⟨b1, hb_1, h⟩ := bs h
 refine WL.cutN 4 [(10, .bool b1), (1, pQ b_1), (2, .bool false)] ?_ (fun K => ?_)
 rotate_left
 ·refine sp 6 hb_1 rfl (fun hb_1 => ?_) fun hb_1 => ?_
  ·refine arr 2 [1, 5] rfl <| ly rfl rfl <| qc hb_1 (m_i_isTerm_ok N · p0.L ·) rfl rfl rfl fun x2 hb_1 => la rfl ?_
   cases hb_1
   exact ku K
  ·refine arr 4 [] rfl ?_
   cases hb_1
   exact ku K
 refine la rfl ?_
 obtain ⟨b2, hb_2, h⟩ := bs h
 refine WL.cutN 4 [(15, .bool b2), (2, .bool false)] ?_ (fun K => ?_)
 rotate_left
 ·refine sp 11 hb_2 rfl (fun hb_2 => ?_) fun hb_2 => ?_
  ·refine arr 2 [6, 5] rfl <| ly rfl rfl <| qc hb_2 (m_i_isTerm_ok N · p0.R ·) rfl rfl rfl fun x3 hb_2 => la rfl ?_
   cases hb_2
   exact ku K
  ·refine arr 4 [] rfl ?_
   cases hb_2
   exact ku K
 refine la rfl <| en ?_
 exact rt hF h
theorem m_i_ExprOk_ok  (w0 : Base Ψ Φ []) (p0 : TExpr)  {r : Bool} (h : m_i_ExprOk N p0 = some r) :
  CB w0 prog 146 [.agg [.string p0.Op, iV p0.L.K, .string p0.L.S, iV p0.L.V.K, iV p0.L.V.N, .string p0.L.V.S, iV p0.R.K, .string p0.R.S, iV p0.R.V.K, iV p0.R.V.N, .string p0.R.V.S].toArray] (.bool r) := by
 refine eN func146 rfl ntmps146 rfl w0 fun hF => ?_
 unfold m_i_ExprOk at h
 refine sr <| lbx rfl fun b_1 => art 14 [0, 0] rfl ?_
 refine ch h rfl ?_ ?_ <;> intro h
 ·refine atr 4 [1, 5] rfl <| qc h (m_i_isTerm_ok N · p0.L ·) rfl rfl rfl fun x1 h => la rfl ?_
  obtain ⟨b1, hb_1, h⟩ := bs h
  refine WL.cutN 5 [(15, .bool b1), (2, .bool false)] ?_ (fun K => ?_)
  rotate_left
  ·refine sp 10 hb_1 rfl (fun hb_1 => ?_) fun hb_1 => ?_
   ·refine arr 2 [6, 5] rfl <| ly rfl rfl <| lq (q_build (vs := []) (C := #[iV 0, .string (⟨#[]⟩ : ByteArray), iV 0, iV 0, .string (⟨#[]⟩ : ByteArray)]) Pl_60 Zr_60 rfl (fill_nil)) rfl <| ly rfl rfl <| lq (q_eqA EqT_60 rfl rfl rfl (r := eqT_TArg p0.R (⟨0, (⟨#[]⟩ : ByteArray), (⟨0, 0, (⟨#[]⟩ : ByteArray)⟩ : TVal)⟩ : TArg)) rfl) rfl <| la rfl ?_
    cases hb_1
    exact ku K
   ·refine arr 5 [] rfl ?_
    cases hb_1
    exact ku K
  refine la rfl <| en ?_
  exact rt hF h
 refine att 6 [] rfl ?_
 refine cut (σ := Bool) (fun s => [(1, pQ b_1), (16, .bool s)]) (fun s => St w0 Φ [(b_1, .cells #[.string p0.Op, iV p0.L.K, .string p0.L.S, iV p0.L.V.K, iV p0.L.V.N, .string p0.L.V.S, iV p0.R.K, .string p0.R.S, iV p0.R.V.K, iV p0.R.V.N, .string p0.R.V.S] 116 (0, 0))] []) (fun s => m_i_ExprOk_j1 N p0 s = some r) (fun s hm => ?_) (fun K => ?_)
 ·clear h
  revert hm; revert s; intro s1 hm
  have h : m_i_ExprOk_j1 N p0 s1 = some r := hm
  show WT _ _ [(1, pQ b_1), (16, .bool s1)] (St w0 Φ [(b_1, .cells #[.string p0.Op, iV p0.L.K, .string p0.L.S, iV p0.L.V.K, iV p0.L.V.N, .string p0.L.V.S, iV p0.R.K, .string p0.R.S, iV p0.R.V.K, iV p0.R.V.N, .string p0.R.V.S] 116 (0, 0))] [])
  unfold m_i_ExprOk_j1 at h
  refine ch h rfl ?_ ?_ <;> intro h
  ·refine atr 4 [1, 5] rfl <| qc h (m_i_isTerm_ok N · p0.L ·) rfl rfl rfl fun x2 h => la rfl ?_
   obtain ⟨b2, hb_2, h⟩ := bs h
   refine WL.cutN 4 [(26, .bool b2)] ?_ (fun K => ?_)
   rotate_left
   ·refine sp 22 hb_2 rfl (fun hb_2 => ?_) fun hb_2 => ?_
    ·refine arr 2 [6, 5] rfl <| ly rfl rfl <| qc hb_2 (m_i_isTerm_ok N · p0.R ·) rfl rfl rfl fun x3 hb_2 => la rfl ?_
     cases hb_2
     exact ku K
    ·refine arr 4 [] rfl ?_
     cases hb_2
     exact ku K
   refine la rfl <| en ?_
   exact rt hF h
  refine att 6 [] rfl ?_
  exact rt hF h
 refine ch h rfl ?_ ?_ <;> intro h
 ·refine WT.skip ?_
  exact wo [] [0] (K _ h)
 refine att 4 [] rfl ?_
 exact wo [] [0] (K _ h)
theorem m_i_argsOk_ok (w0 : Base Ψ Φ []) (p0 : TAct) (ph0_0 : RSl RTExpr 11 Ψ pG0_0 pv0_0 p0.Args) {r : Bool} (h : m_i_argsOk N p0 = some r) :
  CB w0 prog 80 [.agg [iV p0.Kind, .string p0.Name, pv0_0, iV p0.N, .string p0.Undo].toArray] (.bool r) := by
 refine eN func80 rfl ntmps80 rfl w0 fun hF => ?_
 unfold m_i_argsOk at h
 refine sr <| lbx rfl fun b_1 => arr 7 [1, 0] rfl <| qc h (m_i_NameOk_ok N · p0.Name ·) rfl rfl rfl fun x1 h => arr 2 [] rfl ?_
 obtain ⟨b1, hb_1, h⟩ := bs h
 refine WL.cutN 5 [(14, .bool b1), (1, pQ b_1)] ?_ (fun K => ?_)
 rotate_left
 ·refine sp 9 hb_1 rfl (fun hb_1 => ?_) fun hb_1 => ?_
  ·refine arr 5 [] rfl ?_
   cases hb_1
   exact ku K
  ·refine arr 2 [2, 0] rfl <| ly rfl rfl <| lnr ph0_0 rfl <| arr 2 [] rfl ?_
   cases hb_1
   exact ku K
 refine en ?_
 refine ch h rfl ?_ ?_ <;> intro h
 ·refine att 4 [] rfl ?_
  exact rt hF h
 refine atr 6 [2, 0] rfl <| lnr ph0_0 rfl <| art 3 [] rfl ?_
 refine lin (σ := Int) (fun s => [(16, pv0_0), (17, iV (p0.Args.length : Int)), (18, iV s)]) (fun s => St w0 Φ [] []) (fun m s => m_i_argsOk_l1 N p0 m s = some r) (0) N h (sx [] []) (fun n1 ih1 s hm => ?_)
 revert hm; revert s; intro s1 hm
 have h : m_i_argsOk_l1 N p0 (n1 + 1) s1 = some r := hm
 show WT _ _ [(16, pv0_0), (17, iV (p0.Args.length : Int)), (18, iV s1)] (St w0 Φ [] [])
 unfold m_i_argsOk_l1 at h
 refine att 5 [] rfl ?_
 refine ch h rfl ?_ ?_ <;> intro h
 ·refine atr 5 [] rfl ?_
  obtain ⟨x2, hx2, h⟩ := bs h
  obtain ⟨cs1, F1, -, g1, hb1, hs1, r1⟩ := ph0_0.el (idx_some hx2).2.2
  obtain ⟨rfl, -⟩ := r1
  refine lia ph0_0 hx2 rfl <| lhx 0 11 g1 rfl <| lnz Zr_116 rfl fun b_2 => soN 0 Sz_116 rfl ⟨rfl, rfl, rfl, rfl, rfl, rfl, rfl, rfl, rfl, rfl, rfl, trivial⟩ rfl ?_
  refine arr 4 [11] rfl <| qc h (m_i_ExprOk_ok N · x2 ·) rfl rfl rfl fun x3 h => la rfl <| en ?_
  refine ch h rfl ?_ ?_ <;> intro h
  ·refine att 4 [] rfl ?_
   exact rt hF h
  refine att 6 [] rfl ?_
  exact lb [] [] (ih1 _ h)
 refine att 5 [] rfl ?_
 exact rt hF h
theorem m_i_isUndo_ok  (w0 : Base Ψ Φ []) (p0 : ByteArray)  {r : Bool} (h : m_i_isUndo N p0 = some r) :
  CB w0 prog 81 [.string p0] (.bool r) := by
 refine eN func81 rfl ntmps81 rfl w0 fun hF => ?_
 unfold m_i_isUndo at h
 refine atr 9 [] rfl ?_
 obtain ⟨b1, hb_1, h⟩ := bs h
 refine WL.cutN 3 [(8, .bool b1), (2, .bool false)] ?_ (fun K => ?_)
 rotate_left
 ·refine sp 5 hb_1 rfl (fun hb_1 => ?_) fun hb_1 => ?_
  ·refine arr 3 [] rfl ?_
   cases hb_1
   exact ku K
  ·refine ly rfl rfl <| la rfl <| ly rfl rfl <| qc hb_1 (m_i_NameOk_ok N · p0 ·) rfl rfl rfl fun x1 hb_1 => la rfl ?_
   cases hb_1
   exact ku K
 refine la rfl <| en ?_
 exact rt hF h
theorem m_i_ActOk_ok (w0 : Base Ψ Φ []) (p0 : TAct) (ph0_0 : RSl RTExpr 11 Ψ pG0_0 pv0_0 p0.Args) {r : Bool} (h : m_i_ActOk N p0 = some r) :
  CB w0 prog 34 [.agg [iV p0.Kind, .string p0.Name, pv0_0, iV p0.N, .string p0.Undo].toArray] (.bool r) := by
 refine eN func34 rfl ntmps34 rfl w0 fun hF => ?_
 unfold m_i_ActOk at h
 refine sr <| lbx rfl fun b_1 => arr 8 [1, 0] rfl ?_
 obtain ⟨b1, hb_1, h⟩ := bs h
 refine WL.cutN 5 [(12, .bool b1), (1, pQ b_1)] ?_ (fun K => ?_)
 rotate_left
 ·refine sp 7 hb_1 rfl (fun hb_1 => ?_) fun hb_1 => ?_
  ·refine arr 2 [2, 0] rfl <| ly rfl rfl <| lnr ph0_0 rfl <| arr 2 [] rfl ?_
   cases hb_1
   exact ku K
  ·refine arr 5 [] rfl ?_
   cases hb_1
   exact ku K
 refine art 14 [0, 0] rfl ?_
 refine ch h rfl ?_ ?_ <;> intro h
 ·refine atr 3 [5] rfl <| qd h (m_i_argsOk_ok N · p0 ph0_0 ·) rfl rfl rfl fun x1 h => la rfl ?_
  obtain ⟨b2, hb_2, h⟩ := bs h
  refine WL.cutN 4 [(23, .bool b2), (1, pQ b_1)] ?_ (fun K => ?_)
  rotate_left
  ·refine sp 19 hb_2 rfl (fun hb_2 => ?_) fun hb_2 => ?_
   ·refine arr 4 [3, 0] rfl ?_
    cases hb_2
    exact ku K
   ·refine arr 4 [] rfl ?_
    cases hb_2
    exact ku K
  refine la rfl ?_
  obtain ⟨b3, hb_3, h⟩ := bs h
  refine WL.cutN 4 [(28, .bool b3)] ?_ (fun K => ?_)
  rotate_left
  ·refine sp 24 hb_3 rfl (fun hb_3 => ?_) fun hb_3 => ?_
   ·refine arr 4 [4, 0] rfl ?_
    cases hb_3
    exact ku K
   ·refine arr 4 [] rfl ?_
    cases hb_3
    exact ku K
  refine la rfl <| en ?_
  exact rt hF h
 refine att 5 [] rfl ?_
 refine ch h rfl ?_ ?_ <;> intro h
 ·refine atr 4 [] rfl ?_
  obtain ⟨b4, hb_4, h⟩ := bs h
  refine WL.cutN 4 [(36, .bool b4), (1, pQ b_1)] ?_ (fun K => ?_)
  rotate_left
  ·refine sp 32 hb_4 rfl (fun hb_4 => ?_) fun hb_4 => ?_
   ·refine arr 2 [3, 0] rfl <| ly rfl rfl <| qc hb_4 (m_i_inRange_ok N · p0.N 0 7 ·) rfl rfl rfl fun x2 hb_4 => la rfl ?_
    cases hb_4
    exact ku K
   ·refine arr 4 [] rfl ?_
    cases hb_4
    exact ku K
  refine la rfl ?_
  obtain ⟨b5, hb_5, h⟩ := bs h
  refine WL.cutN 4 [(41, .bool b5)] ?_ (fun K => ?_)
  rotate_left
  ·refine sp 37 hb_5 rfl (fun hb_5 => ?_) fun hb_5 => ?_
   ·refine arr 4 [4, 0] rfl ?_
    cases hb_5
    exact ku K
   ·refine arr 4 [] rfl ?_
    cases hb_5
    exact ku K
  refine la rfl <| en ?_
  exact rt hF h
 refine att 5 [] rfl ?_
 refine ch h rfl ?_ ?_ <;> intro h
 ·refine atr 3 [5] rfl <| qd h (m_i_argsOk_ok N · p0 ph0_0 ·) rfl rfl rfl fun x3 h => la rfl ?_
  obtain ⟨b6, hb_6, h⟩ := bs h
  refine WL.cutN 4 [(50, .bool b6), (1, pQ b_1)] ?_ (fun K => ?_)
  rotate_left
  ·refine sp 46 hb_6 rfl (fun hb_6 => ?_) fun hb_6 => ?_
   ·refine arr 4 [3, 0] rfl ?_
    cases hb_6
    exact ku K
   ·refine arr 4 [] rfl ?_
    cases hb_6
    exact ku K
  refine la rfl ?_
  obtain ⟨b7, hb_7, h⟩ := bs h
  refine WL.cutN 4 [(55, .bool b7)] ?_ (fun K => ?_)
  rotate_left
  ·refine sp 51 hb_7 rfl (fun hb_7 => ?_) fun hb_7 => ?_
   ·refine arr 2 [4, 0] rfl <| ly rfl rfl <| qc hb_7 (m_i_isUndo_ok N · p0.Undo ·) rfl rfl rfl fun x4 hb_7 => la rfl ?_
    cases hb_7
    exact ku K
   ·refine arr 4 [] rfl ?_
    cases hb_7
    exact ku K
  refine la rfl <| en ?_
  exact rt hF h
 refine att 5 [] rfl ?_
 refine ch h rfl ?_ ?_ <;> intro h
 ·refine atr 3 [5] rfl <| qd h (m_i_argsOk_ok N · p0 ph0_0 ·) rfl rfl rfl fun x5 h => la rfl ?_
  obtain ⟨b8, hb_8, h⟩ := bs h
  refine WL.cutN 4 [(64, .bool b8), (1, pQ b_1)] ?_ (fun K => ?_)
  rotate_left
  ·refine sp 60 hb_8 rfl (fun hb_8 => ?_) fun hb_8 => ?_
   ·refine arr 2 [3, 0] rfl <| ly rfl rfl <| qc hb_8 (m_i_inRange_ok N · p0.N 0 100000 ·) rfl rfl rfl fun x6 hb_8 => la rfl ?_
    cases hb_8
    exact ku K
   ·refine arr 4 [] rfl ?_
    cases hb_8
    exact ku K
  refine la rfl ?_
  obtain ⟨b9, hb_9, h⟩ := bs h
  refine WL.cutN 4 [(69, .bool b9)] ?_ (fun K => ?_)
  rotate_left
  ·refine sp 65 hb_9 rfl (fun hb_9 => ?_) fun hb_9 => ?_
   ·refine arr 4 [4, 0] rfl ?_
    cases hb_9
    exact ku K
   ·refine arr 4 [] rfl ?_
    cases hb_9
    exact ku K
  refine la rfl <| en ?_
  exact rt hF h
 refine att 6 [] rfl ?_
 refine cut (σ := Bool) (fun s => [(1, pQ b_1), (3, .bool b1), (70, .bool s)]) (fun s => St w0 Φ [(b_1, .cells #[iV p0.Kind, .string p0.Name, pv0_0, iV p0.N, .string p0.Undo] 66 (0, 0))] []) (fun s => m_i_ActOk_j1 N p0 b1 s = some r) (fun s hm => ?_) (fun K => ?_)
 ·clear h
  revert hm; revert s; intro s1 hm
  have h : m_i_ActOk_j1 N p0 b1 s1 = some r := hm
  show WT _ _ [(1, pQ b_1), (3, .bool b1), (70, .bool s1)] (St w0 Φ [(b_1, .cells #[iV p0.Kind, .string p0.Name, pv0_0, iV p0.N, .string p0.Undo] 66 (0, 0))] [])
  unfold m_i_ActOk_j1 at h
  refine ch h rfl ?_ ?_ <;> intro h
  ·refine atr 4 [] rfl ?_
   obtain ⟨b10, hb_10, h⟩ := bs h
   refine WL.cutN 4 [(78, .bool b10), (1, pQ b_1)] ?_ (fun K => ?_)
   rotate_left
   ·refine sp 74 hb_10 rfl (fun hb_10 => ?_) fun hb_10 => ?_
    ·refine arr 4 [3, 0] rfl ?_
     cases hb_10
     exact ku K
    ·refine arr 4 [] rfl ?_
     cases hb_10
     exact ku K
   refine la rfl ?_
   obtain ⟨b11, hb_11, h⟩ := bs h
   refine WL.cutN 4 [(83, .bool b11)] ?_ (fun K => ?_)
   rotate_left
   ·refine sp 79 hb_11 rfl (fun hb_11 => ?_) fun hb_11 => ?_
    ·refine arr 4 [4, 0] rfl ?_
     cases hb_11
     exact ku K
    ·refine arr 4 [] rfl ?_
     cases hb_11
     exact ku K
   refine la rfl <| en ?_
   exact rt hF h
  refine att 6 [] rfl ?_
  exact rt hF h
 refine ch h rfl ?_ ?_ <;> intro h
 ·refine WT.skip ?_
  exact wo [] [0] (K _ h)
 refine att 4 [] rfl ?_
 exact wo [] [0] (K _ h)
theorem m_sl_Index_Sstring_string_ok (w0 : Base Ψ Φ []) (p0 : (List ByteArray)) (p1 : ByteArray) (ph0 : RSl RS 1 Ψ pG0 pv0 p0) {r : Int} (h : m_sl_Index_Sstring_string N p0 p1 = some r) :
  CB w0 prog 83 [pv0, .string p1] (iV r) := by
 refine eN func83 rfl ntmps83 rfl w0 fun hF => ?_
 unfold m_sl_Index_Sstring_string at h
 refine atr 8 [] rfl <| lnr ph0 rfl <| art 3 [] rfl ?_
 refine lin (σ := Int) (fun s => [(0, pv0), (1, .string p1), (7, iV (p0.length : Int)), (8, iV s)]) (fun s => St w0 Φ [] []) (fun m s => m_sl_Index_Sstring_string_l1 N p0 p1 m s = some r) (0) N h (sx [] []) (fun n1 ih1 s hm => ?_)
 revert hm; revert s; intro s1 hm
 have h : m_sl_Index_Sstring_string_l1 N p0 p1 (n1 + 1) s1 = some r := hm
 show WT _ _ [(0, pv0), (1, .string p1), (7, iV (p0.length : Int)), (8, iV s1)] (St w0 Φ [] [])
 unfold m_sl_Index_Sstring_string_l1 at h
 refine att 5 [] rfl ?_
 refine ch h rfl ?_ ?_ <;> intro h
 ·refine atr 13 [] rfl ?_
  obtain ⟨x1, hx1, h⟩ := bs h
  obtain ⟨cs1, F1, -, g1, hb1, hs1, r1⟩ := ph0.el (idx_some hx1).2.2
  obtain ⟨rfl, -⟩ := r1
  refine lia ph0 hx1 rfl <| lhx 0 0 g1 rfl <| la rfl <| en ?_
  refine ch h rfl ?_ ?_ <;> intro h
  ·refine att 5 [] rfl ?_
   exact rt hF h
  refine att 6 [] rfl ?_
  exact lb [] [] (ih1 _ h)
 refine att 5 [] rfl ?_
 exact rt hF h
theorem m_sl_Contains_Sstring_string_ok (w0 : Base Ψ Φ []) (p0 : (List ByteArray)) (p1 : ByteArray) (ph0 : RSl RS 1 Ψ pG0 pv0 p0) {r : Bool} (h : m_sl_Contains_Sstring_string N p0 p1 = some r) :
  CB w0 prog 37 [pv0, .string p1] (.bool r) := by
 refine eN func37 rfl ntmps37 rfl w0 fun hF => ?_
 unfold m_sl_Contains_Sstring_string at h
 refine atr 8 [] rfl <| qd h (m_sl_Index_Sstring_string_ok N · p0 p1 ph0 ·) rfl rfl rfl fun x1 h => art 3 [] rfl ?_
 exact rt hF h
theorem m_i_addOnce_ok (w0 : Base Ψ Φ [ob pv0].flatten) (p0 : (List ByteArray)) (p1 : ByteArray) (ph0 : OSl RS 9 1 Φ [] pv0 p0) {r : (List ByteArray)} (h : m_i_addOnce N p0 p1 = some r) :
  Calls prog 147 [pv0, .string p1].toArray w0.w (PostG Φ w0.w [ob pv0].flatten (fun Φ' Fs v => ∃ (sr_0_0 : Value), v = sr_0_0 ∧ Fs = [ob sr_0_0] ∧ OSl RS 9 1 Φ' [] sr_0_0 r)) := by
 refine eL func147 rfl ntmps147 rfl (L := [ob pv0]) w0 (fun hF => ?_)
 unfold m_i_addOnce at h
 refine atr 9 [] rfl <| qc h (m_sl_Contains_Sstring_string_ok N · p0 p1 ph0.rsl ·) rfl rfl rfl fun x1 h => en ?_
 refine ch h rfl ?_ ?_ <;> intro h
 ·refine att 5 [] rfl ?_
  exact rtg [0] hF (resOk.one rfl) rfl (by cases h; exact fun w1 hw => ⟨pv0, rfl, rfl, ph0⟩)
 refine atr 5 [] rfl ?_
 have rc1 : RC RS 1 Φ ([[]] : List (List Nat)) [.string p1] ([p1] : List ByteArray) := RC.cons (c := [.string p1]) (cells := []) ⟨rfl, rfl⟩ rfl (RC.nil _ _ _)
 refine le' (e_lit (vs := [(0, .string p1)]) (C := #[.string p1]) RS.lasts Sl_68 Zr_9 rfl rfl rfl rfl (fill_made MC_9_1 (fill_cons (C' := [.string p1]) rfl rfl rfl rfl rfl (fill_nil))) rfl rc1 rfl (by simpa using Kw.nil)) rfl ?_
 rintro v1 Φ_1 D1 ⟨fr1, h1⟩
 replace h1 : OSl RS 9 1 Φ_1 [] v1 ([p1] : List ByteArray) := by simpa using h1
 replace ph0 := ph0.f0 fr1
 obtain ⟨x2, hx2, h⟩ := bs h
 refine le' (e_appF RS.lasts RS.one RS.flat Sl_68 Ei_9 rfl rfl rfl rfl rfl (js := [1]) (Rr := [ob v1]) rfl ph0 h1.rsl hx2) rfl ?_
 rintro v2 Φ_2 D2 ⟨⟨ap1, fr2⟩, h2⟩
 refine la rfl <| en ?_
 exact rtg [0] hF (resOk.one rfl) rfl (by cases h; exact fun w1 hw => ⟨v2, rfl, rfl, h2⟩)
theorem m_i_addVars_ok (w0 : Base Ψ Φ [ob pv0].flatten) (p0 : (List ByteArray)) (p1 : (List TArg)) (ph0 : OSl RS 9 1 Φ [] pv0 p0) (ph1 : RSl RTArg 5 Ψ pG1 pv1 p1) {r : (List ByteArray)} (h : m_i_addVars N p0 p1 = some r) :
  Calls prog 82 [pv0, pv1].toArray w0.w (PostG Φ w0.w [ob pv0].flatten (fun Φ' Fs v => ∃ (sr_0_0 : Value), v = sr_0_0 ∧ Fs = [ob sr_0_0] ∧ OSl RS 9 1 Φ' [] sr_0_0 r)) := by
 refine eL func82 rfl ntmps82 rfl (L := [ob pv0]) w0 (fun hF => ?_)
 unfold m_i_addVars at h
 refine atr 8 [] rfl <| lnr ph1 rfl <| art 3 [] rfl ?_
 refine lin (σ := Hp × (List ByteArray) × Value × Int) (fun s => [(0, s.2.2.1), (7, pv1), (8, iV (p1.length : Int)), (9, iV s.2.2.2)]) (fun s => St w0 s.1 [] [ob s.2.2.1]) (fun m s => m_i_addVars_l1 N p1 m s.2.1 s.2.2.2 = some r ∧ (OSl RS 9 1 s.1 [] s.2.2.1 s.2.1)) (Φ, p0, pv0, 0) N ⟨h, ph0⟩ (sx [0] []) (fun n1 ih1 s hm => ?_)
 obtain ⟨Φ_1, s1, u1, s2⟩ := s
 obtain ⟨h, k1⟩ := hm
 dsimp only at h k1 ⊢
 unfold m_i_addVars_l1 at h
 refine att 5 [] rfl ?_
 refine ch h rfl ?_ ?_ <;> intro h
 ·refine atr 5 [] rfl ?_
  obtain ⟨x1, hx1, h⟩ := bs h
  obtain ⟨cs1, F1, -, g1, hb1, hs1, r1⟩ := ph1.el (idx_some hx1).2.2
  obtain ⟨rfl, -⟩ := r1
  refine lia ph1 hx1 rfl <| lhx 0 5 g1 rfl <| lnz Zr_60 rfl fun b_1 => soN 0 Sz_60 rfl ⟨rfl, rfl, rfl, rfl, rfl, trivial⟩ rfl ?_
  refine art 7 [0, 0] rfl ?_
  refine ch h rfl ?_ ?_ <;> intro h
  ·refine atr 4 [1, 0] rfl <| kcb [0] h rfl rfl rfl rfl (fun b ap z q => m_i_addOnce_ok N b s1 x1.S k1 q) ?_
   rintro x2 h v1 Φ_2 F2 ⟨ap1, fr1, v2, rfl, rfl, h1⟩
   refine art 7 [] rfl ?_
   exact lb [0] [] (ih1 (_, _, _, _) ⟨h, h1⟩)
  refine att 6 [] rfl ?_
  exact lb [0] [] (ih1 (_, _, _, _) ⟨h, k1⟩)
 refine att 6 [] rfl ?_
 exact rtg [0] hF (resOk.one rfl) rfl (by cases h; exact fun w1 hw => ⟨u1, rfl, rfl, k1⟩)
theorem m_i_PosVars_ok (w0 : Base Ψ Φ []) (p0 : TRule) (ph0_0 : RSl RTPat 3 Ψ pG0_0 pv0_0 p0.Pats) (ph0_1 : RSl RTCond 11 Ψ pG0_1 pv0_1 p0.Conds) (ph0_2 : RSl RTAct 5 Ψ pG0_2 pv0_2 p0.Acts) {r : (List ByteArray)} (h : m_i_PosVars N p0 = some r) :
  Calls prog 35 [.agg [.string p0.Name, iV p0.Sal, pv0_0, pv0_1, pv0_2].toArray].toArray w0.w (PostG Φ w0.w [] (fun Φ' Fs v => ∃ (sr_0_0 : Value), v = sr_0_0 ∧ Fs = [ob sr_0_0] ∧ OSl RS 9 1 Φ' [] sr_0_0 r)) := by
 refine eN func35 rfl ntmps35 rfl w0 fun hF => ?_
 unfold m_i_PosVars at h
 refine sr <| lbx rfl fun b_1 => arr 11 [2, 0] rfl <| lnr ph0_0 rfl <| art 3 [] rfl <| wtS ?_
 have k1 := OSl.nil RS 9 1 Φ
 refine lin (σ := Hp × (List ByteArray) × Value × Int) (fun s => [(3, s.2.2.1), (7, pv0_0), (8, iV (p0.Pats.length : Int)), (9, iV s.2.2.2)]) (fun s => St w0 s.1 [] [ob s.2.2.1]) (fun m s => m_i_PosVars_l1 N p0 m s.2.1 s.2.2.2 = some r ∧ (OSl RS 9 1 s.1 [] s.2.2.1 s.2.1)) (Φ, ([] : List ByteArray), (.slice none 0 0), 0) N ⟨h, k1⟩ (sx [0] []) (fun n1 ih1 s hm => ?_)
 obtain ⟨Φ_1, s1, u1, s2⟩ := s
 obtain ⟨h, k2⟩ := hm
 dsimp only at h k2 ⊢
 unfold m_i_PosVars_l1 at h
 refine att 5 [] rfl ?_
 refine ch h rfl ?_ ?_ <;> intro h
 ·refine atr 5 [] rfl ?_
  obtain ⟨x1, hx1, h⟩ := bs h
  obtain ⟨cs1, F1, -, g1, hb1, hs1, r1⟩ := ph0_0.el (idx_some hx1).2.2
  obtain ⟨v1, G1, rfl, hq1, h1⟩ := r1
  obtain rfl := hq1.symm
  refine lia ph0_0 hx1 rfl <| lhx 0 3 g1 rfl <| lnz Zr_35 rfl fun b_2 => soN 0 Sz_35 rfl ⟨rfl, h1.one, rfl, trivial⟩ rfl ?_
  refine art 7 [2, 0] rfl ?_
  refine ch h rfl ?_ ?_ <;> intro h
  ·refine atr 4 [1, 0] rfl <| kcb [0] h rfl rfl rfl rfl (fun b ap z q => m_i_addVars_ok N b s1 x1.Args k2 (h1.y z) q) ?_
   rintro x2 h v2 Φ_2 F2 ⟨ap1, fr1, v3, rfl, rfl, h2⟩
   refine art 7 [] rfl ?_
   exact lb [0] [] (ih1 (_, _, _, _) ⟨h, h2⟩)
  refine att 6 [] rfl ?_
  exact lb [0] [] (ih1 (_, _, _, _) ⟨h, k2⟩)
 refine att 6 [] rfl ?_
 exact rtg [0] hF (resOk.one rfl) rfl (by cases h; exact fun w1 hw => ⟨u1, rfl, rfl, k2⟩)
theorem m_i_usedVars_ok (w0 : Base Ψ Φ []) (p0 : TRule) (ph0_0 : RSl RTPat 3 Ψ pG0_0 pv0_0 p0.Pats) (ph0_1 : RSl RTCond 11 Ψ pG0_1 pv0_1 p0.Conds) (ph0_2 : RSl RTAct 5 Ψ pG0_2 pv0_2 p0.Acts) {r : (List ByteArray)} (h : m_i_usedVars N p0 = some r) :
  Calls prog 36 [.agg [.string p0.Name, iV p0.Sal, pv0_0, pv0_1, pv0_2].toArray].toArray w0.w (PostG Φ w0.w [] (fun Φ' Fs v => ∃ (sr_0_0 : Value), v = sr_0_0 ∧ Fs = [ob sr_0_0] ∧ OSl RS 9 1 Φ' [] sr_0_0 r)) := by
 refine eN func36 rfl ntmps36 rfl w0 fun hF => ?_
 unfold m_i_usedVars at h
 refine sr <| lbx rfl fun b_1 => arr 11 [3, 0] rfl <| lnr ph0_1 rfl <| art 3 [] rfl <| wtS ?_
 have k1 := OSl.nil RS 9 1 Φ
 refine lin (σ := Hp × (List ByteArray) × Value × Int) (fun s => [(1, pQ b_1), (3, s.2.2.1), (11, pv0_1), (12, iV (p0.Conds.length : Int)), (13, iV s.2.2.2)]) (fun s => St w0 s.1 [(b_1, .cells #[.string p0.Name, iV p0.Sal, pv0_0, pv0_1, pv0_2] 28 (0, 0))] [ob s.2.2.1]) (fun m s => m_i_usedVars_l1 N p0 m s.2.1 s.2.2.2 = some r ∧ (OSl RS 9 1 s.1 [] s.2.2.1 s.2.1)) (Φ, ([] : List ByteArray), (.slice none 0 0), 0) N ⟨h, k1⟩ (sx [0] [0]) (fun n1 ih1 s hm => ?_)
 obtain ⟨Φ_1, s1, u1, s2⟩ := s
 obtain ⟨h, k2⟩ := hm
 dsimp only at h k2 ⊢
 unfold m_i_usedVars_l1 at h
 refine att 5 [] rfl ?_
 refine ch h rfl ?_ ?_ <;> intro h
 ·refine atr 5 [] rfl ?_
  obtain ⟨x1, hx1, h⟩ := bs h
  obtain ⟨cs1, F1, -, g1, hb1, hs1, r1⟩ := ph0_1.el (idx_some hx1).2.2
  obtain ⟨rfl, -⟩ := r1
  refine lia ph0_1 hx1 rfl <| lhx 0 11 g1 rfl <| lnz Zr_62 rfl fun b_2 => soN 0 Sz_62 rfl ⟨rfl, rfl, rfl, rfl, rfl, rfl, rfl, rfl, rfl, rfl, rfl, trivial⟩ rfl ?_
  refine arr 7 [1, 5, 6, 5] rfl ?_
  have rc1 : RC RTArg 5 Φ_1 ([[], []] : List (List Nat)) [iV x1.L.K, .string x1.L.S, iV x1.L.V.K, iV x1.L.V.N, .string x1.L.V.S, iV x1.R.K, .string x1.R.S, iV x1.R.V.K, iV x1.R.V.N, .string x1.R.V.S] ([x1.L, x1.R] : List TArg) := RC.cons (c := [iV x1.L.K, .string x1.L.S, iV x1.L.V.K, iV x1.L.V.N, .string x1.L.V.S]) (cells := [iV x1.R.K, .string x1.R.S, iV x1.R.V.K, iV x1.R.V.N, .string x1.R.V.S]) ⟨rfl, rfl⟩ rfl (RC.cons (c := [iV x1.R.K, .string x1.R.S, iV x1.R.V.K, iV x1.R.V.N, .string x1.R.V.S]) (cells := []) ⟨rfl, rfl⟩ rfl (RC.nil _ _ _))
  refine le' (e_lit (vs := [(0, .agg [iV x1.L.K, .string x1.L.S, iV x1.L.V.K, iV x1.L.V.N, .string x1.L.V.S].toArray), (1, .agg [iV x1.R.K, .string x1.R.S, iV x1.R.V.K, iV x1.R.V.N, .string x1.R.V.S].toArray)]) (C := #[iV x1.L.K, .string x1.L.S, iV x1.L.V.K, iV x1.L.V.N, .string x1.L.V.S, iV x1.R.K, .string x1.R.S, iV x1.R.V.K, iV x1.R.V.N, .string x1.R.V.S]) RTArg.lasts Sl_33 Zr_60 rfl rfl rfl rfl (fill_made MC_60_2 (fill_cons (C' := [iV x1.L.K, .string x1.L.S, iV x1.L.V.K, iV x1.L.V.N, .string x1.L.V.S, iV 0, .string ⟨#[]⟩, iV 0, iV 0, .string ⟨#[]⟩]) rfl rfl rfl rfl rfl (fill_cons (C' := [iV x1.L.K, .string x1.L.S, iV x1.L.V.K, iV x1.L.V.N, .string x1.L.V.S, iV x1.R.K, .string x1.R.S, iV x1.R.V.K, iV x1.R.V.N, .string x1.R.V.S]) rfl rfl rfl rfl rfl (fill_nil)))) rfl rc1 rfl (by simpa using Kw.nil)) rfl ?_
  rintro v1 Φ_2 D1 ⟨fr1, h1⟩
  replace h1 : OSl RTArg 60 5 Φ_2 [] v1 ([x1.L, x1.R] : List TArg) := by simpa using h1
  replace k2 := k2.f0 fr1
  refine kcb [1] h rfl rfl rfl rfl (fun b ap z q => m_i_addVars_ok N b s1 ([x1.L, x1.R] : List TArg) k2 (h1.rsl.x (Dj.app (ap.q 0 rfl) dN)) q) ?_
  rintro x2 h v2 Φ_3 F2 ⟨ap1, fr2, v3, rfl, rfl, h2⟩
  refine art 7 [] rfl ?_
  exact lb [0] [1] (ih1 (_, _, _, _) ⟨h, h2⟩)
 refine atr 6 [4, 0] rfl <| lnr ph0_2 rfl <| art 3 [] rfl ?_
 refine lin (σ := Hp × (List ByteArray) × Value × Int) (fun s => [(3, s.2.2.1), (26, pv0_2), (27, iV (p0.Acts.length : Int)), (28, iV s.2.2.2)]) (fun s => St w0 s.1 [] [ob s.2.2.1]) (fun m s => m_i_usedVars_l2 N p0 m s.2.1 s.2.2.2 = some r ∧ (OSl RS 9 1 s.1 [] s.2.2.1 s.2.1)) (Φ_1, s1, u1, 0) N ⟨h, k2⟩ (sx [0] []) (fun n2 ih2 s hm => ?_)
 obtain ⟨Φ_4, s3, u2, s4⟩ := s
 obtain ⟨h, k3⟩ := hm
 dsimp only at h k3 ⊢
 unfold m_i_usedVars_l2 at h
 refine att 5 [] rfl ?_
 refine ch h rfl ?_ ?_ <;> intro h
 ·refine atr 5 [] rfl ?_
  obtain ⟨x3, hx3, h⟩ := bs h
  obtain ⟨cs2, F3, -, g2, hb2, hs2, r2⟩ := ph0_2.el (idx_some hx3).2.2
  obtain ⟨v4, G1, rfl, hq1, h3⟩ := r2
  obtain rfl := hq1.symm
  refine lia ph0_2 hx3 rfl <| lhx 0 5 g2 rfl <| lnz Zr_66 rfl fun b_3 => soN 0 Sz_66 rfl ⟨rfl, rfl, h3.one, rfl, rfl, trivial⟩ rfl ?_
  refine arr 5 [2, 0] rfl <| lnr h3 rfl <| art 3 [] rfl ?_
  refine lin (σ := Hp × (List ByteArray) × Value × Int) (fun s => [(3, s.2.2.1), (26, pv0_2), (27, iV (p0.Acts.length : Int)), (28, iV s4), (33, v4), (34, iV (x3.Args.length : Int)), (35, iV s.2.2.2)]) (fun s => St w0 s.1 [] [ob s.2.2.1]) (fun m s => m_i_usedVars_l3 N s4 (m_i_usedVars_l2 N p0 n2) x3 m s.2.1 s.2.2.2 = some r ∧ (OSl RS 9 1 s.1 [] s.2.2.1 s.2.1)) (Φ_4, s3, u2, 0) N ⟨h, k3⟩ (sx [0] []) (fun n3 ih3 s hm => ?_)
  obtain ⟨Φ_5, s5, u3, s6⟩ := s
  obtain ⟨h, k4⟩ := hm
  dsimp only at h k4 ⊢
  unfold m_i_usedVars_l3 at h
  refine att 5 [] rfl ?_
  refine ch h rfl ?_ ?_ <;> intro h
  ·refine atr 5 [] rfl ?_
   obtain ⟨x4, hx4, h⟩ := bs h
   obtain ⟨cs3, F4, -, g3, hb3, hs3, r3⟩ := h3.el (idx_some hx4).2.2
   obtain ⟨rfl, -⟩ := r3
   refine lia h3 hx4 rfl <| lhx 0 11 g3 rfl <| lnz Zr_116 rfl fun b_4 => soN 0 Sz_116 rfl ⟨rfl, rfl, rfl, rfl, rfl, rfl, rfl, rfl, rfl, rfl, rfl, trivial⟩ rfl ?_
   refine arr 7 [1, 5, 6, 5] rfl ?_
   have rc2 : RC RTArg 5 Φ_5 ([[], []] : List (List Nat)) [iV x4.L.K, .string x4.L.S, iV x4.L.V.K, iV x4.L.V.N, .string x4.L.V.S, iV x4.R.K, .string x4.R.S, iV x4.R.V.K, iV x4.R.V.N, .string x4.R.V.S] ([x4.L, x4.R] : List TArg) := RC.cons (c := [iV x4.L.K, .string x4.L.S, iV x4.L.V.K, iV x4.L.V.N, .string x4.L.V.S]) (cells := [iV x4.R.K, .string x4.R.S, iV x4.R.V.K, iV x4.R.V.N, .string x4.R.V.S]) ⟨rfl, rfl⟩ rfl (RC.cons (c := [iV x4.R.K, .string x4.R.S, iV x4.R.V.K, iV x4.R.V.N, .string x4.R.V.S]) (cells := []) ⟨rfl, rfl⟩ rfl (RC.nil _ _ _))
   refine le' (e_lit (vs := [(0, .agg [iV x4.L.K, .string x4.L.S, iV x4.L.V.K, iV x4.L.V.N, .string x4.L.V.S].toArray), (1, .agg [iV x4.R.K, .string x4.R.S, iV x4.R.V.K, iV x4.R.V.N, .string x4.R.V.S].toArray)]) (C := #[iV x4.L.K, .string x4.L.S, iV x4.L.V.K, iV x4.L.V.N, .string x4.L.V.S, iV x4.R.K, .string x4.R.S, iV x4.R.V.K, iV x4.R.V.N, .string x4.R.V.S]) RTArg.lasts Sl_33 Zr_60 rfl rfl rfl rfl (fill_made MC_60_2 (fill_cons (C' := [iV x4.L.K, .string x4.L.S, iV x4.L.V.K, iV x4.L.V.N, .string x4.L.V.S, iV 0, .string ⟨#[]⟩, iV 0, iV 0, .string ⟨#[]⟩]) rfl rfl rfl rfl rfl (fill_cons (C' := [iV x4.L.K, .string x4.L.S, iV x4.L.V.K, iV x4.L.V.N, .string x4.L.V.S, iV x4.R.K, .string x4.R.S, iV x4.R.V.K, iV x4.R.V.N, .string x4.R.V.S]) rfl rfl rfl rfl rfl (fill_nil)))) rfl rc2 rfl (by simpa using Kw.nil)) rfl ?_
   rintro v5 Φ_6 D2 ⟨fr3, h4⟩
   replace h4 : OSl RTArg 60 5 Φ_6 [] v5 ([x4.L, x4.R] : List TArg) := by simpa using h4
   replace k4 := k4.f0 fr3
   refine kcb [1] h rfl rfl rfl rfl (fun b ap z q => m_i_addVars_ok N b s5 ([x4.L, x4.R] : List TArg) k4 (h4.rsl.x (Dj.app (ap.q 0 rfl) dN)) q) ?_
   rintro x5 h v6 Φ_7 F5 ⟨ap2, fr4, v7, rfl, rfl, h5⟩
   refine art 7 [] rfl ?_
   exact lb [0] [] (ih3 (_, _, _, _) ⟨h, h5⟩)
  refine att 6 [] rfl ?_
  exact lb [0] [] (ih2 (_, _, _, _) ⟨h, k4⟩)
 refine att 6 [] rfl ?_
 exact rtg [0] hF (resOk.one rfl) rfl (by cases h; exact fun w1 hw => ⟨u2, rfl, rfl, k3⟩)
theorem m_i_RuleOk_ok (w0 : Base Ψ Φ []) (p0 : TRule) (ph0_0 : RSl RTPat 3 Ψ pG0_0 pv0_0 p0.Pats) (ph0_1 : RSl RTCond 11 Ψ pG0_1 pv0_1 p0.Conds) (ph0_2 : RSl RTAct 5 Ψ pG0_2 pv0_2 p0.Acts) {r : Bool} (h : m_i_RuleOk N p0 = some r) :
  CB w0 prog 9 [.agg [.string p0.Name, iV p0.Sal, pv0_0, pv0_1, pv0_2].toArray] (.bool r) := by
 refine eN func9 rfl ntmps9 rfl w0 fun hF => ?_
 unfold m_i_RuleOk at h
 refine sr <| lbx rfl fun b_1 => arr 7 [0, 0] rfl <| qc h (m_i_NameOk_ok N · p0.Name ·) rfl rfl rfl fun x1 h => arr 2 [] rfl ?_
 obtain ⟨b1, hb_1, h⟩ := bs h
 refine WL.cutN 5 [(19, .bool b1), (1, pQ b_1)] ?_ (fun K => ?_)
 rotate_left
 ·refine sp 14 hb_1 rfl (fun hb_1 => ?_) fun hb_1 => ?_
  ·refine arr 5 [] rfl ?_
   cases hb_1
   exact ku K
  ·refine arr 2 [1, 0] rfl <| ly rfl rfl <| qc hb_1 (m_i_inRange_ok N · p0.Sal (-100) 100 ·) rfl rfl rfl fun x2 hb_1 => arr 2 [] rfl ?_
   cases hb_1
   exact ku K
 refine la rfl ?_
 obtain ⟨b2, hb_2, h⟩ := bs h
 refine WL.cutN 4 [(24, .bool b2), (1, pQ b_1)] ?_ (fun K => ?_)
 rotate_left
 ·refine sp 20 hb_2 rfl (fun hb_2 => ?_) fun hb_2 => ?_
  ·refine arr 4 [] rfl ?_
   cases hb_2
   exact ku K
  ·refine ly rfl rfl <| ld5 Tn_28 0 rfl <| ly rfl rfl <| qd hb_2 (m_i_patsOk_ok N · p0 ph0_0 ph0_1 ph0_2 ·) rfl rfl rfl fun x3 hb_2 => arr 2 [] rfl ?_
   cases hb_2
   exact ku K
 refine en ?_
 refine ch h rfl ?_ ?_ <;> intro h
 ·refine att 4 [] rfl ?_
  exact rt hF h
 refine atr 6 [3, 0] rfl <| lnr ph0_1 rfl <| arr 2 [] rfl ?_
 obtain ⟨b3, hb_3, h⟩ := bs h
 refine WL.cutN 6 [(35, .bool b3), (1, pQ b_1)] ?_ (fun K => ?_)
 rotate_left
 ·refine sp 29 hb_3 rfl (fun hb_3 => ?_) fun hb_3 => ?_
  ·refine arr 6 [] rfl ?_
   cases hb_3
   exact ku K
  ·refine arr 2 [4, 0] rfl <| ly rfl rfl <| lnr ph0_2 rfl <| ly rfl rfl <| qc hb_3 (m_i_inRange_ok N · (p0.Acts.length : Int) 1 6 ·) rfl rfl rfl fun x4 hb_3 => arr 2 [] rfl ?_
   cases hb_3
   exact ku K
 refine en ?_
 refine ch h rfl ?_ ?_ <;> intro h
 ·refine att 4 [] rfl ?_
  exact rt hF h
 refine atr 6 [3, 0] rfl <| lnr ph0_1 rfl <| art 3 [] rfl ?_
 refine lin (σ := Int) (fun s => [(1, pQ b_1), (37, pv0_1), (38, iV (p0.Conds.length : Int)), (39, iV s)]) (fun s => St w0 Φ [(b_1, .cells #[.string p0.Name, iV p0.Sal, pv0_0, pv0_1, pv0_2] 28 (0, 0))] []) (fun m s => m_i_RuleOk_l1 N p0 m s = some r) (0) N h (sx [] [0]) (fun n1 ih1 s hm => ?_)
 revert hm; revert s; intro s1 hm
 have h : m_i_RuleOk_l1 N p0 (n1 + 1) s1 = some r := hm
 show WT _ _ [(1, pQ b_1), (37, pv0_1), (38, iV (p0.Conds.length : Int)), (39, iV s1)] (St w0 Φ [(b_1, .cells #[.string p0.Name, iV p0.Sal, pv0_0, pv0_1, pv0_2] 28 (0, 0))] [])
 unfold m_i_RuleOk_l1 at h
 refine att 5 [] rfl ?_
 refine ch h rfl ?_ ?_ <;> intro h
 ·refine atr 5 [] rfl ?_
  obtain ⟨x5, hx5, h⟩ := bs h
  obtain ⟨cs1, F1, -, g1, hb1, hs1, r1⟩ := ph0_1.el (idx_some hx5).2.2
  obtain ⟨rfl, -⟩ := r1
  refine lia ph0_1 hx5 rfl <| lhx 0 11 g1 rfl <| lnz Zr_62 rfl fun b_2 => soN 0 Sz_62 rfl ⟨rfl, rfl, rfl, rfl, rfl, rfl, rfl, rfl, rfl, rfl, rfl, trivial⟩ rfl ?_
  refine arr 4 [11] rfl <| qc h (m_i_CondOk_ok N · x5 ·) rfl rfl rfl fun x6 h => la rfl <| en ?_
  refine ch h rfl ?_ ?_ <;> intro h
  ·refine att 4 [] rfl ?_
   exact rt hF h
  refine att 6 [] rfl ?_
  exact lb [] [1] (ih1 _ h)
 refine atr 6 [4, 0] rfl <| lnr ph0_2 rfl <| art 3 [] rfl ?_
 refine lin (σ := Int) (fun s => [(1, pQ b_1), (48, pv0_2), (49, iV (p0.Acts.length : Int)), (50, iV s)]) (fun s => St w0 Φ [(b_1, .cells #[.string p0.Name, iV p0.Sal, pv0_0, pv0_1, pv0_2] 28 (0, 0))] []) (fun m s => m_i_RuleOk_l2 N p0 m s = some r) (0) N h (sx [] [0]) (fun n2 ih2 s hm => ?_)
 revert hm; revert s; intro s2 hm
 have h : m_i_RuleOk_l2 N p0 (n2 + 1) s2 = some r := hm
 show WT _ _ [(1, pQ b_1), (48, pv0_2), (49, iV (p0.Acts.length : Int)), (50, iV s2)] (St w0 Φ [(b_1, .cells #[.string p0.Name, iV p0.Sal, pv0_0, pv0_1, pv0_2] 28 (0, 0))] [])
 unfold m_i_RuleOk_l2 at h
 refine att 5 [] rfl ?_
 refine ch h rfl ?_ ?_ <;> intro h
 ·refine atr 5 [] rfl ?_
  obtain ⟨x7, hx7, h⟩ := bs h
  obtain ⟨cs2, F2, -, g2, hb2, hs2, r2⟩ := ph0_2.el (idx_some hx7).2.2
  obtain ⟨v1, G1, rfl, hq1, h1⟩ := r2
  obtain rfl := hq1.symm
  refine lia ph0_2 hx7 rfl <| lhx 0 5 g2 rfl <| lnz Zr_66 rfl fun b_3 => soN 0 Sz_66 rfl ⟨rfl, rfl, h1.one, rfl, rfl, trivial⟩ rfl ?_
  refine en <| sq <| WT.draw mixed (by kernel_rfl) (fun _ h => h.drew) <| qq (q_loadN Tn_66 rfl (fun w1 hw => hw.rgO (i := 0) rfl 0 5 [iV x7.Kind, .string x7.Name, v1, iV x7.N, .string x7.Undo] rfl) rfl) rfl ?_
  obtain ⟨x8, hx8, h⟩ := bs h
  refine qp (p_call Fun_34 rfl (fun w1 hw => m_i_ActOk_ok N (ba hw.in0) x7 h1 hx8)) rfl <| aqq 2 [] rfl ?_
  obtain ⟨b4, hb_4, h⟩ := bs h
  refine WQ.cutN 11 [(68, .bool b4), (1, pQ b_1), (48, pv0_2), (49, iV (p0.Acts.length : Int)), (50, iV s2)] ?_ (fun K => ?_)
  rotate_left
  ·refine WQ.split (d := 57) rfl (fun c9 => ?_) (fun c9 => ?_)
   ·replace hb_4 := ite_t hb_4 c9
    refine aqq 11 [] rfl ?_
    cases hb_4
    exact kq K
   ·replace hb_4 := ite_f hb_4 c9
    refine aqq 4 [0, 0] rfl ?_
    obtain ⟨b5, hb_5, hb_4⟩ := bs hb_4
    refine WQ.cutN 6 [(67, .bool b5), (1, pQ b_1), (48, pv0_2), (49, iV (p0.Acts.length : Int)), (50, iV s2), (57, .bool false)] ?_ (fun K => ?_)
    rotate_left
    ·refine WQ.split (d := 61) rfl (fun c10 => ?_) (fun c10 => ?_)
     ·replace hb_5 := ite_t hb_5 c10
      refine aqq 3 [3, 0, 37] rfl <| WQ.yes rfl rfl ?_
      obtain ⟨x9, hx9, hb_5⟩ := bs hb_5
      refine qp (p_call Fun_12 rfl (fun w1 hw => m_i_PosCount_ok N (ba hw.in0) p0 ph0_0 ph0_1 ph0_2 hx9)) rfl <| aqq 2 [] rfl ?_
      cases hb_5
      exact kq K
     ·replace hb_5 := ite_f hb_5 c10
      refine aqq 6 [] rfl ?_
      cases hb_5
      exact kq K
    refine WQ.q (q_pick0 rfl rfl) rfl rfl rfl ?_
    cases hb_4
    exact kq K
  refine WQ.nil ?_
  refine ch h rfl ?_ ?_ <;> intro h
  ·refine att 4 [] rfl ?_
   exact rt hF h
  refine att 6 [] rfl ?_
  exact lb [] [1] (ih2 _ h)
 refine atr 4 [5] rfl <| kab h rfl rfl rfl (fun b z q => m_i_PosVars_ok N b p0 (ph0_0.y z) (ph0_1.y z) (ph0_2.y z) q) ?_
 rintro x10 h v2 Φ_1 F3 ⟨ap1, fr1, v3, rfl, rfl, h2⟩
 refine arr 6 [5] rfl <| kab h rfl rfl rfl (fun b z q => m_i_usedVars_ok N b p0 (ph0_0.y z) (ph0_1.y z) (ph0_2.y z) q) ?_
 rintro x11 h v4 Φ_2 F4 ⟨ap2, fr2, v5, rfl, rfl, h3⟩
 replace h2 := h2.fr fr2 (ap2.q 0 rfl) dN
 refine lno h3 rfl <| art 3 [] rfl ?_
 refine lin (σ := Int) (fun s => [(7, v2), (73, v4), (74, iV (x11.length : Int)), (75, iV s)]) (fun s => St w0 Φ_2 [] [ob v4, ob v2]) (fun m s => m_i_RuleOk_l3 N x10 x11 m s = some r) (0) N h (sx [0, 0] []) (fun n3 ih3 s hm => ?_)
 revert hm; revert s; intro s3 hm
 have h : m_i_RuleOk_l3 N x10 x11 (n3 + 1) s3 = some r := hm
 show WT _ _ [(7, v2), (73, v4), (74, iV (x11.length : Int)), (75, iV s3)] (St w0 Φ_2 [] [ob v4, ob v2])
 unfold m_i_RuleOk_l3 at h
 refine att 5 [] rfl ?_
 refine ch h rfl ?_ ?_ <;> intro h
 ·refine atr 5 [] rfl ?_
  obtain ⟨x12, hx12, h⟩ := bs h
  obtain ⟨cs3, F5, -, g3, hb3, hs3, r3⟩ := h3.elS (idx_some hx12).2.2
  obtain ⟨rfl, -⟩ := r3
  refine lio h3 hx12 rfl <| lgx 0 0 g3 rfl <| arr 6 [] rfl <| qc h (m_sl_Contains_Sstring_string_ok N · x10 x12 h2.rsl ·) rfl rfl rfl fun x13 h => la rfl <| en ?_
  refine ch h rfl ?_ ?_ <;> intro h
  ·refine att 4 [] rfl ?_
   exact rt hF h
  refine att 6 [] rfl ?_
  exact lb [0, 0] [] (ih3 _ h)
 refine att 5 [] rfl ?_
 exact rt hF h
theorem m_i_ValText_ok  (w0 : Base Ψ Φ []) (p0 : TVal) (hT : Tab Ψ) {r : ByteArray} (h : m_i_ValText N p0 = some r) :
  CB w0 prog 193 [.agg [iV p0.K, iV p0.N, .string p0.S].toArray] (.string r) := by
 refine eN func193 rfl ntmps193 rfl w0 fun hF => ?_
 unfold m_i_ValText at h
 refine sr <| lbx rfl fun b_1 => arr 6 [3] rfl <| qc h (m_i_ValOk_ok N · p0 ·) rfl rfl rfl fun x1 h => la rfl <| en ?_
 refine ch h rfl ?_ ?_ <;> intro h
 ·refine att 4 [] rfl ?_
  exact rt hF h
 refine att 8 [0, 0] rfl ?_
 refine ch h rfl ?_ ?_ <;> intro h
 ·refine atr 4 [1, 0] rfl <| qd h (m_strconv_Itoa_ok N · p0.N hT ·) rfl rfl rfl fun x2 h => la rfl <| en ?_
  exact rt hF h
 refine atr 5 [2, 0] rfl ?_
 obtain ⟨z1, hz1, h⟩ := bs h
 refine lq (q_cat rfl rfl hz1) rfl ?_
 obtain ⟨z2, hz2, h⟩ := bs h
 refine lq (q_cat rfl rfl hz2) rfl <| la rfl <| en ?_
 exact rt hF h
theorem m_i_argText_ok  (w0 : Base Ψ Φ []) (p0 : TArg) (hT : Tab Ψ) {r : ByteArray} (h : m_i_argText N p0 = some r) :
  CB w0 prog 148 [.agg [iV p0.K, .string p0.S, iV p0.V.K, iV p0.V.N, .string p0.V.S].toArray] (.string r) := by
 refine eN func148 rfl ntmps148 rfl w0 fun hF => ?_
 unfold m_i_argText at h
 refine sr <| lbx rfl fun b_1 => art 14 [0, 0] rfl ?_
 refine ch h rfl ?_ ?_ <;> intro h
 ·refine att 6 [1, 0] rfl ?_
  exact rt hF h
 refine att 5 [] rfl ?_
 refine ch h rfl ?_ ?_ <;> intro h
 ·refine atr 4 [2, 3] rfl <| qd h (m_i_ValText_ok N · p0.V hT ·) rfl rfl rfl fun x1 h => la rfl <| en ?_
  exact rt hF h
 refine att 6 [] rfl ?_
 exact rt hF h
theorem m_i_PatText_ok (w0 : Base Ψ Φ []) (p0 : TPat) (hT : Tab Ψ) (ph0_0 : RSl RTArg 5 Ψ pG0_0 pv0_0 p0.Args) {r : ByteArray} (h : m_i_PatText N p0 = some r) :
  CB w0 prog 84 [.agg [.string p0.Kind, pv0_0, .bool p0.Not].toArray] (.string r) := by
 refine eN func84 rfl ntmps84 rfl w0 fun hF => ?_
 unfold m_i_PatText at h
 refine sr <| lbx rfl fun b_1 => arr 6 [3] rfl <| qd h (m_i_PatOk_ok N · p0 ph0_0 ·) rfl rfl rfl fun x1 h => la rfl <| en ?_
 refine ch h rfl ?_ ?_ <;> intro h
 ·refine att 4 [] rfl ?_
  exact rt hF h
 refine atr 10 [1, 0] rfl <| lnr ph0_0 rfl <| art 3 [] rfl <| wtS ?_
 have k1 := OSl.nil RS 9 1 Φ
 refine lin (σ := Hp × (List ByteArray) × Value × Int) (fun s => [(1, pQ b_1), (3, s.2.2.1), (11, pv0_0), (12, iV (p0.Args.length : Int)), (13, iV s.2.2.2)]) (fun s => St w0 s.1 [(b_1, .cells #[.string p0.Kind, pv0_0, .bool p0.Not] 35 (0, 0))] [ob s.2.2.1]) (fun m s => m_i_PatText_l1 N p0 m s.2.1 s.2.2.2 = some r ∧ (OSl RS 9 1 s.1 [] s.2.2.1 s.2.1)) (Φ, ([] : List ByteArray), (.slice none 0 0), 0) N ⟨h, k1⟩ (sx [0] [0]) (fun n1 ih1 s hm => ?_)
 obtain ⟨Φ_1, s1, u1, s2⟩ := s
 obtain ⟨h, k2⟩ := hm
 dsimp only at h k2 ⊢
 unfold m_i_PatText_l1 at h
 refine att 5 [] rfl ?_
 refine ch h rfl ?_ ?_ <;> intro h
 ·refine atr 5 [] rfl ?_
  obtain ⟨x2, hx2, h⟩ := bs h
  obtain ⟨cs1, F1, -, g1, hb1, hs1, r1⟩ := ph0_0.el (idx_some hx2).2.2
  obtain ⟨rfl, -⟩ := r1
  refine lia ph0_0 hx2 rfl <| lhx 0 5 g1 rfl <| lnz Zr_60 rfl fun b_2 => soN 0 Sz_60 rfl ⟨rfl, rfl, rfl, rfl, rfl, trivial⟩ rfl ?_
  refine arr 4 [5] rfl <| qd h (m_i_argText_ok N · x2 hT ·) rfl rfl rfl fun x3 h => ?_
  have rc1 : RC RS 1 Φ_1 ([[]] : List (List Nat)) [.string x3] ([x3] : List ByteArray) := RC.cons (c := [.string x3]) (cells := []) ⟨rfl, rfl⟩ rfl (RC.nil _ _ _)
  refine le' (e_lit (vs := [(0, .string x3)]) (C := #[.string x3]) RS.lasts Sl_68 Zr_9 rfl rfl rfl rfl (fill_made MC_9_1 (fill_cons (C' := [.string x3]) rfl rfl rfl rfl rfl (fill_nil))) rfl rc1 rfl (by simpa using Kw.nil)) rfl ?_
  rintro v1 Φ_2 D1 ⟨fr1, h1⟩
  replace h1 : OSl RS 9 1 Φ_2 [] v1 ([x3] : List ByteArray) := by simpa using h1
  replace k2 := k2.f0 fr1
  obtain ⟨x4, hx4, h⟩ := bs h
  refine le' (e_appF RS.lasts RS.one RS.flat Sl_68 Ei_9 rfl rfl rfl rfl rfl (js := [1]) (Rr := [ob v1]) rfl k2 h1.rsl hx4) rfl ?_
  rintro v2 Φ_3 D2 ⟨⟨ap1, fr2⟩, h2⟩
  refine art 7 [] rfl ?_
  exact lb [0] [1] (ih1 (_, _, _, _) ⟨h, h2⟩)
 refine xt rfl <| sq <| WT.draw mixed (by kernel_rfl) (fun _ h => h.drew) <| aqq 2 [0, 0] rfl ?_
 obtain ⟨z1, hz1, h⟩ := bs h
 refine qq (q_cat rfl rfl hz1) rfl <| qq (q_move rfl) rfl ?_
 obtain ⟨x5, hx5, h⟩ := bs h
 refine qp (p_call Fun_88 rfl (fun w1 hw => m_strings_Join_ok N (ba hw.fro) s1 (⟨#[44, 32]⟩ : ByteArray) k2.rsl hx5)) rfl ?_
 obtain ⟨z2, hz2, h⟩ := bs h
 refine qq (q_cat rfl rfl hz2) rfl ?_
 obtain ⟨z3, hz3, h⟩ := bs h
 refine qq (q_cat rfl rfl hz3) rfl <| aqt 8 [2, 0] rfl ?_
 refine ch h rfl ?_ ?_ <;> intro h
 ·refine sr <| la rfl ?_
  obtain ⟨z4, hz4, h⟩ := bs h
  refine lq (q_cat rfl rfl hz4) rfl <| la rfl <| en ?_
  exact rt hF h
 refine att 6 [] rfl ?_
 exact rt hF h
theorem m_i_CondText_ok  (w0 : Base Ψ Φ []) (p0 : TCond) (hT : Tab Ψ) {r : ByteArray} (h : m_i_CondText N p0 = some r) :
  CB w0 prog 85 [.agg [iV p0.Op, iV p0.L.K, .string p0.L.S, iV p0.L.V.K, iV p0.L.V.N, .string p0.L.V.S, iV p0.R.K, .string p0.R.S, iV p0.R.V.K, iV p0.R.V.N, .string p0.R.V.S].toArray] (.string r) := by
 refine eN func85 rfl ntmps85 rfl w0 fun hF => ?_
 unfold m_i_CondText at h
 refine sr <| lbx rfl fun b_1 => arr 6 [11] rfl <| qc h (m_i_CondOk_ok N · p0 ·) rfl rfl rfl fun x1 h => la rfl <| en ?_
 refine ch h rfl ?_ ?_ <;> intro h
 ·refine att 4 [] rfl ?_
  exact rt hF h
 refine att 17 [0, 0] rfl ?_
 refine cut (σ := ByteArray) (fun s => [(1, pQ b_1), (3, .string s)]) (fun s => St w0 Φ [(b_1, .cells #[iV p0.Op, iV p0.L.K, .string p0.L.S, iV p0.L.V.K, iV p0.L.V.N, .string p0.L.V.S, iV p0.R.K, .string p0.R.S, iV p0.R.V.K, iV p0.R.V.N, .string p0.R.V.S] 62 (0, 0))] []) (fun s => m_i_CondText_j1 N p0 s = some r) (fun s hm => ?_) (fun K => ?_)
 ·clear h
  revert hm; revert s; intro s1 hm
  have h : m_i_CondText_j1 N p0 s1 = some r := hm
  show WT _ _ [(1, pQ b_1), (3, .string s1)] (St w0 Φ [(b_1, .cells #[iV p0.Op, iV p0.L.K, .string p0.L.S, iV p0.L.V.K, iV p0.L.V.N, .string p0.L.V.S, iV p0.R.K, .string p0.R.S, iV p0.R.V.K, iV p0.R.V.N, .string p0.R.V.S] 62 (0, 0))] [])
  unfold m_i_CondText_j1 at h
  refine ib <| sq <| WT.draw mixed (by kernel_rfl) (fun _ h => h.drew) <| aqq 2 [1, 5] rfl ?_
  obtain ⟨x2, hx2, h⟩ := bs h
  refine qp (p_call Fun_148 rfl (fun w1 hw => m_i_argText_ok N (ba hw.in0) p0.L hT hx2)) rfl <| qq (q_move rfl) rfl ?_
  obtain ⟨z1, hz1, h⟩ := bs h
  refine qq (q_cat rfl rfl hz1) rfl <| aqq 2 [6, 5] rfl ?_
  obtain ⟨x3, hx3, h⟩ := bs h
  refine qp (p_call Fun_148 rfl (fun w1 hw => m_i_argText_ok N (ba hw.in0) p0.R hT hx3)) rfl ?_
  obtain ⟨z2, hz2, h⟩ := bs h
  refine qq (q_cat rfl rfl hz2) rfl <| aqt 2 [] rfl ?_
  exact rt hF h
 refine ch h rfl ?_ ?_ <;> intro h
 ·refine att 3 [] rfl ?_
  exact wo [] [0] (K _ h)
 refine att 5 [] rfl ?_
 refine ch h rfl ?_ ?_ <;> intro h
 ·refine att 3 [] rfl ?_
  exact wo [] [0] (K _ h)
 refine WT.skip ?_
 exact wo [] [0] (K _ h)
theorem m_i_ExprText_ok  (w0 : Base Ψ Φ []) (p0 : TExpr) (hT : Tab Ψ) {r : ByteArray} (h : m_i_ExprText N p0 = some r) :
  CB w0 prog 194 [.agg [.string p0.Op, iV p0.L.K, .string p0.L.S, iV p0.L.V.K, iV p0.L.V.N, .string p0.L.V.S, iV p0.R.K, .string p0.R.S, iV p0.R.V.K, iV p0.R.V.N, .string p0.R.V.S].toArray] (.string r) := by
 refine eN func194 rfl ntmps194 rfl w0 fun hF => ?_
 unfold m_i_ExprText at h
 refine sr <| lbx rfl fun b_1 => arr 6 [11] rfl <| qc h (m_i_ExprOk_ok N · p0 ·) rfl rfl rfl fun x1 h => la rfl <| en ?_
 refine ch h rfl ?_ ?_ <;> intro h
 ·refine att 4 [] rfl ?_
  exact rt hF h
 refine att 8 [0, 0] rfl ?_
 refine ch h rfl ?_ ?_ <;> intro h
 ·refine atr 4 [1, 5] rfl <| qd h (m_i_argText_ok N · p0.L hT ·) rfl rfl rfl fun x2 h => la rfl <| en ?_
  exact rt hF h
 refine att 2 [] rfl <| WT.draw mixed (by kernel_rfl) (fun _ h => h.drew) <| aqq 2 [1, 5] rfl ?_
 obtain ⟨x3, hx3, h⟩ := bs h
 refine qp (p_call Fun_148 rfl (fun w1 hw => m_i_argText_ok N (ba hw.in0) p0.L hT hx3)) rfl ?_
 obtain ⟨z1, hz1, h⟩ := bs h
 refine qq (q_cat rfl rfl hz1) rfl <| aqq 2 [0, 0] rfl ?_
 obtain ⟨z2, hz2, h⟩ := bs h
 refine qq (q_cat rfl rfl hz2) rfl ?_
 obtain ⟨z3, hz3, h⟩ := bs h
 refine qq (q_cat rfl rfl hz3) rfl <| aqq 2 [6, 5] rfl ?_
 obtain ⟨x4, hx4, h⟩ := bs h
 refine qp (p_call Fun_148 rfl (fun w1 hw => m_i_argText_ok N (ba hw.in0) p0.R hT hx4)) rfl ?_
 obtain ⟨z4, hz4, h⟩ := bs h
 refine qq (q_cat rfl rfl hz4) rfl <| aqt 2 [] rfl ?_
 exact rt hF h
theorem m_i_callText_ok (w0 : Base Ψ Φ []) (p0 : TAct) (hT : Tab Ψ) (ph0_0 : RSl RTExpr 11 Ψ pG0_0 pv0_0 p0.Args) {r : ByteArray} (h : m_i_callText N p0 = some r) :
  CB w0 prog 149 [.agg [iV p0.Kind, .string p0.Name, pv0_0, iV p0.N, .string p0.Undo].toArray] (.string r) := by
 refine eN func149 rfl ntmps149 rfl w0 fun hF => ?_
 unfold m_i_callText at h
 refine sr <| lbx rfl fun b_1 => arr 11 [2, 0] rfl <| lnr ph0_0 rfl <| art 3 [] rfl <| wtS ?_
 have k1 := OSl.nil RS 9 1 Φ
 refine lin (σ := Hp × (List ByteArray) × Value × Int) (fun s => [(1, pQ b_1), (3, s.2.2.1), (7, pv0_0), (8, iV (p0.Args.length : Int)), (9, iV s.2.2.2)]) (fun s => St w0 s.1 [(b_1, .cells #[iV p0.Kind, .string p0.Name, pv0_0, iV p0.N, .string p0.Undo] 66 (0, 0))] [ob s.2.2.1]) (fun m s => m_i_callText_l1 N p0 m s.2.1 s.2.2.2 = some r ∧ (OSl RS 9 1 s.1 [] s.2.2.1 s.2.1)) (Φ, ([] : List ByteArray), (.slice none 0 0), 0) N ⟨h, k1⟩ (sx [0] [0]) (fun n1 ih1 s hm => ?_)
 obtain ⟨Φ_1, s1, u1, s2⟩ := s
 obtain ⟨h, k2⟩ := hm
 dsimp only at h k2 ⊢
 unfold m_i_callText_l1 at h
 refine att 5 [] rfl ?_
 refine ch h rfl ?_ ?_ <;> intro h
 ·refine atr 5 [] rfl ?_
  obtain ⟨x1, hx1, h⟩ := bs h
  obtain ⟨cs1, F1, -, g1, hb1, hs1, r1⟩ := ph0_0.el (idx_some hx1).2.2
  obtain ⟨rfl, -⟩ := r1
  refine lia ph0_0 hx1 rfl <| lhx 0 11 g1 rfl <| lnz Zr_116 rfl fun b_2 => soN 0 Sz_116 rfl ⟨rfl, rfl, rfl, rfl, rfl, rfl, rfl, rfl, rfl, rfl, rfl, trivial⟩ rfl ?_
  refine arr 4 [11] rfl <| qd h (m_i_ExprText_ok N · x1 hT ·) rfl rfl rfl fun x2 h => ?_
  have rc1 : RC RS 1 Φ_1 ([[]] : List (List Nat)) [.string x2] ([x2] : List ByteArray) := RC.cons (c := [.string x2]) (cells := []) ⟨rfl, rfl⟩ rfl (RC.nil _ _ _)
  refine le' (e_lit (vs := [(0, .string x2)]) (C := #[.string x2]) RS.lasts Sl_68 Zr_9 rfl rfl rfl rfl (fill_made MC_9_1 (fill_cons (C' := [.string x2]) rfl rfl rfl rfl rfl (fill_nil))) rfl rc1 rfl (by simpa using Kw.nil)) rfl ?_
  rintro v1 Φ_2 D1 ⟨fr1, h1⟩
  replace h1 : OSl RS 9 1 Φ_2 [] v1 ([x2] : List ByteArray) := by simpa using h1
  replace k2 := k2.f0 fr1
  obtain ⟨x3, hx3, h⟩ := bs h
  refine le' (e_appF RS.lasts RS.one RS.flat Sl_68 Ei_9 rfl rfl rfl rfl rfl (js := [1]) (Rr := [ob v1]) rfl k2 h1.rsl hx3) rfl ?_
  rintro v2 Φ_3 D2 ⟨⟨ap1, fr2⟩, h2⟩
  refine art 7 [] rfl ?_
  exact lb [0] [1] (ih1 (_, _, _, _) ⟨h, h2⟩)
 refine xt rfl <| sq <| WT.draw mixed (by kernel_rfl) (fun _ h => h.drew) <| aqq 2 [1, 0] rfl ?_
 obtain ⟨z1, hz1, h⟩ := bs h
 refine qq (q_cat rfl rfl hz1) rfl <| qq (q_move rfl) rfl ?_
 obtain ⟨x4, hx4, h⟩ := bs h
 refine qp (p_call Fun_88 rfl (fun w1 hw => m_strings_Join_ok N (ba hw.fro) s1 (⟨#[44, 32]⟩ : ByteArray) k2.rsl hx4)) rfl ?_
 obtain ⟨z2, hz2, h⟩ := bs h
 refine qq (q_cat rfl rfl hz2) rfl ?_
 obtain ⟨z3, hz3, h⟩ := bs h
 refine qq (q_cat rfl rfl hz3) rfl <| aqt 2 [] rfl ?_
 exact rt hF h
theorem m_i_ActText_ok (w0 : Base Ψ Φ []) (p0 : TAct) (hT : Tab Ψ) (ph0_0 : RSl RTExpr 11 Ψ pG0_0 pv0_0 p0.Args) {r : ByteArray} (h : m_i_ActText N p0 = some r) :
  CB w0 prog 86 [.agg [iV p0.Kind, .string p0.Name, pv0_0, iV p0.N, .string p0.Undo].toArray] (.string r) := by
 refine eN func86 rfl ntmps86 rfl w0 fun hF => ?_
 unfold m_i_ActText at h
 refine sr <| lbx rfl fun b_1 => arr 6 [5] rfl <| qd h (m_i_ActOk_ok N · p0 ph0_0 ·) rfl rfl rfl fun x1 h => la rfl <| en ?_
 refine ch h rfl ?_ ?_ <;> intro h
 ·refine att 4 [] rfl ?_
  exact rt hF h
 refine att 13 [0, 0] rfl ?_
 refine ch h rfl ?_ ?_ <;> intro h
 ·refine atr 3 [5] rfl <| qd h (m_i_callText_ok N · p0 hT ph0_0 ·) rfl rfl rfl fun x2 h => ?_
  obtain ⟨z1, hz1, h⟩ := bs h
  refine lq (q_cat rfl rfl hz1) rfl <| la rfl <| en ?_
  exact rt hF h
 refine att 5 [] rfl ?_
 refine ch h rfl ?_ ?_ <;> intro h
 ·refine atr 4 [3, 0] rfl <| qd h (m_strconv_Itoa_ok N · p0.N hT ·) rfl rfl rfl fun x3 h => ?_
  obtain ⟨z2, hz2, h⟩ := bs h
  refine lq (q_cat rfl rfl hz2) rfl <| la rfl <| en ?_
  exact rt hF h
 refine att 5 [] rfl ?_
 refine ch h rfl ?_ ?_ <;> intro h
 ·refine att 7 [4, 0] rfl ?_
  refine ch h rfl ?_ ?_ <;> intro h
  ·refine sq <| WT.draw mixed (by kernel_rfl) (fun _ h => h.drew) <| qq (q_loadN Tn_66 rfl (fun w1 hw => hw.rgO (i := 0) rfl 0 5 [iV p0.Kind, .string p0.Name, pv0_0, iV p0.N, .string p0.Undo] rfl) rfl) rfl ?_
   obtain ⟨x4, hx4, h⟩ := bs h
   refine qp (p_call Fun_149 rfl (fun w1 hw => m_i_callText_ok N (ba hw.in0) p0 hT ph0_0 hx4)) rfl ?_
   obtain ⟨z3, hz3, h⟩ := bs h
   refine qq (q_cat rfl rfl hz3) rfl ?_
   obtain ⟨z4, hz4, h⟩ := bs h
   refine qq (q_cat rfl rfl hz4) rfl <| aqq 2 [4, 0] rfl ?_
   obtain ⟨z5, hz5, h⟩ := bs h
   refine qq (q_cat rfl rfl hz5) rfl <| aqt 2 [] rfl ?_
   exact rt hF h
  refine atr 4 [5] rfl <| qd h (m_i_callText_ok N · p0 hT ph0_0 ·) rfl rfl rfl fun x5 h => ?_
  obtain ⟨z6, hz6, h⟩ := bs h
  refine lq (q_cat rfl rfl hz6) rfl <| la rfl <| en ?_
  exact rt hF h
 refine att 5 [] rfl ?_
 refine ch h rfl ?_ ?_ <;> intro h
 ·refine sq <| WT.draw mixed (by kernel_rfl) (fun _ h => h.drew) <| aqq 2 [3, 0] rfl ?_
  obtain ⟨x6, hx6, h⟩ := bs h
  refine qp (p_call Fun_87 rfl (fun w1 hw => m_strconv_Itoa_ok N (ba hw.in0) p0.N hT hx6)) rfl ?_
  obtain ⟨z7, hz7, h⟩ := bs h
  refine qq (q_cat rfl rfl hz7) rfl ?_
  obtain ⟨z8, hz8, h⟩ := bs h
  refine qq (q_cat rfl rfl hz8) rfl <| qq (q_loadN Tn_66 rfl (fun w1 hw => hw.rgO (i := 0) rfl 0 5 [iV p0.Kind, .string p0.Name, pv0_0, iV p0.N, .string p0.Undo] rfl) rfl) rfl ?_
  obtain ⟨x7, hx7, h⟩ := bs h
  refine qp (p_call Fun_149 rfl (fun w1 hw => m_i_callText_ok N (ba hw.in0) p0 hT ph0_0 hx7)) rfl ?_
  obtain ⟨z9, hz9, h⟩ := bs h
  refine qq (q_cat rfl rfl hz9) rfl <| aqt 2 [] rfl ?_
  exact rt hF h
 refine att 5 [] rfl ?_
 refine ch h rfl ?_ ?_ <;> intro h
 ·refine att 4 [] rfl ?_
  exact rt hF h
 refine att 6 [] rfl ?_
 exact rt hF h
theorem m_i_ruleText_ok (w0 : Base Ψ Φ []) (p0 : TRule) (hT : Tab Ψ) (ph0_0 : RSl RTPat 3 Ψ pG0_0 pv0_0 p0.Pats) (ph0_1 : RSl RTCond 11 Ψ pG0_1 pv0_1 p0.Conds) (ph0_2 : RSl RTAct 5 Ψ pG0_2 pv0_2 p0.Acts) {r : ByteArray} (h : m_i_ruleText N p0 = some r) :
  CB w0 prog 38 [.agg [.string p0.Name, iV p0.Sal, pv0_0, pv0_1, pv0_2].toArray] (.string r) := by
 refine eN func38 rfl ntmps38 rfl w0 fun hF => ?_
 unfold m_i_ruleText at h
 refine sr <| lbx rfl fun b_1 => arr 13 [2, 0] rfl <| lnr ph0_0 rfl <| art 3 [] rfl <| wtS ?_
 have k1 := OSl.nil RS 9 1 Φ
 refine lin (σ := Hp × (List ByteArray) × Value × Int) (fun s => [(1, pQ b_1), (3, s.2.2.1), (4, .slice none 0 0), (5, .slice none 0 0), (14, pv0_0), (15, iV (p0.Pats.length : Int)), (16, iV s.2.2.2)]) (fun s => St w0 s.1 [(b_1, .cells #[.string p0.Name, iV p0.Sal, pv0_0, pv0_1, pv0_2] 28 (0, 0))] [ob s.2.2.1]) (fun m s => m_i_ruleText_l1 N p0 m s.2.1 s.2.2.2 = some r ∧ (OSl RS 9 1 s.1 [] s.2.2.1 s.2.1)) (Φ, ([] : List ByteArray), (.slice none 0 0), 0) N ⟨h, k1⟩ (sx [0] [0]) (fun n1 ih1 s hm => ?_)
 obtain ⟨Φ_1, s1, u1, s2⟩ := s
 obtain ⟨h, k2⟩ := hm
 dsimp only at h k2 ⊢
 unfold m_i_ruleText_l1 at h
 refine att 5 [] rfl ?_
 refine ch h rfl ?_ ?_ <;> intro h
 ·refine atr 5 [] rfl ?_
  obtain ⟨x1, hx1, h⟩ := bs h
  obtain ⟨cs1, F1, -, g1, hb1, hs1, r1⟩ := ph0_0.el (idx_some hx1).2.2
  obtain ⟨v1, G1, rfl, hq1, h1⟩ := r1
  obtain rfl := hq1.symm
  refine lia ph0_0 hx1 rfl <| lhx 0 3 g1 rfl <| lnz Zr_35 rfl fun b_2 => soN 0 Sz_35 rfl ⟨rfl, h1.one, rfl, trivial⟩ rfl ?_
  refine arr 4 [3] rfl <| qd h (m_i_PatText_ok N · x1 hT h1 ·) rfl rfl rfl fun x2 h => ?_
  have rc1 : RC RS 1 Φ_1 ([[]] : List (List Nat)) [.string x2] ([x2] : List ByteArray) := RC.cons (c := [.string x2]) (cells := []) ⟨rfl, rfl⟩ rfl (RC.nil _ _ _)
  refine le' (e_lit (vs := [(0, .string x2)]) (C := #[.string x2]) RS.lasts Sl_68 Zr_9 rfl rfl rfl rfl (fill_made MC_9_1 (fill_cons (C' := [.string x2]) rfl rfl rfl rfl rfl (fill_nil))) rfl rc1 rfl (by simpa using Kw.nil)) rfl ?_
  rintro v2 Φ_2 D1 ⟨fr1, h2⟩
  replace h2 : OSl RS 9 1 Φ_2 [] v2 ([x2] : List ByteArray) := by simpa using h2
  replace k2 := k2.f0 fr1
  obtain ⟨x3, hx3, h⟩ := bs h
  refine le' (e_appF RS.lasts RS.one RS.flat Sl_68 Ei_9 rfl rfl rfl rfl rfl (js := [1]) (Rr := [ob v2]) rfl k2 h2.rsl hx3) rfl ?_
  rintro v3 Φ_3 D2 ⟨⟨ap1, fr2⟩, h3⟩
  refine art 7 [] rfl ?_
  exact lb [0] [1] (ih1 (_, _, _, _) ⟨h, h3⟩)
 refine atr 6 [3, 0] rfl <| lnr ph0_1 rfl <| art 3 [] rfl <| wtS ?_
 have k3 := OSl.nil RS 9 1 Φ_1
 refine lin (σ := Hp × (List ByteArray) × Value × Int) (fun s => [(1, pQ b_1), (3, u1), (4, s.2.2.1), (5, .slice none 0 0), (27, pv0_1), (28, iV (p0.Conds.length : Int)), (29, iV s.2.2.2)]) (fun s => St w0 s.1 [(b_1, .cells #[.string p0.Name, iV p0.Sal, pv0_0, pv0_1, pv0_2] 28 (0, 0))] [ob s.2.2.1, ob u1]) (fun m s => m_i_ruleText_l2 N p0 s1 m s.2.1 s.2.2.2 = some r ∧ (OSl RS 9 1 s.1 [] u1 s1) ∧ (OSl RS 9 1 s.1 [] s.2.2.1 s.2.1)) (Φ_1, ([] : List ByteArray), (.slice none 0 0), 0) N ⟨h, k2, k3⟩ (sx [0, 0] [0]) (fun n2 ih2 s hm => ?_)
 obtain ⟨Φ_4, s3, u2, s4⟩ := s
 obtain ⟨h, k2, k4⟩ := hm
 dsimp only at h k2 k4 ⊢
 unfold m_i_ruleText_l2 at h
 refine att 5 [] rfl ?_
 refine ch h rfl ?_ ?_ <;> intro h
 ·refine atr 5 [] rfl ?_
  obtain ⟨x4, hx4, h⟩ := bs h
  obtain ⟨cs2, F2, -, g2, hb2, hs2, r2⟩ := ph0_1.el (idx_some hx4).2.2
  obtain ⟨rfl, -⟩ := r2
  refine lia ph0_1 hx4 rfl <| lhx 0 11 g2 rfl <| lnz Zr_62 rfl fun b_3 => soN 0 Sz_62 rfl ⟨rfl, rfl, rfl, rfl, rfl, rfl, rfl, rfl, rfl, rfl, rfl, trivial⟩ rfl ?_
  refine arr 4 [11] rfl <| qd h (m_i_CondText_ok N · x4 hT ·) rfl rfl rfl fun x5 h => ?_
  have rc2 : RC RS 1 Φ_4 ([[]] : List (List Nat)) [.string x5] ([x5] : List ByteArray) := RC.cons (c := [.string x5]) (cells := []) ⟨rfl, rfl⟩ rfl (RC.nil _ _ _)
  refine le' (e_lit (vs := [(0, .string x5)]) (C := #[.string x5]) RS.lasts Sl_68 Zr_9 rfl rfl rfl rfl (fill_made MC_9_1 (fill_cons (C' := [.string x5]) rfl rfl rfl rfl rfl (fill_nil))) rfl rc2 rfl (by simpa using Kw.nil)) rfl ?_
  rintro v4 Φ_5 D3 ⟨fr3, h4⟩
  replace h4 : OSl RS 9 1 Φ_5 [] v4 ([x5] : List ByteArray) := by simpa using h4
  replace k2 := k2.f0 fr3
  replace k4 := k4.f0 fr3
  obtain ⟨x6, hx6, h⟩ := bs h
  refine le' (e_appF RS.lasts RS.one RS.flat Sl_68 Ei_9 rfl rfl rfl rfl rfl (js := [1]) (Rr := [ob v4, ob u1]) rfl k4 h4.rsl hx6) rfl ?_
  rintro v5 Φ_6 D4 ⟨⟨ap2, fr4⟩, h5⟩
  replace k2 := k2.fr fr4 (ap2.q 1 rfl) dN
  refine art 7 [] rfl ?_
  exact lb [0, 1] [1] (ih2 (_, _, _, _) ⟨h, k2, h5⟩)
 refine atr 6 [4, 0] rfl <| lnr ph0_2 rfl <| art 3 [] rfl <| wtS ?_
 have k5 := OSl.nil RS 9 1 Φ_4
 refine lin (σ := Hp × (List ByteArray) × Value × Int) (fun s => [(1, pQ b_1), (3, u1), (4, u2), (5, s.2.2.1), (40, pv0_2), (41, iV (p0.Acts.length : Int)), (42, iV s.2.2.2)]) (fun s => St w0 s.1 [(b_1, .cells #[.string p0.Name, iV p0.Sal, pv0_0, pv0_1, pv0_2] 28 (0, 0))] [ob s.2.2.1, ob u2, ob u1]) (fun m s => m_i_ruleText_l3 N p0 s1 s3 m s.2.1 s.2.2.2 = some r ∧ (OSl RS 9 1 s.1 [] u1 s1) ∧ (OSl RS 9 1 s.1 [] u2 s3) ∧ (OSl RS 9 1 s.1 [] s.2.2.1 s.2.1)) (Φ_4, ([] : List ByteArray), (.slice none 0 0), 0) N ⟨h, k2, k4, k5⟩ (sx [0, 0, 0] [0]) (fun n3 ih3 s hm => ?_)
 obtain ⟨Φ_7, s5, u3, s6⟩ := s
 obtain ⟨h, k2, k4, k6⟩ := hm
 dsimp only at h k2 k4 k6 ⊢
 unfold m_i_ruleText_l3 at h
 refine att 5 [] rfl ?_
 refine ch h rfl ?_ ?_ <;> intro h
 ·refine atr 5 [] rfl ?_
  obtain ⟨x7, hx7, h⟩ := bs h
  obtain ⟨cs3, F3, -, g3, hb3, hs3, r3⟩ := ph0_2.el (idx_some hx7).2.2
  obtain ⟨v6, G2, rfl, hq2, h6⟩ := r3
  obtain rfl := hq2.symm
  refine lia ph0_2 hx7 rfl <| lhx 0 5 g3 rfl <| lnz Zr_66 rfl fun b_4 => soN 0 Sz_66 rfl ⟨rfl, rfl, h6.one, rfl, rfl, trivial⟩ rfl ?_
  refine arr 4 [5] rfl <| qd h (m_i_ActText_ok N · x7 hT h6 ·) rfl rfl rfl fun x8 h => ?_
  have rc3 : RC RS 1 Φ_7 ([[]] : List (List Nat)) [.string x8] ([x8] : List ByteArray) := RC.cons (c := [.string x8]) (cells := []) ⟨rfl, rfl⟩ rfl (RC.nil _ _ _)
  refine le' (e_lit (vs := [(0, .string x8)]) (C := #[.string x8]) RS.lasts Sl_68 Zr_9 rfl rfl rfl rfl (fill_made MC_9_1 (fill_cons (C' := [.string x8]) rfl rfl rfl rfl rfl (fill_nil))) rfl rc3 rfl (by simpa using Kw.nil)) rfl ?_
  rintro v7 Φ_8 D5 ⟨fr5, h7⟩
  replace h7 : OSl RS 9 1 Φ_8 [] v7 ([x8] : List ByteArray) := by simpa using h7
  replace k2 := k2.f0 fr5
  replace k4 := k4.f0 fr5
  replace k6 := k6.f0 fr5
  obtain ⟨x9, hx9, h⟩ := bs h
  refine le' (e_appF RS.lasts RS.one RS.flat Sl_68 Ei_9 rfl rfl rfl rfl rfl (js := [1]) (Rr := [ob v7, ob u2, ob u1]) rfl k6 h7.rsl hx9) rfl ?_
  rintro v8 Φ_9 D6 ⟨⟨ap3, fr6⟩, h8⟩
  replace k2 := k2.fr fr6 (ap3.q 2 rfl) dN
  replace k4 := k4.fr fr6 (ap3.q 1 rfl) dN
  refine art 7 [] rfl ?_
  exact lb [0, 1, 1] [1] (ih3 (_, _, _, _) ⟨h, k2, k4, h8⟩)
 refine xt rfl <| sq <| WT.draw mixed (by kernel_rfl) (fun _ h => h.drew) <| aqq 2 [0, 0] rfl ?_
 obtain ⟨z1, hz1, h⟩ := bs h
 refine qq (q_cat rfl rfl hz1) rfl ?_
 obtain ⟨z2, hz2, h⟩ := bs h
 refine qq (q_cat rfl rfl hz2) rfl <| aqq 2 [1, 0] rfl ?_
 obtain ⟨x10, hx10, h⟩ := bs h
 refine qp (p_call Fun_87 rfl (fun w1 hw => m_strconv_Itoa_ok N (ba hw.in0) p0.Sal hT hx10)) rfl ?_
 obtain ⟨z3, hz3, h⟩ := bs h
 refine qq (q_cat rfl rfl hz3) rfl ?_
 obtain ⟨z4, hz4, h⟩ := bs h
 refine qq (q_cat rfl rfl hz4) rfl <| qq (q_move rfl) rfl ?_
 obtain ⟨x11, hx11, h⟩ := bs h
 refine qp (p_call Fun_88 rfl (fun w1 hw => m_strings_Join_ok N (ba hw.fro) s1 (⟨#[44, 32]⟩ : ByteArray) k2.rsl hx11)) rfl ?_
 obtain ⟨z5, hz5, h⟩ := bs h
 refine qq (q_cat rfl rfl hz5) rfl <| aqr 6 [] rfl <| lno k4 rfl <| la rfl <| en ?_
 refine cut (σ := ByteArray) (fun s => [(5, u3), (12, .string s)]) (fun s => St w0 Φ_7 [] [ob u3]) (fun s => m_i_ruleText_j4 N s5 s = some r) (fun s hm => ?_) (fun K => ?_)
 ·clear h
  revert hm; revert s; intro s7 hm
  have h : m_i_ruleText_j4 N s5 s7 = some r := hm
  show WT _ _ [(5, u3), (12, .string s7)] (St w0 Φ_7 [] [ob u3])
  unfold m_i_ruleText_j4 at h
  refine sr <| la rfl ?_
  obtain ⟨z6, hz6, h⟩ := bs h
  refine lq (q_cat rfl rfl hz6) rfl <| la rfl <| qc h (m_strings_Join_ok N · s5 (⟨#[44, 32]⟩ : ByteArray) k6.rsl ·) rfl rfl rfl fun x12 h => ?_
  obtain ⟨z7, hz7, h⟩ := bs h
  refine lq (q_cat rfl rfl hz7) rfl ?_
  obtain ⟨z8, hz8, h⟩ := bs h
  refine lq (q_cat rfl rfl hz8) rfl <| la rfl <| en ?_
  exact rt hF h
 refine ch h rfl ?_ ?_ <;> intro h
 ·refine atr 3 [] rfl <| qc h (m_strings_Join_ok N · s3 (⟨#[44, 32]⟩ : ByteArray) k4.rsl ·) rfl rfl rfl fun x13 h => ?_
  obtain ⟨z9, hz9, h⟩ := bs h
  refine lq (q_cat rfl rfl hz9) rfl ?_
  obtain ⟨z10, hz10, h⟩ := bs h
  refine lq (q_cat rfl rfl hz10) rfl <| la rfl <| en ?_
  exact wo [0] [] (K _ h)
 refine WT.skip ?_
 exact wo [0] [] (K _ h)
theorem m_i_RuleText_ok (w0 : Base Ψ Φ []) (p0 : TRule) (hT : Tab Ψ) (ph0_0 : RSl RTPat 3 Ψ pG0_0 pv0_0 p0.Pats) (ph0_1 : RSl RTCond 11 Ψ pG0_1 pv0_1 p0.Conds) (ph0_2 : RSl RTAct 5 Ψ pG0_2 pv0_2 p0.Acts) {r : ByteArray} (h : m_i_RuleText N p0 = some r) :
  CB w0 prog 10 [.agg [.string p0.Name, iV p0.Sal, pv0_0, pv0_1, pv0_2].toArray] (.string r) := by
 refine eN func10 rfl ntmps10 rfl w0 fun hF => ?_
 unfold m_i_RuleText at h
 refine sr <| lbx rfl fun b_1 => arr 6 [5] rfl <| qd h (m_i_RuleOk_ok N · p0 ph0_0 ph0_1 ph0_2 ·) rfl rfl rfl fun x1 h => la rfl <| en ?_
 refine ch h rfl ?_ ?_ <;> intro h
 ·refine att 4 [] rfl ?_
  exact rt hF h
 refine atr 4 [5] rfl <| qd h (m_i_ruleText_ok N · p0 hT ph0_0 ph0_1 ph0_2 ·) rfl rfl rfl fun x2 h => la rfl <| en ?_
 exact rt hF h
theorem m_s_l1In_ok  (w0 : Base Ψ Φ []) (p0 : Int) (p1 : Int) (p2 : Int)  {r : Bool} (h : m_s_l1In N p0 p1 p2 = some r) :
  CB w0 prog 41 [iV p0, iV p1, iV p2] (.bool r) := by
 refine eN func41 rfl ntmps41 rfl w0 fun hF => ?_
 unfold m_s_l1In at h
 refine atr 10 [] rfl ?_
 obtain ⟨b1, hb_1, h⟩ := bs h
 refine WL.cutN 4 [(14, .bool b1), (6, .bool false)] ?_ (fun K => ?_)
 rotate_left
 ·refine sp 10 hb_1 rfl (fun hb_1 => ?_) fun hb_1 => ?_
  ·refine arr 4 [] rfl ?_
   cases hb_1
   exact ku K
  ·refine arr 4 [] rfl ?_
   cases hb_1
   exact ku K
 refine la rfl <| en ?_
 exact rt hF h
theorem m_s_l1Letter_ok  (w0 : Base Ψ Φ []) (p0 : Int)  {r : Bool} (h : m_s_l1Letter N p0 = some r) :
  CB w0 prog 91 [.int .u8 p0] (.bool r) := by
 refine eN func91 rfl ntmps91 rfl w0 fun hF => ?_
 unfold m_s_l1Letter at h
 refine atr 7 [] rfl <| lq (q_convI Ik_5 Ik_3 rfl) rfl <| qc h (m_s_l1In_ok N · (wz p0) 97 122 ·) rfl rfl rfl fun x1 h => la rfl ?_
 obtain ⟨b1, hb_1, h⟩ := bs h
 refine WL.cutN 4 [(10, .bool b1), (0, .int .u8 p0), (2, .bool false)] ?_ (fun K => ?_)
 rotate_left
 ·refine sp 6 hb_1 rfl (fun hb_1 => ?_) fun hb_1 => ?_
  ·refine arr 4 [] rfl ?_
   cases hb_1
   exact ku K
  ·refine ly rfl rfl <| la rfl <| ly rfl rfl <| lq (q_convI Ik_5 Ik_3 rfl) rfl <| ly rfl rfl <| qc hb_1 (m_s_l1In_ok N · (wz p0) 48 57 ·) rfl rfl rfl fun x2 hb_1 => la rfl ?_
   cases hb_1
   exact ku K
 refine la rfl ?_
 obtain ⟨b2, hb_2, h⟩ := bs h
 refine WL.cutN 3 [(14, .bool b2), (2, .bool false)] ?_ (fun K => ?_)
 rotate_left
 ·refine sp 11 hb_2 rfl (fun hb_2 => ?_) fun hb_2 => ?_
  ·refine arr 3 [] rfl ?_
   cases hb_2
   exact ku K
  ·refine arr 3 [] rfl ?_
   cases hb_2
   exact ku K
 refine la rfl <| en ?_
 exact rt hF h
theorem m_s_NameOk_ok  (w0 : Base Ψ Φ []) (p0 : ByteArray)  {r : Bool} (h : m_s_NameOk N p0 = some r) :
  CB w0 prog 40 [.string p0] (.bool r) := by
 refine eN func40 rfl ntmps40 rfl w0 fun hF => ?_
 unfold m_s_NameOk at h
 refine att 10 [] rfl ?_
 refine lin (σ := Int) (fun s => [(0, .string p0), (3, iV s)]) (fun s => St w0 Φ [] []) (fun m s => m_s_NameOk_l1 N p0 m s = some r) (0) N h (sx [] []) (fun n1 ih1 s hm => ?_)
 revert hm; revert s; intro s1 hm
 have h : m_s_NameOk_l1 N p0 (n1 + 1) s1 = some r := hm
 show WT _ _ [(0, .string p0), (3, iV s1)] (St w0 Φ [] [])
 unfold m_s_NameOk_l1 at h
 refine atr 5 [] rfl <| lq (q_lenS Str_9 rfl rfl) rfl <| la rfl <| en ?_
 refine ch h rfl ?_ ?_ <;> intro h
 ·refine atr 7 [] rfl ?_
  obtain ⟨y1, hy1, h⟩ := bs h
  refine lq (q_indexS Str_9 rfl rfl hy1) rfl <| qc h (m_s_l1Letter_ok N · (y1.toNat : Int) ·) rfl rfl rfl fun x1 h => arr 2 [] rfl ?_
  obtain ⟨b1, hb_1, h⟩ := bs h
  refine WL.cutN 11 [(26, .bool b1), (0, .string p0), (3, iV s1)] ?_ (fun K => ?_)
  rotate_left
  ·refine sp 15 hb_1 rfl (fun hb_1 => ?_) fun hb_1 => ?_
   ·refine arr 11 [] rfl ?_
    cases hb_1
    exact ku K
   ·refine arr 3 [] rfl ?_
    obtain ⟨b2, hb_2, hb_1⟩ := bs hb_1
    refine WL.cutN 7 [(25, .bool b2), (0, .string p0), (3, iV s1), (15, .bool false)] ?_ (fun K => ?_)
    rotate_left
    ·refine sp 18 hb_2 rfl (fun hb_2 => ?_) fun hb_2 => ?_
     ·refine arr 2 [] rfl <| ly rfl rfl ?_
      obtain ⟨y2, hy2, hb_2⟩ := bs hb_2
      refine lq (q_indexS Str_9 rfl rfl hy2) rfl <| ly rfl rfl <| lq (q_convI Ik_5 Ik_3 rfl) rfl <| ly rfl rfl <| qc hb_2 (m_s_l1In_ok N · (wz (y2.toNat : Int)) 97 122 ·) rfl rfl rfl fun x2 hb_2 => arr 2 [] rfl ?_
      cases hb_2
      exact ku K
     ·refine arr 7 [] rfl ?_
      cases hb_2
      exact ku K
    refine la rfl ?_
    cases hb_1
    exact ku K
  refine en ?_
  refine ch h rfl ?_ ?_ <;> intro h
  ·refine att 4 [] rfl ?_
   exact rt hF h
  refine att 7 [] rfl ?_
  exact lb [] [] (ih1 _ h)
 refine atr 4 [] rfl <| lq (q_lenS Str_9 rfl rfl) rfl <| qc h (m_s_l1In_ok N · (p0.size : Int) 1 12 ·) rfl rfl rfl fun x3 h => la rfl <| en ?_
 exact rt hF h
theorem m_s_l5Large_ok  (w0 : Base Ψ Φ []) (p0 : Int)  {r : Bool} (h : m_s_l5Large N p0 = some r) :
  CB w0 prog 173 [.int .u8 p0] (.bool r) := by
 refine eN func173 rfl ntmps173 rfl w0 fun hF => ?_
 unfold m_s_l5Large at h
 refine atr 7 [] rfl <| lq (q_convI Ik_5 Ik_3 rfl) rfl <| qc h (m_s_l1In_ok N · (wz p0) 65 90 ·) rfl rfl rfl fun x1 h => la rfl <| en ?_
 exact rt hF h
theorem m_s_l5VarOk_ok  (w0 : Base Ψ Φ []) (p0 : ByteArray)  {r : Bool} (h : m_s_l5VarOk N p0 = some r) :
  CB w0 prog 176 [.string p0] (.bool r) := by
 refine eN func176 rfl ntmps176 rfl w0 fun hF => ?_
 unfold m_s_l5VarOk at h
 refine att 10 [] rfl ?_
 refine lin (σ := Int) (fun s => [(0, .string p0), (3, iV s)]) (fun s => St w0 Φ [] []) (fun m s => m_s_l5VarOk_l1 N p0 m s = some r) (0) N h (sx [] []) (fun n1 ih1 s hm => ?_)
 revert hm; revert s; intro s1 hm
 have h : m_s_l5VarOk_l1 N p0 (n1 + 1) s1 = some r := hm
 show WT _ _ [(0, .string p0), (3, iV s1)] (St w0 Φ [] [])
 unfold m_s_l5VarOk_l1 at h
 refine atr 5 [] rfl <| lq (q_lenS Str_9 rfl rfl) rfl <| la rfl <| en ?_
 refine ch h rfl ?_ ?_ <;> intro h
 ·refine atr 7 [] rfl ?_
  obtain ⟨y1, hy1, h⟩ := bs h
  refine lq (q_indexS Str_9 rfl rfl hy1) rfl <| qc h (m_s_l5Large_ok N · (y1.toNat : Int) ·) rfl rfl rfl fun x1 h => arr 2 [] rfl ?_
  obtain ⟨b1, hb_1, h⟩ := bs h
  refine WL.cutN 10 [(25, .bool b1), (0, .string p0), (3, iV s1)] ?_ (fun K => ?_)
  rotate_left
  ·refine sp 15 hb_1 rfl (fun hb_1 => ?_) fun hb_1 => ?_
   ·refine arr 3 [] rfl ?_
    obtain ⟨b2, hb_2, hb_1⟩ := bs hb_1
    refine WL.cutN 6 [(24, .bool b2), (0, .string p0), (3, iV s1), (15, .bool true)] ?_ (fun K => ?_)
    rotate_left
    ·refine sp 18 hb_2 rfl (fun hb_2 => ?_) fun hb_2 => ?_
     ·refine arr 6 [] rfl ?_
      cases hb_2
      exact ku K
     ·refine arr 2 [] rfl <| ly rfl rfl ?_
      obtain ⟨y2, hy2, hb_2⟩ := bs hb_2
      refine lq (q_indexS Str_9 rfl rfl hy2) rfl <| ly rfl rfl <| qc hb_2 (m_s_l1Letter_ok N · (y2.toNat : Int) ·) rfl rfl rfl fun x2 hb_2 => arr 2 [] rfl ?_
      cases hb_2
      exact ku K
    refine la rfl ?_
    cases hb_1
    exact ku K
   ·refine arr 10 [] rfl ?_
    cases hb_1
    exact ku K
  refine en ?_
  refine ch h rfl ?_ ?_ <;> intro h
  ·refine att 4 [] rfl ?_
   exact rt hF h
  refine att 7 [] rfl ?_
  exact lb [] [] (ih1 _ h)
 refine atr 4 [] rfl <| lq (q_lenS Str_9 rfl rfl) rfl <| qc h (m_s_l1In_ok N · (p0.size : Int) 1 12 ·) rfl rfl rfl fun x3 h => la rfl <| en ?_
 exact rt hF h
theorem m_s_l2Plain_ok  (w0 : Base Ψ Φ []) (p0 : ByteArray)  {r : Bool} (h : m_s_l2Plain N p0 = some r) :
  CB w0 prog 177 [.string p0] (.bool r) := by
 refine eN func177 rfl ntmps177 rfl w0 fun hF => ?_
 unfold m_s_l2Plain at h
 refine att 10 [] rfl ?_
 refine lin (σ := Int) (fun s => [(0, .string p0), (3, iV s)]) (fun s => St w0 Φ [] []) (fun m s => m_s_l2Plain_l1 N p0 m s = some r) (0) N h (sx [] []) (fun n1 ih1 s hm => ?_)
 revert hm; revert s; intro s1 hm
 have h : m_s_l2Plain_l1 N p0 (n1 + 1) s1 = some r := hm
 show WT _ _ [(0, .string p0), (3, iV s1)] (St w0 Φ [] [])
 unfold m_s_l2Plain_l1 at h
 refine atr 5 [] rfl <| lq (q_lenS Str_9 rfl rfl) rfl <| la rfl <| en ?_
 refine ch h rfl ?_ ?_ <;> intro h
 ·refine atr 7 [] rfl ?_
  obtain ⟨y1, hy1, h⟩ := bs h
  refine lq (q_indexS Str_9 rfl rfl hy1) rfl <| qc h (m_s_l1Letter_ok N · (y1.toNat : Int) ·) rfl rfl rfl fun x1 h => la rfl <| en ?_
  refine ch h rfl ?_ ?_ <;> intro h
  ·refine att 4 [] rfl ?_
   exact rt hF h
  refine att 7 [] rfl ?_
  exact lb [] [] (ih1 _ h)
 refine atr 4 [] rfl <| lq (q_lenS Str_9 rfl rfl) rfl <| art 3 [] rfl ?_
 exact rt hF h
theorem m_s_ValOk_ok  (w0 : Base Ψ Φ []) (p0 : TVal)  {r : Bool} (h : m_s_ValOk N p0 = some r) :
  CB w0 prog 197 [.agg [iV p0.K, iV p0.N, .string p0.S].toArray] (.bool r) := by
 refine eN func197 rfl ntmps197 rfl w0 fun hF => ?_
 unfold m_s_ValOk at h
 refine sr <| lbx rfl fun b_1 => art 14 [0, 0] rfl ?_
 refine ch h rfl ?_ ?_ <;> intro h
 ·refine atr 4 [1, 0] rfl <| qc h (m_s_l1In_ok N · p0.N (-1000000000) 1000000000 ·) rfl rfl rfl fun x1 h => la rfl ?_
  obtain ⟨b1, hb_1, h⟩ := bs h
  refine WL.cutN 4 [(14, .bool b1), (2, .bool false)] ?_ (fun K => ?_)
  rotate_left
  ·refine sp 10 hb_1 rfl (fun hb_1 => ?_) fun hb_1 => ?_
   ·refine arr 4 [2, 0] rfl ?_
    cases hb_1
    exact ku K
   ·refine arr 4 [] rfl ?_
    cases hb_1
    exact ku K
  refine la rfl <| en ?_
  exact rt hF h
 refine att 5 [] rfl ?_
 refine ch h rfl ?_ ?_ <;> intro h
 ·refine atr 4 [2, 0] rfl <| qc h (m_s_l2Plain_ok N · p0.S ·) rfl rfl rfl fun x2 h => la rfl ?_
  obtain ⟨b2, hb_2, h⟩ := bs h
  refine WL.cutN 4 [(24, .bool b2), (2, .bool false)] ?_ (fun K => ?_)
  rotate_left
  ·refine sp 20 hb_2 rfl (fun hb_2 => ?_) fun hb_2 => ?_
   ·refine arr 4 [1, 0] rfl ?_
    cases hb_2
    exact ku K
   ·refine arr 4 [] rfl ?_
    cases hb_2
    exact ku K
  refine la rfl <| en ?_
  exact rt hF h
 refine att 6 [] rfl ?_
 exact rt hF h
end Go.Proofs.YteipbimepilcfaaGreatDoor
