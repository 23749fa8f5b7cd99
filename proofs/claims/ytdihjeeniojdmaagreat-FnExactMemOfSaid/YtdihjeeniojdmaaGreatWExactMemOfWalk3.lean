/- Printed by a program of ours: each Go function computes its Lean function. -/
import Derived.Test.YtdihjeeniojdmaaGreatProg
import Derived.Test.YtdihjeeniojdmaaGreatWExactMemOfWalk2
namespace Go.Proofs.YtdihjeeniojdmaaGreat
open Eng Tryz
open Go.RowKit (Below)
set_option linter.unusedVariables false
set_option linter.unusedSimpArgs false

set_option maxRecDepth 100000
set_option maxHeartbeats 1000000
variable {Ψ Φ : Hp} {pv0_0 pv0_1 pv0_2 pv0 pv1 pv1_0 pv1_1 pv2_0 pv2_1 pv3_0 : Value} {pG0_0 pG0_1 pG0_2 pG0 pG1 pG1_0 pG1_1 pG2_0 pG3_0 : List Nat} {pbc0 : Nat} (N : Nat)
theorem m_i_inRange_ok  (w0 : Base Ψ Φ []) (p0 : Int) (p1 : Int) (p2 : Int)  {r : Bool} (h : m_i_inRange N p0 p1 p2 = some r) :
  CB w0 prog 208 [iV p0, iV p1, iV p2] (.bool r) := by
 refine eN func208 rfl ntmps208 rfl w0 fun hF => ?_
 unfold m_i_inRange at h
 refine atr 10 [] rfl ?_
 obtain ⟨b1, hb_1, h⟩ := bs h
 refine WL.cutN 4 [(14, .bool b1), (6, .bool false)] ?_ (fun K => ?_)
 rotate_left
 ·refine sp 10 hb_1 rfl (fun hb_1 => ?_) fun hb_1 => ?_
  ·refine arr 4 [] rfl ?_
   cases hb_1
   exact ku K
  ·refine arr 4 [] rfl ?_
   cases hb_1
   exact ku K
 refine la rfl <| en ?_
 exact rt hF h
theorem m_i_PosCount_ok (w0 : Base Ψ Φ []) (p0 : TRule) (ph0_0 : RSl RTPat 3 Ψ pG0_0 pv0_0 p0.Pats) (ph0_1 : RSl RTCond 11 Ψ pG0_1 pv0_1 p0.Conds) (ph0_2 : RSl RTAct 5 Ψ pG0_2 pv0_2 p0.Acts) {r : Int} (h : m_i_PosCount N p0 = some r) :
  CB w0 prog 298 [.agg [.string p0.Name, iV p0.Sal, pv0_0, pv0_1, pv0_2].toArray] (iV r) := by
 refine eN func298 rfl ntmps298 rfl w0 fun hF => ?_
 unfold m_i_PosCount at h
 refine sr <| lbx rfl fun b_1 => arr 11 [2, 0] rfl <| lnr ph0_0 rfl <| art 3 [] rfl ?_
 refine lin (σ := Int × Int) (fun s => [(3, iV s.1), (7, pv0_0), (8, iV (p0.Pats.length : Int)), (9, iV s.2)]) (fun s => St w0 Φ [] []) (fun m s => m_i_PosCount_l1 N p0 m s.1 s.2 = some r) (0, 0) N h (sx [] []) (fun n1 ih1 s hm => ?_)
 obtain ⟨s1, s2⟩ := s
 have h : m_i_PosCount_l1 N p0 (n1 + 1) s1 s2 = some r := hm
 show WT _ _ [(3, iV s1), (7, pv0_0), (8, iV (p0.Pats.length : Int)), (9, iV s2)] (St w0 Φ [] [])
 unfold m_i_PosCount_l1 at h
 refine att 5 [] rfl ?_
 refine ch h rfl ?_ ?_ <;> intro h
 ·refine atr 5 [] rfl ?_
  obtain ⟨x1, hx1, h⟩ := bs h
  obtain ⟨cs1, F1, -, g1, hb1, hs1, r1⟩ := ph0_0.el (idx_some hx1).2.2
  obtain ⟨v1, G1, rfl, hq1, h1⟩ := r1
  obtain rfl := hq1.symm
  refine lia ph0_0 hx1 rfl <| lhx 0 3 g1 rfl <| lnz Zr_265 rfl fun b_2 => soN 0 Sz_265 rfl ⟨rfl, h1.one, rfl, trivial⟩ rfl ?_
  refine art 7 [2, 0] rfl ?_
  refine ch h rfl ?_ ?_ <;> intro h
  ·refine att 10 [] rfl ?_
   exact lb [] [] (ih1 (_, _) h)
  refine att 6 [] rfl ?_
  exact lb [] [] (ih1 (_, _) h)
 refine att 6 [] rfl ?_
 exact rt hF h
theorem m_i_ValOk_ok  (w0 : Base Ψ Φ []) (p0 : TVal)  {r : Bool} (h : m_i_ValOk N p0 = some r) :
  CB w0 prog 257 [.agg [iV p0.K, iV p0.N, .string p0.S].toArray] (.bool r) := by
 refine eN func257 rfl ntmps257 rfl w0 fun hF => ?_
 unfold m_i_ValOk at h
 refine sr <| lbx rfl fun b_1 => art 14 [0, 0] rfl ?_
 refine ch h rfl ?_ ?_ <;> intro h
 ·refine atr 4 [1, 0] rfl <| qc h (m_i_inRange_ok N · p0.N (-1000000000) 1000000000 ·) rfl rfl rfl fun x1 h => la rfl ?_
  obtain ⟨b1, hb_1, h⟩ := bs h
  refine WL.cutN 4 [(14, .bool b1), (2, .bool false)] ?_ (fun K => ?_)
  rotate_left
  ·refine sp 10 hb_1 rfl (fun hb_1 => ?_) fun hb_1 => ?_
   ·refine arr 4 [2, 0] rfl ?_
    cases hb_1
    exact ku K
   ·refine arr 4 [] rfl ?_
    cases hb_1
    exact ku K
  refine la rfl <| en ?_
  exact rt hF h
 refine att 5 [] rfl ?_
 refine ch h rfl ?_ ?_ <;> intro h
 ·refine atr 6 [1, 0] rfl ?_
  obtain ⟨b2, hb_2, h⟩ := bs h
  refine WL.cutN 4 [(24, .bool b2), (2, .bool false)] ?_ (fun K => ?_)
  rotate_left
  ·refine sp 20 hb_2 rfl (fun hb_2 => ?_) fun hb_2 => ?_
   ·refine arr 2 [2, 0] rfl <| ly rfl rfl <| qc hb_2 (m_i_isWord_ok N · p0.S 20 ·) rfl rfl rfl fun x2 hb_2 => la rfl ?_
    cases hb_2
    exact ku K
   ·refine arr 4 [] rfl ?_
    cases hb_2
    exact ku K
  refine la rfl <| en ?_
  exact rt hF h
 refine att 6 [] rfl ?_
 exact rt hF h
theorem m_i_isLarge_ok  (w0 : Base Ψ Φ []) (p0 : Int)  {r : Bool} (h : m_i_isLarge N p0 = some r) :
  CB w0 prog 425 [.int .u8 p0] (.bool r) := by
 refine eN func425 rfl ntmps425 rfl w0 fun hF => ?_
 unfold m_i_isLarge at h
 refine atr 9 [] rfl ?_
 obtain ⟨b1, hb_1, h⟩ := bs h
 refine WL.cutN 3 [(8, .bool b1), (2, .bool false)] ?_ (fun K => ?_)
 rotate_left
 ·refine sp 5 hb_1 rfl (fun hb_1 => ?_) fun hb_1 => ?_
  ·refine arr 3 [] rfl ?_
   cases hb_1
   exact ku K
  ·refine arr 3 [] rfl ?_
   cases hb_1
   exact ku K
 refine la rfl <| en ?_
 exact rt hF h
theorem m_i_isVar_ok  (w0 : Base Ψ Φ []) (p0 : ByteArray)  {r : Bool} (h : m_i_isVar N p0 = some r) :
  CB w0 prog 416 [.string p0] (.bool r) := by
 refine eN func416 rfl ntmps416 rfl w0 fun hF => ?_
 unfold m_i_isVar at h
 refine atr 8 [] rfl <| lq (q_lenS Str_9 rfl rfl) rfl <| arr 2 [] rfl ?_
 obtain ⟨b1, hb_1, h⟩ := bs h
 refine WL.cutN 4 [(11, .bool b1), (0, .string p0)] ?_ (fun K => ?_)
 rotate_left
 ·refine sp 7 hb_1 rfl (fun hb_1 => ?_) fun hb_1 => ?_
  ·refine arr 4 [] rfl ?_
   cases hb_1
   exact ku K
  ·refine ly rfl rfl <| la rfl <| ly rfl rfl <| lq (q_lenS Str_9 rfl rfl) rfl <| arr 2 [] rfl ?_
   cases hb_1
   exact ku K
 refine la rfl ?_
 obtain ⟨b2, hb_2, h⟩ := bs h
 refine WL.cutN 5 [(17, .bool b2), (0, .string p0)] ?_ (fun K => ?_)
 rotate_left
 ·refine sp 12 hb_2 rfl (fun hb_2 => ?_) fun hb_2 => ?_
  ·refine arr 5 [] rfl ?_
   cases hb_2
   exact ku K
  ·refine ly rfl rfl <| la rfl <| ly rfl rfl ?_
   obtain ⟨y1, hy1, hb_2⟩ := bs hb_2
   refine lq (q_indexS Str_9 rfl rfl hy1) rfl <| ly rfl rfl <| qc hb_2 (m_i_isLarge_ok N · (y1.toNat : Int) ·) rfl rfl rfl fun x1 hb_2 => arr 2 [] rfl ?_
   cases hb_2
   exact ku K
 refine en ?_
 refine ch h rfl ?_ ?_ <;> intro h
 ·refine att 4 [] rfl ?_
  exact rt hF h
 refine att 7 [] rfl ?_
 refine lin (σ := Int) (fun s => [(0, .string p0), (3, iV s)]) (fun s => St w0 Φ [] []) (fun m s => m_i_isVar_l1 N p0 m s = some r) (0) N h (sx [] []) (fun n1 ih1 s hm => ?_)
 revert hm; revert s; intro s1 hm
 have h : m_i_isVar_l1 N p0 (n1 + 1) s1 = some r := hm
 show WT _ _ [(0, .string p0), (3, iV s1)] (St w0 Φ [] [])
 unfold m_i_isVar_l1 at h
 refine atr 5 [] rfl <| lq (q_lenS Str_9 rfl rfl) rfl <| la rfl <| en ?_
 refine ch h rfl ?_ ?_ <;> intro h
 ·refine atr 7 [] rfl ?_
  obtain ⟨y2, hy2, h⟩ := bs h
  refine lq (q_indexS Str_9 rfl rfl hy2) rfl <| qc h (m_i_isWordByte_ok N · (y2.toNat : Int) ·) rfl rfl rfl fun x2 h => arr 2 [] rfl ?_
  obtain ⟨b3, hb_3, h⟩ := bs h
  refine WL.cutN 6 [(35, .bool b3), (0, .string p0), (3, iV s1)] ?_ (fun K => ?_)
  rotate_left
  ·refine sp 29 hb_3 rfl (fun hb_3 => ?_) fun hb_3 => ?_
   ·refine arr 2 [] rfl <| ly rfl rfl ?_
    obtain ⟨y3, hy3, hb_3⟩ := bs hb_3
    refine lq (q_indexS Str_9 rfl rfl hy3) rfl <| ly rfl rfl <| qc hb_3 (m_i_isLarge_ok N · (y3.toNat : Int) ·) rfl rfl rfl fun x3 hb_3 => arr 2 [] rfl ?_
    cases hb_3
    exact ku K
   ·refine arr 6 [] rfl ?_
    cases hb_3
    exact ku K
  refine en ?_
  refine ch h rfl ?_ ?_ <;> intro h
  ·refine att 4 [] rfl ?_
   exact rt hF h
  refine att 7 [] rfl ?_
  exact lb [] [] (ih1 _ h)
 refine att 5 [] rfl ?_
 exact rt hF h
theorem m_i_ArgOk_ok  (w0 : Base Ψ Φ []) (p0 : TArg)  {r : Bool} (h : m_i_ArgOk N p0 = some r) :
  CB w0 prog 393 [.agg [iV p0.K, .string p0.S, iV p0.V.K, iV p0.V.N, .string p0.V.S].toArray] (.bool r) := by
 refine eN func393 rfl ntmps393 rfl w0 fun hF => ?_
 unfold m_i_ArgOk at h
 refine sr <| lbx rfl fun b_1 => art 14 [0, 0] rfl ?_
 refine ch h rfl ?_ ?_ <;> intro h
 ·refine atr 4 [1, 0] rfl <| qc h (m_i_isVar_ok N · p0.S ·) rfl rfl rfl fun x1 h => la rfl ?_
  obtain ⟨b1, hb_1, h⟩ := bs h
  refine WL.cutN 5 [(15, .bool b1), (2, .bool false)] ?_ (fun K => ?_)
  rotate_left
  ·refine sp 10 hb_1 rfl (fun hb_1 => ?_) fun hb_1 => ?_
   ·refine arr 2 [2, 3] rfl <| ly rfl rfl <| lq (q_build (vs := []) (C := #[iV 0, iV 0, .string (⟨#[]⟩ : ByteArray)]) Pl_204 Zr_204 rfl (fill_nil)) rfl <| ly rfl rfl <| lq (q_eqA EqT_204 rfl rfl rfl (r := eqT_TVal p0.V (⟨0, 0, (⟨#[]⟩ : ByteArray)⟩ : TVal)) rfl) rfl <| la rfl ?_
    cases hb_1
    exact ku K
   ·refine arr 5 [] rfl ?_
    cases hb_1
    exact ku K
  refine la rfl <| en ?_
  exact rt hF h
 refine att 5 [] rfl ?_
 refine ch h rfl ?_ ?_ <;> intro h
 ·refine atr 6 [1, 0] rfl ?_
  obtain ⟨b2, hb_2, h⟩ := bs h
  refine WL.cutN 4 [(25, .bool b2), (2, .bool false)] ?_ (fun K => ?_)
  rotate_left
  ·refine sp 21 hb_2 rfl (fun hb_2 => ?_) fun hb_2 => ?_
   ·refine arr 2 [2, 3] rfl <| ly rfl rfl <| qc hb_2 (m_i_ValOk_ok N · p0.V ·) rfl rfl rfl fun x2 hb_2 => la rfl ?_
    cases hb_2
    exact ku K
   ·refine arr 4 [] rfl ?_
    cases hb_2
    exact ku K
  refine la rfl <| en ?_
  exact rt hF h
 refine att 5 [] rfl ?_
 refine ch h rfl ?_ ?_ <;> intro h
 ·refine atr 6 [1, 0] rfl ?_
  obtain ⟨b3, hb_3, h⟩ := bs h
  refine WL.cutN 5 [(36, .bool b3), (2, .bool false)] ?_ (fun K => ?_)
  rotate_left
  ·refine sp 31 hb_3 rfl (fun hb_3 => ?_) fun hb_3 => ?_
   ·refine arr 2 [2, 3] rfl <| ly rfl rfl <| lq (q_build (vs := []) (C := #[iV 0, iV 0, .string (⟨#[]⟩ : ByteArray)]) Pl_204 Zr_204 rfl (fill_nil)) rfl <| ly rfl rfl <| lq (q_eqA EqT_204 rfl rfl rfl (r := eqT_TVal p0.V (⟨0, 0, (⟨#[]⟩ : ByteArray)⟩ : TVal)) rfl) rfl <| la rfl ?_
    cases hb_3
    exact ku K
   ·refine arr 5 [] rfl ?_
    cases hb_3
    exact ku K
  refine la rfl <| en ?_
  exact rt hF h
 refine att 6 [] rfl ?_
 exact rt hF h
theorem m_i_PatOk_ok (w0 : Base Ψ Φ []) (p0 : TPat) (ph0_0 : RSl RTArg 5 Ψ pG0_0 pv0_0 p0.Args) {r : Bool} (h : m_i_PatOk N p0 = some r) :
  CB w0 prog 359 [.agg [.string p0.Kind, pv0_0, .bool p0.Not].toArray] (.bool r) := by
 refine eN func359 rfl ntmps359 rfl w0 fun hF => ?_
 unfold m_i_PatOk at h
 refine sr <| lbx rfl fun b_1 => arr 7 [0, 0] rfl <| qc h (m_i_NameOk_ok N · p0.Kind ·) rfl rfl rfl fun x1 h => arr 2 [] rfl ?_
 obtain ⟨b1, hb_1, h⟩ := bs h
 refine WL.cutN 5 [(14, .bool b1), (1, pQ b_1)] ?_ (fun K => ?_)
 rotate_left
 ·refine sp 9 hb_1 rfl (fun hb_1 => ?_) fun hb_1 => ?_
  ·refine arr 5 [] rfl ?_
   cases hb_1
   exact ku K
  ·refine arr 2 [1, 0] rfl <| ly rfl rfl <| lnr ph0_0 rfl <| arr 2 [] rfl ?_
   cases hb_1
   exact ku K
 refine en ?_
 refine ch h rfl ?_ ?_ <;> intro h
 ·refine att 4 [] rfl ?_
  exact rt hF h
 refine atr 6 [1, 0] rfl <| lnr ph0_0 rfl <| art 3 [] rfl ?_
 refine lin (σ := Int) (fun s => [(16, pv0_0), (17, iV (p0.Args.length : Int)), (18, iV s)]) (fun s => St w0 Φ [] []) (fun m s => m_i_PatOk_l1 N p0 m s = some r) (0) N h (sx [] []) (fun n1 ih1 s hm => ?_)
 revert hm; revert s; intro s1 hm
 have h : m_i_PatOk_l1 N p0 (n1 + 1) s1 = some r := hm
 show WT _ _ [(16, pv0_0), (17, iV (p0.Args.length : Int)), (18, iV s1)] (St w0 Φ [] [])
 unfold m_i_PatOk_l1 at h
 refine att 5 [] rfl ?_
 refine ch h rfl ?_ ?_ <;> intro h
 ·refine atr 5 [] rfl ?_
  obtain ⟨x2, hx2, h⟩ := bs h
  obtain ⟨cs1, F1, -, g1, hb1, hs1, r1⟩ := ph0_0.el (idx_some hx2).2.2
  obtain ⟨rfl, -⟩ := r1
  refine lia ph0_0 hx2 rfl <| lhx 0 5 g1 rfl <| lnz Zr_294 rfl fun b_2 => soN 0 Sz_294 rfl ⟨rfl, rfl, rfl, rfl, rfl, trivial⟩ rfl ?_
  refine arr 4 [5] rfl <| qc h (m_i_ArgOk_ok N · x2 ·) rfl rfl rfl fun x3 h => la rfl <| en ?_
  refine ch h rfl ?_ ?_ <;> intro h
  ·refine att 4 [] rfl ?_
   exact rt hF h
  refine att 6 [] rfl ?_
  exact lb [] [] (ih1 _ h)
 refine att 5 [] rfl ?_
 exact rt hF h
theorem m_i_patsOk_ok (w0 : Base Ψ Φ []) (p0 : TRule) (ph0_0 : RSl RTPat 3 Ψ pG0_0 pv0_0 p0.Pats) (ph0_1 : RSl RTCond 11 Ψ pG0_1 pv0_1 p0.Conds) (ph0_2 : RSl RTAct 5 Ψ pG0_2 pv0_2 p0.Acts) {r : Bool} (h : m_i_patsOk N p0 = some r) :
  CB w0 prog 295 [.agg [.string p0.Name, iV p0.Sal, pv0_0, pv0_1, pv0_2].toArray] (.bool r) := by
 refine eN func295 rfl ntmps295 rfl w0 fun hF => ?_
 unfold m_i_patsOk at h
 refine sr <| lbx rfl fun b_1 => arr 7 [2, 0] rfl <| lnr ph0_0 rfl <| qc h (m_i_inRange_ok N · (p0.Pats.length : Int) 1 6 ·) rfl rfl rfl fun x1 h => arr 2 [] rfl ?_
 obtain ⟨b1, hb_1, h⟩ := bs h
 refine WL.cutN 5 [(15, .bool b1), (1, pQ b_1)] ?_ (fun K => ?_)
 rotate_left
 ·refine sp 10 hb_1 rfl (fun hb_1 => ?_) fun hb_1 => ?_
  ·refine arr 5 [] rfl ?_
   cases hb_1
   exact ku K
  ·refine ly rfl rfl <| ld5 Tn_183 0 rfl <| ly rfl rfl <| qd hb_1 (m_i_PosCount_ok N · p0 ph0_0 ph0_1 ph0_2 ·) rfl rfl rfl fun x2 hb_1 => ly rfl rfl <| qc hb_1 (m_i_inRange_ok N · x2 1 3 ·) rfl rfl rfl fun x3 hb_1 => arr 2 [] rfl ?_
   cases hb_1
   exact ku K
 refine en ?_
 refine ch h rfl ?_ ?_ <;> intro h
 ·refine att 4 [] rfl ?_
  exact rt hF h
 refine atr 6 [2, 0] rfl <| lnr ph0_0 rfl <| art 3 [] rfl ?_
 refine lin (σ := Int) (fun s => [(1, pQ b_1), (17, pv0_0), (18, iV (p0.Pats.length : Int)), (19, iV s)]) (fun s => St w0 Φ [(b_1, .cells #[.string p0.Name, iV p0.Sal, pv0_0, pv0_1, pv0_2] 183 (0, 0))] []) (fun m s => m_i_patsOk_l1 N p0 m s = some r) (0) N h (sx [] [0]) (fun n1 ih1 s hm => ?_)
 revert hm; revert s; intro s1 hm
 have h : m_i_patsOk_l1 N p0 (n1 + 1) s1 = some r := hm
 show WT _ _ [(1, pQ b_1), (17, pv0_0), (18, iV (p0.Pats.length : Int)), (19, iV s1)] (St w0 Φ [(b_1, .cells #[.string p0.Name, iV p0.Sal, pv0_0, pv0_1, pv0_2] 183 (0, 0))] [])
 unfold m_i_patsOk_l1 at h
 refine att 5 [] rfl ?_
 refine ch h rfl ?_ ?_ <;> intro h
 ·refine atr 6 [] rfl ?_
  obtain ⟨x4, hx4, h⟩ := bs h
  obtain ⟨cs1, F1, -, g1, hb1, hs1, r1⟩ := ph0_0.el (idx_some hx4).2.2
  obtain ⟨v1, G1, rfl, hq1, h1⟩ := r1
  obtain rfl := hq1.symm
  refine lia ph0_0 hx4 rfl <| lhx 0 3 g1 rfl <| lnz Zr_265 rfl fun b_2 => la rfl <| soN 0 Sz_265 rfl ⟨rfl, h1.one, rfl, trivial⟩ rfl ?_
  refine en <| sq <| WT.draw mixed (by kernel_rfl) (fun _ h => h.drew) <| qq (q_loadN Tn_265 rfl (fun w1 hw => hw.rgO (i := 0) rfl 0 3 [.string x4.Kind, v1, .bool x4.Not] rfl) rfl) rfl ?_
  obtain ⟨x5, hx5, h⟩ := bs h
  refine qp (p_call Fun_359 rfl (fun w1 hw => m_i_PatOk_ok N (ba hw.in0) x4 h1 hx5)) rfl <| aqq 2 [] rfl ?_
  obtain ⟨b2, hb_2, h⟩ := bs h
  refine WQ.cutN 8 [(35, .bool b2), (1, pQ b_1), (17, pv0_0), (18, iV (p0.Pats.length : Int)), (19, iV s1)] ?_ (fun K => ?_)
  rotate_left
  ·refine WQ.split (d := 27) rfl (fun c4 => ?_) (fun c4 => ?_)
   ·replace hb_2 := ite_t hb_2 c4
    refine aqq 8 [] rfl ?_
    cases hb_2
    exact kq K
   ·replace hb_2 := ite_f hb_2 c4
    refine aqq 4 [2, 0, 37] rfl <| WQ.yes rfl rfl ?_
    obtain ⟨x6, hx6, hb_2⟩ := bs hb_2
    refine qp (p_call Fun_298 rfl (fun w1 hw => m_i_PosCount_ok N (ba hw.in0) p0 ph0_0 ph0_1 ph0_2 hx6)) rfl <| WQ.yes rfl rfl <| qq (q_geq rfl rfl) rfl <| WQ.yes rfl rfl <| qq (q_bne Bo_4 rfl rfl) rfl <| WQ.q (q_pick0 rfl rfl) rfl rfl rfl ?_
    cases hb_2
    exact kq K
  refine WQ.nil ?_
  refine ch h rfl ?_ ?_ <;> intro h
  ·refine att 4 [] rfl ?_
   exact rt hF h
  refine att 6 [] rfl ?_
  exact lb [] [1] (ih1 _ h)
 refine att 5 [] rfl ?_
 exact rt hF h
theorem m_i_isTerm_ok  (w0 : Base Ψ Φ []) (p0 : TArg)  {r : Bool} (h : m_i_isTerm N p0 = some r) :
  CB w0 prog 360 [.agg [iV p0.K, .string p0.S, iV p0.V.K, iV p0.V.N, .string p0.V.S].toArray] (.bool r) := by
 refine eN func360 rfl ntmps360 rfl w0 fun hF => ?_
 unfold m_i_isTerm at h
 refine sr <| lbx rfl fun b_1 => arr 8 [0, 0] rfl ?_
 obtain ⟨b1, hb_1, h⟩ := bs h
 refine WL.cutN 3 [(9, .bool b1), (2, .bool false)] ?_ (fun K => ?_)
 rotate_left
 ·refine sp 6 hb_1 rfl (fun hb_1 => ?_) fun hb_1 => ?_
  ·refine ly rfl rfl <| ld5 Tn_294 0 rfl <| ly rfl rfl <| qc hb_1 (m_i_ArgOk_ok N · p0 ·) rfl rfl rfl fun x1 hb_1 => la rfl ?_
   cases hb_1
   exact ku K
  ·refine arr 3 [] rfl ?_
   cases hb_1
   exact ku K
 refine la rfl <| en ?_
 exact rt hF h
theorem m_i_CondOk_ok  (w0 : Base Ψ Φ []) (p0 : TCond)  {r : Bool} (h : m_i_CondOk N p0 = some r) :
  CB w0 prog 296 [.agg [iV p0.Op, iV p0.L.K, .string p0.L.S, iV p0.L.V.K, iV p0.L.V.N, .string p0.L.V.S, iV p0.R.K, .string p0.R.S, iV p0.R.V.K, iV p0.R.V.N, .string p0.R.V.S].toArray] (.bool r) := by
 refine eN func296 rfl ntmps296 rfl w0 fun hF => ?_
 unfold m_i_CondOk at h
 refine sr <| lbx rfl fun b_1 => arr 6 [0, 0] rfl <| qc h (m_i_inRange_ok N · p0.Op 1 3 ·) rfl rfl rfl fun x1 h => la rfl ?_
 obtain ⟨b1, hb_1, h⟩ := bs h
 refine WL.cutN 4 [(10, .bool b1), (1, pQ b_1), (2, .bool false)] ?_ (fun K => ?_)
 rotate_left
 ·refine sp 6 hb_1 rfl (fun hb_1 => ?_) fun hb_1 => ?_
  ·refine arr 2 [1, 5] rfl <| ly rfl rfl <| qc hb_1 (m_i_isTerm_ok N · p0.L ·) rfl rfl rfl fun x2 hb_1 => la rfl ?_
   cases hb_1
   exact ku K
  ·refine arr 4 [] rfl ?_
   cases hb_1
   exact ku K
 refine la rfl ?_
 obtain ⟨b2, hb_2, h⟩ := bs h
 refine WL.cutN 4 [(15, .bool b2), (2, .bool false)] ?_ (fun K => ?_)
 rotate_left
 ·refine sp 11 hb_2 rfl (fun hb_2 => ?_) fun hb_2 => ?_
  ·refine arr 2 [6, 5] rfl <| ly rfl rfl <| qc hb_2 (m_i_isTerm_ok N · p0.R ·) rfl rfl rfl fun x3 hb_2 => la rfl ?_
   cases hb_2
   exact ku K
  ·refine arr 4 [] rfl ?_
   cases hb_2
   exact ku K
 refine la rfl <| en ?_
 exact rt hF h
theorem m_i_ExprOk_ok  (w0 : Base Ψ Φ []) (p0 : TExpr)  {r : Bool} (h : m_i_ExprOk N p0 = some r) :
  CB w0 prog 394 [.agg [.string p0.Op, iV p0.L.K, .string p0.L.S, iV p0.L.V.K, iV p0.L.V.N, .string p0.L.V.S, iV p0.R.K, .string p0.R.S, iV p0.R.V.K, iV p0.R.V.N, .string p0.R.V.S].toArray] (.bool r) := by
 refine eN func394 rfl ntmps394 rfl w0 fun hF => ?_
 unfold m_i_ExprOk at h
 refine sr <| lbx rfl fun b_1 => art 14 [0, 0] rfl ?_
 refine ch h rfl ?_ ?_ <;> intro h
 ·refine atr 4 [1, 5] rfl <| qc h (m_i_isTerm_ok N · p0.L ·) rfl rfl rfl fun x1 h => la rfl ?_
  obtain ⟨b1, hb_1, h⟩ := bs h
  refine WL.cutN 5 [(15, .bool b1), (2, .bool false)] ?_ (fun K => ?_)
  rotate_left
  ·refine sp 10 hb_1 rfl (fun hb_1 => ?_) fun hb_1 => ?_
   ·refine arr 2 [6, 5] rfl <| ly rfl rfl <| lq (q_build (vs := []) (C := #[iV 0, .string (⟨#[]⟩ : ByteArray), iV 0, iV 0, .string (⟨#[]⟩ : ByteArray)]) Pl_294 Zr_294 rfl (fill_nil)) rfl <| ly rfl rfl <| lq (q_eqA EqT_294 rfl rfl rfl (r := eqT_TArg p0.R (⟨0, (⟨#[]⟩ : ByteArray), (⟨0, 0, (⟨#[]⟩ : ByteArray)⟩ : TVal)⟩ : TArg)) rfl) rfl <| la rfl ?_
    cases hb_1
    exact ku K
   ·refine arr 5 [] rfl ?_
    cases hb_1
    exact ku K
  refine la rfl <| en ?_
  exact rt hF h
 refine att 6 [] rfl ?_
 refine cut (σ := Bool) (fun s => [(1, pQ b_1), (16, .bool s)]) (fun s => St w0 Φ [(b_1, .cells #[.string p0.Op, iV p0.L.K, .string p0.L.S, iV p0.L.V.K, iV p0.L.V.N, .string p0.L.V.S, iV p0.R.K, .string p0.R.S, iV p0.R.V.K, iV p0.R.V.N, .string p0.R.V.S] 367 (0, 0))] []) (fun s => m_i_ExprOk_j1 N p0 s = some r) (fun s hm => ?_) (fun K => ?_)
 ·clear h
  revert hm; revert s; intro s1 hm
  have h : m_i_ExprOk_j1 N p0 s1 = some r := hm
  show WT _ _ [(1, pQ b_1), (16, .bool s1)] (St w0 Φ [(b_1, .cells #[.string p0.Op, iV p0.L.K, .string p0.L.S, iV p0.L.V.K, iV p0.L.V.N, .string p0.L.V.S, iV p0.R.K, .string p0.R.S, iV p0.R.V.K, iV p0.R.V.N, .string p0.R.V.S] 367 (0, 0))] [])
  unfold m_i_ExprOk_j1 at h
  refine ch h rfl ?_ ?_ <;> intro h
  ·refine atr 4 [1, 5] rfl <| qc h (m_i_isTerm_ok N · p0.L ·) rfl rfl rfl fun x2 h => la rfl ?_
   obtain ⟨b2, hb_2, h⟩ := bs h
   refine WL.cutN 4 [(26, .bool b2)] ?_ (fun K => ?_)
   rotate_left
   ·refine sp 22 hb_2 rfl (fun hb_2 => ?_) fun hb_2 => ?_
    ·refine arr 2 [6, 5] rfl <| ly rfl rfl <| qc hb_2 (m_i_isTerm_ok N · p0.R ·) rfl rfl rfl fun x3 hb_2 => la rfl ?_
     cases hb_2
     exact ku K
    ·refine arr 4 [] rfl ?_
     cases hb_2
     exact ku K
   refine la rfl <| en ?_
   exact rt hF h
  refine att 6 [] rfl ?_
  exact rt hF h
 refine ch h rfl ?_ ?_ <;> intro h
 ·refine WT.skip ?_
  exact wo [] [0] (K _ h)
 refine att 4 [] rfl ?_
 exact wo [] [0] (K _ h)
theorem m_i_argsOk_ok (w0 : Base Ψ Φ []) (p0 : TAct) (ph0_0 : RSl RTExpr 11 Ψ pG0_0 pv0_0 p0.Args) {r : Bool} (h : m_i_argsOk N p0 = some r) :
  CB w0 prog 361 [.agg [iV p0.Kind, .string p0.Name, pv0_0, iV p0.N, .string p0.Undo].toArray] (.bool r) := by
 refine eN func361 rfl ntmps361 rfl w0 fun hF => ?_
 unfold m_i_argsOk at h
 refine sr <| lbx rfl fun b_1 => arr 7 [1, 0] rfl <| qc h (m_i_NameOk_ok N · p0.Name ·) rfl rfl rfl fun x1 h => arr 2 [] rfl ?_
 obtain ⟨b1, hb_1, h⟩ := bs h
 refine WL.cutN 5 [(14, .bool b1), (1, pQ b_1)] ?_ (fun K => ?_)
 rotate_left
 ·refine sp 9 hb_1 rfl (fun hb_1 => ?_) fun hb_1 => ?_
  ·refine arr 5 [] rfl ?_
   cases hb_1
   exact ku K
  ·refine arr 2 [2, 0] rfl <| ly rfl rfl <| lnr ph0_0 rfl <| arr 2 [] rfl ?_
   cases hb_1
   exact ku K
 refine en ?_
 refine ch h rfl ?_ ?_ <;> intro h
 ·refine att 4 [] rfl ?_
  exact rt hF h
 refine atr 6 [2, 0] rfl <| lnr ph0_0 rfl <| art 3 [] rfl ?_
 refine lin (σ := Int) (fun s => [(16, pv0_0), (17, iV (p0.Args.length : Int)), (18, iV s)]) (fun s => St w0 Φ [] []) (fun m s => m_i_argsOk_l1 N p0 m s = some r) (0) N h (sx [] []) (fun n1 ih1 s hm => ?_)
 revert hm; revert s; intro s1 hm
 have h : m_i_argsOk_l1 N p0 (n1 + 1) s1 = some r := hm
 show WT _ _ [(16, pv0_0), (17, iV (p0.Args.length : Int)), (18, iV s1)] (St w0 Φ [] [])
 unfold m_i_argsOk_l1 at h
 refine att 5 [] rfl ?_
 refine ch h rfl ?_ ?_ <;> intro h
 ·refine atr 5 [] rfl ?_
  obtain ⟨x2, hx2, h⟩ := bs h
  obtain ⟨cs1, F1, -, g1, hb1, hs1, r1⟩ := ph0_0.el (idx_some hx2).2.2
  obtain ⟨rfl, -⟩ := r1
  refine lia ph0_0 hx2 rfl <| lhx 0 11 g1 rfl <| lnz Zr_367 rfl fun b_2 => soN 0 Sz_367 rfl ⟨rfl, rfl, rfl, rfl, rfl, rfl, rfl, rfl, rfl, rfl, rfl, trivial⟩ rfl ?_
  refine arr 4 [11] rfl <| qc h (m_i_ExprOk_ok N · x2 ·) rfl rfl rfl fun x3 h => la rfl <| en ?_
  refine ch h rfl ?_ ?_ <;> intro h
  ·refine att 4 [] rfl ?_
   exact rt hF h
  refine att 6 [] rfl ?_
  exact lb [] [] (ih1 _ h)
 refine att 5 [] rfl ?_
 exact rt hF h
theorem m_i_isUndo_ok  (w0 : Base Ψ Φ []) (p0 : ByteArray)  {r : Bool} (h : m_i_isUndo N p0 = some r) :
  CB w0 prog 362 [.string p0] (.bool r) := by
 refine eN func362 rfl ntmps362 rfl w0 fun hF => ?_
 unfold m_i_isUndo at h
 refine atr 9 [] rfl ?_
 obtain ⟨b1, hb_1, h⟩ := bs h
 refine WL.cutN 3 [(8, .bool b1), (2, .bool false)] ?_ (fun K => ?_)
 rotate_left
 ·refine sp 5 hb_1 rfl (fun hb_1 => ?_) fun hb_1 => ?_
  ·refine arr 3 [] rfl ?_
   cases hb_1
   exact ku K
  ·refine ly rfl rfl <| la rfl <| ly rfl rfl <| qc hb_1 (m_i_NameOk_ok N · p0 ·) rfl rfl rfl fun x1 hb_1 => la rfl ?_
   cases hb_1
   exact ku K
 refine la rfl <| en ?_
 exact rt hF h
theorem m_i_ActOk_ok (w0 : Base Ψ Φ []) (p0 : TAct) (ph0_0 : RSl RTExpr 11 Ψ pG0_0 pv0_0 p0.Args) {r : Bool} (h : m_i_ActOk N p0 = some r) :
  CB w0 prog 297 [.agg [iV p0.Kind, .string p0.Name, pv0_0, iV p0.N, .string p0.Undo].toArray] (.bool r) := by
 refine eN func297 rfl ntmps297 rfl w0 fun hF => ?_
 unfold m_i_ActOk at h
 refine sr <| lbx rfl fun b_1 => arr 8 [1, 0] rfl ?_
 obtain ⟨b1, hb_1, h⟩ := bs h
 refine WL.cutN 5 [(12, .bool b1), (1, pQ b_1)] ?_ (fun K => ?_)
 rotate_left
 ·refine sp 7 hb_1 rfl (fun hb_1 => ?_) fun hb_1 => ?_
  ·refine arr 2 [2, 0] rfl <| ly rfl rfl <| lnr ph0_0 rfl <| arr 2 [] rfl ?_
   cases hb_1
   exact ku K
  ·refine arr 5 [] rfl ?_
   cases hb_1
   exact ku K
 refine art 14 [0, 0] rfl ?_
 refine ch h rfl ?_ ?_ <;> intro h
 ·refine atr 3 [5] rfl <| qd h (m_i_argsOk_ok N · p0 ph0_0 ·) rfl rfl rfl fun x1 h => la rfl ?_
  obtain ⟨b2, hb_2, h⟩ := bs h
  refine WL.cutN 4 [(23, .bool b2), (1, pQ b_1)] ?_ (fun K => ?_)
  rotate_left
  ·refine sp 19 hb_2 rfl (fun hb_2 => ?_) fun hb_2 => ?_
   ·refine arr 4 [3, 0] rfl ?_
    cases hb_2
    exact ku K
   ·refine arr 4 [] rfl ?_
    cases hb_2
    exact ku K
  refine la rfl ?_
  obtain ⟨b3, hb_3, h⟩ := bs h
  refine WL.cutN 4 [(28, .bool b3)] ?_ (fun K => ?_)
  rotate_left
  ·refine sp 24 hb_3 rfl (fun hb_3 => ?_) fun hb_3 => ?_
   ·refine arr 4 [4, 0] rfl ?_
    cases hb_3
    exact ku K
   ·refine arr 4 [] rfl ?_
    cases hb_3
    exact ku K
  refine la rfl <| en ?_
  exact rt hF h
 refine att 5 [] rfl ?_
 refine ch h rfl ?_ ?_ <;> intro h
 ·refine atr 4 [] rfl ?_
  obtain ⟨b4, hb_4, h⟩ := bs h
  refine WL.cutN 4 [(36, .bool b4), (1, pQ b_1)] ?_ (fun K => ?_)
  rotate_left
  ·refine sp 32 hb_4 rfl (fun hb_4 => ?_) fun hb_4 => ?_
   ·refine arr 2 [3, 0] rfl <| ly rfl rfl <| qc hb_4 (m_i_inRange_ok N · p0.N 0 7 ·) rfl rfl rfl fun x2 hb_4 => la rfl ?_
    cases hb_4
    exact ku K
   ·refine arr 4 [] rfl ?_
    cases hb_4
    exact ku K
  refine la rfl ?_
  obtain ⟨b5, hb_5, h⟩ := bs h
  refine WL.cutN 4 [(41, .bool b5)] ?_ (fun K => ?_)
  rotate_left
  ·refine sp 37 hb_5 rfl (fun hb_5 => ?_) fun hb_5 => ?_
   ·refine arr 4 [4, 0] rfl ?_
    cases hb_5
    exact ku K
   ·refine arr 4 [] rfl ?_
    cases hb_5
    exact ku K
  refine la rfl <| en ?_
  exact rt hF h
 refine att 5 [] rfl ?_
 refine ch h rfl ?_ ?_ <;> intro h
 ·refine atr 3 [5] rfl <| qd h (m_i_argsOk_ok N · p0 ph0_0 ·) rfl rfl rfl fun x3 h => la rfl ?_
  obtain ⟨b6, hb_6, h⟩ := bs h
  refine WL.cutN 4 [(50, .bool b6), (1, pQ b_1)] ?_ (fun K => ?_)
  rotate_left
  ·refine sp 46 hb_6 rfl (fun hb_6 => ?_) fun hb_6 => ?_
   ·refine arr 4 [3, 0] rfl ?_
    cases hb_6
    exact ku K
   ·refine arr 4 [] rfl ?_
    cases hb_6
    exact ku K
  refine la rfl ?_
  obtain ⟨b7, hb_7, h⟩ := bs h
  refine WL.cutN 4 [(55, .bool b7)] ?_ (fun K => ?_)
  rotate_left
  ·refine sp 51 hb_7 rfl (fun hb_7 => ?_) fun hb_7 => ?_
   ·refine arr 2 [4, 0] rfl <| ly rfl rfl <| qc hb_7 (m_i_isUndo_ok N · p0.Undo ·) rfl rfl rfl fun x4 hb_7 => la rfl ?_
    cases hb_7
    exact ku K
   ·refine arr 4 [] rfl ?_
    cases hb_7
    exact ku K
  refine la rfl <| en ?_
  exact rt hF h
 refine att 5 [] rfl ?_
 refine ch h rfl ?_ ?_ <;> intro h
 ·refine atr 3 [5] rfl <| qd h (m_i_argsOk_ok N · p0 ph0_0 ·) rfl rfl rfl fun x5 h => la rfl ?_
  obtain ⟨b8, hb_8, h⟩ := bs h
  refine WL.cutN 4 [(64, .bool b8), (1, pQ b_1)] ?_ (fun K => ?_)
  rotate_left
  ·refine sp 60 hb_8 rfl (fun hb_8 => ?_) fun hb_8 => ?_
   ·refine arr 2 [3, 0] rfl <| ly rfl rfl <| qc hb_8 (m_i_inRange_ok N · p0.N 0 100000 ·) rfl rfl rfl fun x6 hb_8 => la rfl ?_
    cases hb_8
    exact ku K
   ·refine arr 4 [] rfl ?_
    cases hb_8
    exact ku K
  refine la rfl ?_
  obtain ⟨b9, hb_9, h⟩ := bs h
  refine WL.cutN 4 [(69, .bool b9)] ?_ (fun K => ?_)
  rotate_left
  ·refine sp 65 hb_9 rfl (fun hb_9 => ?_) fun hb_9 => ?_
   ·refine arr 4 [4, 0] rfl ?_
    cases hb_9
    exact ku K
   ·refine arr 4 [] rfl ?_
    cases hb_9
    exact ku K
  refine la rfl <| en ?_
  exact rt hF h
 refine att 6 [] rfl ?_
 refine cut (σ := Bool) (fun s => [(1, pQ b_1), (3, .bool b1), (70, .bool s)]) (fun s => St w0 Φ [(b_1, .cells #[iV p0.Kind, .string p0.Name, pv0_0, iV p0.N, .string p0.Undo] 339 (0, 0))] []) (fun s => m_i_ActOk_j1 N p0 b1 s = some r) (fun s hm => ?_) (fun K => ?_)
 ·clear h
  revert hm; revert s; intro s1 hm
  have h : m_i_ActOk_j1 N p0 b1 s1 = some r := hm
  show WT _ _ [(1, pQ b_1), (3, .bool b1), (70, .bool s1)] (St w0 Φ [(b_1, .cells #[iV p0.Kind, .string p0.Name, pv0_0, iV p0.N, .string p0.Undo] 339 (0, 0))] [])
  unfold m_i_ActOk_j1 at h
  refine ch h rfl ?_ ?_ <;> intro h
  ·refine atr 4 [] rfl ?_
   obtain ⟨b10, hb_10, h⟩ := bs h
   refine WL.cutN 4 [(78, .bool b10), (1, pQ b_1)] ?_ (fun K => ?_)
   rotate_left
   ·refine sp 74 hb_10 rfl (fun hb_10 => ?_) fun hb_10 => ?_
    ·refine arr 4 [3, 0] rfl ?_
     cases hb_10
     exact ku K
    ·refine arr 4 [] rfl ?_
     cases hb_10
     exact ku K
   refine la rfl ?_
   obtain ⟨b11, hb_11, h⟩ := bs h
   refine WL.cutN 4 [(83, .bool b11)] ?_ (fun K => ?_)
   rotate_left
   ·refine sp 79 hb_11 rfl (fun hb_11 => ?_) fun hb_11 => ?_
    ·refine arr 4 [4, 0] rfl ?_
     cases hb_11
     exact ku K
    ·refine arr 4 [] rfl ?_
     cases hb_11
     exact ku K
   refine la rfl <| en ?_
   exact rt hF h
  refine att 6 [] rfl ?_
  exact rt hF h
 refine ch h rfl ?_ ?_ <;> intro h
 ·refine WT.skip ?_
  exact wo [] [0] (K _ h)
 refine att 4 [] rfl ?_
 exact wo [] [0] (K _ h)
theorem m_sl_Index_Sstring_string_ok (w0 : Base Ψ Φ []) (p0 : (List ByteArray)) (p1 : ByteArray) (ph0 : RSl RS 1 Ψ pG0 pv0 p0) {r : Int} (h : m_sl_Index_Sstring_string N p0 p1 = some r) :
  CB w0 prog 364 [pv0, .string p1] (iV r) := by
 refine eN func364 rfl ntmps364 rfl w0 fun hF => ?_
 unfold m_sl_Index_Sstring_string at h
 refine atr 8 [] rfl <| lnr ph0 rfl <| art 3 [] rfl ?_
 refine lin (σ := Int) (fun s => [(0, pv0), (1, .string p1), (7, iV (p0.length : Int)), (8, iV s)]) (fun s => St w0 Φ [] []) (fun m s => m_sl_Index_Sstring_string_l1 N p0 p1 m s = some r) (0) N h (sx [] []) (fun n1 ih1 s hm => ?_)
 revert hm; revert s; intro s1 hm
 have h : m_sl_Index_Sstring_string_l1 N p0 p1 (n1 + 1) s1 = some r := hm
 show WT _ _ [(0, pv0), (1, .string p1), (7, iV (p0.length : Int)), (8, iV s1)] (St w0 Φ [] [])
 unfold m_sl_Index_Sstring_string_l1 at h
 refine att 5 [] rfl ?_
 refine ch h rfl ?_ ?_ <;> intro h
 ·refine atr 13 [] rfl ?_
  obtain ⟨x1, hx1, h⟩ := bs h
  obtain ⟨cs1, F1, -, g1, hb1, hs1, r1⟩ := ph0.el (idx_some hx1).2.2
  obtain ⟨rfl, -⟩ := r1
  refine lia ph0 hx1 rfl <| lhx 0 0 g1 rfl <| la rfl <| en ?_
  refine ch h rfl ?_ ?_ <;> intro h
  ·refine att 5 [] rfl ?_
   exact rt hF h
  refine att 6 [] rfl ?_
  exact lb [] [] (ih1 _ h)
 refine att 5 [] rfl ?_
 exact rt hF h
theorem m_sl_Contains_Sstring_string_ok (w0 : Base Ψ Φ []) (p0 : (List ByteArray)) (p1 : ByteArray) (ph0 : RSl RS 1 Ψ pG0 pv0 p0) {r : Bool} (h : m_sl_Contains_Sstring_string N p0 p1 = some r) :
  CB w0 prog 301 [pv0, .string p1] (.bool r) := by
 refine eN func301 rfl ntmps301 rfl w0 fun hF => ?_
 unfold m_sl_Contains_Sstring_string at h
 refine atr 8 [] rfl <| qd h (m_sl_Index_Sstring_string_ok N · p0 p1 ph0 ·) rfl rfl rfl fun x1 h => art 3 [] rfl ?_
 exact rt hF h
theorem m_i_addOnce_ok (w0 : Base Ψ Φ [ob pv0].flatten) (p0 : (List ByteArray)) (p1 : ByteArray) (ph0 : OSl RS 9 1 Φ [] pv0 p0) {r : (List ByteArray)} (h : m_i_addOnce N p0 p1 = some r) :
  Calls prog 395 [pv0, .string p1].toArray w0.w (PostG Φ w0.w [ob pv0].flatten (fun Φ' Fs v => ∃ (sr_0_0 : Value), v = sr_0_0 ∧ Fs = [ob sr_0_0] ∧ OSl RS 9 1 Φ' [] sr_0_0 r)) := by
 refine eL func395 rfl ntmps395 rfl (L := [ob pv0]) w0 (fun hF => ?_)
 unfold m_i_addOnce at h
 refine atr 9 [] rfl <| qc h (m_sl_Contains_Sstring_string_ok N · p0 p1 ph0.rsl ·) rfl rfl rfl fun x1 h => en ?_
 refine ch h rfl ?_ ?_ <;> intro h
 ·refine att 5 [] rfl ?_
  exact rtg [0] hF (resOk.one rfl) rfl (by cases h; exact fun w1 hw => ⟨pv0, rfl, rfl, ph0⟩)
 refine atr 5 [] rfl ?_
 have rc1 : RC RS 1 Φ ([[]] : List (List Nat)) [.string p1] ([p1] : List ByteArray) := RC.cons (c := [.string p1]) (cells := []) ⟨rfl, rfl⟩ rfl (RC.nil _ _ _)
 refine le' (e_lit (vs := [(0, .string p1)]) (C := #[.string p1]) RS.lasts Sl_284 Zr_9 rfl rfl rfl rfl (fill_made MC_9_1 (fill_cons (C' := [.string p1]) rfl rfl rfl rfl rfl (fill_nil))) rfl rc1 rfl (by simpa using Kw.nil)) rfl ?_
 rintro v1 Φ_1 D1 ⟨fr1, h1⟩
 replace h1 : OSl RS 9 1 Φ_1 [] v1 ([p1] : List ByteArray) := by simpa using h1
 replace ph0 := ph0.f0 fr1
 obtain ⟨x2, hx2, h⟩ := bs h
 refine le' (e_appF RS.lasts RS.one RS.flat Sl_284 Ei_9 rfl rfl rfl rfl rfl (js := [1]) (Rr := [ob v1]) rfl ph0 h1.rsl hx2) rfl ?_
 rintro v2 Φ_2 D2 ⟨⟨ap1, fr2⟩, h2⟩
 refine la rfl <| en ?_
 exact rtg [0] hF (resOk.one rfl) rfl (by cases h; exact fun w1 hw => ⟨v2, rfl, rfl, h2⟩)
theorem m_i_addVars_ok (w0 : Base Ψ Φ [ob pv0].flatten) (p0 : (List ByteArray)) (p1 : (List TArg)) (ph0 : OSl RS 9 1 Φ [] pv0 p0) (ph1 : RSl RTArg 5 Ψ pG1 pv1 p1) {r : (List ByteArray)} (h : m_i_addVars N p0 p1 = some r) :
  Calls prog 363 [pv0, pv1].toArray w0.w (PostG Φ w0.w [ob pv0].flatten (fun Φ' Fs v => ∃ (sr_0_0 : Value), v = sr_0_0 ∧ Fs = [ob sr_0_0] ∧ OSl RS 9 1 Φ' [] sr_0_0 r)) := by
 refine eL func363 rfl ntmps363 rfl (L := [ob pv0]) w0 (fun hF => ?_)
 unfold m_i_addVars at h
 refine atr 8 [] rfl <| lnr ph1 rfl <| art 3 [] rfl ?_
 refine lin (σ := Hp × (List ByteArray) × Value × Int) (fun s => [(0, s.2.2.1), (7, pv1), (8, iV (p1.length : Int)), (9, iV s.2.2.2)]) (fun s => St w0 s.1 [] [ob s.2.2.1]) (fun m s => m_i_addVars_l1 N p1 m s.2.1 s.2.2.2 = some r ∧ (OSl RS 9 1 s.1 [] s.2.2.1 s.2.1)) (Φ, p0, pv0, 0) N ⟨h, ph0⟩ (sx [0] []) (fun n1 ih1 s hm => ?_)
 obtain ⟨Φ_1, s1, u1, s2⟩ := s
 obtain ⟨h, k1⟩ := hm
 dsimp only at h k1 ⊢
 unfold m_i_addVars_l1 at h
 refine att 5 [] rfl ?_
 refine ch h rfl ?_ ?_ <;> intro h
 ·refine atr 5 [] rfl ?_
  obtain ⟨x1, hx1, h⟩ := bs h
  obtain ⟨cs1, F1, -, g1, hb1, hs1, r1⟩ := ph1.el (idx_some hx1).2.2
  obtain ⟨rfl, -⟩ := r1
  refine lia ph1 hx1 rfl <| lhx 0 5 g1 rfl <| lnz Zr_294 rfl fun b_1 => soN 0 Sz_294 rfl ⟨rfl, rfl, rfl, rfl, rfl, trivial⟩ rfl ?_
  refine art 7 [0, 0] rfl ?_
  refine ch h rfl ?_ ?_ <;> intro h
  ·refine atr 4 [1, 0] rfl <| kcb [0] h rfl rfl rfl rfl (fun b ap z q => m_i_addOnce_ok N b s1 x1.S k1 q) ?_
   rintro x2 h v1 Φ_2 F2 ⟨ap1, fr1, v2, rfl, rfl, h1⟩
   refine art 7 [] rfl ?_
   exact lb [0] [] (ih1 (_, _, _, _) ⟨h, h1⟩)
  refine att 6 [] rfl ?_
  exact lb [0] [] (ih1 (_, _, _, _) ⟨h, k1⟩)
 refine att 6 [] rfl ?_
 exact rtg [0] hF (resOk.one rfl) rfl (by cases h; exact fun w1 hw => ⟨u1, rfl, rfl, k1⟩)
theorem m_i_PosVars_ok (w0 : Base Ψ Φ []) (p0 : TRule) (ph0_0 : RSl RTPat 3 Ψ pG0_0 pv0_0 p0.Pats) (ph0_1 : RSl RTCond 11 Ψ pG0_1 pv0_1 p0.Conds) (ph0_2 : RSl RTAct 5 Ψ pG0_2 pv0_2 p0.Acts) {r : (List ByteArray)} (h : m_i_PosVars N p0 = some r) :
  Calls prog 299 [.agg [.string p0.Name, iV p0.Sal, pv0_0, pv0_1, pv0_2].toArray].toArray w0.w (PostG Φ w0.w [] (fun Φ' Fs v => ∃ (sr_0_0 : Value), v = sr_0_0 ∧ Fs = [ob sr_0_0] ∧ OSl RS 9 1 Φ' [] sr_0_0 r)) := by
 refine eN func299 rfl ntmps299 rfl w0 fun hF => ?_
 unfold m_i_PosVars at h
 refine sr <| lbx rfl fun b_1 => arr 11 [2, 0] rfl <| lnr ph0_0 rfl <| art 3 [] rfl <| wtS ?_
 have k1 := OSl.nil RS 9 1 Φ
 refine lin (σ := Hp × (List ByteArray) × Value × Int) (fun s => [(3, s.2.2.1), (7, pv0_0), (8, iV (p0.Pats.length : Int)), (9, iV s.2.2.2)]) (fun s => St w0 s.1 [] [ob s.2.2.1]) (fun m s => m_i_PosVars_l1 N p0 m s.2.1 s.2.2.2 = some r ∧ (OSl RS 9 1 s.1 [] s.2.2.1 s.2.1)) (Φ, ([] : List ByteArray), (.slice none 0 0), 0) N ⟨h, k1⟩ (sx [0] []) (fun n1 ih1 s hm => ?_)
 obtain ⟨Φ_1, s1, u1, s2⟩ := s
 obtain ⟨h, k2⟩ := hm
 dsimp only at h k2 ⊢
 unfold m_i_PosVars_l1 at h
 refine att 5 [] rfl ?_
 refine ch h rfl ?_ ?_ <;> intro h
 ·refine atr 5 [] rfl ?_
  obtain ⟨x1, hx1, h⟩ := bs h
  obtain ⟨cs1, F1, -, g1, hb1, hs1, r1⟩ := ph0_0.el (idx_some hx1).2.2
  obtain ⟨v1, G1, rfl, hq1, h1⟩ := r1
  obtain rfl := hq1.symm
  refine lia ph0_0 hx1 rfl <| lhx 0 3 g1 rfl <| lnz Zr_265 rfl fun b_2 => soN 0 Sz_265 rfl ⟨rfl, h1.one, rfl, trivial⟩ rfl ?_
  refine art 7 [2, 0] rfl ?_
  refine ch h rfl ?_ ?_ <;> intro h
  ·refine atr 4 [1, 0] rfl <| kcb [0] h rfl rfl rfl rfl (fun b ap z q => m_i_addVars_ok N b s1 x1.Args k2 (h1.y z) q) ?_
   rintro x2 h v2 Φ_2 F2 ⟨ap1, fr1, v3, rfl, rfl, h2⟩
   refine art 7 [] rfl ?_
   exact lb [0] [] (ih1 (_, _, _, _) ⟨h, h2⟩)
  refine att 6 [] rfl ?_
  exact lb [0] [] (ih1 (_, _, _, _) ⟨h, k2⟩)
 refine att 6 [] rfl ?_
 exact rtg [0] hF (resOk.one rfl) rfl (by cases h; exact fun w1 hw => ⟨u1, rfl, rfl, k2⟩)
theorem m_i_usedVars_ok (w0 : Base Ψ Φ []) (p0 : TRule) (ph0_0 : RSl RTPat 3 Ψ pG0_0 pv0_0 p0.Pats) (ph0_1 : RSl RTCond 11 Ψ pG0_1 pv0_1 p0.Conds) (ph0_2 : RSl RTAct 5 Ψ pG0_2 pv0_2 p0.Acts) {r : (List ByteArray)} (h : m_i_usedVars N p0 = some r) :
  Calls prog 300 [.agg [.string p0.Name, iV p0.Sal, pv0_0, pv0_1, pv0_2].toArray].toArray w0.w (PostG Φ w0.w [] (fun Φ' Fs v => ∃ (sr_0_0 : Value), v = sr_0_0 ∧ Fs = [ob sr_0_0] ∧ OSl RS 9 1 Φ' [] sr_0_0 r)) := by
 refine eN func300 rfl ntmps300 rfl w0 fun hF => ?_
 unfold m_i_usedVars at h
 refine sr <| lbx rfl fun b_1 => arr 11 [3, 0] rfl <| lnr ph0_1 rfl <| art 3 [] rfl <| wtS ?_
 have k1 := OSl.nil RS 9 1 Φ
 refine lin (σ := Hp × (List ByteArray) × Value × Int) (fun s => [(1, pQ b_1), (3, s.2.2.1), (11, pv0_1), (12, iV (p0.Conds.length : Int)), (13, iV s.2.2.2)]) (fun s => St w0 s.1 [(b_1, .cells #[.string p0.Name, iV p0.Sal, pv0_0, pv0_1, pv0_2] 183 (0, 0))] [ob s.2.2.1]) (fun m s => m_i_usedVars_l1 N p0 m s.2.1 s.2.2.2 = some r ∧ (OSl RS 9 1 s.1 [] s.2.2.1 s.2.1)) (Φ, ([] : List ByteArray), (.slice none 0 0), 0) N ⟨h, k1⟩ (sx [0] [0]) (fun n1 ih1 s hm => ?_)
 obtain ⟨Φ_1, s1, u1, s2⟩ := s
 obtain ⟨h, k2⟩ := hm
 dsimp only at h k2 ⊢
 unfold m_i_usedVars_l1 at h
 refine att 5 [] rfl ?_
 refine ch h rfl ?_ ?_ <;> intro h
 ·refine atr 5 [] rfl ?_
  obtain ⟨x1, hx1, h⟩ := bs h
  obtain ⟨cs1, F1, -, g1, hb1, hs1, r1⟩ := ph0_1.el (idx_some hx1).2.2
  obtain ⟨rfl, -⟩ := r1
  refine lia ph0_1 hx1 rfl <| lhx 0 11 g1 rfl <| lnz Zr_296 rfl fun b_2 => soN 0 Sz_296 rfl ⟨rfl, rfl, rfl, rfl, rfl, rfl, rfl, rfl, rfl, rfl, rfl, trivial⟩ rfl ?_
  refine arr 7 [1, 5, 6, 5] rfl ?_
  have rc1 : RC RTArg 5 Φ_1 ([[], []] : List (List Nat)) [iV x1.L.K, .string x1.L.S, iV x1.L.V.K, iV x1.L.V.N, .string x1.L.V.S, iV x1.R.K, .string x1.R.S, iV x1.R.V.K, iV x1.R.V.N, .string x1.R.V.S] ([x1.L, x1.R] : List TArg) := RC.cons (c := [iV x1.L.K, .string x1.L.S, iV x1.L.V.K, iV x1.L.V.N, .string x1.L.V.S]) (cells := [iV x1.R.K, .string x1.R.S, iV x1.R.V.K, iV x1.R.V.N, .string x1.R.V.S]) ⟨rfl, rfl⟩ rfl (RC.cons (c := [iV x1.R.K, .string x1.R.S, iV x1.R.V.K, iV x1.R.V.N, .string x1.R.V.S]) (cells := []) ⟨rfl, rfl⟩ rfl (RC.nil _ _ _))
  refine le' (e_lit (vs := [(0, .agg [iV x1.L.K, .string x1.L.S, iV x1.L.V.K, iV x1.L.V.N, .string x1.L.V.S].toArray), (1, .agg [iV x1.R.K, .string x1.R.S, iV x1.R.V.K, iV x1.R.V.N, .string x1.R.V.S].toArray)]) (C := #[iV x1.L.K, .string x1.L.S, iV x1.L.V.K, iV x1.L.V.N, .string x1.L.V.S, iV x1.R.K, .string x1.R.S, iV x1.R.V.K, iV x1.R.V.N, .string x1.R.V.S]) RTArg.lasts Sl_263 Zr_294 rfl rfl rfl rfl (fill_made MC_294_2 (fill_cons (C' := [iV x1.L.K, .string x1.L.S, iV x1.L.V.K, iV x1.L.V.N, .string x1.L.V.S, iV 0, .string ⟨#[]⟩, iV 0, iV 0, .string ⟨#[]⟩]) rfl rfl rfl rfl rfl (fill_cons (C' := [iV x1.L.K, .string x1.L.S, iV x1.L.V.K, iV x1.L.V.N, .string x1.L.V.S, iV x1.R.K, .string x1.R.S, iV x1.R.V.K, iV x1.R.V.N, .string x1.R.V.S]) rfl rfl rfl rfl rfl (fill_nil)))) rfl rc1 rfl (by simpa using Kw.nil)) rfl ?_
  rintro v1 Φ_2 D1 ⟨fr1, h1⟩
  replace h1 : OSl RTArg 294 5 Φ_2 [] v1 ([x1.L, x1.R] : List TArg) := by simpa using h1
  replace k2 := k2.f0 fr1
  refine kcb [1] h rfl rfl rfl rfl (fun b ap z q => m_i_addVars_ok N b s1 ([x1.L, x1.R] : List TArg) k2 (h1.rsl.x (Dj.app (ap.q 0 rfl) dN)) q) ?_
  rintro x2 h v2 Φ_3 F2 ⟨ap1, fr2, v3, rfl, rfl, h2⟩
  refine art 7 [] rfl ?_
  exact lb [0] [1] (ih1 (_, _, _, _) ⟨h, h2⟩)
 refine atr 6 [4, 0] rfl <| lnr ph0_2 rfl <| art 3 [] rfl ?_
 refine lin (σ := Hp × (List ByteArray) × Value × Int) (fun s => [(3, s.2.2.1), (26, pv0_2), (27, iV (p0.Acts.length : Int)), (28, iV s.2.2.2)]) (fun s => St w0 s.1 [] [ob s.2.2.1]) (fun m s => m_i_usedVars_l2 N p0 m s.2.1 s.2.2.2 = some r ∧ (OSl RS 9 1 s.1 [] s.2.2.1 s.2.1)) (Φ_1, s1, u1, 0) N ⟨h, k2⟩ (sx [0] []) (fun n2 ih2 s hm => ?_)
 obtain ⟨Φ_4, s3, u2, s4⟩ := s
 obtain ⟨h, k3⟩ := hm
 dsimp only at h k3 ⊢
 unfold m_i_usedVars_l2 at h
 refine att 5 [] rfl ?_
 refine ch h rfl ?_ ?_ <;> intro h
 ·refine atr 5 [] rfl ?_
  obtain ⟨x3, hx3, h⟩ := bs h
  obtain ⟨cs2, F3, -, g2, hb2, hs2, r2⟩ := ph0_2.el (idx_some hx3).2.2
  obtain ⟨v4, G1, rfl, hq1, h3⟩ := r2
  obtain rfl := hq1.symm
  refine lia ph0_2 hx3 rfl <| lhx 0 5 g2 rfl <| lnz Zr_339 rfl fun b_3 => soN 0 Sz_339 rfl ⟨rfl, rfl, h3.one, rfl, rfl, trivial⟩ rfl ?_
  refine arr 5 [2, 0] rfl <| lnr h3 rfl <| art 3 [] rfl ?_
  refine lin (σ := Hp × (List ByteArray) × Value × Int) (fun s => [(3, s.2.2.1), (26, pv0_2), (27, iV (p0.Acts.length : Int)), (28, iV s4), (33, v4), (34, iV (x3.Args.length : Int)), (35, iV s.2.2.2)]) (fun s => St w0 s.1 [] [ob s.2.2.1]) (fun m s => m_i_usedVars_l3 N s4 (m_i_usedVars_l2 N p0 n2) x3 m s.2.1 s.2.2.2 = some r ∧ (OSl RS 9 1 s.1 [] s.2.2.1 s.2.1)) (Φ_4, s3, u2, 0) N ⟨h, k3⟩ (sx [0] []) (fun n3 ih3 s hm => ?_)
  obtain ⟨Φ_5, s5, u3, s6⟩ := s
  obtain ⟨h, k4⟩ := hm
  dsimp only at h k4 ⊢
  unfold m_i_usedVars_l3 at h
  refine att 5 [] rfl ?_
  refine ch h rfl ?_ ?_ <;> intro h
  ·refine atr 5 [] rfl ?_
   obtain ⟨x4, hx4, h⟩ := bs h
   obtain ⟨cs3, F4, -, g3, hb3, hs3, r3⟩ := h3.el (idx_some hx4).2.2
   obtain ⟨rfl, -⟩ := r3
   refine lia h3 hx4 rfl <| lhx 0 11 g3 rfl <| lnz Zr_367 rfl fun b_4 => soN 0 Sz_367 rfl ⟨rfl, rfl, rfl, rfl, rfl, rfl, rfl, rfl, rfl, rfl, rfl, trivial⟩ rfl ?_
   refine arr 7 [1, 5, 6, 5] rfl ?_
   have rc2 : RC RTArg 5 Φ_5 ([[], []] : List (List Nat)) [iV x4.L.K, .string x4.L.S, iV x4.L.V.K, iV x4.L.V.N, .string x4.L.V.S, iV x4.R.K, .string x4.R.S, iV x4.R.V.K, iV x4.R.V.N, .string x4.R.V.S] ([x4.L, x4.R] : List TArg) := RC.cons (c := [iV x4.L.K, .string x4.L.S, iV x4.L.V.K, iV x4.L.V.N, .string x4.L.V.S]) (cells := [iV x4.R.K, .string x4.R.S, iV x4.R.V.K, iV x4.R.V.N, .string x4.R.V.S]) ⟨rfl, rfl⟩ rfl (RC.cons (c := [iV x4.R.K, .string x4.R.S, iV x4.R.V.K, iV x4.R.V.N, .string x4.R.V.S]) (cells := []) ⟨rfl, rfl⟩ rfl (RC.nil _ _ _))
   refine le' (e_lit (vs := [(0, .agg [iV x4.L.K, .string x4.L.S, iV x4.L.V.K, iV x4.L.V.N, .string x4.L.V.S].toArray), (1, .agg [iV x4.R.K, .string x4.R.S, iV x4.R.V.K, iV x4.R.V.N, .string x4.R.V.S].toArray)]) (C := #[iV x4.L.K, .string x4.L.S, iV x4.L.V.K, iV x4.L.V.N, .string x4.L.V.S, iV x4.R.K, .string x4.R.S, iV x4.R.V.K, iV x4.R.V.N, .string x4.R.V.S]) RTArg.lasts Sl_263 Zr_294 rfl rfl rfl rfl (fill_made MC_294_2 (fill_cons (C' := [iV x4.L.K, .string x4.L.S, iV x4.L.V.K, iV x4.L.V.N, .string x4.L.V.S, iV 0, .string ⟨#[]⟩, iV 0, iV 0, .string ⟨#[]⟩]) rfl rfl rfl rfl rfl (fill_cons (C' := [iV x4.L.K, .string x4.L.S, iV x4.L.V.K, iV x4.L.V.N, .string x4.L.V.S, iV x4.R.K, .string x4.R.S, iV x4.R.V.K, iV x4.R.V.N, .string x4.R.V.S]) rfl rfl rfl rfl rfl (fill_nil)))) rfl rc2 rfl (by simpa using Kw.nil)) rfl ?_
   rintro v5 Φ_6 D2 ⟨fr3, h4⟩
   replace h4 : OSl RTArg 294 5 Φ_6 [] v5 ([x4.L, x4.R] : List TArg) := by simpa using h4
   replace k4 := k4.f0 fr3
   refine kcb [1] h rfl rfl rfl rfl (fun b ap z q => m_i_addVars_ok N b s5 ([x4.L, x4.R] : List TArg) k4 (h4.rsl.x (Dj.app (ap.q 0 rfl) dN)) q) ?_
   rintro x5 h v6 Φ_7 F5 ⟨ap2, fr4, v7, rfl, rfl, h5⟩
   refine art 7 [] rfl ?_
   exact lb [0] [] (ih3 (_, _, _, _) ⟨h, h5⟩)
  refine att 6 [] rfl ?_
  exact lb [0] [] (ih2 (_, _, _, _) ⟨h, k4⟩)
 refine att 6 [] rfl ?_
 exact rtg [0] hF (resOk.one rfl) rfl (by cases h; exact fun w1 hw => ⟨u2, rfl, rfl, k3⟩)
theorem m_i_RuleOk_ok (w0 : Base Ψ Φ []) (p0 : TRule) (ph0_0 : RSl RTPat 3 Ψ pG0_0 pv0_0 p0.Pats) (ph0_1 : RSl RTCond 11 Ψ pG0_1 pv0_1 p0.Conds) (ph0_2 : RSl RTAct 5 Ψ pG0_2 pv0_2 p0.Acts) {r : Bool} (h : m_i_RuleOk N p0 = some r) :
  CB w0 prog 209 [.agg [.string p0.Name, iV p0.Sal, pv0_0, pv0_1, pv0_2].toArray] (.bool r) := by
 refine eN func209 rfl ntmps209 rfl w0 fun hF => ?_
 unfold m_i_RuleOk at h
 refine sr <| lbx rfl fun b_1 => arr 7 [0, 0] rfl <| qc h (m_i_NameOk_ok N · p0.Name ·) rfl rfl rfl fun x1 h => arr 2 [] rfl ?_
 obtain ⟨b1, hb_1, h⟩ := bs h
 refine WL.cutN 5 [(19, .bool b1), (1, pQ b_1)] ?_ (fun K => ?_)
 rotate_left
 ·refine sp 14 hb_1 rfl (fun hb_1 => ?_) fun hb_1 => ?_
  ·refine arr 5 [] rfl ?_
   cases hb_1
   exact ku K
  ·refine arr 2 [1, 0] rfl <| ly rfl rfl <| qc hb_1 (m_i_inRange_ok N · p0.Sal (-100) 100 ·) rfl rfl rfl fun x2 hb_1 => arr 2 [] rfl ?_
   cases hb_1
   exact ku K
 refine la rfl ?_
 obtain ⟨b2, hb_2, h⟩ := bs h
 refine WL.cutN 4 [(24, .bool b2), (1, pQ b_1)] ?_ (fun K => ?_)
 rotate_left
 ·refine sp 20 hb_2 rfl (fun hb_2 => ?_) fun hb_2 => ?_
  ·refine arr 4 [] rfl ?_
   cases hb_2
   exact ku K
  ·refine ly rfl rfl <| ld5 Tn_183 0 rfl <| ly rfl rfl <| qd hb_2 (m_i_patsOk_ok N · p0 ph0_0 ph0_1 ph0_2 ·) rfl rfl rfl fun x3 hb_2 => arr 2 [] rfl ?_
   cases hb_2
   exact ku K
 refine en ?_
 refine ch h rfl ?_ ?_ <;> intro h
 ·refine att 4 [] rfl ?_
  exact rt hF h
 refine atr 6 [3, 0] rfl <| lnr ph0_1 rfl <| arr 2 [] rfl ?_
 obtain ⟨b3, hb_3, h⟩ := bs h
 refine WL.cutN 6 [(35, .bool b3), (1, pQ b_1)] ?_ (fun K => ?_)
 rotate_left
 ·refine sp 29 hb_3 rfl (fun hb_3 => ?_) fun hb_3 => ?_
  ·refine arr 6 [] rfl ?_
   cases hb_3
   exact ku K
  ·refine arr 2 [4, 0] rfl <| ly rfl rfl <| lnr ph0_2 rfl <| ly rfl rfl <| qc hb_3 (m_i_inRange_ok N · (p0.Acts.length : Int) 1 6 ·) rfl rfl rfl fun x4 hb_3 => arr 2 [] rfl ?_
   cases hb_3
   exact ku K
 refine en ?_
 refine ch h rfl ?_ ?_ <;> intro h
 ·refine att 4 [] rfl ?_
  exact rt hF h
 refine atr 6 [3, 0] rfl <| lnr ph0_1 rfl <| art 3 [] rfl ?_
 refine lin (σ := Int) (fun s => [(1, pQ b_1), (37, pv0_1), (38, iV (p0.Conds.length : Int)), (39, iV s)]) (fun s => St w0 Φ [(b_1, .cells #[.string p0.Name, iV p0.Sal, pv0_0, pv0_1, pv0_2] 183 (0, 0))] []) (fun m s => m_i_RuleOk_l1 N p0 m s = some r) (0) N h (sx [] [0]) (fun n1 ih1 s hm => ?_)
 revert hm; revert s; intro s1 hm
 have h : m_i_RuleOk_l1 N p0 (n1 + 1) s1 = some r := hm
 show WT _ _ [(1, pQ b_1), (37, pv0_1), (38, iV (p0.Conds.length : Int)), (39, iV s1)] (St w0 Φ [(b_1, .cells #[.string p0.Name, iV p0.Sal, pv0_0, pv0_1, pv0_2] 183 (0, 0))] [])
 unfold m_i_RuleOk_l1 at h
 refine att 5 [] rfl ?_
 refine ch h rfl ?_ ?_ <;> intro h
 ·refine atr 5 [] rfl ?_
  obtain ⟨x5, hx5, h⟩ := bs h
  obtain ⟨cs1, F1, -, g1, hb1, hs1, r1⟩ := ph0_1.el (idx_some hx5).2.2
  obtain ⟨rfl, -⟩ := r1
  refine lia ph0_1 hx5 rfl <| lhx 0 11 g1 rfl <| lnz Zr_296 rfl fun b_2 => soN 0 Sz_296 rfl ⟨rfl, rfl, rfl, rfl, rfl, rfl, rfl, rfl, rfl, rfl, rfl, trivial⟩ rfl ?_
  refine arr 4 [11] rfl <| qc h (m_i_CondOk_ok N · x5 ·) rfl rfl rfl fun x6 h => la rfl <| en ?_
  refine ch h rfl ?_ ?_ <;> intro h
  ·refine att 4 [] rfl ?_
   exact rt hF h
  refine att 6 [] rfl ?_
  exact lb [] [1] (ih1 _ h)
 refine atr 6 [4, 0] rfl <| lnr ph0_2 rfl <| art 3 [] rfl ?_
 refine lin (σ := Int) (fun s => [(1, pQ b_1), (48, pv0_2), (49, iV (p0.Acts.length : Int)), (50, iV s)]) (fun s => St w0 Φ [(b_1, .cells #[.string p0.Name, iV p0.Sal, pv0_0, pv0_1, pv0_2] 183 (0, 0))] []) (fun m s => m_i_RuleOk_l2 N p0 m s = some r) (0) N h (sx [] [0]) (fun n2 ih2 s hm => ?_)
 revert hm; revert s; intro s2 hm
 have h : m_i_RuleOk_l2 N p0 (n2 + 1) s2 = some r := hm
 show WT _ _ [(1, pQ b_1), (48, pv0_2), (49, iV (p0.Acts.length : Int)), (50, iV s2)] (St w0 Φ [(b_1, .cells #[.string p0.Name, iV p0.Sal, pv0_0, pv0_1, pv0_2] 183 (0, 0))] [])
 unfold m_i_RuleOk_l2 at h
 refine att 5 [] rfl ?_
 refine ch h rfl ?_ ?_ <;> intro h
 ·refine atr 5 [] rfl ?_
  obtain ⟨x7, hx7, h⟩ := bs h
  obtain ⟨cs2, F2, -, g2, hb2, hs2, r2⟩ := ph0_2.el (idx_some hx7).2.2
  obtain ⟨v1, G1, rfl, hq1, h1⟩ := r2
  obtain rfl := hq1.symm
  refine lia ph0_2 hx7 rfl <| lhx 0 5 g2 rfl <| lnz Zr_339 rfl fun b_3 => soN 0 Sz_339 rfl ⟨rfl, rfl, h1.one, rfl, rfl, trivial⟩ rfl ?_
  refine en <| sq <| WT.draw mixed (by kernel_rfl) (fun _ h => h.drew) <| qq (q_loadN Tn_339 rfl (fun w1 hw => hw.rgO (i := 0) rfl 0 5 [iV x7.Kind, .string x7.Name, v1, iV x7.N, .string x7.Undo] rfl) rfl) rfl ?_
  obtain ⟨x8, hx8, h⟩ := bs h
  refine qp (p_call Fun_297 rfl (fun w1 hw => m_i_ActOk_ok N (ba hw.in0) x7 h1 hx8)) rfl <| aqq 2 [] rfl ?_
  obtain ⟨b4, hb_4, h⟩ := bs h
  refine WQ.cutN 11 [(68, .bool b4), (1, pQ b_1), (48, pv0_2), (49, iV (p0.Acts.length : Int)), (50, iV s2)] ?_ (fun K => ?_)
  rotate_left
  ·refine WQ.split (d := 57) rfl (fun c9 => ?_) (fun c9 => ?_)
   ·replace hb_4 := ite_t hb_4 c9
    refine aqq 11 [] rfl ?_
    cases hb_4
    exact kq K
   ·replace hb_4 := ite_f hb_4 c9
    refine aqq 4 [0, 0] rfl ?_
    obtain ⟨b5, hb_5, hb_4⟩ := bs hb_4
    refine WQ.cutN 6 [(67, .bool b5), (1, pQ b_1), (48, pv0_2), (49, iV (p0.Acts.length : Int)), (50, iV s2), (57, .bool false)] ?_ (fun K => ?_)
    rotate_left
    ·refine WQ.split (d := 61) rfl (fun c10 => ?_) (fun c10 => ?_)
     ·replace hb_5 := ite_t hb_5 c10
      refine aqq 3 [3, 0, 37] rfl <| WQ.yes rfl rfl ?_
      obtain ⟨x9, hx9, hb_5⟩ := bs hb_5
      refine qp (p_call Fun_298 rfl (fun w1 hw => m_i_PosCount_ok N (ba hw.in0) p0 ph0_0 ph0_1 ph0_2 hx9)) rfl <| aqq 2 [] rfl ?_
      cases hb_5
      exact kq K
     ·replace hb_5 := ite_f hb_5 c10
      refine aqq 6 [] rfl ?_
      cases hb_5
      exact kq K
    refine WQ.q (q_pick0 rfl rfl) rfl rfl rfl ?_
    cases hb_4
    exact kq K
  refine WQ.nil ?_
  refine ch h rfl ?_ ?_ <;> intro h
  ·refine att 4 [] rfl ?_
   exact rt hF h
  refine att 6 [] rfl ?_
  exact lb [] [1] (ih2 _ h)
 refine atr 4 [5] rfl <| kab h rfl rfl rfl (fun b z q => m_i_PosVars_ok N b p0 (ph0_0.y z) (ph0_1.y z) (ph0_2.y z) q) ?_
 rintro x10 h v2 Φ_1 F3 ⟨ap1, fr1, v3, rfl, rfl, h2⟩
 refine arr 6 [5] rfl <| kab h rfl rfl rfl (fun b z q => m_i_usedVars_ok N b p0 (ph0_0.y z) (ph0_1.y z) (ph0_2.y z) q) ?_
 rintro x11 h v4 Φ_2 F4 ⟨ap2, fr2, v5, rfl, rfl, h3⟩
 replace h2 := h2.fr fr2 (ap2.q 0 rfl) dN
 refine lno h3 rfl <| art 3 [] rfl ?_
 refine lin (σ := Int) (fun s => [(7, v2), (73, v4), (74, iV (x11.length : Int)), (75, iV s)]) (fun s => St w0 Φ_2 [] [ob v4, ob v2]) (fun m s => m_i_RuleOk_l3 N x10 x11 m s = some r) (0) N h (sx [0, 0] []) (fun n3 ih3 s hm => ?_)
 revert hm; revert s; intro s3 hm
 have h : m_i_RuleOk_l3 N x10 x11 (n3 + 1) s3 = some r := hm
 show WT _ _ [(7, v2), (73, v4), (74, iV (x11.length : Int)), (75, iV s3)] (St w0 Φ_2 [] [ob v4, ob v2])
 unfold m_i_RuleOk_l3 at h
 refine att 5 [] rfl ?_
 refine ch h rfl ?_ ?_ <;> intro h
 ·refine atr 5 [] rfl ?_
  obtain ⟨x12, hx12, h⟩ := bs h
  obtain ⟨cs3, F5, -, g3, hb3, hs3, r3⟩ := h3.elS (idx_some hx12).2.2
  obtain ⟨rfl, -⟩ := r3
  refine lio h3 hx12 rfl <| lgx 0 0 g3 rfl <| arr 6 [] rfl <| qc h (m_sl_Contains_Sstring_string_ok N · x10 x12 h2.rsl ·) rfl rfl rfl fun x13 h => la rfl <| en ?_
  refine ch h rfl ?_ ?_ <;> intro h
  ·refine att 4 [] rfl ?_
   exact rt hF h
  refine att 6 [] rfl ?_
  exact lb [0, 0] [] (ih3 _ h)
 refine att 5 [] rfl ?_
 exact rt hF h
theorem m_sl_IndexFunc_Si_Rule_i_Rule_ok {p1f : Nat} {p1fr : List Value} (w0 : Base Ψ Φ []) (p0 : (List TRule)) (p1 : TRule → Option (Bool)) (ph0 : RSl RTRule 5 Ψ pG0 pv0 p0) (p1hF : Fun prog p1f = true) (p1h : ∀ {Φ' : Hp} {w' : World}, FrH [] Φ Φ' → In Φ' w' → ∀ (p1a0 : TRule) {p1v0_0 : Value} {p1G0_0 : List Nat} {p1v0_1 : Value} {p1G0_1 : List Nat} {p1v0_2 : Value} {p1G0_2 : List Nat} (_ : RSl RTPat 3 Φ' p1G0_0 p1v0_0 p1a0.Pats) (_ : RSl RTCond 11 Φ' p1G0_1 p1v0_1 p1a0.Conds) (_ : RSl RTAct 5 Φ' p1G0_2 p1v0_2 p1a0.Acts) {r : Bool}, p1 p1a0 = some r → Calls prog p1f (([.agg [.string p1a0.Name, iV p1a0.Sal, p1v0_0, p1v0_1, p1v0_2].toArray] : List Value) ++ p1fr).toArray w' (Post (.bool r) w')) {r : Int} (h : m_sl_IndexFunc_Si_Rule_i_Rule N p0 p1 = some r) :
  CB w0 prog 302 [pv0, .func (.func p1f) #[] p1fr.toArray] (iV r) := by
 refine eN func302 rfl ntmps302 rfl w0 fun hF => ?_
 unfold m_sl_IndexFunc_Si_Rule_i_Rule at h
 refine atr 8 [] rfl <| lnr ph0 rfl <| art 3 [] rfl ?_
 refine lin (σ := Int) (fun s => [(0, pv0), (1, .func (.func p1f) #[] p1fr.toArray), (7, iV (p0.length : Int)), (8, iV s)]) (fun s => St w0 Φ [] []) (fun m s => m_sl_IndexFunc_Si_Rule_i_Rule_l1 N p0 p1 m s = some r) (0) N h (sx [] []) (fun n1 ih1 s hm => ?_)
 revert hm; revert s; intro s1 hm
 have h : m_sl_IndexFunc_Si_Rule_i_Rule_l1 N p0 p1 (n1 + 1) s1 = some r := hm
 show WT _ _ [(0, pv0), (1, .func (.func p1f) #[] p1fr.toArray), (7, iV (p0.length : Int)), (8, iV s1)] (St w0 Φ [] [])
 unfold m_sl_IndexFunc_Si_Rule_i_Rule_l1 at h
 refine att 5 [] rfl ?_
 refine ch h rfl ?_ ?_ <;> intro h
 ·refine atr 13 [] rfl ?_
  obtain ⟨x1, hx1, h⟩ := bs h
  obtain ⟨cs1, F1, -, g1, hb1, hs1, r1⟩ := ph0.el (idx_some hx1).2.2
  obtain ⟨v1, G1, v2, G2, v3, G3, rfl, rfl, h1, h2, h3⟩ := r1
  refine lia ph0 hx1 rfl <| lhx 0 5 g1 rfl ?_
  obtain ⟨x2, hx2, h⟩ := bs h
  refine lp (p_callV p1hF rfl rfl (fun w1 hw => p1h hw.frB hw.fro x1 (h1.y hw.up) (h2.y hw.up) (h3.y hw.up) hx2)) rfl <| en ?_
  refine ch h rfl ?_ ?_ <;> intro h
  ·refine att 5 [] rfl ?_
   exact rt hF h
  refine att 6 [] rfl ?_
  exact lb [] [] (ih1 _ h)
 refine att 5 [] rfl ?_
 exact rt hF h
theorem m_i_RuleAt_c1_ok (w0 : Base Ψ Φ []) (p0 : TRule) (c0 : ByteArray) (ph0_0 : RSl RTPat 3 Ψ pG0_0 pv0_0 p0.Pats) (ph0_1 : RSl RTCond 11 Ψ pG0_1 pv0_1 p0.Conds) (ph0_2 : RSl RTAct 5 Ψ pG0_2 pv0_2 p0.Acts) (ppc0 : Ψ pbc0 = some (.cells #[.string c0] 9 (0, 0))) {r : Bool} (h : m_i_RuleAt_c1 N p0 c0 = some r) :
  CB w0 prog 303 [.agg [.string p0.Name, iV p0.Sal, pv0_0, pv0_1, pv0_2].toArray, pQ pbc0] (.bool r) := by
 refine eN func303 rfl ntmps303 rfl w0 fun hF => ?_
 unfold m_i_RuleAt_c1 at h
 refine sr <| lbx rfl fun b_1 => arr 6 [0, 0] rfl <| lhx 0 0 (rg_cells ppc0) rfl <| art 3 [] rfl ?_
 exact rt hF h
theorem m_i_RuleAt_ok (w0 : Base Ψ Φ []) (p0 : TDef) (p1 : ByteArray) (ph0_0 : RSl RTRule 5 Ψ pG0_0 pv0_0 p0.Rules) {r : Int} (h : m_i_RuleAt N p0 p1 = some r) :
  CB w0 prog 210 [.agg [.string p0.Name, pv0_0].toArray, .string p1] (iV r) := by
 refine eN func210 rfl ntmps210 rfl w0 fun hF => ?_
 unfold m_i_RuleAt at h
 refine sr <| lbx rfl fun b_1 => ?_
 refine ln (n_box (C := #[.string p1]) rfl rfl) rfl (fun b_2 => ?_)
 refine arr 6 [1, 32] rfl ?_
 refine WL.frz (js := [0]) (R := [(b_1, .cells #[.string p0.Name, pv0_0] 47 (0, 0))]) rfl (fun Φ_1 fr1 k1 => ?_)
 refine lq (q_makeFunc rfl) rfl <| qz h (fun b z q => m_sl_IndexFunc_Si_Rule_i_Rule_ok N b p0.Rules (fun a0 => m_i_RuleAt_c1 N a0 p1) (ph0_0.y z) Fun_303 (fun hle' hin a0 => fun f0 f1 f2 => fun hr => m_i_RuleAt_c1_ok N (ba hin) a0 p1 f0 f1 f2 (hle' _ _ (by simp) k1) hr) q) rfl rfl rfl fun x1 h => la rfl <| en ?_
 exact rt hF h
theorem m_i_DefOk_ok (w0 : Base Ψ Φ []) (p0 : TDef) (ph0_0 : RSl RTRule 5 Ψ pG0_0 pv0_0 p0.Rules) {r : Bool} (h : m_i_DefOk N p0 = some r) :
  CB w0 prog 104 [.agg [.string p0.Name, pv0_0].toArray] (.bool r) := by
 refine eN func104 rfl ntmps104 rfl w0 fun hF => ?_
 unfold m_i_DefOk at h
 refine sr <| lbx rfl fun b_1 => arr 7 [0, 0] rfl <| qc h (m_i_NameOk_ok N · p0.Name ·) rfl rfl rfl fun x1 h => arr 2 [] rfl ?_
 obtain ⟨b1, hb_1, h⟩ := bs h
 refine WL.cutN 6 [(15, .bool b1), (1, pQ b_1)] ?_ (fun K => ?_)
 rotate_left
 ·refine sp 9 hb_1 rfl (fun hb_1 => ?_) fun hb_1 => ?_
  ·refine arr 6 [] rfl ?_
   cases hb_1
   exact ku K
  ·refine arr 2 [1, 0] rfl <| ly rfl rfl <| lnr ph0_0 rfl <| ly rfl rfl <| qc hb_1 (m_i_inRange_ok N · (p0.Rules.length : Int) 1 12 ·) rfl rfl rfl fun x2 hb_1 => arr 2 [] rfl ?_
   cases hb_1
   exact ku K
 refine en ?_
 refine ch h rfl ?_ ?_ <;> intro h
 ·refine att 4 [] rfl ?_
  exact rt hF h
 refine atr 6 [1, 0] rfl <| lnr ph0_0 rfl <| art 3 [] rfl ?_
 refine lin (σ := Int) (fun s => [(1, pQ b_1), (17, pv0_0), (18, iV (p0.Rules.length : Int)), (19, iV s)]) (fun s => St w0 Φ [(b_1, .cells #[.string p0.Name, pv0_0] 47 (0, 0))] []) (fun m s => m_i_DefOk_l1 N p0 m s = some r) (0) N h (sx [] [0]) (fun n1 ih1 s hm => ?_)
 revert hm; revert s; intro s1 hm
 have h : m_i_DefOk_l1 N p0 (n1 + 1) s1 = some r := hm
 show WT _ _ [(1, pQ b_1), (17, pv0_0), (18, iV (p0.Rules.length : Int)), (19, iV s1)] (St w0 Φ [(b_1, .cells #[.string p0.Name, pv0_0] 47 (0, 0))] [])
 unfold m_i_DefOk_l1 at h
 refine att 5 [] rfl ?_
 refine ch h rfl ?_ ?_ <;> intro h
 ·refine atr 6 [] rfl ?_
  obtain ⟨x3, hx3, h⟩ := bs h
  obtain ⟨cs1, F1, -, g1, hb1, hs1, r1⟩ := ph0_0.el (idx_some hx3).2.2
  obtain ⟨v1, G1, v2, G2, v3, G3, rfl, rfl, h1, h2, h3⟩ := r1
  refine lia ph0_0 hx3 rfl <| lhx 0 5 g1 rfl <| lnz Zr_183 rfl fun b_2 => la rfl <| soN 0 Sz_183 rfl ⟨rfl, rfl, h1.one, h2.one, h3.one, trivial⟩ rfl ?_
  refine arr 4 [5] rfl <| qd h (m_i_RuleOk_ok N · x3 h1 h2 h3 ·) rfl rfl rfl fun x4 h => arr 2 [] rfl ?_
  obtain ⟨b2, hb_2, h⟩ := bs h
  refine WL.cutN 7 [(34, .bool b2), (1, pQ b_1), (17, pv0_0), (18, iV (p0.Rules.length : Int)), (19, iV s1)] ?_ (fun K => ?_)
  rotate_left
  ·refine sp 27 hb_2 rfl (fun hb_2 => ?_) fun hb_2 => ?_
   ·refine arr 7 [] rfl ?_
    cases hb_2
    exact ku K
   ·refine arr 3 [34, 0, 0] rfl <| ly rfl rfl <| qd hb_2 (m_i_RuleAt_ok N · p0 x3.Name ph0_0 ·) rfl rfl rfl fun x5 hb_2 => arr 3 [] rfl ?_
    cases hb_2
    exact ku K
  refine en ?_
  refine ch h rfl ?_ ?_ <;> intro h
  ·refine att 4 [] rfl ?_
   exact rt hF h
  refine att 6 [] rfl ?_
  exact lb [] [1] (ih1 _ h)
 refine att 5 [] rfl ?_
 exact rt hF h
theorem m_i_FactOk_ok (w0 : Base Ψ Φ []) (p0 : TFact) (ph0_0 : RSl RTVal 3 Ψ pG0_0 pv0_0 p0.Fields) {r : Bool} (h : m_i_FactOk N p0 = some r) :
  CB w0 prog 155 [.agg [.string p0.Kind, pv0_0].toArray] (.bool r) := by
 refine eN func155 rfl ntmps155 rfl w0 fun hF => ?_
 unfold m_i_FactOk at h
 refine sr <| lbx rfl fun b_1 => arr 7 [0, 0] rfl <| qc h (m_i_NameOk_ok N · p0.Kind ·) rfl rfl rfl fun x1 h => arr 2 [] rfl ?_
 obtain ⟨b1, hb_1, h⟩ := bs h
 refine WL.cutN 5 [(14, .bool b1), (1, pQ b_1)] ?_ (fun K => ?_)
 rotate_left
 ·refine sp 9 hb_1 rfl (fun hb_1 => ?_) fun hb_1 => ?_
  ·refine arr 5 [] rfl ?_
   cases hb_1
   exact ku K
  ·refine arr 2 [1, 0] rfl <| ly rfl rfl <| lnr ph0_0 rfl <| arr 2 [] rfl ?_
   cases hb_1
   exact ku K
 refine en ?_
 refine ch h rfl ?_ ?_ <;> intro h
 ·refine att 4 [] rfl ?_
  exact rt hF h
 refine atr 6 [1, 0] rfl <| lnr ph0_0 rfl <| art 3 [] rfl ?_
 refine lin (σ := Int) (fun s => [(16, pv0_0), (17, iV (p0.Fields.length : Int)), (18, iV s)]) (fun s => St w0 Φ [] []) (fun m s => m_i_FactOk_l1 N p0 m s = some r) (0) N h (sx [] []) (fun n1 ih1 s hm => ?_)
 revert hm; revert s; intro s1 hm
 have h : m_i_FactOk_l1 N p0 (n1 + 1) s1 = some r := hm
 show WT _ _ [(16, pv0_0), (17, iV (p0.Fields.length : Int)), (18, iV s1)] (St w0 Φ [] [])
 unfold m_i_FactOk_l1 at h
 refine att 5 [] rfl ?_
 refine ch h rfl ?_ ?_ <;> intro h
 ·refine atr 5 [] rfl ?_
  obtain ⟨x2, hx2, h⟩ := bs h
  obtain ⟨cs1, F1, -, g1, hb1, hs1, r1⟩ := ph0_0.el (idx_some hx2).2.2
  obtain ⟨rfl, -⟩ := r1
  refine lia ph0_0 hx2 rfl <| lhx 0 3 g1 rfl <| lnz Zr_204 rfl fun b_2 => soN 0 Sz_204 rfl ⟨rfl, rfl, rfl, trivial⟩ rfl ?_
  refine arr 4 [3] rfl <| qc h (m_i_ValOk_ok N · x2 ·) rfl rfl rfl fun x3 h => la rfl <| en ?_
  refine ch h rfl ?_ ?_ <;> intro h
  ·refine att 4 [] rfl ?_
   exact rt hF h
  refine att 6 [] rfl ?_
  exact lb [] [] (ih1 _ h)
 refine att 5 [] rfl ?_
 exact rt hF h
theorem m_sl_Equal_Si_Val_i_Val_ok (w0 : Base Ψ Φ []) (p0 : (List TVal)) (p1 : (List TVal)) (ph0 : RSl RTVal 3 Ψ pG0 pv0 p0) (ph1 : RSl RTVal 3 Ψ pG1 pv1 p1) {r : Bool} (h : m_sl_Equal_Si_Val_i_Val N p0 p1 = some r) :
  CB w0 prog 231 [pv0, pv1] (.bool r) := by
 refine eN func231 rfl ntmps231 rfl w0 fun hF => ?_
 unfold m_sl_Equal_Si_Val_i_Val at h
 refine atr 8 [] rfl <| lnr ph0 rfl <| la rfl <| lnr ph1 rfl <| la rfl <| en ?_
 refine ch h rfl ?_ ?_ <;> intro h
 ·refine att 4 [] rfl ?_
  exact rt hF h
 refine atr 5 [] rfl <| lnr ph0 rfl <| art 3 [] rfl ?_
 refine lin (σ := Int) (fun s => [(0, pv0), (1, pv1), (12, iV (p0.length : Int)), (13, iV s)]) (fun s => St w0 Φ [] []) (fun m s => m_sl_Equal_Si_Val_i_Val_l1 N p0 p1 m s = some r) (0) N h (sx [] []) (fun n1 ih1 s hm => ?_)
 revert hm; revert s; intro s1 hm
 have h : m_sl_Equal_Si_Val_i_Val_l1 N p0 p1 (n1 + 1) s1 = some r := hm
 show WT _ _ [(0, pv0), (1, pv1), (12, iV (p0.length : Int)), (13, iV s1)] (St w0 Φ [] [])
 unfold m_sl_Equal_Si_Val_i_Val_l1 at h
 refine att 5 [] rfl ?_
 refine ch h rfl ?_ ?_ <;> intro h
 ·refine att 9 [] rfl <| WT.draw mixed (by kernel_rfl) (fun _ h => h.drew) <| aqq 2 [] rfl ?_
  obtain ⟨x1, hx1, h⟩ := bs h
  obtain ⟨cs1, F1, -, g1, hb1, hs1, r1⟩ := ph0.el (idx_some hx1).2.2
  obtain ⟨rfl, -⟩ := r1
  refine qq (q_indexAddr Sl_78 rfl rfl ph0 hx1) rfl <| qq (q_loadN Tn_204 rfl (fun w1 hw => (g1.of_eq 0 3 rfl rfl : rg _ _ _ [iV x1.K, iV x1.N, .string x1.S]).rangeAt hw.in0) rfl) rfl <| aqq 2 [] rfl ?_
  obtain ⟨x2, hx2, h⟩ := bs h
  obtain ⟨cs2, F2, -, g2, hb2, hs2, r2⟩ := ph1.el (idx_some hx2).2.2
  obtain ⟨rfl, -⟩ := r2
  refine qq (q_indexAddr Sl_78 rfl rfl ph1 hx2) rfl <| qq (q_loadN Tn_204 rfl (fun w1 hw => (g2.of_eq 0 3 rfl rfl : rg _ _ _ [iV x2.K, iV x2.N, .string x2.S]).rangeAt hw.in0) rfl) rfl <| qq (q_neA EqT_204 rfl rfl rfl (r := eqT_TVal x1 x2) rfl) rfl <| WQ.nil ?_
  refine ch h rfl ?_ ?_ <;> intro h
  ·refine att 4 [] rfl ?_
   exact rt hF h
  refine att 6 [] rfl ?_
  exact lb [] [] (ih1 _ h)
 refine att 5 [] rfl ?_
 exact rt hF h
theorem m_i_SameFact_ok (w0 : Base Ψ Φ []) (p0 : TFact) (p1 : TFact) (ph0_0 : RSl RTVal 3 Ψ pG0_0 pv0_0 p0.Fields) (ph1_0 : RSl RTVal 3 Ψ pG1_0 pv1_0 p1.Fields) {r : Bool} (h : m_i_SameFact N p0 p1 = some r) :
  CB w0 prog 157 [.agg [.string p0.Kind, pv0_0].toArray, .agg [.string p1.Kind, pv1_0].toArray] (.bool r) := by
 refine eN func157 rfl ntmps157 rfl w0 fun hF => ?_
 unfold m_i_SameFact at h
 refine sr <| lbx rfl fun b_1 => lbx rfl fun b_2 => arr 10 [0, 32, 0, 0] rfl ?_
 obtain ⟨b1, hb_1, h⟩ := bs h
 refine WL.cutN 6 [(16, .bool b1), (4, .bool false)] ?_ (fun K => ?_)
 rotate_left
 ·refine sp 10 hb_1 rfl (fun hb_1 => ?_) fun hb_1 => ?_
  ·refine arr 4 [1, 32, 1, 0] rfl <| ly rfl rfl <| qd hb_1 (m_sl_Equal_Si_Val_i_Val_ok N · p0.Fields p1.Fields ph0_0 ph1_0 ·) rfl rfl rfl fun x1 hb_1 => la rfl ?_
   cases hb_1
   exact ku K
  ·refine arr 6 [] rfl ?_
   cases hb_1
   exact ku K
 refine la rfl <| en ?_
 exact rt hF h
theorem m_i_StoreOk_ok (w0 : Base Ψ Φ []) (p0 : TStore) (ph0_0 : RSl RTItem 3 Ψ pG0_0 pv0_0 p0.Items) {r : Bool} (h : m_i_StoreOk N p0 = some r) :
  CB w0 prog 105 [.agg [pv0_0, iV p0.Next].toArray] (.bool r) := by
 refine eN func105 rfl ntmps105 rfl w0 fun hF => ?_
 unfold m_i_StoreOk at h
 refine sr <| lbx rfl fun b_1 => arr 7 [0, 0] rfl <| lnr ph0_0 rfl <| arr 2 [] rfl ?_
 obtain ⟨b1, hb_1, h⟩ := bs h
 refine WL.cutN 5 [(16, .bool b1), (1, pQ b_1)] ?_ (fun K => ?_)
 rotate_left
 ·refine sp 11 hb_1 rfl (fun hb_1 => ?_) fun hb_1 => ?_
  ·refine arr 5 [] rfl ?_
   cases hb_1
   exact ku K
  ·refine arr 2 [1, 0] rfl <| ly rfl rfl <| qc hb_1 (m_i_inRange_ok N · p0.Next 1 1000000 ·) rfl rfl rfl fun x1 hb_1 => arr 2 [] rfl ?_
   cases hb_1
   exact ku K
 refine en ?_
 refine ch h rfl ?_ ?_ <;> intro h
 ·refine att 4 [] rfl ?_
  exact rt hF h
 refine atr 6 [0, 0] rfl <| lnr ph0_0 rfl <| art 3 [] rfl ?_
 refine lin (σ := Int) (fun s => [(1, pQ b_1), (18, pv0_0), (19, iV (p0.Items.length : Int)), (20, iV s)]) (fun s => St w0 Φ [(b_1, .cells #[pv0_0, iV p0.Next] 57 (0, 0))] []) (fun m s => m_i_StoreOk_l1 N p0 m s = some r) (0) N h (sx [] [0]) (fun n1 ih1 s hm => ?_)
 revert hm; revert s; intro s1 hm
 have h : m_i_StoreOk_l1 N p0 (n1 + 1) s1 = some r := hm
 show WT _ _ [(1, pQ b_1), (18, pv0_0), (19, iV (p0.Items.length : Int)), (20, iV s1)] (St w0 Φ [(b_1, .cells #[pv0_0, iV p0.Next] 57 (0, 0))] [])
 unfold m_i_StoreOk_l1 at h
 refine att 5 [] rfl ?_
 refine ch h rfl ?_ ?_ <;> intro h
 ·refine atr 6 [] rfl ?_
  obtain ⟨x2, hx2, h⟩ := bs h
  obtain ⟨cs1, F1, -, g1, hb1, hs1, r1⟩ := ph0_0.el (idx_some hx2).2.2
  obtain ⟨v1, G1, rfl, hq1, h1⟩ := r1
  obtain rfl := hq1.symm
  refine lia ph0_0 hx2 rfl <| lhx 0 3 g1 rfl <| lnz Zr_107 rfl fun b_2 => la rfl <| soN 0 Sz_107 rfl ⟨rfl, rfl, h1.one, trivial⟩ rfl ?_
  refine art 3 [] rfl <| WT.draw mixed (by kernel_rfl) (fun _ h => h.drew) <| aqq 2 [1, 2] rfl ?_
  obtain ⟨x3, hx3, h⟩ := bs h
  refine qp (p_call Fun_155 rfl (fun w1 hw => m_i_FactOk_ok N (ba hw.in0) x2.F h1 hx3)) rfl <| aqq 2 [] rfl ?_
  obtain ⟨b2, hb_2, h⟩ := bs h
  refine WQ.cutN 8 [(37, .bool b2), (1, pQ b_1), (3, iV s1), (4, pQ b_2), (18, pv0_0), (19, iV (p0.Items.length : Int)), (20, iV s1)] ?_ (fun K => ?_)
  rotate_left
  ·refine WQ.split (d := 29) rfl (fun c4 => ?_) (fun c4 => ?_)
   ·replace hb_2 := ite_t hb_2 c4
    refine aqq 8 [] rfl ?_
    cases hb_2
    exact kq K
   ·replace hb_2 := ite_f hb_2 c4
    refine aqq 5 [0, 0, 1, 32] rfl <| WQ.yes rfl rfl ?_
    obtain ⟨x4, hx4, hb_2⟩ := bs hb_2
    refine qp (p_call Fun_208 rfl (fun w1 hw => m_i_inRange_ok N (ba hw.fro) x2.Id 1 (wz (p0.Next - 1)) hx4)) rfl <| aqq 2 [] rfl ?_
    cases hb_2
    exact kq K
  refine qq (q_move rfl) rfl ?_
  obtain ⟨b3, hb_3, h⟩ := bs h
  refine WQ.cutN 15 [(53, .bool b3), (1, pQ b_1), (3, iV s1), (4, pQ b_2), (18, pv0_0), (19, iV (p0.Items.length : Int)), (20, iV s1)] ?_ (fun K => ?_)
  rotate_left
  ·refine WQ.split (d := 38) rfl (fun c5 => ?_) (fun c5 => ?_)
   ·replace hb_3 := ite_t hb_3 c5
    refine aqq 15 [] rfl ?_
    cases hb_3
    exact kq K
   ·replace hb_3 := ite_f hb_3 c5
    refine aqq 3 [] rfl ?_
    obtain ⟨b4, hb_4, hb_3⟩ := bs hb_3
    refine WQ.cutN 11 [(52, .bool b4), (1, pQ b_1), (3, iV s1), (4, pQ b_2), (18, pv0_0), (19, iV (p0.Items.length : Int)), (20, iV s1), (38, .bool false)] ?_ (fun K => ?_)
    rotate_left
    ·refine WQ.split (d := 41) rfl (fun c6 => ?_) (fun c6 => ?_)
     ·replace hb_4 := ite_t hb_4 c6
      refine aqq 6 [0, 0, 0, 32] rfl <| WQ.yes rfl rfl ?_
      obtain ⟨x5, hx5, hb_4⟩ := bs hb_4
      obtain ⟨cs2, F2, -, g2, hb2, hs2, r2⟩ := ph0_0.el (idx_some hx5).2.2
      obtain ⟨v2, G2, rfl, hq2, h2⟩ := r2
      obtain rfl := hq2.symm
      refine qq (q_indexAddr Sl_55 rfl rfl ph0_0 hx5) rfl <| WQ.yes rfl rfl <| qq (q_fieldAddr Fld_107_0 rfl) rfl <| WQ.yes rfl rfl <| qq (q_load1 T1_3 rfl (fun w1 hw => (g2.of_eq 0 1 rfl rfl : rg _ _ _ [iV x5.Id]).rangeAt hw.in0)) rfl <| aqq 2 [] rfl ?_
      cases hb_4
      exact kq K
     ·replace hb_4 := ite_f hb_4 c6
      refine aqq 11 [] rfl ?_
      cases hb_4
      exact kq K
    refine WQ.q (q_pick0 rfl rfl) rfl rfl rfl ?_
    cases hb_3
    exact kq K
  refine WQ.nil ?_
  refine ch h rfl ?_ ?_ <;> intro h
  ·refine att 4 [] rfl ?_
   exact rt hF h
  refine atr 6 [0, 32] rfl ?_
  obtain ⟨x6, hx6, h⟩ := bs h
  refine lq (q_slH Sl_55 rfl rfl ph0_0 hx6) rfl ?_
  obtain ⟨F3, h3, hs3⟩ := ph0_0.sub hx6
  refine lnr h3 rfl <| art 3 [] rfl ?_
  refine lin (σ := Int) (fun s => [(1, pQ b_1), (4, pQ b_2), (18, pv0_0), (19, iV (p0.Items.length : Int)), (20, iV s1), (57, (slc pv0_0 (0 : Int).toNat s1.toNat 3)), (58, iV (x6.length : Int)), (59, iV s)]) (fun s => St w0 Φ [(b_2, .cells #[iV x2.Id, .string x2.F.Kind, v1] 107 (0, 0)), (b_1, .cells #[pv0_0, iV p0.Next] 57 (0, 0))] []) (fun m s => m_i_StoreOk_l2 N s1 (m_i_StoreOk_l1 N p0 n1) x2 x6 m s = some r) (0) N h (sx [] [0, 0]) (fun n2 ih2 s hm => ?_)
  revert hm; revert s; intro s2 hm
  have h : m_i_StoreOk_l2 N s1 (m_i_StoreOk_l1 N p0 n1) x2 x6 (n2 + 1) s2 = some r := hm
  show WT _ _ [(1, pQ b_1), (4, pQ b_2), (18, pv0_0), (19, iV (p0.Items.length : Int)), (20, iV s1), (57, (slc pv0_0 (0 : Int).toNat s1.toNat 3)), (58, iV (x6.length : Int)), (59, iV s2)] (St w0 Φ [(b_2, .cells #[iV x2.Id, .string x2.F.Kind, v1] 107 (0, 0)), (b_1, .cells #[pv0_0, iV p0.Next] 57 (0, 0))] [])
  unfold m_i_StoreOk_l2 at h
  refine att 5 [] rfl ?_
  refine ch h rfl ?_ ?_ <;> intro h
  ·refine atr 5 [] rfl ?_
   obtain ⟨x7, hx7, h⟩ := bs h
   obtain ⟨cs3, F4, -, g3, hb3, hs4, r3⟩ := h3.el (idx_some hx7).2.2
   obtain ⟨v3, G3, rfl, hq3, h4⟩ := r3
   obtain rfl := hq3.symm
   refine lia h3 hx7 rfl <| lhx 0 3 g3 rfl <| lnz Zr_107 rfl fun b_3 => soN 0 Sz_107 rfl ⟨rfl, rfl, h4.one, trivial⟩ rfl ?_
   refine arr 7 [1, 34, 1, 2] rfl <| qd h (m_i_SameFact_ok N · x2.F x7.F h1 h4 ·) rfl rfl rfl fun x8 h => en ?_
   refine ch h rfl ?_ ?_ <;> intro h
   ·refine att 4 [] rfl ?_
    exact rt hF h
   refine att 6 [] rfl ?_
   exact lb [] [1, 1] (ih2 _ h)
  refine att 6 [] rfl ?_
  exact lb [] [1] (ih1 _ h)
 refine att 5 [] rfl ?_
 exact rt hF h
theorem m_sl_Clone_Si_Val_i_Val_ok (w0 : Base Ψ Φ []) (p0 : (List TVal)) (ph0 : RSl RTVal 3 Ψ pG0 pv0 p0) {r : (List TVal)} (h : m_sl_Clone_Si_Val_i_Val N p0 = some r) :
  Calls prog 229 [pv0].toArray w0.w (PostG Φ w0.w [] (fun Φ' Fs v => ∃ (sr_0_0 : Value), v = sr_0_0 ∧ Fs = [ob sr_0_0] ∧ OSl RTVal 204 3 Φ' [] sr_0_0 r)) := by
 refine eN func229 rfl ntmps229 rfl w0 fun hF => ?_
 unfold m_sl_Clone_Si_Val_i_Val at h
 refine att 6 [] rfl ?_
 rcases RSl.nilOr ph0 with ⟨hxs1, cc1, hv1⟩ | ⟨a1, cc1, hv1⟩
 ·replace h : some [] = some r := by simpa [hxs1, app] using h
  refine atr 2 [] rfl <| lq (q_eqNil Sl_78 (congrArg some hv1) rfl) rfl <| en ?_
  refine cd rfl (fun c => ?_) (fun c => by simp at c)
  refine att 4 [] rfl ?_
  refine WT.ret hF (resOk.one rfl) (fun w1 hw => ?_)
  cases h
  replace hw := hw.addNil
  refine postG_of_St (js := [0]) hw rfl ⟨.slice none 0 0, rfl, rfl, OSl.nil _ _ _ _⟩
 refine atr 2 [] rfl <| lq (q_eqNil Sl_78 (congrArg some hv1) rfl) rfl <| en ?_
 refine cd rfl (fun c => by simp at c) (fun c => ?_)
 refine atr 3 [] rfl <| le' (e_lit0 RTVal.lasts Sl_78 Zr_204 rfl rfl) rfl ?_
 rintro v1 Φ_1 D1 ⟨fr1, h1⟩
 refine la rfl <| lu0 ph0 fun h2 => ?_
 obtain ⟨x1, hx1, h⟩ := bs h
 refine le' (e_appF RTVal.lasts RTVal.one RTVal.flat Sl_78 Ei_204 rfl rfl rfl rfl rfl (js := [0]) (Rr := []) rfl h1 h2 hx1) rfl ?_
 rintro v2 Φ_2 D2 ⟨⟨ap1, fr2⟩, h3⟩
 refine la rfl <| en ?_
 exact rtg [0] hF (resOk.one rfl) rfl (by cases h; exact fun w1 hw => ⟨v2, rfl, rfl, h3⟩)
theorem m_i_copyFact_ok (w0 : Base Ψ Φ []) (p0 : TFact) (ph0_0 : RSl RTVal 3 Ψ pG0_0 pv0_0 p0.Fields) {r : TFact} (h : m_i_copyFact N p0 = some r) :
  Calls prog 119 [.agg [.string p0.Kind, pv0_0].toArray].toArray w0.w (PostG Φ w0.w [] (fun Φ' Fs v => ∃ (sr_0_0 : Value), v = .agg [.string r.Kind, sr_0_0].toArray ∧ Fs = [ob sr_0_0] ∧ OSl RTVal 204 3 Φ' [] sr_0_0 r.Fields)) := by
 refine eN func119 rfl ntmps119 rfl w0 fun hF => ?_
 unfold m_i_copyFact at h
 refine sr <| lbx rfl fun b_1 => lnz Zr_80 rfl fun b_2 => en <| sq <| wm [0, 1] [6] rfl <| amm 4 [0, 0, 1, 32, 2, 1, 3, 32] [0, 1] rfl rfl ?_
 obtain ⟨x1, hx1, h⟩ := bs h
 refine WM.one 4 (by kernel_rfl) (mc rfl (fun _ v Φx D w1 hq hw => Kn.of Kf.nil (ai2 0 1 rfl rfl) hw) (k_call (js := []) (R := []) Fun_229 rfl rfl (fun w1 hw ap hl => m_sl_Clone_Si_Val_i_Val_ok N (ba hw.fro) p0.Fields (ph0_0.y hw.up)  hx1)) rfl ?_)
 rintro v1 Φ_1 F1 ⟨ap1, fr1, v2, rfl, rfl, h1⟩
 refine mq 5 rfl (by kernel_rfl) (kN [0, 1]) (q_build (vs := [(0, .string p0.Kind), (1, v1)]) (C := #[.string p0.Kind, v1]) Pl_80 Zr_80 rfl (fill_cons (C' := [.string p0.Kind, .slice none 0 0]) rfl rfl rfl rfl rfl (fill_cons (C' := [.string p0.Kind, v1]) rfl (one_cells h1.one) rfl rfl rfl (fill_nil)))) rfl ?_
 refine on1 6 (msN 0 rfl nk Sz_80 rfl ⟨rfl, h1.one, trivial⟩ rfl rfl ?_)
 refine WM.nil (by kernel_rfl) ?_
 exact rtg [0] hF (resOk.one (rv_cell Tn_80 rfl (fun w1 hw => hw.rgO (i := 0) rfl 0 2 [.string p0.Kind, v1] rfl) rfl)) rfl (by cases h; exact fun w1 hw => ⟨v1, rfl, rfl, h1⟩)
theorem m_i_FactOf_ok (w0 : Base Ψ Φ []) (p0 : TStore) (p1 : Int) (ph0_0 : RSl RTItem 3 Ψ pG0_0 pv0_0 p0.Items) {r : TFact × Bool} (h : m_i_FactOf N p0 p1 = some r) :
  Calls prog 40 [.agg [pv0_0, iV p0.Next].toArray, iV p1].toArray w0.w (PostG Φ w0.w [] (fun Φ' Fs v => ∃ (sr_0_0 : Value), v = .tuple #[.agg [.string r.1.Kind, sr_0_0].toArray, .bool r.2] ∧ Fs = [ob sr_0_0] ∧ OSl RTVal 204 3 Φ' [] sr_0_0 r.1.Fields)) := by
 refine eN func40 rfl ntmps40 rfl w0 fun hF => ?_
 unfold m_i_FactOf at h
 refine sr <| lbx rfl fun b_1 => lnz Zr_80 rfl fun b_2 => arr 7 [0, 32] rfl <| lnr ph0_0 rfl <| art 3 [] rfl ?_
 refine lin (σ := Int) (fun s => [(1, iV p1), (4, pQ b_2), (9, pv0_0), (10, iV (p0.Items.length : Int)), (11, iV s)]) (fun s => St w0 Φ [(b_2, .cells #[.string (⟨#[]⟩ : ByteArray), .slice none 0 0] 80 (0, 0))] []) (fun m s => m_i_FactOf_l1 N p0 p1 m s = some r) (0) N h (sx [] [0]) (fun n1 ih1 s hm => ?_)
 revert hm; revert s; intro s1 hm
 have h : m_i_FactOf_l1 N p0 p1 (n1 + 1) s1 = some r := hm
 show WT _ _ [(1, iV p1), (4, pQ b_2), (9, pv0_0), (10, iV (p0.Items.length : Int)), (11, iV s1)] (St w0 Φ [(b_2, .cells #[.string (⟨#[]⟩ : ByteArray), .slice none 0 0] 80 (0, 0))] [])
 unfold m_i_FactOf_l1 at h
 refine att 5 [] rfl ?_
 refine ch h rfl ?_ ?_ <;> intro h
 ·refine atr 5 [] rfl ?_
  obtain ⟨x1, hx1, h⟩ := bs h
  obtain ⟨cs1, F1, -, g1, hb1, hs1, r1⟩ := ph0_0.el (idx_some hx1).2.2
  obtain ⟨v1, G1, rfl, hq1, h1⟩ := r1
  obtain rfl := hq1.symm
  refine lia ph0_0 hx1 rfl <| lhx 0 3 g1 rfl <| lnz Zr_107 rfl fun b_3 => soN 0 Sz_107 rfl ⟨rfl, rfl, h1.one, trivial⟩ rfl ?_
  refine art 8 [0, 0] rfl ?_
  refine ch h rfl ?_ ?_ <;> intro h
  ·refine atr 4 [1, 2] rfl <| kab h rfl rfl rfl (fun b z q => m_i_copyFact_ok N b x1.F (h1.y z) q) ?_
   rintro x2 h v2 Φ_1 F2 ⟨ap1, fr1, v3, rfl, rfl, h2⟩
   refine soN 1 Sz_80 rfl ⟨rfl, h2.one, trivial⟩ rfl ?_
   refine la rfl <| en ?_
   exact rtg [0] hF (resOk.two (rv_cell Tn_80 rfl (fun w1 hw => hw.rgO (i := 1) rfl 0 2 [.string x2.Kind, v3] rfl) rfl) rfl) rfl (by cases h; exact fun w1 hw => ⟨v3, rfl, rfl, h2⟩)
  refine att 6 [] rfl ?_
  exact lb [] [1] (ih1 _ h)
 refine xt rfl <| sr <| lq (q_build (vs := []) (C := #[.string (⟨#[]⟩ : ByteArray), .slice none 0 0]) Pl_80 Zr_80 rfl (fill_nil)) rfl <| soN 0 Sz_80 rfl ⟨rfl, rfl, trivial⟩ rfl ?_
 refine la rfl <| en ?_
 refine WT.ret hF (resOk.two (rv_cell Tn_80 rfl (fun w1 hw => hw.rgO (i := 0) rfl 0 2 [.string (⟨#[]⟩ : ByteArray), .slice none 0 0] rfl) rfl) rfl) (fun w1 hw => ?_)
 cases h
 replace hw := hw.addNil
 refine postG_of_St (js := [0]) hw rfl ⟨.slice none 0 0, rfl, rfl, OSl.nil _ _ _ _⟩
theorem m_i_pats_ok (w0 : Base Ψ Φ []) (p0 : TRule) (p1 : Bool) (ph0_0 : RSl RTPat 3 Ψ pG0_0 pv0_0 p0.Pats) (ph0_1 : RSl RTCond 11 Ψ pG0_1 pv0_1 p0.Conds) (ph0_2 : RSl RTAct 5 Ψ pG0_2 pv0_2 p0.Acts) {r : (List TPat)} (h : m_i_pats N p0 p1 = some r) :
  Calls prog 235 [.agg [.string p0.Name, iV p0.Sal, pv0_0, pv0_1, pv0_2].toArray, .bool p1].toArray w0.w (PostG Φ w0.w [] (fun Φ' Fs v => ∃ (sr_0_0 : Value) (Dr_0_0 : List Nat), v = sr_0_0 ∧ Fs = [ob sr_0_0] ∧ OSl RTPat 265 3 Φ' Dr_0_0 sr_0_0 r ∧ (∀ k ∈ Dr_0_0, k ∈ pG0_0))) := by
 refine eN func235 rfl ntmps235 rfl w0 fun hF => ?_
 unfold m_i_pats at h
 refine sr <| lbx rfl fun b_1 => arr 11 [2, 0] rfl <| lnr ph0_0 rfl <| art 3 [] rfl <| wtS ?_
 have k1 := OSl.nil RTPat 265 3 Φ
 refine lin (σ := Hp × (List TPat) × Value × List Nat × Int) (fun s => [(1, .bool p1), (5, s.2.2.1), (9, pv0_0), (10, iV (p0.Pats.length : Int)), (11, iV s.2.2.2.2)]) (fun s => St w0 s.1 [] [ob s.2.2.1]) (fun m s => m_i_pats_l1 N p0 p1 m s.2.1 s.2.2.2.2 = some r ∧ (OSl RTPat 265 3 s.1 s.2.2.2.1 s.2.2.1 s.2.1) ∧ (∀ k ∈ s.2.2.2.1, k ∈ pG0_0)) (Φ, ([] : List TPat), (.slice none 0 0), [], 0) N ⟨h, k1, (by simp)⟩ (sx [0] []) (fun n1 ih1 s hm => ?_)
 obtain ⟨Φ_1, s1, u1, D1, s2⟩ := s
 obtain ⟨h, k2, i1⟩ := hm
 dsimp only at h k2 i1 ⊢
 unfold m_i_pats_l1 at h
 refine att 5 [] rfl ?_
 refine ch h rfl ?_ ?_ <;> intro h
 ·refine atr 5 [] rfl ?_
  obtain ⟨x1, hx1, h⟩ := bs h
  obtain ⟨cs1, F1, -, g1, hb1, hs1, r1⟩ := ph0_0.el (idx_some hx1).2.2
  obtain ⟨v1, G1, rfl, hq1, h1⟩ := r1
  obtain rfl := hq1.symm
  refine lia ph0_0 hx1 rfl <| lhx 0 3 g1 rfl <| lnz Zr_265 rfl fun b_2 => soN 0 Sz_265 rfl ⟨rfl, h1.one, rfl, trivial⟩ rfl ?_
  refine arr 6 [2, 0] rfl <| lq (q_beq Bo_4 rfl rfl) rfl <| en ?_
  refine ch h rfl ?_ ?_ <;> intro h
  ·refine atr 3 [3] rfl <| lu0 h1 fun h2 => ?_
   have rc1 : RC RTPat 3 Φ_1 ([G1] : List (List Nat)) [.string x1.Kind, v1, .bool x1.Not] ([x1] : List TPat) := RC.cons (c := [.string x1.Kind, v1, .bool x1.Not]) (cells := []) ⟨v1, G1, rfl, rfl, h2⟩ rfl (RC.nil _ _ _)
   refine le' (e_lit (vs := [(0, .agg [.string x1.Kind, v1, .bool x1.Not].toArray)]) (C := #[.string x1.Kind, v1, .bool x1.Not]) RTPat.lasts Sl_179 Zr_265 rfl rfl rfl rfl (fill_made MC_265_1 (fill_cons (C' := [.string x1.Kind, v1, .bool x1.Not]) rfl rfl rfl rfl rfl (fill_nil))) rfl rc1 rfl (RC.kn RTPat.knows rc1)) rfl ?_
   rintro v2 Φ_2 D2 ⟨fr1, h3⟩
   replace h3 : OSl RTPat 265 3 Φ_2 (G1) v2 ([x1] : List TPat) := by simpa [List.append_assoc] using h3
   replace k2 := k2.f0 fr1
   obtain ⟨x2, hx2, h⟩ := bs h
   refine le' (e_appO RTPat.lasts RTPat.one Sl_179 Ei_265 rfl rfl rfl rfl rfl (js := [1]) (Rr := [ob v2]) rfl k2 h3 (fun ap => (Dj.sub (ap.o ph0_0.old) i1)) (fun ap => (Dj.sub (Dj.sub (ap.o ph0_0.old) (fun k h => hs1 k h)) (fun k hk => (by simpa [List.append_assoc] using hk : k ∈ G1)))) hx2) rfl ?_
   rintro v3 Φ_3 D3 ⟨⟨ap1, fr2⟩, h4⟩
   refine art 7 [] rfl ?_
   exact lb [0] [] (ih1 (_, _, _, _, _) ⟨h, h4, (fun k hk => ((List.mem_append.1 hk).elim (fun h => (i1 k h)) (fun h => ((fun k h => hs1 k h) k ((fun k hk => (by simpa [List.append_assoc] using hk : k ∈ G1)) k h)))))⟩)
  refine att 6 [] rfl ?_
  exact lb [0] [] (ih1 (_, _, _, _, _) ⟨h, k2, (fun k hk => (i1 k hk))⟩)
 refine att 6 [] rfl ?_
 exact rtg [0] hF (resOk.one rfl) rfl (by cases h; exact fun w1 hw => ⟨u1, D1, rfl, rfl, k2, (fun k hk => (i1 k hk))⟩)
theorem m_i_growerOf_ok (w0 : Base Ψ Φ []) (p0 : TDef) (p1 : TNet) (p2 : TMem) (p3 : TStore) (p4 : Int) (p5 : Int) (ph0_0 : RSl RTRule 5 Ψ pG0_0 pv0_0 p0.Rules) (ph1_1 : RSl RTChain 2 Ψ pG1_1 pv1_1 p1.Chains) (ph2_0 : RSl RTIds 1 Ψ pG2_0 pv2_0 p2.Alphas) (ph3_0 : RSl RTItem 3 Ψ pG3_0 pv3_0 p3.Items) {r : Tgrower} (h : m_i_growerOf N p0 p1 p2 p3 p4 p5 = some r) :
  Calls prog 187 [.agg [.string p0.Name, pv0_0].toArray, .agg [pv1_0, pv1_1].toArray, .agg [pv2_0, pv2_1].toArray, .agg [pv3_0, iV p3.Next].toArray, iV p4, iV p5].toArray w0.w (PostG Φ w0.w [] (fun Φ' Fs v => ∃ (sr_0_0 : Value) (Dr_0_0 : List Nat) (sr_0_1 : Value) (Dr_0_1 : List Nat) (sr_0_2 : Value) (Gr_0_2 : List Nat) (sr_0_3 : Value) (Gr_0_3 : List Nat) (sr_0_4 : Value) (Gr_0_4 : List Nat) (sr_0_5 : Value) (Gr_0_5 : List Nat), v = .agg [sr_0_0, sr_0_1, sr_0_2, sr_0_3, sr_0_4, sr_0_5, iV r.s.Next, iV r.id].toArray ∧ Fs = [ob sr_0_0, ob sr_0_1] ∧ OSl RTPat 265 3 Φ' Dr_0_0 sr_0_0 r.pos ∧ (∀ k ∈ Dr_0_0, k ∈ pG0_0) ∧ OSl RTPat 265 3 Φ' Dr_0_1 sr_0_1 r.neg ∧ (∀ k ∈ Dr_0_1, k ∈ pG0_0) ∧ RSl (RI .i64) 1 Φ' Gr_0_2 sr_0_2 r.chain.Pos ∧ (∀ k ∈ Gr_0_2, k ∈ pG1_1) ∧ RSl (RI .i64) 1 Φ' Gr_0_3 sr_0_3 r.chain.Neg ∧ (∀ k ∈ Gr_0_3, k ∈ pG1_1) ∧ RSl RTIds 1 Φ' Gr_0_4 sr_0_4 r.alphas ∧ (∀ k ∈ Gr_0_4, k ∈ pG2_0) ∧ RSl RTItem 3 Φ' Gr_0_5 sr_0_5 r.s.Items ∧ (∀ k ∈ Gr_0_5, k ∈ pG3_0))) := by
 refine eN func187 rfl ntmps187 rfl w0 fun hF => ?_
 unfold m_i_growerOf at h
 refine sr <| lbx rfl fun b_1 => lbx rfl fun b_2 => lbx rfl fun b_3 => lbx rfl fun b_4 => lnz Zr_250 rfl fun b_5 => arr 6 [1, 128] rfl ?_
 obtain ⟨x1, hx1, h⟩ := bs h
 obtain ⟨cs1, F1, -, g1, hb1, hs1, r1⟩ := ph0_0.el (idx_some hx1).2.2
 obtain ⟨v1, G1, v2, G2, v3, G3, rfl, rfl, h1, h2, h3⟩ := r1
 refine lia ph0_0 hx1 rfl <| lhx 0 5 g1 rfl <| lnz Zr_183 rfl fun b_6 => soN 0 Sz_183 rfl ⟨rfl, rfl, h1.one, h2.one, h3.one, trivial⟩ rfl ?_
 refine en <| sq <| wm [0, 1, 2, 3, 4, 5] [14] rfl <| amm 5 [0, 5, 2, 5, 4, 1, 5, 128, 6] [0, 1, 2, 3, 4, 5] rfl rfl ?_
 obtain ⟨x2, hx2, h⟩ := bs h
 obtain ⟨cs2, F2, -, g2, hb2, hs2, r2⟩ := ph1_1.el (idx_some hx2).2.2
 obtain ⟨v4, G4, v5, G5, rfl, rfl, h4, h5⟩ := r2
 refine mq 7 rfl (by kernel_rfl) (kN [0, 1, 2, 3, 4, 5]) (q_indexAddr Sl_50 rfl rfl ph1_1 hx2) rfl <| mq 8 rfl (by kernel_rfl) (kN [0, 1, 2, 3, 4, 5]) (q_loadN Tn_175 rfl (fun w1 hw => (g2.of_eq 0 2 rfl rfl : rg _ _ _ [v4, v5]).rangeAt hw.1) rfl) rfl <| amm 4 [9, 0, 10, 96, 11, 66, 12] [0, 1, 2, 3, 4, 5] rfl rfl ?_
 obtain ⟨x3, hx3, h⟩ := bs h
 refine WM.one 1 (by kernel_rfl) (mc rfl (fun _ v Φx D w1 hq hw => Kn.of Kf.nil (am [0, 1, 2, 3, 4, 5] rfl) hw) (k_call (js := []) (R := []) Fun_235 rfl rfl (fun w1 hw ap hl => m_i_pats_ok N (ba hw.fro) x1 false (h1.y hw.up) (h2.y hw.up) (h3.y hw.up)  hx3)) rfl ?_)
 rintro v6 Φ_1 F3 ⟨ap1, fr1, v7, D1, rfl, rfl, h6, i1⟩
 obtain ⟨x4, hx4, h⟩ := bs h
 refine WM.one 3 (by kernel_rfl) (mc rfl (fun _ v Φx D w1 hq hw => Kn.of Kf.nil (am [0, 1, 2, 3, 4, 5] rfl) hw) (k_call (js := []) (R := [ob v6]) Fun_235 rfl rfl (fun w1 hw ap hl => m_i_pats_ok N (ba hw.fro) x1 true (h1.y hw.up) (h2.y hw.up) (h3.y hw.up)  hx4)) rfl ?_)
 rintro v8 Φ_2 F4 ⟨ap2, fr2, v9, D2, rfl, rfl, h7, i2⟩
 replace h6 := h6.fr fr2 (ap2.q 0 rfl) (Dj.sub (ap2.o h1.old) i1)
 refine mq 13 rfl (by kernel_rfl) (kN [0, 1, 2, 3, 4, 5]) (q_build (vs := [(0, v6), (1, v8), (2, .agg [v4, v5].toArray), (3, pv2_0), (4, .agg [pv3_0, iV p3.Next].toArray), (5, iV p4)]) (C := #[v6, v8, v4, v5, pv2_0, pv3_0, iV p3.Next, iV p4]) Pl_250 Zr_250 rfl (fill_cons (C' := [v6, .slice none 0 0, .slice none 0 0, .slice none 0 0, .slice none 0 0, .slice none 0 0, iV 0, iV 0]) rfl (one_cells h6.one) rfl rfl rfl (fill_cons (C' := [v6, v8, .slice none 0 0, .slice none 0 0, .slice none 0 0, .slice none 0 0, iV 0, iV 0]) rfl (one_cells h7.one) rfl rfl rfl (fill_cons (C' := [v6, v8, v4, v5, .slice none 0 0, .slice none 0 0, iV 0, iV 0]) rfl rfl rfl rfl rfl (fill_cons (C' := [v6, v8, v4, v5, pv2_0, .slice none 0 0, iV 0, iV 0]) rfl (one_cells ph2_0.one) rfl rfl rfl (fill_cons (C' := [v6, v8, v4, v5, pv2_0, pv3_0, iV p3.Next, iV 0]) rfl rfl rfl rfl rfl (fill_cons (C' := [v6, v8, v4, v5, pv2_0, pv3_0, iV p3.Next, iV p4]) rfl rfl rfl rfl rfl (fill_nil)))))))) rfl ?_
 refine on1 14 (msN 1 rfl nk Sz_250 rfl ⟨h6.one, h7.one, h4.one, h5.one, ph2_0.one, ph3_0.one, rfl, rfl, trivial⟩ rfl rfl ?_)
 refine WM.nil (by kernel_rfl) ?_
 exact rtg [1, 0] hF (resOk.one (rv_cell Tn_250 rfl (fun w1 hw => hw.rgO (i := 1) rfl 0 8 [v6, v8, v4, v5, pv2_0, pv3_0, iV p3.Next, iV p4] rfl) rfl)) rfl (by cases h; exact fun w1 hw => ⟨v6, D1, v8, D2, v4, G4, v5, G5, pv2_0, pG2_0, pv3_0, pG3_0, rfl, rfl, h6, (fun k hk => ((fun k h => hs1 k (List.mem_append.2 (.inl h))) k (i1 k hk))), h7, (fun k hk => ((fun k h => hs1 k (List.mem_append.2 (.inl h))) k (i2 k hk))), (h4.y hw.up), (fun k hk => ((fun k h => hs2 k (List.mem_append.2 (.inl h))) k hk)), (h5.y hw.up), (fun k hk => ((fun k h => hs2 k (List.mem_append.2 (.inr h))) k hk)), (ph2_0.y hw.up), (fun k hk => hk), (ph3_0.y hw.up), (fun k hk => hk)⟩)
theorem m_sl_Clone_Si_Bind_i_Bind_ok (w0 : Base Ψ Φ []) (p0 : (List TBind)) (ph0 : RSl RTBind 4 Ψ pG0 pv0 p0) {r : (List TBind)} (h : m_sl_Clone_Si_Bind_i_Bind N p0 = some r) :
  Calls prog 351 [pv0].toArray w0.w (PostG Φ w0.w [] (fun Φ' Fs v => ∃ (sr_0_0 : Value), v = sr_0_0 ∧ Fs = [ob sr_0_0] ∧ OSl RTBind 206 4 Φ' [] sr_0_0 r)) := by
 refine eN func351 rfl ntmps351 rfl w0 fun hF => ?_
 unfold m_sl_Clone_Si_Bind_i_Bind at h
 refine att 6 [] rfl ?_
 rcases RSl.nilOr ph0 with ⟨hxs1, cc1, hv1⟩ | ⟨a1, cc1, hv1⟩
 ·replace h : some [] = some r := by simpa [hxs1, app] using h
  refine atr 2 [] rfl <| lq (q_eqNil Sl_102 (congrArg some hv1) rfl) rfl <| en ?_
  refine cd rfl (fun c => ?_) (fun c => by simp at c)
  refine att 4 [] rfl ?_
  refine WT.ret hF (resOk.one rfl) (fun w1 hw => ?_)
  cases h
  replace hw := hw.addNil
  refine postG_of_St (js := [0]) hw rfl ⟨.slice none 0 0, rfl, rfl, OSl.nil _ _ _ _⟩
 refine atr 2 [] rfl <| lq (q_eqNil Sl_102 (congrArg some hv1) rfl) rfl <| en ?_
 refine cd rfl (fun c => by simp at c) (fun c => ?_)
 refine atr 3 [] rfl <| le' (e_lit0 RTBind.lasts Sl_102 Zr_206 rfl rfl) rfl ?_
 rintro v1 Φ_1 D1 ⟨fr1, h1⟩
 refine la rfl <| lu0 ph0 fun h2 => ?_
 obtain ⟨x1, hx1, h⟩ := bs h
 refine le' (e_appF RTBind.lasts RTBind.one RTBind.flat Sl_102 Ei_206 rfl rfl rfl rfl rfl (js := [0]) (Rr := []) rfl h1 h2 hx1) rfl ?_
 rintro v2 Φ_2 D2 ⟨⟨ap1, fr2⟩, h3⟩
 refine la rfl <| en ?_
 exact rtg [0] hF (resOk.one rfl) rfl (by cases h; exact fun w1 hw => ⟨v2, rfl, rfl, h3⟩)
end Go.Proofs.YtdihjeeniojdmaaGreat
