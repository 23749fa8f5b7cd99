/- Printed by a program of ours: each Go function computes its Lean function. -/
import Derived.Test.YtjccaebpbieejaaGreatProg
import Derived.Test.YtjccaebpbieejaaGreatWExactSetOfWalk4
namespace Go.Proofs.YtjccaebpbieejaaGreat
open Eng Tryz
open Go.RowKit (Below)
set_option linter.unusedVariables false
set_option linter.unusedSimpArgs false

set_option maxRecDepth 100000
set_option maxHeartbeats 1000000
variable {Ψ Φ : Hp} {pv0 pv0_0 pv1_0 pv1_1 pv2_0 : Value} {pG0 pG0_0 pG1_0 pG1_1 pG2_0 : List Nat} (N : Nat)
theorem m_l_heldBindS_ok (w0 : Base Ψ Φ []) (p0 : (List TBind)) (p1 : Int) (ph0 : RSl RTBind 4 Ψ pG0 pv0 p0) {r : Int} (h : m_l_heldBindS N p0 p1 = some r) :
  CB w0 prog 51 [pv0, iV p1] (iV r) := by
 refine eN func51 rfl ntmps51 rfl w0 fun hF => ?_
 unfold m_l_heldBindS at h
 refine att 10 [] rfl ?_
 refine lin (σ := Int × Int) (fun s => [(0, pv0), (1, iV s.1), (5, iV s.2)]) (fun s => St w0 Φ [] []) (fun m s => m_l_heldBindS_l1 N p0 m s.1 s.2 = some r) (p1, 0) N h (sx [] []) (fun n1 ih1 s hm => ?_)
 obtain ⟨s1, s2⟩ := s
 have h : m_l_heldBindS_l1 N p0 (n1 + 1) s1 s2 = some r := hm
 show WT _ _ [(0, pv0), (1, iV s1), (5, iV s2)] (St w0 Φ [] [])
 unfold m_l_heldBindS_l1 at h
 refine atr 5 [] rfl <| lnr ph0 rfl <| la rfl <| en ?_
 refine ch h rfl ?_ ?_ <;> intro h
 ·refine att 5 [] rfl <| WT.draw mixed (by kernel_rfl) (fun _ h => h.drew) <| aqq 2 [] rfl ?_
  obtain ⟨x1, hx1, h⟩ := bs h
  obtain ⟨cs1, F1, -, g1, hb1, hs1, r1⟩ := ph0.el (idx_some hx1).2.2
  obtain ⟨rfl, -⟩ := r1
  refine qq (q_indexAddr Sl_69 rfl rfl ph0 hx1) rfl <| qq (q_fieldAddr Fld_164_0 rfl) rfl <| qq (q_load1 T1_9 rfl (fun w1 hw => (g1.of_eq 0 1 rfl rfl : rg _ _ _ [.string x1.Name]).rangeAt hw.in0)) rfl <| qq (q_move rfl) rfl ?_
  obtain ⟨x2, hx2, h⟩ := bs h
  refine qp (p_call Fun_77 rfl (fun w1 hw => m_l_markText_ok N (ba hw.fro) s1 hx2)) rfl <| aqt 2 [] rfl ?_
  refine ch h rfl ?_ ?_ <;> intro h
  ·refine att 4 [] rfl ?_
   exact rt hF h
  refine atr 12 [] rfl ?_
  obtain ⟨x3, hx3, h⟩ := bs h
  obtain ⟨cs2, F2, -, g2, hb2, hs2, r2⟩ := ph0.el (idx_some hx3).2.2
  obtain ⟨rfl, -⟩ := r2
  refine lia ph0 hx3 rfl <| arr 2 [1, 0] rfl <| lq (q_load1 T1_3 rfl (fun w1 hw => (g2.of_eq 1 1 (by omega) rfl : rg _ _ _ [iV x3.V.K]).rangeAt hw.in0)) rfl <| art 3 [] rfl ?_
  refine ch h rfl ?_ ?_ <;> intro h
  ·refine att 4 [] rfl ?_
   exact rt hF h
  refine atr 12 [] rfl ?_
  obtain ⟨x4, hx4, h⟩ := bs h
  obtain ⟨cs3, F3, -, g3, hb3, hs3, r3⟩ := ph0.el (idx_some hx4).2.2
  obtain ⟨rfl, -⟩ := r3
  refine lia ph0 hx4 rfl <| arr 2 [1, 1] rfl <| lq (q_load1 T1_3 rfl (fun w1 hw => (g3.of_eq 2 1 (by omega) rfl : rg _ _ _ [iV x4.V.N]).rangeAt hw.in0)) rfl <| art 3 [] rfl ?_
  refine ch h rfl ?_ ?_ <;> intro h
  ·refine att 4 [] rfl ?_
   exact rt hF h
  refine att 9 [] rfl <| WT.draw mixed (by kernel_rfl) (fun _ h => h.drew) <| aqq 2 [] rfl ?_
  obtain ⟨x5, hx5, h⟩ := bs h
  obtain ⟨cs4, F4, -, g4, hb4, hs4, r4⟩ := ph0.el (idx_some hx5).2.2
  obtain ⟨rfl, -⟩ := r4
  refine qq (q_indexAddr Sl_69 rfl rfl ph0 hx5) rfl <| aqq 2 [1, 2] rfl <| qq (q_load1 T1_9 rfl (fun w1 hw => (g4.of_eq 3 1 (by omega) rfl : rg _ _ _ [.string x5.V.S]).rangeAt hw.in0)) rfl <| qq (q_move rfl) rfl ?_
  obtain ⟨x6, hx6, h⟩ := bs h
  refine qp (p_call Fun_77 rfl (fun w1 hw => m_l_markText_ok N (ba hw.fro) (wz ((wz ((wz (s1 + 1)) + 1)) + 1)) hx6)) rfl <| aqt 2 [] rfl ?_
  refine ch h rfl ?_ ?_ <;> intro h
  ·refine att 4 [] rfl ?_
   exact rt hF h
  refine att 12 [] rfl ?_
  exact lb [] [] (ih1 (_, _) h)
 refine att 6 [] rfl ?_
 exact rt hF h
theorem m_l_heldMatchS_ok (w0 : Base Ψ Φ []) (p0 : (List TMatch)) (p1 : Int) (ph0 : RSl RTMatch 3 Ψ pG0 pv0 p0) {r : Int} (h : m_l_heldMatchS N p0 p1 = some r) :
  CB w0 prog 20 [pv0, iV p1] (iV r) := by
 refine eN func20 rfl ntmps20 rfl w0 fun hF => ?_
 unfold m_l_heldMatchS at h
 refine att 10 [] rfl ?_
 refine lin (σ := Int × Int) (fun s => [(0, pv0), (1, iV s.1), (5, iV s.2)]) (fun s => St w0 Φ [] []) (fun m s => m_l_heldMatchS_l1 N p0 m s.1 s.2 = some r) (p1, 0) N h (sx [] []) (fun n1 ih1 s hm => ?_)
 obtain ⟨s1, s2⟩ := s
 have h : m_l_heldMatchS_l1 N p0 (n1 + 1) s1 s2 = some r := hm
 show WT _ _ [(0, pv0), (1, iV s1), (5, iV s2)] (St w0 Φ [] [])
 unfold m_l_heldMatchS_l1 at h
 refine atr 5 [] rfl <| lnr ph0 rfl <| la rfl <| en ?_
 refine ch h rfl ?_ ?_ <;> intro h
 ·refine atr 8 [] rfl ?_
  obtain ⟨x1, hx1, h⟩ := bs h
  obtain ⟨cs1, F1, -, g1, hb1, hs1, r1⟩ := ph0.el (idx_some hx1).2.2
  obtain ⟨v1, G1, v2, G2, rfl, rfl, h1, h2⟩ := r1
  refine lia ph0 hx1 rfl <| lf Fld_84_0 rfl rfl rfl <| lhx 0 0 g1 rfl <| art 3 [] rfl ?_
  refine ch h rfl ?_ ?_ <;> intro h
  ·refine att 4 [] rfl ?_
   exact rt hF h
  refine atr 11 [] rfl ?_
  obtain ⟨x2, hx2, h⟩ := bs h
  obtain ⟨cs2, F2, -, g2, hb2, hs2, r2⟩ := ph0.el (idx_some hx2).2.2
  obtain ⟨v3, G3, v4, G4, rfl, rfl, h3, h4⟩ := r2
  refine lia ph0 hx2 rfl <| lf Fld_84_1 rfl rfl rfl <| lhx 1 0 g2 rfl <| la rfl <| qd h (m_l_heldIntS_ok N · x2.Ids (wz (s1 + 1)) h3 ·) rfl rfl rfl fun x3 h => art 8 [] rfl ?_
  refine ch h rfl ?_ ?_ <;> intro h
  ·refine att 4 [] rfl ?_
   exact rt hF h
  refine atr 5 [] rfl ?_
  obtain ⟨x4, hx4, h⟩ := bs h
  obtain ⟨cs3, F3, -, g3, hb3, hs3, r3⟩ := ph0.el (idx_some hx4).2.2
  obtain ⟨v5, G5, v6, G6, rfl, rfl, h5, h6⟩ := r3
  refine lia ph0 hx4 rfl <| lf Fld_84_2 rfl rfl rfl <| lhx 2 0 g3 rfl <| la rfl <| qd h (m_l_heldBindS_ok N · x4.Binds x3 h6 ·) rfl rfl rfl fun x5 h => art 7 [] rfl ?_
  refine ch h rfl ?_ ?_ <;> intro h
  ·refine att 4 [] rfl ?_
   exact rt hF h
  refine att 7 [] rfl ?_
  exact lb [] [] (ih1 (_, _) h)
 refine att 6 [] rfl ?_
 exact rt hF h
theorem m_l_FnExactSetOf_ok (w0 : Base Ψ Φ []) (p0 : TDef) (p1 : TMem) (p2 : TStore) (ph0_0 : RSl RTRule 5 Ψ pG0_0 pv0_0 p0.Rules) (ph1_0 : RSl RTIds 1 Ψ pG1_0 pv1_0 p1.Alphas) (ph1_1 : RSl RTRow 1 Ψ pG1_1 pv1_1 p1.Rules) (ph2_0 : RSl RTItem 3 Ψ pG2_0 pv2_0 p2.Items) {r : Bool} (h : m_l_FnExactSetOf N p0 p1 p2 = some r) :
  CB w0 prog 3 [.agg [.string p0.Name, pv0_0].toArray, .agg [pv1_0, pv1_1].toArray, .agg [pv2_0, iV p2.Next].toArray] (.bool r) := by
 refine eN func3 rfl ntmps3 rfl w0 fun hF => ?_
 unfold m_l_FnExactSetOf at h
 refine sr <| lbx rfl fun b_1 => lbx rfl fun b_2 => lbx rfl fun b_3 => arr 10 [66] rfl <| qd h (m_l_szDef_ok N · p0 1048576 ph0_0 ·) rfl rfl rfl fun x1 h => art 8 [] rfl ?_
 refine ch h rfl ?_ ?_ <;> intro h
 ·refine att 4 [] rfl ?_
  exact rt hF h
 refine atr 5 [34] rfl <| qd h (m_l_szMem_ok N · p1 x1 ph1_0 ph1_1 ·) rfl rfl rfl fun x2 h => art 8 [] rfl ?_
 refine ch h rfl ?_ ?_ <;> intro h
 ·refine att 4 [] rfl ?_
  exact rt hF h
 refine atr 5 [2] rfl <| qd h (m_l_szStore_ok N · p2 x2 ph2_0 ·) rfl rfl rfl fun x3 h => art 8 [] rfl ?_
 refine ch h rfl ?_ ?_ <;> intro h
 ·refine att 4 [] rfl ?_
  exact rt hF h
 refine att 2 [] rfl <| wm [0, 1, 2] [] rfl <| amm 3 [0, 66, 2, 34, 4, 2] [0, 1, 2] rfl rfl ?_
 obtain ⟨x4, hx4, h⟩ := bs h
 refine WM.one 1 (by kernel_rfl) (mc rfl (fun _ v Φx D w1 hq hw => Kn.of Kf.nil (ai3 0 1 2 rfl rfl rfl) hw) (k_call (js := []) (R := []) Fun_8 rfl rfl (fun w1 hw ap hl => m_l_toDef_ok N (ba hw.fro) p0 (ph0_0.y hw.up)  hx4)) rfl ?_)
 rintro v1 Φ_1 F1 ⟨ap1, fr1, v2, D1, rfl, rfl, h1⟩
 obtain ⟨x5, hx5, h⟩ := bs h
 refine WM.one 3 (by kernel_rfl) (mc rfl (fun _ v Φx D w1 hq hw => Kn.of Kf.nil (ai3 0 1 2 rfl rfl rfl) hw) (k_call (js := []) (R := [ob v2, D1]) Fun_9 rfl rfl (fun w1 hw ap hl => m_l_toMem_ok N (ba hw.fro) p1 (ph1_0.y hw.up) (ph1_1.y hw.up)  hx5)) rfl ?_)
 rintro v3 Φ_2 F2 ⟨ap2, fr2, v4, D2, v5, D3, rfl, rfl, h2, h3⟩
 replace h1 := h1.fr fr2 (ap2.q 0 rfl) (ap2.q 1 rfl)
 obtain ⟨x6, hx6, h⟩ := bs h
 refine WM.one 5 (by kernel_rfl) (mc rfl (fun _ v Φx D w1 hq hw => Kn.of Kf.nil (ai3 0 1 2 rfl rfl rfl) hw) (k_call (js := []) (R := [ob v4, D2, ob v5, D3, ob v2, D1]) Fun_10 rfl rfl (fun w1 hw ap hl => m_l_toStore_ok N (ba hw.fro) p2 (ph2_0.y hw.up)  hx6)) rfl ?_)
 rintro v6 Φ_3 F3 ⟨ap3, fr3, v7, D4, rfl, rfl, h4⟩
 replace h1 := h1.fr fr3 (ap3.q 4 rfl) (ap3.q 5 rfl)
 replace h2 := h2.fr fr3 (ap3.q 0 rfl) (ap3.q 1 rfl)
 replace h3 := h3.fr fr3 (ap3.q 2 rfl) (ap3.q 3 rfl)
 obtain ⟨x7, hx7, h⟩ := bs h
 refine WM.one 6 (by kernel_rfl) (mc rfl (fun _ v Φx D w1 hq hw => Kn.of Kf.nil (ai3 0 1 2 rfl rfl rfl) hw) (k_call (js := []) (R := [ob v7, D4, ob v4, D2, ob v5, D3, ob v2, D1]) Fun_7 rfl rfl (fun w1 hw ap hl => m_s_SetOf_ok N (ba hw.fro) x4 x5 x6 (h1.rslG OTRule.gives) (h2.rslG OTIds.gives) (h3.rslG OTRow.gives) (h4.rslG OTItem.gives)  hx7)) rfl ?_)
 rintro v8 Φ_4 F4 ⟨ap4, fr4, v9, D5, X1, rfl, rfl, h5, i1⟩
 refine amm 1 [7] [0, 1, 2] rfl rfl <| WM.nil (by kernel_rfl) <| atr 3 [66] rfl <| kab h rfl rfl rfl (fun b z q => m_l_toDef_ok N b p0 (ph0_0.y z) q) ?_
 rintro x9 h v10 Φ_5 F5 ⟨ap5, fr5, v11, D6, rfl, rfl, h6⟩
 replace h5 := h5.fr fr5 (ap5.q 0 rfl) (Dj.sub (ap5.q 1 rfl) i1)
 refine lnz Zr_39 rfl fun b_4 => soN 0 Sz_39 rfl ⟨rfl, h6.one, trivial⟩ rfl ?_
 refine arr 4 [66] rfl <| kab h rfl rfl rfl (fun b z q => m_l_toMem_ok N b p1 (ph1_0.y z) (ph1_1.y z) q) ?_
 rintro x10 h v12 Φ_6 F6 ⟨ap6, fr6, v13, D7, v14, D8, rfl, rfl, h7, h8⟩
 replace h5 := h5.fr fr6 (ap6.q 2 rfl) (Dj.sub (ap6.q 3 rfl) i1)
 replace h6 := h6.fr fr6 (ap6.q 0 rfl) (ap6.q 1 rfl)
 refine lnz Zr_44 rfl fun b_5 => soN 0 Sz_44 rfl ⟨h7.one, h8.one, trivial⟩ rfl ?_
 refine arr 4 [66] rfl <| kab h rfl rfl rfl (fun b z q => m_l_toStore_ok N b p2 (ph2_0.y z) q) ?_
 rintro x11 h v15 Φ_7 F7 ⟨ap7, fr7, v16, D9, rfl, rfl, h9⟩
 replace h5 := h5.fr fr7 (ap7.q 6 rfl) (Dj.sub (ap7.q 7 rfl) i1)
 replace h6 := h6.fr fr7 (ap7.q 4 rfl) (ap7.q 5 rfl)
 replace h7 := h7.fr fr7 (ap7.q 0 rfl) (ap7.q 1 rfl)
 replace h8 := h8.fr fr7 (ap7.q 2 rfl) (ap7.q 3 rfl)
 refine lnz Zr_48 rfl fun b_6 => soN 0 Sz_48 rfl ⟨h9.one, rfl, trivial⟩ rfl ?_
 refine arr 6 [66, 34, 2] rfl <| kab h rfl rfl rfl (fun b z q => m_i_SetOf_ok N b x9 x10 x11 (h6.rslG OTRule.gives) (h7.rslG OTIds.gives) (h8.rslG OTRow.gives) (h9.rslG OTItem.gives) q) ?_
 rintro x12 h v17 Φ_8 F8 ⟨ap8, fr8, v18, D10, rfl, rfl, h10⟩
 replace h5 := h5.fr fr8 (ap8.q 8 rfl) (Dj.sub (ap8.q 9 rfl) i1)
 replace h6 := h6.fr fr8 (ap8.q 6 rfl) (ap8.q 7 rfl)
 replace h7 := h7.fr fr8 (ap8.q 2 rfl) (ap8.q 3 rfl)
 replace h8 := h8.fr fr8 (ap8.q 4 rfl) (ap8.q 5 rfl)
 replace h9 := h9.fr fr8 (ap8.q 0 rfl) (ap8.q 1 rfl)
 refine arr 7 [] rfl <| qc h (m_l_eqMatchS_ok N · x12 x7 (h10.rslG OTMatch.gives) h5.rsl ·) rfl rfl rfl fun x13 h => la rfl <| en ?_
 refine ch h rfl ?_ ?_ <;> intro h
 ·refine att 4 [] rfl ?_
  exact rt hF h
 refine att 3 [] rfl <| wm [0, 1, 2, 3, 4, 5] [] rfl <| amm 2 [0, 66, 1, 162] [0, 1, 2, 3, 4, 5] rfl rfl ?_
 obtain ⟨x14, hx13, h⟩ := bs h
 refine WM.one 2 (by kernel_rfl) (mc rfl (fun _ v Φx D w1 hq hw => Kn.of Kf.nil (am [0, 1, 2, 3, 4, 5] rfl) hw) (k_call (js := []) (R := [ob v17, D10, ob v16, D9, ob v13, D7, ob v14, D8, ob v11, D6, ob v8, X1, ob v7, D4, ob v4, D2, ob v5, D3, ob v2, D1]) Fun_8 rfl rfl (fun w1 hw ap hl => m_l_toDef_ok N (ba hw.fro) p0 (ph0_0.y hw.up)  hx13)) rfl ?_)
 rintro v19 Φ_9 F9 ⟨ap9, fr9, v20, D11, rfl, rfl, h11⟩
 replace h10 := h10.fr fr9 (ap9.q 0 rfl) (ap9.q 1 rfl)
 replace h5 := h5.fr fr9 (ap9.q 10 rfl) (Dj.sub (ap9.q 11 rfl) i1)
 replace h6 := h6.fr fr9 (ap9.q 8 rfl) (ap9.q 9 rfl)
 replace h7 := h7.fr fr9 (ap9.q 4 rfl) (ap9.q 5 rfl)
 replace h8 := h8.fr fr9 (ap9.q 6 rfl) (ap9.q 7 rfl)
 replace h9 := h9.fr fr9 (ap9.q 2 rfl) (ap9.q 3 rfl)
 obtain ⟨x15, hx14, h⟩ := bs h
 refine on1 3 (mp rfl (kS [0, 1, 2, 3, 4, 5]) (pcP rfl (m_l_eqDef_ok N · x9 x14 (h6.rslG OTRule.gives) (h11.rslG OTRule.gives) hx14)) rfl ?_)
 refine amm 1 [4] [0, 1, 2, 3, 4, 5] rfl rfl <| WM.nil (by kernel_rfl) ?_
 refine ch h rfl ?_ ?_ <;> intro h
 ·refine att 4 [] rfl ?_
  exact rt hF h
 refine att 3 [] rfl <| wm [0, 1, 2, 3, 4, 5] [] rfl <| amm 2 [0, 34, 1, 130] [0, 1, 2, 3, 4, 5] rfl rfl ?_
 obtain ⟨x16, hx15, h⟩ := bs h
 refine WM.one 2 (by kernel_rfl) (mc rfl (fun _ v Φx D w1 hq hw => Kn.of Kf.nil (am [0, 1, 2, 3, 4, 5] rfl) hw) (k_call (js := []) (R := [ob v20, D11, ob v17, D10, ob v16, D9, ob v13, D7, ob v14, D8, ob v11, D6, ob v8, X1, ob v7, D4, ob v4, D2, ob v5, D3, ob v2, D1]) Fun_9 rfl rfl (fun w1 hw ap hl => m_l_toMem_ok N (ba hw.fro) p1 (ph1_0.y hw.up) (ph1_1.y hw.up)  hx15)) rfl ?_)
 rintro v21 Φ_10 F10 ⟨ap10, fr10, v22, D12, v23, D13, rfl, rfl, h12, h13⟩
 replace h10 := h10.fr fr10 (ap10.q 2 rfl) (ap10.q 3 rfl)
 replace h5 := h5.fr fr10 (ap10.q 12 rfl) (Dj.sub (ap10.q 13 rfl) i1)
 replace h6 := h6.fr fr10 (ap10.q 10 rfl) (ap10.q 11 rfl)
 replace h7 := h7.fr fr10 (ap10.q 6 rfl) (ap10.q 7 rfl)
 replace h8 := h8.fr fr10 (ap10.q 8 rfl) (ap10.q 9 rfl)
 replace h9 := h9.fr fr10 (ap10.q 4 rfl) (ap10.q 5 rfl)
 obtain ⟨x17, hx16, h⟩ := bs h
 refine on1 3 (mp rfl (kS [0, 1, 2, 3, 4, 5]) (pcP rfl (m_l_eqMem_ok N · x10 x16 (h7.rslG OTIds.gives) (h8.rslG OTRow.gives) (h12.rslG OTIds.gives) (h13.rslG OTRow.gives) hx16)) rfl ?_)
 refine amm 1 [4] [0, 1, 2, 3, 4, 5] rfl rfl <| WM.nil (by kernel_rfl) ?_
 refine ch h rfl ?_ ?_ <;> intro h
 ·refine att 4 [] rfl ?_
  exact rt hF h
 refine att 3 [] rfl <| wm [0, 1, 2, 3, 4, 5] [] rfl <| amm 2 [0, 2, 1, 98] [0, 1, 2, 3, 4, 5] rfl rfl ?_
 obtain ⟨x18, hx17, h⟩ := bs h
 refine WM.one 2 (by kernel_rfl) (mc rfl (fun _ v Φx D w1 hq hw => Kn.of Kf.nil (am [0, 1, 2, 3, 4, 5] rfl) hw) (k_call (js := []) (R := [ob v22, D12, ob v23, D13, ob v20, D11, ob v17, D10, ob v16, D9, ob v13, D7, ob v14, D8, ob v11, D6, ob v8, X1, ob v7, D4, ob v4, D2, ob v5, D3, ob v2, D1]) Fun_10 rfl rfl (fun w1 hw ap hl => m_l_toStore_ok N (ba hw.fro) p2 (ph2_0.y hw.up)  hx17)) rfl ?_)
 rintro v24 Φ_11 F11 ⟨ap11, fr11, v25, D14, rfl, rfl, h14⟩
 replace h10 := h10.fr fr11 (ap11.q 6 rfl) (ap11.q 7 rfl)
 replace h5 := h5.fr fr11 (ap11.q 16 rfl) (Dj.sub (ap11.q 17 rfl) i1)
 replace h6 := h6.fr fr11 (ap11.q 14 rfl) (ap11.q 15 rfl)
 replace h7 := h7.fr fr11 (ap11.q 10 rfl) (ap11.q 11 rfl)
 replace h8 := h8.fr fr11 (ap11.q 12 rfl) (ap11.q 13 rfl)
 replace h9 := h9.fr fr11 (ap11.q 8 rfl) (ap11.q 9 rfl)
 obtain ⟨x19, hx18, h⟩ := bs h
 refine on1 3 (mp rfl (kS [0, 1, 2, 3, 4, 5]) (pcP rfl (m_l_eqStore_ok N · x11 x18 (h9.rslG OTItem.gives) (h14.rslG OTItem.gives) hx18)) rfl ?_)
 refine amm 1 [4] [0, 1, 2, 3, 4, 5] rfl rfl <| WM.nil (by kernel_rfl) ?_
 refine ch h rfl ?_ ?_ <;> intro h
 ·refine att 4 [] rfl ?_
  exact rt hF h
 refine atr 9 [66] rfl <| kcb [16, 16] h rfl rfl rfl rfl (fun b ap z q => m_l_markDef_ok N b x9 1 h6 q) ?_
 rintro x20 h v26 Φ_12 F12 ⟨ap12, fr12, D15, rfl, rfl, h15⟩
 replace h10 := h10.fr fr12 (ap12.q 8 rfl) (ap12.q 9 rfl)
 replace h5 := h5.fr fr12 (ap12.q 16 rfl) (Dj.sub (ap12.q 17 rfl) i1)
 replace h7 := h7.fr fr12 (ap12.q 12 rfl) (ap12.q 13 rfl)
 replace h8 := h8.fr fr12 (ap12.q 14 rfl) (ap12.q 15 rfl)
 replace h9 := h9.fr fr12 (ap12.q 10 rfl) (ap12.q 11 rfl)
 refine arr 6 [34] rfl <| kcb [14, 14, 14, 14] h rfl rfl rfl rfl (fun b ap z q => m_l_markMem_ok N b x10 x20.1 h7 h8 q) ?_
 rintro x21 h v27 Φ_13 F13 ⟨ap13, fr13, D16, D17, rfl, rfl, h16, h17⟩
 replace h10 := h10.fr fr13 (ap13.q 10 rfl) (ap13.q 11 rfl)
 replace h5 := h5.fr fr13 (ap13.q 14 rfl) (Dj.sub (ap13.q 15 rfl) i1)
 replace h9 := h9.fr fr13 (ap13.q 12 rfl) (ap13.q 13 rfl)
 refine arr 6 [2] rfl <| kcb [16, 16] h rfl rfl rfl rfl (fun b ap z q => m_l_markStore_ok N b x11 x21.1 h9 q) ?_
 rintro x22 h v28 Φ_14 F14 ⟨ap14, fr14, D18, rfl, rfl, h18⟩
 replace h10 := h10.fr fr14 (ap14.q 14 rfl) (ap14.q 15 rfl)
 replace h5 := h5.fr fr14 (ap14.q 16 rfl) (Dj.sub (ap14.q 17 rfl) i1)
 refine arr 8 [] rfl ?_
 obtain ⟨b1, hb_1, h⟩ := bs h
 refine WL.cutN 5 [(84, .bool b1), (3, pQ b_1), (4, pQ b_2), (5, pQ b_3), (8, v8), (12, v17)] ?_ (fun K => ?_)
 rotate_left
 ·refine sp 79 hb_1 rfl (fun hb_1 => ?_) fun hb_1 => ?_
  ·refine arr 5 [] rfl ?_
   cases hb_1
   exact ku K
  ·refine arr 2 [] rfl <| ly rfl rfl <| qc hb_1 (m_l_eqMatchS_ok N · x12 x7 (h10.rslG OTMatch.gives) h5.rsl ·) rfl rfl rfl fun x23 hb_1 => arr 2 [] rfl ?_
   cases hb_1
   exact ku K
 refine en ?_
 refine ch h rfl ?_ ?_ <;> intro h
 ·refine att 4 [] rfl ?_
  exact rt hF h
 refine atr 9 [] rfl <| kcb [16, 16] h rfl rfl rfl rfl (fun b ap z q => m_l_markMatchS_ok N b x12 1 h10 q) ?_
 rintro x24 h v29 Φ_15 F15 ⟨ap15, fr15, D19, rfl, rfl, h19⟩
 replace h5 := h5.fr fr15 (ap15.q 16 rfl) (Dj.sub (ap15.q 17 rfl) i1)
 refine arr 10 [] rfl <| qc h (m_l_heldMatchS_ok N · x24.2 1 (h19.rslG OTMatch.gives) ·) rfl rfl rfl fun x25 h => art 8 [] rfl ?_
 refine ch h rfl ?_ ?_ <;> intro h
 ·refine att 4 [] rfl ?_
  exact rt hF h
 refine att 8 [] rfl ?_
 refine ch h rfl ?_ ?_ <;> intro h
 ·refine att 4 [] rfl ?_
  exact rt hF h
 refine att 2 [] rfl <| wm [0, 1, 2, 3, 4, 5] [] rfl <| amm 3 [0, 162, 2, 130, 4, 98] [0, 1, 2, 3, 4, 5] rfl rfl ?_
 obtain ⟨x26, hx25, h⟩ := bs h
 refine WM.one 1 (by kernel_rfl) (mc rfl (fun _ v Φx D w1 hq hw => Kn.of Kf.nil (am [0, 1, 2, 3, 4, 5] rfl) hw) (k_call (js := []) (R := [ob v17, D19, ob v16, D18, ob v13, D16, ob v14, D17, ob v11, D15, ob v25, D14, ob v22, D12, ob v23, D13, ob v20, D11, ob v8, X1, ob v7, D4, ob v4, D2, ob v5, D3, ob v2, D1]) Fun_8 rfl rfl (fun w1 hw ap hl => m_l_toDef_ok N (ba hw.fro) p0 (ph0_0.y hw.up)  hx25)) rfl ?_)
 rintro v30 Φ_16 F16 ⟨ap16, fr16, v31, D20, rfl, rfl, h20⟩
 replace h19 := h19.fr fr16 (ap16.q 0 rfl) (ap16.q 1 rfl)
 replace h5 := h5.fr fr16 (ap16.q 18 rfl) (Dj.sub (ap16.q 19 rfl) i1)
 obtain ⟨x27, hx26, h⟩ := bs h
 refine WM.one 3 (by kernel_rfl) (mc rfl (fun _ v Φx D w1 hq hw => Kn.of Kf.nil (am [0, 1, 2, 3, 4, 5] rfl) hw) (k_call (js := []) (R := [ob v31, D20, ob v17, D19, ob v16, D18, ob v13, D16, ob v14, D17, ob v11, D15, ob v25, D14, ob v22, D12, ob v23, D13, ob v20, D11, ob v8, X1, ob v7, D4, ob v4, D2, ob v5, D3, ob v2, D1]) Fun_9 rfl rfl (fun w1 hw ap hl => m_l_toMem_ok N (ba hw.fro) p1 (ph1_0.y hw.up) (ph1_1.y hw.up)  hx26)) rfl ?_)
 rintro v32 Φ_17 F17 ⟨ap17, fr17, v33, D21, v34, D22, rfl, rfl, h21, h22⟩
 replace h19 := h19.fr fr17 (ap17.q 2 rfl) (ap17.q 3 rfl)
 replace h20 := h20.fr fr17 (ap17.q 0 rfl) (ap17.q 1 rfl)
 replace h5 := h5.fr fr17 (ap17.q 20 rfl) (Dj.sub (ap17.q 21 rfl) i1)
 obtain ⟨x28, hx27, h⟩ := bs h
 refine WM.one 5 (by kernel_rfl) (mc rfl (fun _ v Φx D w1 hq hw => Kn.of Kf.nil (am [0, 1, 2, 3, 4, 5] rfl) hw) (k_call (js := []) (R := [ob v33, D21, ob v34, D22, ob v31, D20, ob v17, D19, ob v16, D18, ob v13, D16, ob v14, D17, ob v11, D15, ob v25, D14, ob v22, D12, ob v23, D13, ob v20, D11, ob v8, X1, ob v7, D4, ob v4, D2, ob v5, D3, ob v2, D1]) Fun_10 rfl rfl (fun w1 hw ap hl => m_l_toStore_ok N (ba hw.fro) p2 (ph2_0.y hw.up)  hx27)) rfl ?_)
 rintro v35 Φ_18 F18 ⟨ap18, fr18, v36, D23, rfl, rfl, h23⟩
 replace h19 := h19.fr fr18 (ap18.q 6 rfl) (ap18.q 7 rfl)
 replace h20 := h20.fr fr18 (ap18.q 4 rfl) (ap18.q 5 rfl)
 replace h21 := h21.fr fr18 (ap18.q 0 rfl) (ap18.q 1 rfl)
 replace h22 := h22.fr fr18 (ap18.q 2 rfl) (ap18.q 3 rfl)
 replace h5 := h5.fr fr18 (ap18.q 24 rfl) (Dj.sub (ap18.q 25 rfl) i1)
 obtain ⟨x29, hx28, h⟩ := bs h
 refine WM.one 6 (by kernel_rfl) (mc rfl (fun _ v Φx D w1 hq hw => Kn.of Kf.nil (am [0, 1, 2, 3, 4, 5] rfl) hw) (k_call (js := []) (R := [ob v36, D23, ob v33, D21, ob v34, D22, ob v31, D20, ob v17, D19, ob v16, D18, ob v13, D16, ob v14, D17, ob v11, D15, ob v25, D14, ob v22, D12, ob v23, D13, ob v20, D11, ob v8, X1, ob v7, D4, ob v4, D2, ob v5, D3, ob v2, D1]) Fun_11 rfl rfl (fun w1 hw ap hl => m_i_SetOf_ok N (ba hw.fro) x26 x27 x28 (h20.rslG OTRule.gives) (h21.rslG OTIds.gives) (h22.rslG OTRow.gives) (h23.rslG OTItem.gives)  hx28)) rfl ?_)
 rintro v37 Φ_19 F19 ⟨ap19, fr19, v38, D24, rfl, rfl, h24⟩
 replace h19 := h19.fr fr19 (ap19.q 8 rfl) (ap19.q 9 rfl)
 replace h5 := h5.fr fr19 (ap19.q 26 rfl) (Dj.sub (ap19.q 27 rfl) i1)
 refine amm 1 [7] [0, 1, 2, 3, 4, 5] rfl rfl <| WM.nil (by kernel_rfl) <| atr 5 [] rfl <| qc h (m_l_eqMatchS_ok N · x29 x7 (h24.rslG OTMatch.gives) h5.rsl ·) rfl rfl rfl fun x30 h => la rfl <| en ?_
 refine ch h rfl ?_ ?_ <;> intro h
 ·refine att 4 [] rfl ?_
  exact rt hF h
 refine atr 9 [] rfl <| qc h (m_l_heldMatchS_ok N · x24.2 1 (h19.rslG OTMatch.gives) ·) rfl rfl rfl fun x31 h => art 8 [] rfl ?_
 refine ch h rfl ?_ ?_ <;> intro h
 ·refine att 4 [] rfl ?_
  exact rt hF h
 refine att 8 [] rfl ?_
 refine ch h rfl ?_ ?_ <;> intro h
 ·refine att 4 [] rfl ?_
  exact rt hF h
 refine att 5 [] rfl ?_
 exact rt hF h
end Go.Proofs.YtjccaebpbieejaaGreat
