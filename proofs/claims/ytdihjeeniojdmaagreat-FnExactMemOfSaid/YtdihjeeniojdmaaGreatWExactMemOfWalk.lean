/- Printed by a program of ours: each Go function computes its Lean function. -/
import Derived.Test.YtdihjeeniojdmaaGreatProg
import Derived.Test.YtdihjeeniojdmaaGreatWExactMemOfWalk7
namespace Go.Proofs.YtdihjeeniojdmaaGreat
open Eng Tryz
open Go.RowKit (Below)
set_option linter.unusedVariables false
set_option linter.unusedSimpArgs false

set_option maxRecDepth 100000
set_option maxHeartbeats 1000000
variable {Ψ Φ : Hp} {pv0_0 pv1_0 : Value} {pG0_0 pG1_0 : List Nat} (N : Nat)
theorem m_l_FnExactMemOf_ok (w0 : Base Ψ Φ []) (p0 : TDef) (p1 : TStore) (ph0_0 : RSl RTRule 5 Ψ pG0_0 pv0_0 p0.Rules) (ph1_0 : RSl RTItem 3 Ψ pG1_0 pv1_0 p1.Items) {r : Bool} (h : m_l_FnExactMemOf N p0 p1 = some r) :
  CB w0 prog 11 [.agg [.string p0.Name, pv0_0].toArray, .agg [pv1_0, iV p1.Next].toArray] (.bool r) := by
 refine eN func11 rfl ntmps11 rfl w0 fun hF => ?_
 unfold m_l_FnExactMemOf at h
 refine sr <| lbx rfl fun b_1 => lbx rfl fun b_2 => arr 10 [34] rfl <| qd h (m_l_szDef_ok N · p0 1048576 ph0_0 ·) rfl rfl rfl fun x1 h => art 8 [] rfl ?_
 refine ch h rfl ?_ ?_ <;> intro h
 ·refine att 4 [] rfl ?_
  exact rt hF h
 refine atr 5 [2] rfl <| qd h (m_l_szStore_ok N · p1 x1 ph1_0 ·) rfl rfl rfl fun x2 h => art 8 [] rfl ?_
 refine ch h rfl ?_ ?_ <;> intro h
 ·refine att 4 [] rfl ?_
  exact rt hF h
 refine att 2 [] rfl ?_
 refine cut (σ := Hp × Nat × (List TIds) × Value × List Nat × (List TRow) × Value × List Nat) (fun s => [(2, pQ b_1), (3, pQ b_2), (6, .pointer (some ⟨s.2.1, 0, none⟩))]) (fun s => St w0 s.1 [(s.2.1, .cells #[s.2.2.2.1, s.2.2.2.2.2.2.1] 43 (0, 0)), (b_2, .cells #[pv1_0, iV p1.Next] 35 (0, 0)), (b_1, .cells #[.string p0.Name, pv0_0] 24 (0, 0))] [ob s.2.2.2.1, s.2.2.2.2.1, ob s.2.2.2.2.2.2.1, s.2.2.2.2.2.2.2]) (fun s => m_l_FnExactMemOf_j1 N p0 p1 s.2.2.1 s.2.2.2.2.2.1 = some r ∧ (OSl OTIds 77 1 s.1 s.2.2.2.2.1 s.2.2.2.1 s.2.2.1) ∧ (OSl OTRow 152 1 s.1 s.2.2.2.2.2.2.2 s.2.2.2.2.2.2.1 s.2.2.2.2.2.1)) (fun s hm => ?_) (fun K => ?_)
 ·clear h
  obtain ⟨Φ_4, b_4, s1, u1, D5, s2, u2, D6⟩ := s
  obtain ⟨h, k1, k2⟩ := hm
  dsimp only at h k1 k2 ⊢
  unfold m_l_FnExactMemOf_j1 at h
  refine atr 3 [66] rfl <| kab h rfl rfl rfl (fun b z q => m_l_toDef_ok N b p0 (ph0_0.y z) q) ?_
  rintro x6 h v8 Φ_5 F4 ⟨ap4, fr4, v9, D7, rfl, rfl, h5⟩
  replace k1 := k1.fr fr4 (ap4.q 0 rfl) (ap4.q 1 rfl)
  replace k2 := k2.fr fr4 (ap4.q 2 rfl) (ap4.q 3 rfl)
  refine lnz Zr_47 rfl fun b_5 => soN 0 Sz_47 rfl ⟨rfl, h5.one, trivial⟩ rfl ?_
  refine arr 4 [66] rfl <| kab h rfl rfl rfl (fun b z q => m_l_toStore_ok N b p1 (ph1_0.y z) q) ?_
  rintro x7 h v10 Φ_6 F5 ⟨ap5, fr5, v11, D8, rfl, rfl, h6⟩
  replace k1 := k1.fr fr5 (ap5.q 2 rfl) (ap5.q 3 rfl)
  replace k2 := k2.fr fr5 (ap5.q 4 rfl) (ap5.q 5 rfl)
  replace h5 := h5.fr fr5 (ap5.q 0 rfl) (ap5.q 1 rfl)
  refine lnz Zr_57 rfl fun b_6 => soN 0 Sz_57 rfl ⟨h6.one, rfl, trivial⟩ rfl ?_
  refine arr 5 [34, 2] rfl <| kab h rfl rfl rfl (fun b z q => m_i_MemOf_ok N b x6 x7 (h5.rslG OTRule.gives) (h6.rslG OTItem.gives) q) ?_
  rintro x8 h v12 Φ_7 F6 ⟨ap6, fr6, v13, D9, v14, D10, rfl, rfl, h7, h8⟩
  replace k1 := k1.fr fr6 (ap6.q 4 rfl) (ap6.q 5 rfl)
  replace k2 := k2.fr fr6 (ap6.q 6 rfl) (ap6.q 7 rfl)
  replace h5 := h5.fr fr6 (ap6.q 2 rfl) (ap6.q 3 rfl)
  replace h6 := h6.fr fr6 (ap6.q 0 rfl) (ap6.q 1 rfl)
  refine lnz Zr_43 rfl fun b_7 => soN 0 Sz_43 rfl ⟨h7.one, h8.one, trivial⟩ rfl ?_
  refine arr 6 [2, 98] rfl <| qc h (m_l_eqMem_ok N · x8 (⟨s1, s2⟩ : TMem) (h7.rslG OTIds.gives) (h8.rslG OTRow.gives) (k1.rslG OTIds.gives) (k2.rslG OTRow.gives) ·) rfl rfl rfl fun x9 h => la rfl <| en ?_
  refine ch h rfl ?_ ?_ <;> intro h
  ·refine att 4 [] rfl ?_
   exact rt hF h
  refine att 3 [] rfl <| wm [0, 1, 2, 3, 4, 5] [] rfl <| amm 2 [0, 66, 1, 162] [0, 1, 2, 3, 4, 5] rfl rfl ?_
  obtain ⟨x10, hx10, h⟩ := bs h
  refine WM.one 2 (by kernel_rfl) (mc rfl (fun _ v Φx D w1 hq hw => Kn.of Kf.nil (am [0, 1, 2, 3, 4, 5] rfl) hw) (k_call (js := []) (R := [ob v13, D9, ob v14, D10, ob v11, D8, ob v9, D7, ob u1, D5, ob u2, D6]) Fun_19 rfl rfl (fun w1 hw ap hl => m_l_toDef_ok N (ba hw.fro) p0 (ph0_0.y hw.up)  hx10)) rfl ?_)
  rintro v15 Φ_8 F7 ⟨ap7, fr7, v16, D11, rfl, rfl, h9⟩
  replace k1 := k1.fr fr7 (ap7.q 8 rfl) (ap7.q 9 rfl)
  replace k2 := k2.fr fr7 (ap7.q 10 rfl) (ap7.q 11 rfl)
  replace h5 := h5.fr fr7 (ap7.q 6 rfl) (ap7.q 7 rfl)
  replace h6 := h6.fr fr7 (ap7.q 4 rfl) (ap7.q 5 rfl)
  replace h7 := h7.fr fr7 (ap7.q 0 rfl) (ap7.q 1 rfl)
  replace h8 := h8.fr fr7 (ap7.q 2 rfl) (ap7.q 3 rfl)
  obtain ⟨x11, hx11, h⟩ := bs h
  refine on1 3 (mp rfl (kS [0, 1, 2, 3, 4, 5]) (pcP rfl (m_l_eqDef_ok N · x6 x10 (h5.rslG OTRule.gives) (h9.rslG OTRule.gives) hx11)) rfl ?_)
  refine amm 1 [4] [0, 1, 2, 3, 4, 5] rfl rfl <| WM.nil (by kernel_rfl) ?_
  refine ch h rfl ?_ ?_ <;> intro h
  ·refine att 4 [] rfl ?_
   exact rt hF h
  refine att 3 [] rfl <| wm [0, 1, 2, 3, 4, 5] [] rfl <| amm 2 [0, 34, 1, 130] [0, 1, 2, 3, 4, 5] rfl rfl ?_
  obtain ⟨x12, hx12, h⟩ := bs h
  refine WM.one 2 (by kernel_rfl) (mc rfl (fun _ v Φx D w1 hq hw => Kn.of Kf.nil (am [0, 1, 2, 3, 4, 5] rfl) hw) (k_call (js := []) (R := [ob v16, D11, ob v13, D9, ob v14, D10, ob v11, D8, ob v9, D7, ob u1, D5, ob u2, D6]) Fun_22 rfl rfl (fun w1 hw ap hl => m_l_toStore_ok N (ba hw.fro) p1 (ph1_0.y hw.up)  hx12)) rfl ?_)
  rintro v17 Φ_9 F8 ⟨ap8, fr8, v18, D12, rfl, rfl, h10⟩
  replace k1 := k1.fr fr8 (ap8.q 10 rfl) (ap8.q 11 rfl)
  replace k2 := k2.fr fr8 (ap8.q 12 rfl) (ap8.q 13 rfl)
  replace h5 := h5.fr fr8 (ap8.q 8 rfl) (ap8.q 9 rfl)
  replace h6 := h6.fr fr8 (ap8.q 6 rfl) (ap8.q 7 rfl)
  replace h7 := h7.fr fr8 (ap8.q 2 rfl) (ap8.q 3 rfl)
  replace h8 := h8.fr fr8 (ap8.q 4 rfl) (ap8.q 5 rfl)
  obtain ⟨x13, hx13, h⟩ := bs h
  refine on1 3 (mp rfl (kS [0, 1, 2, 3, 4, 5]) (pcP rfl (m_l_eqStore_ok N · x7 x12 (h6.rslG OTItem.gives) (h10.rslG OTItem.gives) hx13)) rfl ?_)
  refine amm 1 [4] [0, 1, 2, 3, 4, 5] rfl rfl <| WM.nil (by kernel_rfl) ?_
  refine ch h rfl ?_ ?_ <;> intro h
  ·refine att 4 [] rfl ?_
   exact rt hF h
  refine atr 9 [66] rfl <| kcb [10, 10] h rfl rfl rfl rfl (fun b ap z q => m_l_markDef_ok N b x6 1 h5 q) ?_
  rintro x14 h v19 Φ_10 F9 ⟨ap9, fr9, D13, rfl, rfl, h11⟩
  replace k1 := k1.fr fr9 (ap9.q 10 rfl) (ap9.q 11 rfl)
  replace k2 := k2.fr fr9 (ap9.q 12 rfl) (ap9.q 13 rfl)
  replace h6 := h6.fr fr9 (ap9.q 8 rfl) (ap9.q 9 rfl)
  replace h7 := h7.fr fr9 (ap9.q 4 rfl) (ap9.q 5 rfl)
  replace h8 := h8.fr fr9 (ap9.q 6 rfl) (ap9.q 7 rfl)
  refine arr 6 [34] rfl <| kcb [10, 10] h rfl rfl rfl rfl (fun b ap z q => m_l_markStore_ok N b x7 x14.1 h6 q) ?_
  rintro x15 h v20 Φ_11 F10 ⟨ap10, fr10, D14, rfl, rfl, h12⟩
  replace k1 := k1.fr fr10 (ap10.q 10 rfl) (ap10.q 11 rfl)
  replace k2 := k2.fr fr10 (ap10.q 12 rfl) (ap10.q 13 rfl)
  replace h7 := h7.fr fr10 (ap10.q 6 rfl) (ap10.q 7 rfl)
  replace h8 := h8.fr fr10 (ap10.q 8 rfl) (ap10.q 9 rfl)
  refine arr 8 [] rfl ?_
  obtain ⟨b1, hb_1, h⟩ := bs h
  refine WL.cutN 5 [(63, .bool b1), (2, pQ b_1), (3, pQ b_2), (6, pQ b_4), (9, pQ b_7)] ?_ (fun K => ?_)
  rotate_left
  ·refine sp 58 hb_1 rfl (fun hb_1 => ?_) fun hb_1 => ?_
   ·refine arr 5 [] rfl ?_
    cases hb_1
    exact ku K
   ·refine arr 2 [2, 98] rfl <| ly rfl rfl <| qc hb_1 (m_l_eqMem_ok N · x8 (⟨s1, s2⟩ : TMem) (h7.rslG OTIds.gives) (h8.rslG OTRow.gives) (k1.rslG OTIds.gives) (k2.rslG OTRow.gives) ·) rfl rfl rfl fun x16 hb_1 => arr 2 [] rfl ?_
    cases hb_1
    exact ku K
  refine en ?_
  refine ch h rfl ?_ ?_ <;> intro h
  ·refine att 4 [] rfl ?_
   exact rt hF h
  refine atr 9 [2] rfl <| kcb [8, 8, 8, 8] h rfl rfl rfl rfl (fun b ap z q => m_l_markMem_ok N b x8 1 h7 h8 q) ?_
  rintro x17 h v21 Φ_12 F11 ⟨ap11, fr11, D15, D16, rfl, rfl, h13, h14⟩
  replace k1 := k1.fr fr11 (ap11.q 8 rfl) (ap11.q 9 rfl)
  replace k2 := k2.fr fr11 (ap11.q 10 rfl) (ap11.q 11 rfl)
  refine arr 10 [2] rfl <| qc h (m_l_heldMem_ok N · (⟨x17.2.1, x17.2.2⟩ : TMem) 1 (h13.rslG OTIds.gives) (h14.rslG OTRow.gives) ·) rfl rfl rfl fun x18 h => art 8 [] rfl ?_
  refine ch h rfl ?_ ?_ <;> intro h
  ·refine att 4 [] rfl ?_
   exact rt hF h
  refine att 8 [] rfl ?_
  refine ch h rfl ?_ ?_ <;> intro h
  ·refine att 4 [] rfl ?_
   exact rt hF h
  refine att 2 [] rfl ?_
  refine cut (σ := Hp × Nat × (List TIds) × Value × List Nat × (List TRow) × Value × List Nat) (fun s => [(6, pQ b_4), (9, pQ b_7), (11, iV x17.1), (13, .pointer (some ⟨s.2.1, 0, none⟩))]) (fun s => St w0 s.1 [(s.2.1, .cells #[s.2.2.2.1, s.2.2.2.2.2.2.1] 43 (0, 0)), (b_7, .cells #[v13, v14] 43 (0, 0)), (b_4, .cells #[u1, u2] 43 (0, 0))] [ob s.2.2.2.1, s.2.2.2.2.1, ob s.2.2.2.2.2.2.1, s.2.2.2.2.2.2.2, ob v13, D15, ob v14, D16, ob u1, D5, ob u2, D6]) (fun s => m_l_FnExactMemOf_j2 N s1 s2 x17 s.2.2.1 s.2.2.2.2.2.1 = some r ∧ (OSl OTIds 77 1 s.1 s.2.2.2.2.1 s.2.2.2.1 s.2.2.1) ∧ (OSl OTRow 152 1 s.1 s.2.2.2.2.2.2.2 s.2.2.2.2.2.2.1 s.2.2.2.2.2.1) ∧ (OSl OTIds 77 1 s.1 D5 u1 s1) ∧ (OSl OTRow 152 1 s.1 D6 u2 s2) ∧ (OSl OTIds 77 1 s.1 D15 v13 x17.2.1) ∧ (OSl OTRow 152 1 s.1 D16 v14 x17.2.2)) (fun s hm => ?_) (fun K => ?_)
  ·clear h
   obtain ⟨Φ_16, b_9, s3, u3, D21, s4, u4, D22⟩ := s
   obtain ⟨h, k3, k4, k1, k2, h13, h14⟩ := hm
   dsimp only at h k3 k4 k1 k2 h13 h14 ⊢
   unfold m_l_FnExactMemOf_j2 at h
   refine atr 5 [2, 66] rfl <| qc h (m_l_eqMem_ok N · (⟨s3, s4⟩ : TMem) (⟨s1, s2⟩ : TMem) (k3.rslG OTIds.gives) (k4.rslG OTRow.gives) (k1.rslG OTIds.gives) (k2.rslG OTRow.gives) ·) rfl rfl rfl fun x22 h => la rfl <| en ?_
   refine ch h rfl ?_ ?_ <;> intro h
   ·refine att 4 [] rfl ?_
    exact rt hF h
   refine atr 9 [34] rfl <| qc h (m_l_heldMem_ok N · (⟨x17.2.1, x17.2.2⟩ : TMem) 1 (h13.rslG OTIds.gives) (h14.rslG OTRow.gives) ·) rfl rfl rfl fun x23 h => art 8 [] rfl ?_
   refine ch h rfl ?_ ?_ <;> intro h
   ·refine att 4 [] rfl ?_
    exact rt hF h
   refine att 8 [] rfl ?_
   refine ch h rfl ?_ ?_ <;> intro h
   ·refine att 4 [] rfl ?_
    exact rt hF h
   refine att 5 [] rfl ?_
   exact rt hF h
  refine wm [0, 1, 2, 3, 4, 5] [6] rfl <| amm 2 [0, 162, 2, 130] [0, 1, 2, 3, 4, 5] rfl rfl ?_
  refine WM.two 1 5 (by kernel_rfl) ?_ ?_
  ·obtain ⟨x24, hx24, h⟩ := bs h
   refine mc rfl (fun _ v Φx D w1 hq hw => Kn.of Kf.nil (am [0, 1, 2, 3, 4, 5] rfl) hw) (k_call (js := []) (R := [ob v13, D15, ob v14, D16, ob v11, D14, ob v9, D13, ob v18, D12, ob v16, D11, ob u1, D5, ob u2, D6]) Fun_19 rfl rfl (fun w1 hw ap hl => m_l_toDef_ok N (ba hw.fro) p0 (ph0_0.y hw.up)  hx24)) rfl ?_
   rintro v29 Φ_17 F15 ⟨ap15, fr15, v30, D23, rfl, rfl, h19⟩
   replace k1 := k1.fr fr15 (ap15.q 12 rfl) (ap15.q 13 rfl)
   replace k2 := k2.fr fr15 (ap15.q 14 rfl) (ap15.q 15 rfl)
   replace h13 := h13.fr fr15 (ap15.q 0 rfl) (ap15.q 1 rfl)
   replace h14 := h14.fr fr15 (ap15.q 2 rfl) (ap15.q 3 rfl)
   refine WM.two 3 5 (by kernel_rfl) ?_ ?_
   ·obtain ⟨x25, hx25, h⟩ := bs h
    refine mc rfl (fun _ v Φx D w1 hq hw => Kn.of Kf.nil (am [0, 1, 2, 3, 4, 5] rfl) hw) (k_call (js := []) (R := [ob v30, D23, ob v13, D15, ob v14, D16, ob v11, D14, ob v9, D13, ob v18, D12, ob v16, D11, ob u1, D5, ob u2, D6]) Fun_22 rfl rfl (fun w1 hw ap hl => m_l_toStore_ok N (ba hw.fro) p1 (ph1_0.y hw.up)  hx25)) rfl ?_
    rintro v31 Φ_18 F16 ⟨ap16, fr16, v32, D24, rfl, rfl, h20⟩
    replace h19 := h19.fr fr16 (ap16.q 0 rfl) (ap16.q 1 rfl)
    replace k1 := k1.fr fr16 (ap16.q 14 rfl) (ap16.q 15 rfl)
    replace k2 := k2.fr fr16 (ap16.q 16 rfl) (ap16.q 17 rfl)
    replace h13 := h13.fr fr16 (ap16.q 2 rfl) (ap16.q 3 rfl)
    replace h14 := h14.fr fr16 (ap16.q 4 rfl) (ap16.q 5 rfl)
    refine WM.two 4 5 (by kernel_rfl) ?_ ?_
    ·obtain ⟨x26, hx26, h⟩ := bs h
     refine mc rfl (fun _ v Φx D w1 hq hw => Kn.of Kf.nil (am [0, 1, 2, 3, 4, 5] rfl) hw) (k_call (js := []) (R := [ob v32, D24, ob v30, D23, ob v13, D15, ob v14, D16, ob v11, D14, ob v9, D13, ob v18, D12, ob v16, D11, ob u1, D5, ob u2, D6]) Fun_48 rfl rfl (fun w1 hw ap hl => m_i_MemOf_ok N (ba hw.fro) x24 x25 (h19.rslG OTRule.gives) (h20.rslG OTItem.gives)  hx26)) rfl ?_
     rintro v33 Φ_19 F17 ⟨ap17, fr17, v34, D25, v35, D26, rfl, rfl, h21, h22⟩
     replace k1 := k1.fr fr17 (ap17.q 16 rfl) (ap17.q 17 rfl)
     replace k2 := k2.fr fr17 (ap17.q 18 rfl) (ap17.q 19 rfl)
     replace h13 := h13.fr fr17 (ap17.q 4 rfl) (ap17.q 5 rfl)
     replace h14 := h14.fr fr17 (ap17.q 6 rfl) (ap17.q 7 rfl)
     refine on1 5 (mn rfl (kB [1, 2, 3, 4, 5, 6]) (nz Zr_43) rfl (fun b_10 => ?_))
     refine on1 6 (msN 0 rfl nk Sz_43 rfl ⟨h21.one, h22.one, trivial⟩ rfl rfl ?_)
     refine WM.nil (by kernel_rfl) ?_
     exact wo [0, 0, 0, 0, 4, 4, 4, 4, 12, 12, 12, 12] [0, 0, 2] (K (_, _, _, _, _, _, _, _) ⟨h, h21, h22, k1, k2, h13, h14⟩)
    refine mn rfl (fun _ b w1 hw => Kn.of Kf.nil (am [1, 2, 3, 4, 5, 6] rfl) hw) (nz Zr_43) rfl (fun b_11 => ?_)
    obtain ⟨x27, hx27, h⟩ := bs h
    refine WM.one 4 (by kernel_rfl) (mc rfl (fun _ v Φx D w1 hq hw => Kn.of Kf.nil (am [1, 2, 3, 4, 5, 6] rfl) hw) (k_call (js := []) (R := [ob v32, D24, ob v30, D23, ob v13, D15, ob v14, D16, ob v11, D14, ob v9, D13, ob v18, D12, ob v16, D11, ob u1, D5, ob u2, D6]) Fun_48 rfl rfl (fun w1 hw ap hl => m_i_MemOf_ok N (ba hw.fro) x24 x25 (h19.rslG OTRule.gives) (h20.rslG OTItem.gives)  hx27)) rfl ?_)
    rintro v36 Φ_20 F18 ⟨ap18, fr18, v37, D27, v38, D28, rfl, rfl, h23, h24⟩
    replace k1 := k1.fr fr18 (ap18.q 16 rfl) (ap18.q 17 rfl)
    replace k2 := k2.fr fr18 (ap18.q 18 rfl) (ap18.q 19 rfl)
    replace h13 := h13.fr fr18 (ap18.q 4 rfl) (ap18.q 5 rfl)
    replace h14 := h14.fr fr18 (ap18.q 6 rfl) (ap18.q 7 rfl)
    refine on1 6 (msN 0 rfl nk Sz_43 rfl ⟨h23.one, h24.one, trivial⟩ rfl rfl ?_)
    refine WM.nil (by kernel_rfl) ?_
    exact wo [0, 0, 0, 0, 4, 4, 4, 4, 12, 12, 12, 12] [0, 0, 2] (K (_, _, _, _, _, _, _, _) ⟨h, h23, h24, k1, k2, h13, h14⟩)
   refine mn rfl (fun _ b w1 hw => Kn.of Kf.nil (am [1, 2, 3, 4, 5, 6] rfl) hw) (nz Zr_43) rfl (fun b_12 => ?_)
   obtain ⟨x28, hx28, h⟩ := bs h
   refine WM.one 3 (by kernel_rfl) (mc rfl (fun _ v Φx D w1 hq hw => Kn.of Kf.nil (am [1, 2, 3, 4, 5, 6] rfl) hw) (k_call (js := []) (R := [ob v30, D23, ob v13, D15, ob v14, D16, ob v11, D14, ob v9, D13, ob v18, D12, ob v16, D11, ob u1, D5, ob u2, D6]) Fun_22 rfl rfl (fun w1 hw ap hl => m_l_toStore_ok N (ba hw.fro) p1 (ph1_0.y hw.up)  hx28)) rfl ?_)
   rintro v39 Φ_21 F19 ⟨ap19, fr19, v40, D29, rfl, rfl, h25⟩
   replace h19 := h19.fr fr19 (ap19.q 0 rfl) (ap19.q 1 rfl)
   replace k1 := k1.fr fr19 (ap19.q 14 rfl) (ap19.q 15 rfl)
   replace k2 := k2.fr fr19 (ap19.q 16 rfl) (ap19.q 17 rfl)
   replace h13 := h13.fr fr19 (ap19.q 2 rfl) (ap19.q 3 rfl)
   replace h14 := h14.fr fr19 (ap19.q 4 rfl) (ap19.q 5 rfl)
   obtain ⟨x29, hx29, h⟩ := bs h
   refine WM.one 4 (by kernel_rfl) (mc rfl (fun _ v Φx D w1 hq hw => Kn.of Kf.nil (am [1, 2, 3, 4, 5, 6] rfl) hw) (k_call (js := []) (R := [ob v40, D29, ob v30, D23, ob v13, D15, ob v14, D16, ob v11, D14, ob v9, D13, ob v18, D12, ob v16, D11, ob u1, D5, ob u2, D6]) Fun_48 rfl rfl (fun w1 hw ap hl => m_i_MemOf_ok N (ba hw.fro) x24 x28 (h19.rslG OTRule.gives) (h25.rslG OTItem.gives)  hx29)) rfl ?_)
   rintro v41 Φ_22 F20 ⟨ap20, fr20, v42, D30, v43, D31, rfl, rfl, h26, h27⟩
   replace k1 := k1.fr fr20 (ap20.q 16 rfl) (ap20.q 17 rfl)
   replace k2 := k2.fr fr20 (ap20.q 18 rfl) (ap20.q 19 rfl)
   replace h13 := h13.fr fr20 (ap20.q 4 rfl) (ap20.q 5 rfl)
   replace h14 := h14.fr fr20 (ap20.q 6 rfl) (ap20.q 7 rfl)
   refine on1 6 (msN 0 rfl nk Sz_43 rfl ⟨h26.one, h27.one, trivial⟩ rfl rfl ?_)
   refine WM.nil (by kernel_rfl) ?_
   exact wo [0, 0, 0, 0, 4, 4, 4, 4, 12, 12, 12, 12] [0, 0, 2] (K (_, _, _, _, _, _, _, _) ⟨h, h26, h27, k1, k2, h13, h14⟩)
  refine mn rfl (fun _ b w1 hw => Kn.of Kf.nil (am [1, 2, 3, 4, 5, 6] rfl) hw) (nz Zr_43) rfl (fun b_13 => ?_)
  obtain ⟨x30, hx30, h⟩ := bs h
  refine WM.one 1 (by kernel_rfl) (mc rfl (fun _ v Φx D w1 hq hw => Kn.of Kf.nil (am [1, 2, 3, 4, 5, 6] rfl) hw) (k_call (js := []) (R := [ob v13, D15, ob v14, D16, ob v11, D14, ob v9, D13, ob v18, D12, ob v16, D11, ob u1, D5, ob u2, D6]) Fun_19 rfl rfl (fun w1 hw ap hl => m_l_toDef_ok N (ba hw.fro) p0 (ph0_0.y hw.up)  hx30)) rfl ?_)
  rintro v44 Φ_23 F21 ⟨ap21, fr21, v45, D32, rfl, rfl, h28⟩
  replace k1 := k1.fr fr21 (ap21.q 12 rfl) (ap21.q 13 rfl)
  replace k2 := k2.fr fr21 (ap21.q 14 rfl) (ap21.q 15 rfl)
  replace h13 := h13.fr fr21 (ap21.q 0 rfl) (ap21.q 1 rfl)
  replace h14 := h14.fr fr21 (ap21.q 2 rfl) (ap21.q 3 rfl)
  obtain ⟨x31, hx31, h⟩ := bs h
  refine WM.one 3 (by kernel_rfl) (mc rfl (fun _ v Φx D w1 hq hw => Kn.of Kf.nil (am [1, 2, 3, 4, 5, 6] rfl) hw) (k_call (js := []) (R := [ob v45, D32, ob v13, D15, ob v14, D16, ob v11, D14, ob v9, D13, ob v18, D12, ob v16, D11, ob u1, D5, ob u2, D6]) Fun_22 rfl rfl (fun w1 hw ap hl => m_l_toStore_ok N (ba hw.fro) p1 (ph1_0.y hw.up)  hx31)) rfl ?_)
  rintro v46 Φ_24 F22 ⟨ap22, fr22, v47, D33, rfl, rfl, h29⟩
  replace h28 := h28.fr fr22 (ap22.q 0 rfl) (ap22.q 1 rfl)
  replace k1 := k1.fr fr22 (ap22.q 14 rfl) (ap22.q 15 rfl)
  replace k2 := k2.fr fr22 (ap22.q 16 rfl) (ap22.q 17 rfl)
  replace h13 := h13.fr fr22 (ap22.q 2 rfl) (ap22.q 3 rfl)
  replace h14 := h14.fr fr22 (ap22.q 4 rfl) (ap22.q 5 rfl)
  obtain ⟨x32, hx32, h⟩ := bs h
  refine WM.one 4 (by kernel_rfl) (mc rfl (fun _ v Φx D w1 hq hw => Kn.of Kf.nil (am [1, 2, 3, 4, 5, 6] rfl) hw) (k_call (js := []) (R := [ob v47, D33, ob v45, D32, ob v13, D15, ob v14, D16, ob v11, D14, ob v9, D13, ob v18, D12, ob v16, D11, ob u1, D5, ob u2, D6]) Fun_48 rfl rfl (fun w1 hw ap hl => m_i_MemOf_ok N (ba hw.fro) x30 x31 (h28.rslG OTRule.gives) (h29.rslG OTItem.gives)  hx32)) rfl ?_)
  rintro v48 Φ_25 F23 ⟨ap23, fr23, v49, D34, v50, D35, rfl, rfl, h30, h31⟩
  replace k1 := k1.fr fr23 (ap23.q 16 rfl) (ap23.q 17 rfl)
  replace k2 := k2.fr fr23 (ap23.q 18 rfl) (ap23.q 19 rfl)
  replace h13 := h13.fr fr23 (ap23.q 4 rfl) (ap23.q 5 rfl)
  replace h14 := h14.fr fr23 (ap23.q 6 rfl) (ap23.q 7 rfl)
  refine on1 6 (msN 0 rfl nk Sz_43 rfl ⟨h30.one, h31.one, trivial⟩ rfl rfl ?_)
  refine WM.nil (by kernel_rfl) ?_
  exact wo [0, 0, 0, 0, 4, 4, 4, 4, 12, 12, 12, 12] [0, 0, 2] (K (_, _, _, _, _, _, _, _) ⟨h, h30, h31, k1, k2, h13, h14⟩)
 refine wm [0, 1] [6] rfl <| amm 2 [0, 34, 2, 2] [0, 1] rfl rfl ?_
 refine WM.two 1 5 (by kernel_rfl) ?_ ?_
 ·obtain ⟨x33, hx33, h⟩ := bs h
  refine mc rfl (fun _ v Φx D w1 hq hw => Kn.of Kf.nil (ai2 0 1 rfl rfl) hw) (k_call (js := []) (R := []) Fun_19 rfl rfl (fun w1 hw ap hl => m_l_toDef_ok N (ba hw.fro) p0 (ph0_0.y hw.up)  hx33)) rfl ?_
  rintro v51 Φ_26 F24 ⟨ap24, fr24, v52, D36, rfl, rfl, h32⟩
  refine WM.two 3 5 (by kernel_rfl) ?_ ?_
  ·obtain ⟨x34, hx34, h⟩ := bs h
   refine mc rfl (fun _ v Φx D w1 hq hw => Kn.of Kf.nil (ai2 0 1 rfl rfl) hw) (k_call (js := []) (R := [ob v52, D36]) Fun_22 rfl rfl (fun w1 hw ap hl => m_l_toStore_ok N (ba hw.fro) p1 (ph1_0.y hw.up)  hx34)) rfl ?_
   rintro v53 Φ_27 F25 ⟨ap25, fr25, v54, D37, rfl, rfl, h33⟩
   replace h32 := h32.fr fr25 (ap25.q 0 rfl) (ap25.q 1 rfl)
   refine WM.two 4 5 (by kernel_rfl) ?_ ?_
   ·obtain ⟨x35, hx35, h⟩ := bs h
    refine mc rfl (fun _ v Φx D w1 hq hw => Kn.of Kf.nil (ai2 0 1 rfl rfl) hw) (k_call (js := []) (R := [ob v54, D37, ob v52, D36]) Fun_61 rfl rfl (fun w1 hw ap hl => m_s_MemOf_ok N (ba hw.fro) x33 x34 (h32.rslG OTRule.gives) (h33.rslG OTItem.gives)  hx35)) rfl ?_
    rintro v55 Φ_28 F26 ⟨ap26, fr26, v56, D38, v57, D39, rfl, rfl, h34, h35⟩
    refine on1 5 (mn rfl (kB [1, 2]) (nz Zr_43) rfl (fun b_14 => ?_))
    refine on1 6 (msN 0 rfl nk Sz_43 rfl ⟨h34.one, h35.one, trivial⟩ rfl rfl ?_)
    refine WM.nil (by kernel_rfl) ?_
    exact wo [0, 0, 0, 0] [0, 0, 0] (K (_, _, _, _, _, _, _, _) ⟨h, h34, h35⟩)
   refine mn rfl (fun _ b w1 hw => Kn.of Kf.nil (ai2 1 2 rfl rfl) hw) (nz Zr_43) rfl (fun b_15 => ?_)
   obtain ⟨x36, hx36, h⟩ := bs h
   refine WM.one 4 (by kernel_rfl) (mc rfl (fun _ v Φx D w1 hq hw => Kn.of Kf.nil (ai2 1 2 rfl rfl) hw) (k_call (js := []) (R := [ob v54, D37, ob v52, D36]) Fun_61 rfl rfl (fun w1 hw ap hl => m_s_MemOf_ok N (ba hw.fro) x33 x34 (h32.rslG OTRule.gives) (h33.rslG OTItem.gives)  hx36)) rfl ?_)
   rintro v58 Φ_29 F27 ⟨ap27, fr27, v59, D40, v60, D41, rfl, rfl, h36, h37⟩
   refine on1 6 (msN 0 rfl nk Sz_43 rfl ⟨h36.one, h37.one, trivial⟩ rfl rfl ?_)
   refine WM.nil (by kernel_rfl) ?_
   exact wo [0, 0, 0, 0] [0, 0, 0] (K (_, _, _, _, _, _, _, _) ⟨h, h36, h37⟩)
  refine mn rfl (fun _ b w1 hw => Kn.of Kf.nil (ai2 1 2 rfl rfl) hw) (nz Zr_43) rfl (fun b_16 => ?_)
  obtain ⟨x37, hx37, h⟩ := bs h
  refine WM.one 3 (by kernel_rfl) (mc rfl (fun _ v Φx D w1 hq hw => Kn.of Kf.nil (ai2 1 2 rfl rfl) hw) (k_call (js := []) (R := [ob v52, D36]) Fun_22 rfl rfl (fun w1 hw ap hl => m_l_toStore_ok N (ba hw.fro) p1 (ph1_0.y hw.up)  hx37)) rfl ?_)
  rintro v61 Φ_30 F28 ⟨ap28, fr28, v62, D42, rfl, rfl, h38⟩
  replace h32 := h32.fr fr28 (ap28.q 0 rfl) (ap28.q 1 rfl)
  obtain ⟨x38, hx38, h⟩ := bs h
  refine WM.one 4 (by kernel_rfl) (mc rfl (fun _ v Φx D w1 hq hw => Kn.of Kf.nil (ai2 1 2 rfl rfl) hw) (k_call (js := []) (R := [ob v62, D42, ob v52, D36]) Fun_61 rfl rfl (fun w1 hw ap hl => m_s_MemOf_ok N (ba hw.fro) x33 x37 (h32.rslG OTRule.gives) (h38.rslG OTItem.gives)  hx38)) rfl ?_)
  rintro v63 Φ_31 F29 ⟨ap29, fr29, v64, D43, v65, D44, rfl, rfl, h39, h40⟩
  refine on1 6 (msN 0 rfl nk Sz_43 rfl ⟨h39.one, h40.one, trivial⟩ rfl rfl ?_)
  refine WM.nil (by kernel_rfl) ?_
  exact wo [0, 0, 0, 0] [0, 0, 0] (K (_, _, _, _, _, _, _, _) ⟨h, h39, h40⟩)
 refine mn rfl (fun _ b w1 hw => Kn.of Kf.nil (ai2 1 2 rfl rfl) hw) (nz Zr_43) rfl (fun b_17 => ?_)
 obtain ⟨x39, hx39, h⟩ := bs h
 refine WM.one 1 (by kernel_rfl) (mc rfl (fun _ v Φx D w1 hq hw => Kn.of Kf.nil (ai2 1 2 rfl rfl) hw) (k_call (js := []) (R := []) Fun_19 rfl rfl (fun w1 hw ap hl => m_l_toDef_ok N (ba hw.fro) p0 (ph0_0.y hw.up)  hx39)) rfl ?_)
 rintro v66 Φ_32 F30 ⟨ap30, fr30, v67, D45, rfl, rfl, h41⟩
 obtain ⟨x40, hx40, h⟩ := bs h
 refine WM.one 3 (by kernel_rfl) (mc rfl (fun _ v Φx D w1 hq hw => Kn.of Kf.nil (ai2 1 2 rfl rfl) hw) (k_call (js := []) (R := [ob v67, D45]) Fun_22 rfl rfl (fun w1 hw ap hl => m_l_toStore_ok N (ba hw.fro) p1 (ph1_0.y hw.up)  hx40)) rfl ?_)
 rintro v68 Φ_33 F31 ⟨ap31, fr31, v69, D46, rfl, rfl, h42⟩
 replace h41 := h41.fr fr31 (ap31.q 0 rfl) (ap31.q 1 rfl)
 obtain ⟨x41, hx41, h⟩ := bs h
 refine WM.one 4 (by kernel_rfl) (mc rfl (fun _ v Φx D w1 hq hw => Kn.of Kf.nil (ai2 1 2 rfl rfl) hw) (k_call (js := []) (R := [ob v69, D46, ob v67, D45]) Fun_61 rfl rfl (fun w1 hw ap hl => m_s_MemOf_ok N (ba hw.fro) x39 x40 (h41.rslG OTRule.gives) (h42.rslG OTItem.gives)  hx41)) rfl ?_)
 rintro v70 Φ_34 F32 ⟨ap32, fr32, v71, D47, v72, D48, rfl, rfl, h43, h44⟩
 refine on1 6 (msN 0 rfl nk Sz_43 rfl ⟨h43.one, h44.one, trivial⟩ rfl rfl ?_)
 refine WM.nil (by kernel_rfl) ?_
 exact wo [0, 0, 0, 0] [0, 0, 0] (K (_, _, _, _, _, _, _, _) ⟨h, h43, h44⟩)
end Go.Proofs.YtdihjeeniojdmaaGreat
