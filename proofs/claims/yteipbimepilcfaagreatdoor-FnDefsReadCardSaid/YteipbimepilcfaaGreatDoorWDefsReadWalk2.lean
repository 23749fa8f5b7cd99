/- Printed by a program of ours: each Go function computes its Lean function. -/
import Derived.Test.YteipbimepilcfaaGreatDoorProg
import Derived.Test.YteipbimepilcfaaGreatDoorWDefsReadWalk1
namespace Go.Proofs.YteipbimepilcfaaGreatDoor
open Eng Tryz
open Go.RowKit (Below)
set_option linter.unusedVariables false
set_option linter.unusedSimpArgs false

set_option maxRecDepth 100000
set_option maxHeartbeats 1000000
variable {Ψ Φ : Hp} {pv0_0 pv0_1 pv0_2 pvc0_0 pvt1_0 pvt0_0 pv1_0 : Value} {pG0_0 pG0_1 pG0_2 pGt1_0 : List Nat} {pb0 pbc0 pbt1 pbc1 pbt0 pb1 : Nat} (N : Nat)
theorem m_i_ActText_ok (w0 : Base Ψ Φ []) (p0 : TAct) (hT : Tab Ψ) (ph0_0 : RSl RTExpr 11 Ψ pG0_0 pv0_0 p0.Args) {r : ByteArray} (h : m_i_ActText N p0 = some r) :
  CB w0 prog 86 [.agg [iV p0.Kind, .string p0.Name, pv0_0, iV p0.N, .string p0.Undo].toArray] (.string r) := by
 refine eN func86 rfl ntmps86 rfl w0 fun hF => ?_
 unfold m_i_ActText at h
 refine sr <| lbx rfl fun b_1 => arr 6 [5] rfl <| qd h (m_i_ActOk_ok N · p0 ph0_0 ·) rfl rfl rfl fun x1 h => la rfl <| en ?_
 refine ch h rfl ?_ ?_ <;> intro h
 ·refine att 4 [] rfl ?_
  exact rt hF h
 refine att 13 [0, 0] rfl ?_
 refine ch h rfl ?_ ?_ <;> intro h
 ·refine atr 3 [5] rfl <| qd h (m_i_callText_ok N · p0 hT ph0_0 ·) rfl rfl rfl fun x2 h => ?_
  obtain ⟨z1, hz1, h⟩ := bs h
  refine lq (q_cat rfl rfl hz1) rfl <| la rfl <| en ?_
  exact rt hF h
 refine att 5 [] rfl ?_
 refine ch h rfl ?_ ?_ <;> intro h
 ·refine atr 4 [3, 0] rfl <| qd h (m_strconv_Itoa_ok N · p0.N hT ·) rfl rfl rfl fun x3 h => ?_
  obtain ⟨z2, hz2, h⟩ := bs h
  refine lq (q_cat rfl rfl hz2) rfl <| la rfl <| en ?_
  exact rt hF h
 refine att 5 [] rfl ?_
 refine ch h rfl ?_ ?_ <;> intro h
 ·refine att 7 [4, 0] rfl ?_
  refine ch h rfl ?_ ?_ <;> intro h
  ·refine sq <| WT.draw mixed (by kernel_rfl) (fun _ h => h.drew) <| qq (q_loadN Tn_66 rfl (fun w1 hw => hw.rgO (i := 0) rfl 0 5 [iV p0.Kind, .string p0.Name, pv0_0, iV p0.N, .string p0.Undo] rfl) rfl) rfl ?_
   obtain ⟨x4, hx4, h⟩ := bs h
   refine qp (p_call Fun_149 rfl (fun w1 hw => m_i_callText_ok N (ba hw.in0) p0 hT ph0_0 hx4)) rfl ?_
   obtain ⟨z3, hz3, h⟩ := bs h
   refine qq (q_cat rfl rfl hz3) rfl ?_
   obtain ⟨z4, hz4, h⟩ := bs h
   refine qq (q_cat rfl rfl hz4) rfl <| aqq 2 [4, 0] rfl ?_
   obtain ⟨z5, hz5, h⟩ := bs h
   refine qq (q_cat rfl rfl hz5) rfl <| aqt 2 [] rfl ?_
   exact rt hF h
  refine atr 4 [5] rfl <| qd h (m_i_callText_ok N · p0 hT ph0_0 ·) rfl rfl rfl fun x5 h => ?_
  obtain ⟨z6, hz6, h⟩ := bs h
  refine lq (q_cat rfl rfl hz6) rfl <| la rfl <| en ?_
  exact rt hF h
 refine att 5 [] rfl ?_
 refine ch h rfl ?_ ?_ <;> intro h
 ·refine sq <| WT.draw mixed (by kernel_rfl) (fun _ h => h.drew) <| aqq 2 [3, 0] rfl ?_
  obtain ⟨x6, hx6, h⟩ := bs h
  refine qp (p_call Fun_87 rfl (fun w1 hw => m_strconv_Itoa_ok N (ba hw.in0) p0.N hT hx6)) rfl ?_
  obtain ⟨z7, hz7, h⟩ := bs h
  refine qq (q_cat rfl rfl hz7) rfl ?_
  obtain ⟨z8, hz8, h⟩ := bs h
  refine qq (q_cat rfl rfl hz8) rfl <| qq (q_loadN Tn_66 rfl (fun w1 hw => hw.rgO (i := 0) rfl 0 5 [iV p0.Kind, .string p0.Name, pv0_0, iV p0.N, .string p0.Undo] rfl) rfl) rfl ?_
  obtain ⟨x7, hx7, h⟩ := bs h
  refine qp (p_call Fun_149 rfl (fun w1 hw => m_i_callText_ok N (ba hw.in0) p0 hT ph0_0 hx7)) rfl ?_
  obtain ⟨z9, hz9, h⟩ := bs h
  refine qq (q_cat rfl rfl hz9) rfl <| aqt 2 [] rfl ?_
  exact rt hF h
 refine att 5 [] rfl ?_
 refine ch h rfl ?_ ?_ <;> intro h
 ·refine att 4 [] rfl ?_
  exact rt hF h
 refine att 6 [] rfl ?_
 exact rt hF h
theorem m_i_ruleText_ok (w0 : Base Ψ Φ []) (p0 : TRule) (hT : Tab Ψ) (ph0_0 : RSl RTPat 3 Ψ pG0_0 pv0_0 p0.Pats) (ph0_1 : RSl RTCond 11 Ψ pG0_1 pv0_1 p0.Conds) (ph0_2 : RSl RTAct 5 Ψ pG0_2 pv0_2 p0.Acts) {r : ByteArray} (h : m_i_ruleText N p0 = some r) :
  CB w0 prog 38 [.agg [.string p0.Name, iV p0.Sal, pv0_0, pv0_1, pv0_2].toArray] (.string r) := by
 refine eN func38 rfl ntmps38 rfl w0 fun hF => ?_
 unfold m_i_ruleText at h
 refine sr <| lbx rfl fun b_1 => arr 13 [2, 0] rfl <| lnr ph0_0 rfl <| art 3 [] rfl <| wtS ?_
 have k1 := OSl.nil RS 9 1 Φ
 refine lin (σ := Hp × (List ByteArray) × Value × Int) (fun s => [(1, pQ b_1), (3, s.2.2.1), (4, .slice none 0 0), (5, .slice none 0 0), (14, pv0_0), (15, iV (p0.Pats.length : Int)), (16, iV s.2.2.2)]) (fun s => St w0 s.1 [(b_1, .cells #[.string p0.Name, iV p0.Sal, pv0_0, pv0_1, pv0_2] 28 (0, 0))] [ob s.2.2.1]) (fun m s => m_i_ruleText_l1 N p0 m s.2.1 s.2.2.2 = some r ∧ (OSl RS 9 1 s.1 [] s.2.2.1 s.2.1)) (Φ, ([] : List ByteArray), (.slice none 0 0), 0) N ⟨h, k1⟩ (sx [0] [0]) (fun n1 ih1 s hm => ?_)
 obtain ⟨Φ_1, s1, u1, s2⟩ := s
 obtain ⟨h, k2⟩ := hm
 dsimp only at h k2 ⊢
 unfold m_i_ruleText_l1 at h
 refine att 5 [] rfl ?_
 refine ch h rfl ?_ ?_ <;> intro h
 ·refine atr 5 [] rfl ?_
  obtain ⟨x1, hx1, h⟩ := bs h
  obtain ⟨cs1, F1, -, g1, hb1, hs1, r1⟩ := ph0_0.el (idx_some hx1).2.2
  obtain ⟨v1, G1, rfl, hq1, h1⟩ := r1
  obtain rfl := hq1.symm
  refine lia ph0_0 hx1 rfl <| lhx 0 3 g1 rfl <| lnz Zr_35 rfl fun b_2 => soN 0 Sz_35 rfl ⟨rfl, h1.one, rfl, trivial⟩ rfl ?_
  refine arr 4 [3] rfl <| qd h (m_i_PatText_ok N · x1 hT h1 ·) rfl rfl rfl fun x2 h => ?_
  have rc1 : RC RS 1 Φ_1 ([[]] : List (List Nat)) [.string x2] ([x2] : List ByteArray) := RC.cons (c := [.string x2]) (cells := []) ⟨rfl, rfl⟩ rfl (RC.nil _ _ _)
  refine le' (e_lit (vs := [(0, .string x2)]) (C := #[.string x2]) RS.lasts Sl_68 Zr_9 rfl rfl rfl rfl (fill_made MC_9_1 (fill_cons (C' := [.string x2]) rfl rfl rfl rfl rfl (fill_nil))) rfl rc1 rfl (by simpa using Kw.nil)) rfl ?_
  rintro v2 Φ_2 D1 ⟨fr1, h2⟩
  replace h2 : OSl RS 9 1 Φ_2 [] v2 ([x2] : List ByteArray) := by simpa using h2
  replace k2 := k2.f0 fr1
  obtain ⟨x3, hx3, h⟩ := bs h
  refine le' (e_appF RS.lasts RS.one RS.flat Sl_68 Ei_9 rfl rfl rfl rfl rfl (js := [1]) (Rr := [ob v2]) rfl k2 h2.rsl hx3) rfl ?_
  rintro v3 Φ_3 D2 ⟨⟨ap1, fr2⟩, h3⟩
  refine art 7 [] rfl ?_
  exact lb [0] [1] (ih1 (_, _, _, _) ⟨h, h3⟩)
 refine atr 6 [3, 0] rfl <| lnr ph0_1 rfl <| art 3 [] rfl <| wtS ?_
 have k3 := OSl.nil RS 9 1 Φ_1
 refine lin (σ := Hp × (List ByteArray) × Value × Int) (fun s => [(1, pQ b_1), (3, u1), (4, s.2.2.1), (5, .slice none 0 0), (27, pv0_1), (28, iV (p0.Conds.length : Int)), (29, iV s.2.2.2)]) (fun s => St w0 s.1 [(b_1, .cells #[.string p0.Name, iV p0.Sal, pv0_0, pv0_1, pv0_2] 28 (0, 0))] [ob s.2.2.1, ob u1]) (fun m s => m_i_ruleText_l2 N p0 s1 m s.2.1 s.2.2.2 = some r ∧ (OSl RS 9 1 s.1 [] u1 s1) ∧ (OSl RS 9 1 s.1 [] s.2.2.1 s.2.1)) (Φ_1, ([] : List ByteArray), (.slice none 0 0), 0) N ⟨h, k2, k3⟩ (sx [0, 0] [0]) (fun n2 ih2 s hm => ?_)
 obtain ⟨Φ_4, s3, u2, s4⟩ := s
 obtain ⟨h, k2, k4⟩ := hm
 dsimp only at h k2 k4 ⊢
 unfold m_i_ruleText_l2 at h
 refine att 5 [] rfl ?_
 refine ch h rfl ?_ ?_ <;> intro h
 ·refine atr 5 [] rfl ?_
  obtain ⟨x4, hx4, h⟩ := bs h
  obtain ⟨cs2, F2, -, g2, hb2, hs2, r2⟩ := ph0_1.el (idx_some hx4).2.2
  obtain ⟨rfl, -⟩ := r2
  refine lia ph0_1 hx4 rfl <| lhx 0 11 g2 rfl <| lnz Zr_62 rfl fun b_3 => soN 0 Sz_62 rfl ⟨rfl, rfl, rfl, rfl, rfl, rfl, rfl, rfl, rfl, rfl, rfl, trivial⟩ rfl ?_
  refine arr 4 [11] rfl <| qd h (m_i_CondText_ok N · x4 hT ·) rfl rfl rfl fun x5 h => ?_
  have rc2 : RC RS 1 Φ_4 ([[]] : List (List Nat)) [.string x5] ([x5] : List ByteArray) := RC.cons (c := [.string x5]) (cells := []) ⟨rfl, rfl⟩ rfl (RC.nil _ _ _)
  refine le' (e_lit (vs := [(0, .string x5)]) (C := #[.string x5]) RS.lasts Sl_68 Zr_9 rfl rfl rfl rfl (fill_made MC_9_1 (fill_cons (C' := [.string x5]) rfl rfl rfl rfl rfl (fill_nil))) rfl rc2 rfl (by simpa using Kw.nil)) rfl ?_
  rintro v4 Φ_5 D3 ⟨fr3, h4⟩
  replace h4 : OSl RS 9 1 Φ_5 [] v4 ([x5] : List ByteArray) := by simpa using h4
  replace k2 := k2.f0 fr3
  replace k4 := k4.f0 fr3
  obtain ⟨x6, hx6, h⟩ := bs h
  refine le' (e_appF RS.lasts RS.one RS.flat Sl_68 Ei_9 rfl rfl rfl rfl rfl (js := [1]) (Rr := [ob v4, ob u1]) rfl k4 h4.rsl hx6) rfl ?_
  rintro v5 Φ_6 D4 ⟨⟨ap2, fr4⟩, h5⟩
  replace k2 := k2.fr fr4 (ap2.q 1 rfl) dN
  refine art 7 [] rfl ?_
  exact lb [0, 1] [1] (ih2 (_, _, _, _) ⟨h, k2, h5⟩)
 refine atr 6 [4, 0] rfl <| lnr ph0_2 rfl <| art 3 [] rfl <| wtS ?_
 have k5 := OSl.nil RS 9 1 Φ_4
 refine lin (σ := Hp × (List ByteArray) × Value × Int) (fun s => [(1, pQ b_1), (3, u1), (4, u2), (5, s.2.2.1), (40, pv0_2), (41, iV (p0.Acts.length : Int)), (42, iV s.2.2.2)]) (fun s => St w0 s.1 [(b_1, .cells #[.string p0.Name, iV p0.Sal, pv0_0, pv0_1, pv0_2] 28 (0, 0))] [ob s.2.2.1, ob u2, ob u1]) (fun m s => m_i_ruleText_l3 N p0 s1 s3 m s.2.1 s.2.2.2 = some r ∧ (OSl RS 9 1 s.1 [] u1 s1) ∧ (OSl RS 9 1 s.1 [] u2 s3) ∧ (OSl RS 9 1 s.1 [] s.2.2.1 s.2.1)) (Φ_4, ([] : List ByteArray), (.slice none 0 0), 0) N ⟨h, k2, k4, k5⟩ (sx [0, 0, 0] [0]) (fun n3 ih3 s hm => ?_)
 obtain ⟨Φ_7, s5, u3, s6⟩ := s
 obtain ⟨h, k2, k4, k6⟩ := hm
 dsimp only at h k2 k4 k6 ⊢
 unfold m_i_ruleText_l3 at h
 refine att 5 [] rfl ?_
 refine ch h rfl ?_ ?_ <;> intro h
 ·refine atr 5 [] rfl ?_
  obtain ⟨x7, hx7, h⟩ := bs h
  obtain ⟨cs3, F3, -, g3, hb3, hs3, r3⟩ := ph0_2.el (idx_some hx7).2.2
  obtain ⟨v6, G2, rfl, hq2, h6⟩ := r3
  obtain rfl := hq2.symm
  refine lia ph0_2 hx7 rfl <| lhx 0 5 g3 rfl <| lnz Zr_66 rfl fun b_4 => soN 0 Sz_66 rfl ⟨rfl, rfl, h6.one, rfl, rfl, trivial⟩ rfl ?_
  refine arr 4 [5] rfl <| qd h (m_i_ActText_ok N · x7 hT h6 ·) rfl rfl rfl fun x8 h => ?_
  have rc3 : RC RS 1 Φ_7 ([[]] : List (List Nat)) [.string x8] ([x8] : List ByteArray) := RC.cons (c := [.string x8]) (cells := []) ⟨rfl, rfl⟩ rfl (RC.nil _ _ _)
  refine le' (e_lit (vs := [(0, .string x8)]) (C := #[.string x8]) RS.lasts Sl_68 Zr_9 rfl rfl rfl rfl (fill_made MC_9_1 (fill_cons (C' := [.string x8]) rfl rfl rfl rfl rfl (fill_nil))) rfl rc3 rfl (by simpa using Kw.nil)) rfl ?_
  rintro v7 Φ_8 D5 ⟨fr5, h7⟩
  replace h7 : OSl RS 9 1 Φ_8 [] v7 ([x8] : List ByteArray) := by simpa using h7
  replace k2 := k2.f0 fr5
  replace k4 := k4.f0 fr5
  replace k6 := k6.f0 fr5
  obtain ⟨x9, hx9, h⟩ := bs h
  refine le' (e_appF RS.lasts RS.one RS.flat Sl_68 Ei_9 rfl rfl rfl rfl rfl (js := [1]) (Rr := [ob v7, ob u2, ob u1]) rfl k6 h7.rsl hx9) rfl ?_
  rintro v8 Φ_9 D6 ⟨⟨ap3, fr6⟩, h8⟩
  replace k2 := k2.fr fr6 (ap3.q 2 rfl) dN
  replace k4 := k4.fr fr6 (ap3.q 1 rfl) dN
  refine art 7 [] rfl ?_
  exact lb [0, 1, 1] [1] (ih3 (_, _, _, _) ⟨h, k2, k4, h8⟩)
 refine xt rfl <| sq <| WT.draw mixed (by kernel_rfl) (fun _ h => h.drew) <| aqq 2 [0, 0] rfl ?_
 obtain ⟨z1, hz1, h⟩ := bs h
 refine qq (q_cat rfl rfl hz1) rfl ?_
 obtain ⟨z2, hz2, h⟩ := bs h
 refine qq (q_cat rfl rfl hz2) rfl <| aqq 2 [1, 0] rfl ?_
 obtain ⟨x10, hx10, h⟩ := bs h
 refine qp (p_call Fun_87 rfl (fun w1 hw => m_strconv_Itoa_ok N (ba hw.in0) p0.Sal hT hx10)) rfl ?_
 obtain ⟨z3, hz3, h⟩ := bs h
 refine qq (q_cat rfl rfl hz3) rfl ?_
 obtain ⟨z4, hz4, h⟩ := bs h
 refine qq (q_cat rfl rfl hz4) rfl <| qq (q_move rfl) rfl ?_
 obtain ⟨x11, hx11, h⟩ := bs h
 refine qp (p_call Fun_88 rfl (fun w1 hw => m_strings_Join_ok N (ba hw.fro) s1 (⟨#[44, 32]⟩ : ByteArray) k2.rsl hx11)) rfl ?_
 obtain ⟨z5, hz5, h⟩ := bs h
 refine qq (q_cat rfl rfl hz5) rfl <| aqr 6 [] rfl <| lno k4 rfl <| la rfl <| en ?_
 refine cut (σ := ByteArray) (fun s => [(5, u3), (12, .string s)]) (fun s => St w0 Φ_7 [] [ob u3]) (fun s => m_i_ruleText_j4 N s5 s = some r) (fun s hm => ?_) (fun K => ?_)
 ·clear h
  revert hm; revert s; intro s7 hm
  have h : m_i_ruleText_j4 N s5 s7 = some r := hm
  show WT _ _ [(5, u3), (12, .string s7)] (St w0 Φ_7 [] [ob u3])
  unfold m_i_ruleText_j4 at h
  refine sr <| la rfl ?_
  obtain ⟨z6, hz6, h⟩ := bs h
  refine lq (q_cat rfl rfl hz6) rfl <| la rfl <| qc h (m_strings_Join_ok N · s5 (⟨#[44, 32]⟩ : ByteArray) k6.rsl ·) rfl rfl rfl fun x12 h => ?_
  obtain ⟨z7, hz7, h⟩ := bs h
  refine lq (q_cat rfl rfl hz7) rfl ?_
  obtain ⟨z8, hz8, h⟩ := bs h
  refine lq (q_cat rfl rfl hz8) rfl <| la rfl <| en ?_
  exact rt hF h
 refine ch h rfl ?_ ?_ <;> intro h
 ·refine atr 3 [] rfl <| qc h (m_strings_Join_ok N · s3 (⟨#[44, 32]⟩ : ByteArray) k4.rsl ·) rfl rfl rfl fun x13 h => ?_
  obtain ⟨z9, hz9, h⟩ := bs h
  refine lq (q_cat rfl rfl hz9) rfl ?_
  obtain ⟨z10, hz10, h⟩ := bs h
  refine lq (q_cat rfl rfl hz10) rfl <| la rfl <| en ?_
  exact wo [0] [] (K _ h)
 refine WT.skip ?_
 exact wo [0] [] (K _ h)
theorem m_i_DefText_ok {Ψ Φ : Hp} {pv0_0 : Value} {pG0_0 : List Nat} (N : Nat) (w0 : Base Ψ Φ []) (p0 : TDef) (hT : Tab Ψ) (ph0_0 : RSl RTRule 5 Ψ pG0_0 pv0_0 p0.Rules) {r : ByteArray} (h : m_i_DefText N p0 = some r) :
    CB w0 prog 15 [.agg [.string p0.Name, pv0_0].toArray] (.string r) := by
  refine eN func15 rfl ntmps15 rfl w0 fun hF => ?_
  unfold m_i_DefText at h
  refine WT.seq ?_
  refine WT.region ?_
  refine ln (n_box (C := #[.string p0.Name, pv0_0]) rfl rfl) rfl (fun b_1 => ?_)
  refine lq (q_assign rfl) rfl ?_
  refine WL.nil ?_
  refine WT.seq ?_
  refine WT.seq ?_
  refine WT.region ?_
  refine lq (q_loadN Tn_38 rfl (fun w1 hw => hw.rgO (i := 0) rfl 0 2 [.string p0.Name, pv0_0] rfl) rfl) rfl ?_
  obtain ⟨x1, hx1, h⟩ := bind_some h
  refine lp (p_call Fun_17 rfl (fun w1 hw => m_i_DefOk_ok N (ba hw.in0) p0 ph0_0 hx1)) rfl ?_
  refine lq (q_not rfl) rfl ?_
  refine WL.nil ?_
  refine WT.cond rfl (fun c1 => ?_) (fun c1 => ?_)
  · replace h := ite_t h c1
    refine WT.seq ?_
    refine WT.region ?_
    refine lq (q_assign rfl) rfl ?_
    refine WL.nil ?_
    refine WT.ret hF (resOk.one rfl) (fun w1 hw => ?_)
    cases h
    exact post_of_St hw
  replace h := ite_f h c1
  refine WT.skip ?_
  refine WT.seq ?_
  refine WT.region ?_
  refine ln (n_bld (e := 5) Zr_83 rfl) rfl (fun b_2 => ?_)
  refine WL.nil ?_
  refine WT.seq ?_
  refine WT.region ?_
  refine lq (q_fieldAddr Fld_38_0 rfl) rfl ?_
  refine lq (q_load1 T1_9 rfl (fun w2 hw => SB.rgO hw (i := 0) rfl 0 1 [.string p0.Name] rfl)) rfl ?_
  obtain ⟨z1, hz1, h⟩ := bind_some h
  refine lq (q_cat rfl rfl hz1) rfl ?_
  obtain ⟨z2, hz2, h⟩ := bind_some h
  refine lq (q_cat rfl rfl hz2) rfl ?_
  obtain ⟨x2, hx2, h⟩ := bind_some h
  refine lcb (c_callB Fun_51 rfl (fun w1 hw => bld_write hw hx2)) rfl ?_
  refine WL.nil ?_
  refine WT.seq ?_
  refine WT.seq ?_
  refine WT.region ?_
  refine lq (q_fieldAddr Fld_38_1 rfl) rfl ?_
  refine lq (q_load1 T1_36 rfl (fun w2 hw => SB.rgO hw (i := 0) rfl 1 1 [pv0_0] rfl)) rfl ?_
  refine lq (q_lenR Sl_36 rfl rfl ph0_0) rfl ?_
  refine lq (q_move rfl) rfl ?_
  refine WL.nil ?_
  refine WT.block ?_
  refine loop_in (σ := ByteArray × Int) (fun s => [(3, pQ b_2), (15, pv0_0), (16, iV (p0.Rules.length : Int)), (17, iV s.2)]) (fun s => SB w0 Φ [(b_1, .cells #[.string p0.Name, pv0_0] 38 (0, 0))] 83 5 b_2 s.1) (fun n s => m_i_DefText_l1 N p0 n s.1 s.2 = some r) (x2, 0) N h ⟨rfl, rfl, rfl, rfl, trivial⟩ (fun _ hw => hw) (fun s hm => none_ne hm) (fun n1 ih1 s hm => ?_)
  clear h
  obtain ⟨s1, s2⟩ := s
  dsimp only at hm ⊢
  unfold m_i_DefText_l1 at hm
  refine WT.seq ?_
  refine WT.region ?_
  refine lq (q_lss rfl rfl) rfl ?_
  refine WL.nil ?_
  refine WT.seq ?_
  refine WT.cond rfl (fun c2 => ?_) (fun c2 => ?_)
  · replace hm := ite_t hm c2
    refine WT.skip ?_
    refine WT.seq ?_
    refine WT.block ?_
    refine WT.seq ?_
    refine WT.region ?_
    obtain ⟨x3, hx3, hm⟩ := bind_some hm
    obtain ⟨cs1, F1, -, g1, hb1, hs1, r1⟩ := ph0_0.el (idx_some hx3).2.2
    obtain ⟨v1, G1, v2, G2, v3, G3, rfl, rfl, h1, h2, h3⟩ := r1
    refine lq (q_indexAddr Sl_36 rfl rfl ph0_0 hx3) rfl ?_
    refine lq (q_loadN Tn_28 rfl (fun w2 hw => (g1.of_eq 0 5 rfl rfl : rg _ _ _ [.string x3.Name, iV x3.Sal, v1, v2, v3]).rangeAt (SB.in0 hw)) rfl) rfl ?_
    refine ln (n_allocX (C := #[.string (⟨#[]⟩ : ByteArray), iV 0, .slice none 0 0, .slice none 0 0, .slice none 0 0]) Zr_28 rfl) rfl (fun b_3 => ?_)
    refine ls (s_storeX (vs := [.string x3.Name, iV x3.Sal, v1, v2, v3]) (C' := [.string x3.Name, iV x3.Sal, v1, v2, v3]) Sz_28 rfl rfl rfl rfl rfl ⟨rfl, rfl, h1.one, h2.one, h3.one, trivial⟩ rfl) rfl ?_
    refine WL.nil ?_
    refine WT.region ?_
    refine lq (q_loadN Tn_28 rfl (fun w2 hw => SX.rg hw 0 5 [.string x3.Name, iV x3.Sal, v1, v2, v3] rfl) rfl) rfl ?_
    obtain ⟨x4, hx4, hm⟩ := bind_some hm
    refine lcb (c_callB Fun_38 rfl (fun w1 hw => (m_i_ruleText_ok N (ba (SB.in0 (SX.sb hw))) x3 hT h1 h2 h3 hx4).mono fun e w' ⟨q1, q2⟩ => ⟨q1, SB.below (SX.sb hw) q2⟩)) rfl ?_
    obtain ⟨x5, hx5, hm⟩ := bind_some hm
    refine lcb (c_callB Fun_51 rfl (fun w1 hw => bld_write hw hx5)) rfl ?_
    refine WL.nil ?_
    refine WT.inBlock ?_
    refine WT.region ?_
    refine lq (q_add rfl rfl) rfl ?_
    refine lq (q_move rfl) rfl ?_
    refine WL.nil ?_
    exact lback (ih1 (x5, _) hm) ⟨rfl, rfl, rfl, rfl, trivial⟩ (fun _ hw => hw)
  replace hm := ite_f hm c2
  refine WT.exit rfl ?_
  refine WT.seq ?_
  refine WT.region ?_
  refine lcb (c_callB Fun_52 rfl (fun w1 hw => bld_string hw)) rfl ?_
  refine lq (q_assign rfl) rfl ?_
  refine WL.nil ?_
  refine WT.ret hF (resOk.one rfl) (fun w1 hw => ?_)
  cases hm
  exact post_of_SE hw

theorem m_i_runEnd_ok {p2f : Nat} {p2fr : List Value} (w0 : Base Ψ Φ []) (p0 : ByteArray) (p1 : Int) (p2 : Int → Option (Bool)) (p2hF : Fun prog p2f = true) (p2h : ∀ {Φ' : Hp} {w' : World}, FrH [] Φ Φ' → In Φ' w' → ∀ (p2a0 : Int)   {r : Bool}, p2 p2a0 = some r → Calls prog p2f (([.int .u8 p2a0] : List Value) ++ p2fr).toArray w' (Post (.bool r) w')) {r : Int} (h : m_i_runEnd N p0 p1 p2 = some r) :
  CB w0 prog 54 [.string p0, iV p1, .func (.func p2f) #[] p2fr.toArray] (iV r) := by
 refine eN func54 rfl ntmps54 rfl w0 fun hF => ?_
 unfold m_i_runEnd at h
 refine att 6 [] rfl ?_
 refine lin (σ := Int) (fun s => [(0, .string p0), (1, iV s), (2, .func (.func p2f) #[] p2fr.toArray)]) (fun s => St w0 Φ [] []) (fun m s => m_i_runEnd_l1 N p0 p2 m s = some r) (p1) N h (sx [] []) (fun n1 ih1 s hm => ?_)
 revert hm; revert s; intro s1 hm
 have h : m_i_runEnd_l1 N p0 p2 (n1 + 1) s1 = some r := hm
 show WT _ _ [(0, .string p0), (1, iV s1), (2, .func (.func p2f) #[] p2fr.toArray)] (St w0 Φ [] [])
 unfold m_i_runEnd_l1 at h
 refine atr 5 [] rfl <| lq (q_lenS Str_9 rfl rfl) rfl <| arr 2 [] rfl ?_
 obtain ⟨b1, hb_1, h⟩ := bs h
 refine WL.cutN 6 [(17, .bool b1), (0, .string p0), (1, iV s1), (2, .func (.func p2f) #[] p2fr.toArray)] ?_ (fun K => ?_)
 rotate_left
 ·refine sp 11 hb_1 rfl (fun hb_1 => ?_) fun hb_1 => ?_
  ·refine arr 3 [] rfl <| ly rfl rfl ?_
   obtain ⟨y1, hy1, hb_1⟩ := bs hb_1
   refine lq (q_indexS Str_9 rfl rfl hy1) rfl <| ly rfl rfl ?_
   obtain ⟨x1, hx1, hb_1⟩ := bs hb_1
   refine lp (p_callV p2hF rfl rfl (fun w1 hw => p2h hw.frB hw.fro (y1.toNat : Int) hx1)) rfl <| la rfl ?_
   cases hb_1
   exact ku K
  ·refine arr 6 [] rfl ?_
   cases hb_1
   exact ku K
 refine en ?_
 refine ch h rfl ?_ ?_ <;> intro h
 ·refine att 8 [] rfl ?_
  exact lb [] [] (ih1 _ h)
 refine att 6 [] rfl ?_
 exact rt hF h
theorem m_i_Lex_c1_ok  (w0 : Base Ψ Φ []) (p0 : Int)  {r : Bool} (h : m_i_Lex_c1 N p0 = some r) :
  CB w0 prog 55 [.int .u8 p0] (.bool r) := by
 refine eN func55 rfl ntmps55 rfl w0 fun hF => ?_
 unfold m_i_Lex_c1 at h
 refine att 10 [] rfl ?_
 exact rt hF h
theorem m_internal_stringslite_HasPrefix_ok  (w0 : Base Ψ Φ []) (p0 : ByteArray) (p1 : ByteArray)  {r : Bool} (h : m_internal_stringslite_HasPrefix N p0 p1 = some r) :
  CB w0 prog 165 [.string p0, .string p1] (.bool r) := by
 refine eN func165 rfl ntmps165 rfl w0 fun hF => ?_
 unfold m_internal_stringslite_HasPrefix at h
 refine atr 7 [] rfl <| lq (q_lenS Str_9 rfl rfl) rfl <| la rfl <| lq (q_lenS Str_9 rfl rfl) rfl <| arr 2 [] rfl ?_
 obtain ⟨b1, hb_1, h⟩ := bs h
 refine WL.cutN 7 [(17, .bool b1), (4, .bool false)] ?_ (fun K => ?_)
 rotate_left
 ·refine sp 10 hb_1 rfl (fun hb_1 => ?_) fun hb_1 => ?_
  ·refine arr 2 [] rfl <| ly rfl rfl <| lq (q_lenS Str_9 rfl rfl) rfl <| ly rfl rfl ?_
   obtain ⟨z1, hz1, hb_1⟩ := bs hb_1
   refine lq (q_sstH Str_9 rfl rfl hz1) rfl <| arr 3 [] rfl ?_
   cases hb_1
   exact ku K
  ·refine arr 7 [] rfl ?_
   cases hb_1
   exact ku K
 refine la rfl <| en ?_
 exact rt hF h
theorem m_internal_stringslite_TrimPrefix_ok  (w0 : Base Ψ Φ []) (p0 : ByteArray) (p1 : ByteArray)  {r : ByteArray} (h : m_internal_stringslite_TrimPrefix N p0 p1 = some r) :
  CB w0 prog 201 [.string p0, .string p1] (.string r) := by
 refine eN func201 rfl ntmps201 rfl w0 fun hF => ?_
 unfold m_internal_stringslite_TrimPrefix at h
 refine atr 9 [] rfl <| qc h (m_internal_stringslite_HasPrefix_ok N · p0 p1 ·) rfl rfl rfl fun x1 h => en ?_
 refine ch h rfl ?_ ?_ <;> intro h
 ·refine atr 4 [] rfl <| lq (q_lenS Str_9 rfl rfl) rfl ?_
  obtain ⟨z1, hz1, h⟩ := bs h
  refine lq (q_sstL Str_9 rfl rfl hz1) rfl <| la rfl <| en ?_
  exact rt hF h
 refine att 6 [] rfl ?_
 exact rt hF h
theorem m_strings_TrimPrefix_ok  (w0 : Base Ψ Φ []) (p0 : ByteArray) (p1 : ByteArray)  {r : ByteArray} (h : m_strings_TrimPrefix N p0 p1 = some r) :
  CB w0 prog 160 [.string p0, .string p1] (.string r) := by
 refine eN func160 rfl ntmps160 rfl w0 fun hF => ?_
 unfold m_strings_TrimPrefix at h
 refine atr 8 [] rfl <| qc h (m_internal_stringslite_TrimPrefix_ok N · p0 p1 ·) rfl rfl rfl fun x1 h => la rfl <| en ?_
 exact rt hF h
theorem m_i_parseNumber_ok  (w0 : Base Ψ Φ []) (p0 : ByteArray) (p1 : Int) (hT : Tab Ψ) {r : Int × Bool} (h : m_i_parseNumber N p0 p1 = some r) :
  CB w0 prog 104 [.string p0, iV p1] (.tuple #[iV r.1, .bool r.2]) := by
 refine eN func104 rfl ntmps104 rfl w0 fun hF => ?_
 unfold m_i_parseNumber at h
 refine atr 8 [] rfl <| qc h (m_strings_TrimPrefix_ok N · p0 (⟨#[45]⟩ : ByteArray) ·) rfl rfl rfl fun x1 h => arr 6 [] rfl <| lq (q_lenS Str_9 rfl rfl) rfl <| arr 2 [] rfl ?_
 obtain ⟨b1, hb_1, h⟩ := bs h
 refine WL.cutN 5 [(19, .bool b1), (0, .string p0)] ?_ (fun K => ?_)
 rotate_left
 ·refine sp 14 hb_1 rfl (fun hb_1 => ?_) fun hb_1 => ?_
  ·refine arr 5 [] rfl ?_
   cases hb_1
   exact ku K
  ·refine ly rfl rfl <| la rfl <| ly rfl rfl <| lq (q_lenS Str_9 rfl rfl) rfl <| arr 3 [] rfl ?_
   cases hb_1
   exact ku K
 refine en ?_
 refine ch h rfl ?_ ?_ <;> intro h
 ·refine att 5 [] rfl ?_
  refine WT.ret hF (resOk.two rfl rfl) (fun w1 hw => ?_)
  cases h
  exact post_of_St hw
 refine atr 4 [] rfl <| qc h (m_strconv_Atoi_ok N · p0 ·) rfl rfl rfl fun x2 h => arr 10 [] rfl <| lq (q_eqI If_85 rfl) rfl <| la rfl ?_
 obtain ⟨b2, hb_2, h⟩ := bs h
 refine WL.cutN 5 [(33, .bool b2), (25, iV x2)] ?_ (fun K => ?_)
 rotate_left
 ·refine sp 28 hb_2 rfl (fun hb_2 => ?_) fun hb_2 => ?_
  ·refine ly rfl rfl <| la rfl <| ly rfl rfl <| qd hb_2 (m_strconv_Itoa_ok N · x2 hT ·) rfl rfl rfl fun x3 hb_2 => arr 3 [] rfl ?_
   cases hb_2
   exact ku K
  ·refine arr 5 [] rfl ?_
   cases hb_2
   exact ku K
 refine art 3 [] rfl ?_
 refine WT.ret hF (resOk.two rfl rfl) (fun w1 hw => ?_)
 cases h
 exact post_of_St hw
theorem m_i_isMark_ok  (w0 : Base Ψ Φ []) (p0 : ByteArray)  {r : Bool} (h : m_i_isMark N p0 = some r) :
  CB w0 prog 163 [.string p0] (.bool r) := by
 refine eN func163 rfl ntmps163 rfl w0 fun hF => ?_
 unfold m_i_isMark at h
 refine att 16 [] rfl ?_
 refine cut (σ := Bool) (fun s => [(4, .bool s)]) (fun s => St w0 Φ [] []) (fun s => m_i_isMark_j1 N s = some r) (fun s hm => ?_) (fun K => ?_)
 ·clear h
  revert hm; revert s; intro s1 hm
  have h : m_i_isMark_j1 N s1 = some r := hm
  show WT _ _ [(4, .bool s1)] (St w0 Φ [] [])
  unfold m_i_isMark_j1 at h
  refine ch h rfl ?_ ?_ <;> intro h
  ·refine att 4 [] rfl ?_
   exact rt hF h
  refine att 6 [] rfl ?_
  exact rt hF h
 refine ch h rfl ?_ ?_ <;> intro h
 ·refine WT.skip ?_
  exact wo [] [] (K _ h)
 refine att 5 [] rfl ?_
 refine ch h rfl ?_ ?_ <;> intro h
 ·refine WT.skip ?_
  exact wo [] [] (K _ h)
 refine att 5 [] rfl ?_
 refine ch h rfl ?_ ?_ <;> intro h
 ·refine WT.skip ?_
  exact wo [] [] (K _ h)
 refine att 5 [] rfl ?_
 refine ch h rfl ?_ ?_ <;> intro h
 ·refine WT.skip ?_
  exact wo [] [] (K _ h)
 refine att 5 [] rfl ?_
 refine ch h rfl ?_ ?_ <;> intro h
 ·refine WT.skip ?_
  exact wo [] [] (K _ h)
 refine att 5 [] rfl ?_
 refine ch h rfl ?_ ?_ <;> intro h
 ·refine WT.skip ?_
  exact wo [] [] (K _ h)
 refine att 5 [] rfl ?_
 refine ch h rfl ?_ ?_ <;> intro h
 ·refine WT.skip ?_
  exact wo [] [] (K _ h)
 refine att 5 [] rfl ?_
 refine ch h rfl ?_ ?_ <;> intro h
 ·refine WT.skip ?_
  exact wo [] [] (K _ h)
 refine att 5 [] rfl ?_
 refine ch h rfl ?_ ?_ <;> intro h
 ·refine WT.skip ?_
  exact wo [] [] (K _ h)
 refine att 5 [] rfl ?_
 refine ch h rfl ?_ ?_ <;> intro h
 ·refine WT.skip ?_
  exact wo [] [] (K _ h)
 refine att 5 [] rfl ?_
 refine ch h rfl ?_ ?_ <;> intro h
 ·refine WT.skip ?_
  exact wo [] [] (K _ h)
 refine att 5 [] rfl ?_
 refine ch h rfl ?_ ?_ <;> intro h
 ·refine WT.skip ?_
  exact wo [] [] (K _ h)
 refine att 4 [] rfl ?_
 exact wo [] [] (K _ h)
theorem m_i_TokenOk_ok  (w0 : Base Ψ Φ []) (p0 : TToken)  {r : Bool} (h : m_i_TokenOk N p0 = some r) :
  CB w0 prog 105 [.agg [iV p0.K, iV p0.N, .string p0.S].toArray] (.bool r) := by
 refine eN func105 rfl ntmps105 rfl w0 fun hF => ?_
 unfold m_i_TokenOk at h
 refine sr <| lbx rfl fun b_1 => art 14 [0, 0] rfl ?_
 refine ch h rfl ?_ ?_ <;> intro h
 ·refine atr 4 [1, 0] rfl <| qc h (m_i_inRange_ok N · p0.N 0 1000000000 ·) rfl rfl rfl fun x1 h => la rfl ?_
  obtain ⟨b1, hb_1, h⟩ := bs h
  refine WL.cutN 4 [(14, .bool b1), (2, .bool false)] ?_ (fun K => ?_)
  rotate_left
  ·refine sp 10 hb_1 rfl (fun hb_1 => ?_) fun hb_1 => ?_
   ·refine arr 4 [2, 0] rfl ?_
    cases hb_1
    exact ku K
   ·refine arr 4 [] rfl ?_
    cases hb_1
    exact ku K
  refine la rfl <| en ?_
  exact rt hF h
 refine att 5 [] rfl ?_
 refine ch h rfl ?_ ?_ <;> intro h
 ·refine atr 6 [1, 0] rfl ?_
  obtain ⟨b2, hb_2, h⟩ := bs h
  refine WL.cutN 4 [(24, .bool b2), (2, .bool false)] ?_ (fun K => ?_)
  rotate_left
  ·refine sp 20 hb_2 rfl (fun hb_2 => ?_) fun hb_2 => ?_
   ·refine arr 2 [2, 0] rfl <| ly rfl rfl <| qc hb_2 (m_i_NameOk_ok N · p0.S ·) rfl rfl rfl fun x2 hb_2 => la rfl ?_
    cases hb_2
    exact ku K
   ·refine arr 4 [] rfl ?_
    cases hb_2
    exact ku K
  refine la rfl <| en ?_
  exact rt hF h
 refine att 5 [] rfl ?_
 refine ch h rfl ?_ ?_ <;> intro h
 ·refine atr 6 [1, 0] rfl ?_
  obtain ⟨b3, hb_3, h⟩ := bs h
  refine WL.cutN 4 [(34, .bool b3), (2, .bool false)] ?_ (fun K => ?_)
  rotate_left
  ·refine sp 30 hb_3 rfl (fun hb_3 => ?_) fun hb_3 => ?_
   ·refine arr 2 [2, 0] rfl <| ly rfl rfl <| qc hb_3 (m_i_isVar_ok N · p0.S ·) rfl rfl rfl fun x3 hb_3 => la rfl ?_
    cases hb_3
    exact ku K
   ·refine arr 4 [] rfl ?_
    cases hb_3
    exact ku K
  refine la rfl <| en ?_
  exact rt hF h
 refine att 5 [] rfl ?_
 refine ch h rfl ?_ ?_ <;> intro h
 ·refine atr 6 [1, 0] rfl ?_
  obtain ⟨b4, hb_4, h⟩ := bs h
  refine WL.cutN 4 [(44, .bool b4), (2, .bool false)] ?_ (fun K => ?_)
  rotate_left
  ·refine sp 40 hb_4 rfl (fun hb_4 => ?_) fun hb_4 => ?_
   ·refine arr 2 [2, 0] rfl <| ly rfl rfl <| qc hb_4 (m_i_isWord_ok N · p0.S 20 ·) rfl rfl rfl fun x4 hb_4 => la rfl ?_
    cases hb_4
    exact ku K
   ·refine arr 4 [] rfl ?_
    cases hb_4
    exact ku K
  refine la rfl <| en ?_
  exact rt hF h
 refine att 5 [] rfl ?_
 refine ch h rfl ?_ ?_ <;> intro h
 ·refine atr 6 [1, 0] rfl ?_
  obtain ⟨b5, hb_5, h⟩ := bs h
  refine WL.cutN 4 [(54, .bool b5), (2, .bool false)] ?_ (fun K => ?_)
  rotate_left
  ·refine sp 50 hb_5 rfl (fun hb_5 => ?_) fun hb_5 => ?_
   ·refine arr 2 [2, 0] rfl <| ly rfl rfl <| qc hb_5 (m_i_isMark_ok N · p0.S ·) rfl rfl rfl fun x5 hb_5 => la rfl ?_
    cases hb_5
    exact ku K
   ·refine arr 4 [] rfl ?_
    cases hb_5
    exact ku K
  refine la rfl <| en ?_
  exact rt hF h
 refine att 6 [] rfl ?_
 exact rt hF h
theorem m_i_tokenAt_c1_ok  (w0 : Base Ψ Φ []) (p0 : Int)  {r : Bool} (h : m_i_tokenAt_c1 N p0 = some r) :
  CB w0 prog 108 [.int .u8 p0] (.bool r) := by
 refine eN func108 rfl ntmps108 rfl w0 fun hF => ?_
 unfold m_i_tokenAt_c1 at h
 refine atr 7 [] rfl <| qc h (m_i_isWordByte_ok N · p0 ·) rfl rfl rfl fun x1 h => la rfl ?_
 obtain ⟨b1, hb_1, h⟩ := bs h
 refine WL.cutN 3 [(8, .bool b1), (2, .bool false)] ?_ (fun K => ?_)
 rotate_left
 ·refine sp 5 hb_1 rfl (fun hb_1 => ?_) fun hb_1 => ?_
  ·refine arr 3 [] rfl ?_
   cases hb_1
   exact ku K
  ·refine ly rfl rfl <| la rfl <| ly rfl rfl <| qc hb_1 (m_i_isLarge_ok N · p0 ·) rfl rfl rfl fun x2 hb_1 => la rfl ?_
   cases hb_1
   exact ku K
 refine la rfl <| en ?_
 exact rt hF h
theorem m_strings_HasPrefix_ok  (w0 : Base Ψ Φ []) (p0 : ByteArray) (p1 : ByteArray)  {r : Bool} (h : m_strings_HasPrefix N p0 p1 = some r) :
  CB w0 prog 110 [.string p0, .string p1] (.bool r) := by
 refine eN func110 rfl ntmps110 rfl w0 fun hF => ?_
 unfold m_strings_HasPrefix at h
 refine atr 8 [] rfl <| qc h (m_internal_stringslite_HasPrefix_ok N · p0 p1 ·) rfl rfl rfl fun x1 h => la rfl <| en ?_
 exact rt hF h
theorem m_i_tokenAt_ok  (w0 : Base Ψ Φ []) (p0 : ByteArray) (p1 : Int) (hT : Tab Ψ) {r : TToken × Int × Bool} (h : m_i_tokenAt N p0 p1 = some r) :
  CB w0 prog 56 [.string p0, iV p1] (.tuple #[.agg [iV r.1.K, iV r.1.N, .string r.1.S].toArray, iV r.2.1, .bool r.2.2]) := by
 refine eN func56 rfl ntmps56 rfl w0 fun hF => ?_
 unfold m_i_tokenAt at h
 refine sr <| lnz Zr_77 rfl fun b_1 => arr 7 [] rfl ?_
 obtain ⟨y1, hy1, h⟩ := bs h
 refine lq (q_indexS Str_9 rfl rfl hy1) rfl <| arr 7 [] rfl <| qc h (m_i_isDigit_ok N · (y1.toNat : Int) ·) rfl rfl rfl fun x1 h => la rfl <| en ?_
 refine ch h rfl ?_ ?_ <;> intro h
 ·refine atr 4 [] rfl <| qc h (m_i_runEnd_ok N · p0 p1 (m_i_isDigit N) Fun_103 (fun hle' hin a0 => fun hr => m_i_isDigit_ok N (ba hin) a0  hr) ·) rfl rfl rfl fun x2 h => arr 7 [] rfl ?_
  obtain ⟨z1, hz1, h⟩ := bs h
  refine lq (q_sstLH Str_9 rfl rfl rfl hz1) rfl <| qd h (m_i_parseNumber_ok N · z1 10 hT ·) rfl rfl rfl fun x3 h => arr 9 [] rfl <| lq (q_build (vs := [(0, iV 1), (1, iV x3.1)]) (C := #[iV 1, iV x3.1, .string (⟨#[]⟩ : ByteArray)]) Pl_77 Zr_77 rfl (fill_cons (C' := [iV 1, iV 0, .string ⟨#[]⟩]) rfl rfl rfl rfl rfl (fill_cons (C' := [iV 1, iV x3.1, .string ⟨#[]⟩]) rfl rfl rfl rfl rfl (fill_nil)))) rfl <| lnz Zr_77 rfl fun b_2 => soN 0 Sz_77 rfl ⟨rfl, rfl, rfl, trivial⟩ rfl ?_
  refine en <| sq <| wm [0] [] rfl <| amm 4 [0, 3, 1, 2, 3] [0] rfl rfl ?_
  refine WM.split (d := 42) rfl (fun c2 => ?_) (fun c2 => ?_)
  ·replace h := ite_t h c2
   refine mqG 4 [5, 6, 7, 8, 9] rfl (by kernel_rfl) (kN [0]) (q_loadN Tn_77 rfl (fun w1 hw => hw.rgO (i := 0) rfl 0 3 [iV 1, iV x3.1, .string (⟨#[]⟩ : ByteArray)] rfl) rfl) rfl ?_
   obtain ⟨x4, hx4, h⟩ := bs h
   refine on1 5 (mpG rfl (kS [0]) (pcP rfl (m_i_TokenOk_ok N · (⟨1, x3.1, (⟨#[]⟩ : ByteArray)⟩ : TToken) hx4)) rfl ?_)
   refine amm 1 [6] [0] rfl rfl ?_
   refine on1 7 (msK 1 [0] rfl Sz_77 rfl ⟨rfl, rfl, rfl, trivial⟩ rfl rfl ?_)
   refine amm 2 [8, 9] [0] rfl rfl <| WM.nil (by kernel_rfl) ?_
   refine WT.ret hF (resOk.three (rv_cell Tn_77 rfl (fun w1 hw => hw.rgO (i := 1) rfl 0 3 [iV 1, iV x3.1, .string (⟨#[]⟩ : ByteArray)] rfl) rfl) rfl rfl) (fun w1 hw => ?_)
   cases h
   exact post_of_St hw
  replace h := ite_f h c2
  refine mno 4 [5, 6, 7, 8, 9] rfl (by kernel_rfl) (kn Kf.nil (am [0] rfl)) rfl (.inl rfl) rfl rfl <| mno 5 [6, 7, 8, 9] rfl (by kernel_rfl) (kn Kf.nil (am [0] rfl)) rfl (.inl rfl) rfl rfl <| amm 1 [6] [0] rfl rfl ?_
  refine on1 7 (msK 1 [0] rfl Sz_77 rfl ⟨rfl, rfl, rfl, trivial⟩ rfl rfl ?_)
  refine amm 2 [8, 9] [0] rfl rfl <| WM.nil (by kernel_rfl) ?_
  refine WT.ret hF (resOk.three (rv_cell Tn_77 rfl (fun w1 hw => hw.rgO (i := 1) rfl 0 3 [iV 1, iV x3.1, .string (⟨#[]⟩ : ByteArray)] rfl) rfl) rfl rfl) (fun w1 hw => ?_)
  cases h
  exact post_of_St hw
 refine sr <| la rfl <| qc h (m_i_isSmall_ok N · (y1.toNat : Int) ·) rfl rfl rfl fun x5 h => la rfl <| en ?_
 refine ch h rfl ?_ ?_ <;> intro h
 ·refine atr 4 [] rfl <| qc h (m_i_runEnd_ok N · p0 p1 (m_i_isWordByte N) Fun_106 (fun hle' hin a0 => fun hr => m_i_isWordByte_ok N (ba hin) a0  hr) ·) rfl rfl rfl fun x6 h => arr 7 [] rfl ?_
  obtain ⟨z2, hz2, h⟩ := bs h
  refine lq (q_sstLH Str_9 rfl rfl rfl hz2) rfl <| lq (q_build (vs := [(0, iV 2), (2, .string z2)]) (C := #[iV 2, iV 0, .string z2]) Pl_77 Zr_77 rfl (fill_cons (C' := [iV 2, iV 0, .string ⟨#[]⟩]) rfl rfl rfl rfl rfl (fill_cons (C' := [iV 2, iV 0, .string z2]) rfl rfl rfl rfl rfl (fill_nil)))) rfl <| lnz Zr_77 rfl fun b_3 => soN 0 Sz_77 rfl ⟨rfl, rfl, rfl, trivial⟩ rfl ?_
  refine en <| sq <| wm [0] [] rfl <| amm 3 [0, 3, 1, 2, 3] [0] rfl rfl ?_
  obtain ⟨x7, hx7, h⟩ := bs h
  refine on1 3 (mp rfl (kS [0]) (pcP rfl (m_i_TokenOk_ok N · (⟨2, 0, z2⟩ : TToken) hx7)) rfl ?_)
  refine on1 4 (msK 1 [0] rfl Sz_77 rfl ⟨rfl, rfl, rfl, trivial⟩ rfl rfl ?_)
  refine amm 2 [5, 6] [0] rfl rfl <| WM.nil (by kernel_rfl) ?_
  refine WT.ret hF (resOk.three (rv_cell Tn_77 rfl (fun w1 hw => hw.rgO (i := 1) rfl 0 3 [iV 2, iV 0, .string z2] rfl) rfl) rfl rfl) (fun w1 hw => ?_)
  cases h
  exact post_of_St hw
 refine sr <| la rfl <| qc h (m_i_isLarge_ok N · (y1.toNat : Int) ·) rfl rfl rfl fun x8 h => la rfl <| en ?_
 refine ch h rfl ?_ ?_ <;> intro h
 ·refine atr 4 [] rfl <| qc h (m_i_runEnd_ok N · p0 p1 (m_i_tokenAt_c1 N) Fun_108 (fun hle' hin a0 => fun hr => m_i_tokenAt_c1_ok N (ba hin) a0  hr) ·) rfl rfl rfl fun x9 h => arr 7 [] rfl ?_
  obtain ⟨z3, hz3, h⟩ := bs h
  refine lq (q_sstLH Str_9 rfl rfl rfl hz3) rfl <| lq (q_build (vs := [(0, iV 3), (2, .string z3)]) (C := #[iV 3, iV 0, .string z3]) Pl_77 Zr_77 rfl (fill_cons (C' := [iV 3, iV 0, .string ⟨#[]⟩]) rfl rfl rfl rfl rfl (fill_cons (C' := [iV 3, iV 0, .string z3]) rfl rfl rfl rfl rfl (fill_nil)))) rfl <| lnz Zr_77 rfl fun b_4 => soN 0 Sz_77 rfl ⟨rfl, rfl, rfl, trivial⟩ rfl ?_
  refine en <| sq <| wm [0] [] rfl <| amm 3 [0, 3, 1, 2, 3] [0] rfl rfl ?_
  obtain ⟨x10, hx10, h⟩ := bs h
  refine on1 3 (mp rfl (kS [0]) (pcP rfl (m_i_TokenOk_ok N · (⟨3, 0, z3⟩ : TToken) hx10)) rfl ?_)
  refine on1 4 (msK 1 [0] rfl Sz_77 rfl ⟨rfl, rfl, rfl, trivial⟩ rfl rfl ?_)
  refine amm 2 [5, 6] [0] rfl rfl <| WM.nil (by kernel_rfl) ?_
  refine WT.ret hF (resOk.three (rv_cell Tn_77 rfl (fun w1 hw => hw.rgO (i := 1) rfl 0 3 [iV 3, iV 0, .string z3] rfl) rfl) rfl rfl) (fun w1 hw => ?_)
  cases h
  exact post_of_St hw
 refine att 6 [] rfl ?_
 refine ch h rfl ?_ ?_ <;> intro h
 ·refine atr 5 [] rfl ?_
  obtain ⟨z4, hz4, h⟩ := bs h
  refine lq (q_sstL Str_9 rfl rfl hz4) rfl <| qc h (m_strings_IndexByte_ok N · z4 39 ·) rfl rfl rfl fun x11 h => art 8 [] rfl ?_
  refine ch h rfl ?_ ?_ <;> intro h
  ·refine sr <| lq (q_build (vs := []) (C := #[iV 0, iV 0, .string (⟨#[]⟩ : ByteArray)]) Pl_77 Zr_77 rfl (fill_nil)) rfl <| soN 0 Sz_77 rfl ⟨rfl, rfl, rfl, trivial⟩ rfl ?_
   refine art 3 [] rfl ?_
   refine WT.ret hF (resOk.three (rv_cell Tn_77 rfl (fun w1 hw => hw.rgO (i := 0) rfl 0 3 [iV 0, iV 0, .string (⟨#[]⟩ : ByteArray)] rfl) rfl) rfl rfl) (fun w1 hw => ?_)
   cases h
   exact post_of_St hw
  refine atr 10 [] rfl ?_
  obtain ⟨z5, hz5, h⟩ := bs h
  refine lq (q_sstLH Str_9 rfl rfl rfl hz5) rfl <| lq (q_build (vs := [(0, iV 4), (2, .string z5)]) (C := #[iV 4, iV 0, .string z5]) Pl_77 Zr_77 rfl (fill_cons (C' := [iV 4, iV 0, .string ⟨#[]⟩]) rfl rfl rfl rfl rfl (fill_cons (C' := [iV 4, iV 0, .string z5]) rfl rfl rfl rfl rfl (fill_nil)))) rfl <| lnz Zr_77 rfl fun b_5 => soN 0 Sz_77 rfl ⟨rfl, rfl, rfl, trivial⟩ rfl ?_
  refine en <| sq <| wm [0] [] rfl <| amm 6 [0, 3, 1, 2, 3, 4, 5, 3] [0] rfl rfl ?_
  obtain ⟨x12, hx12, h⟩ := bs h
  refine on1 6 (mp rfl (kS [0]) (pcP rfl (m_i_TokenOk_ok N · (⟨4, 0, z5⟩ : TToken) hx12)) rfl ?_)
  refine on1 7 (msK 1 [0] rfl Sz_77 rfl ⟨rfl, rfl, rfl, trivial⟩ rfl rfl ?_)
  refine amm 2 [8, 9] [0] rfl rfl <| WM.nil (by kernel_rfl) ?_
  refine WT.ret hF (resOk.three (rv_cell Tn_77 rfl (fun w1 hw => hw.rgO (i := 1) rfl 0 3 [iV 4, iV 0, .string z5] rfl) rfl) rfl rfl) (fun w1 hw => ?_)
  cases h
  exact post_of_St hw
 refine atr 13 [] rfl ?_
 obtain ⟨z6, hz6, h⟩ := bs h
 refine lq (q_sstL Str_9 rfl rfl hz6) rfl <| qc h (m_strings_HasPrefix_ok N · z6 (⟨#[45, 62]⟩ : ByteArray) ·) rfl rfl rfl fun x13 h => en ?_
 refine cut (σ := Int) (fun s => [(0, .string p0), (1, iV p1), (4, pQ b_1), (18, iV s)]) (fun s => St w0 Φ [(b_1, .cells #[iV 0, iV 0, .string (⟨#[]⟩ : ByteArray)] 77 (0, 0))] []) (fun s => m_i_tokenAt_j1 N p0 p1 s = some r) (fun s hm => ?_) (fun K => ?_)
 ·clear h
  revert hm; revert s; intro s1 hm
  have h : m_i_tokenAt_j1 N p0 p1 s1 = some r := hm
  show WT _ _ [(0, .string p0), (1, iV p1), (4, pQ b_1), (18, iV s1)] (St w0 Φ [(b_1, .cells #[iV 0, iV 0, .string (⟨#[]⟩ : ByteArray)] 77 (0, 0))] [])
  unfold m_i_tokenAt_j1 at h
  refine atr 5 [] rfl ?_
  obtain ⟨z7, hz7, h⟩ := bs h
  refine lq (q_sstLH Str_9 rfl rfl rfl hz7) rfl <| lq (q_build (vs := [(0, iV 5), (2, .string z7)]) (C := #[iV 5, iV 0, .string z7]) Pl_77 Zr_77 rfl (fill_cons (C' := [iV 5, iV 0, .string ⟨#[]⟩]) rfl rfl rfl rfl rfl (fill_cons (C' := [iV 5, iV 0, .string z7]) rfl rfl rfl rfl rfl (fill_nil)))) rfl <| lnz Zr_77 rfl fun b_6 => soN 0 Sz_77 rfl ⟨rfl, rfl, rfl, trivial⟩ rfl ?_
  refine en <| sq <| wm [0] [] rfl <| amm 3 [0, 3, 1, 2, 3] [0] rfl rfl ?_
  obtain ⟨x14, hx14, h⟩ := bs h
  refine on1 3 (mp rfl (kS [0]) (pcP rfl (m_i_TokenOk_ok N · (⟨5, 0, z7⟩ : TToken) hx14)) rfl ?_)
  refine on1 4 (msK 1 [0] rfl Sz_77 rfl ⟨rfl, rfl, rfl, trivial⟩ rfl rfl ?_)
  refine amm 2 [5, 6] [0] rfl rfl <| WM.nil (by kernel_rfl) ?_
  refine WT.ret hF (resOk.three (rv_cell Tn_77 rfl (fun w1 hw => hw.rgO (i := 1) rfl 0 3 [iV 5, iV 0, .string z7] rfl) rfl) rfl rfl) (fun w1 hw => ?_)
  cases h
  exact post_of_St hw
 refine ch h rfl ?_ ?_ <;> intro h
 ·refine att 5 [] rfl ?_
  exact wo [] [0] (K _ h)
 refine WT.skip ?_
 exact wo [] [0] (K _ h)
theorem m_i_Lex_ok  (w0 : Base Ψ Φ []) (p0 : ByteArray) (hT : Tab Ψ) {r : (List TToken) × Int} (h : m_i_Lex N p0 = some r) :
  Calls prog 18 [.string p0].toArray w0.w (PostG Φ w0.w [] (fun Φ' Fs v => ∃ (sr_0_0 : Value), v = .tuple #[sr_0_0, iV r.2] ∧ Fs = [ob sr_0_0] ∧ OSl RTToken 77 3 Φ' [] sr_0_0 r.1)) := by
 refine eN func18 rfl ntmps18 rfl w0 fun hF => ?_
 unfold m_i_Lex at h
 refine att 15 [] rfl <| wtS ?_
 have k1 := OSl.nil RTToken 77 3 Φ
 refine lin (σ := Hp × (List TToken) × Value × Int) (fun s => [(0, .string p0), (4, s.2.2.1), (5, iV s.2.2.2)]) (fun s => St w0 s.1 [] [ob s.2.2.1]) (fun m s => m_i_Lex_l1 N p0 m s.2.1 s.2.2.2 = some r ∧ (OSl RTToken 77 3 s.1 [] s.2.2.1 s.2.1)) (Φ, ([] : List TToken), (.slice none 0 0), 0) N ⟨h, k1⟩ (sx [0] []) (fun n1 ih1 s hm => ?_)
 obtain ⟨Φ_1, s1, u1, s2⟩ := s
 obtain ⟨h, k2⟩ := hm
 dsimp only at h k2 ⊢
 unfold m_i_Lex_l1 at h
 refine atr 5 [] rfl <| lq (q_lenS Str_9 rfl rfl) rfl <| la rfl <| en ?_
 refine ch h rfl ?_ ?_ <;> intro h
 ·refine atr 7 [] rfl ?_
  obtain ⟨y1, hy1, h⟩ := bs h
  refine lq (q_indexS Str_9 rfl rfl hy1) rfl <| art 8 [] rfl ?_
  refine cut (σ := Bool) (fun s => [(0, .string p0), (4, u1), (5, iV s2), (15, .int .u8 (y1.toNat : Int)), (16, .bool s)]) (fun s => St w0 Φ_1 [] [ob u1]) (fun s => m_i_Lex_j2 N p0 s1 s2 (m_i_Lex_l1 N p0 n1) y1 s = some r) (fun s hm => ?_) (fun K => ?_)
  ·clear h
   revert hm; revert s; intro s3 hm
   have h : m_i_Lex_j2 N p0 s1 s2 (m_i_Lex_l1 N p0 n1) y1 s3 = some r := hm
   show WT _ _ [(0, .string p0), (4, u1), (5, iV s2), (15, .int .u8 (y1.toNat : Int)), (16, .bool s3)] (St w0 Φ_1 [] [ob u1])
   unfold m_i_Lex_j2 at h
   refine ch h rfl ?_ ?_ <;> intro h
   ·refine att 7 [] rfl ?_
    exact lb [0] [] (ih1 (_, _, _, _) ⟨h, k2⟩)
   refine att 5 [] rfl ?_
   refine ch h rfl ?_ ?_ <;> intro h
   ·refine atr 4 [] rfl <| qc h (m_i_runEnd_ok N · p0 s2 (m_i_Lex_c1 N) Fun_55 (fun hle' hin a0 => fun hr => m_i_Lex_c1_ok N (ba hin) a0  hr) ·) rfl rfl rfl fun x1 h => art 3 [] rfl ?_
    exact lb [0] [] (ih1 (_, _, _, _) ⟨h, k2⟩)
   refine atr 6 [] rfl <| qd h (m_i_tokenAt_ok N · p0 s2 hT ·) rfl rfl rfl fun x2 h => arr 4 [] rfl <| lnz Zr_77 rfl fun b_1 => soN 0 Sz_77 rfl ⟨rfl, rfl, rfl, trivial⟩ rfl ?_
   refine arr 9 [] rfl ?_
   obtain ⟨b1, hb_1, h⟩ := bs h
   refine WL.cutN 4 [(41, .bool b1), (0, .string p0), (4, u1), (5, iV s2), (6, pQ b_1), (7, iV x2.2.1)] ?_ (fun K => ?_)
   rotate_left
   ·refine sp 37 hb_1 rfl (fun hb_1 => ?_) fun hb_1 => ?_
    ·refine arr 4 [] rfl ?_
     cases hb_1
     exact ku K
    ·refine ly rfl rfl <| la rfl <| ly rfl rfl <| lno k2 rfl <| arr 2 [] rfl ?_
     cases hb_1
     exact ku K
   refine en ?_
   refine ch h rfl ?_ ?_ <;> intro h
   ·refine att 6 [] rfl ?_
    refine WT.ret hF (resOk.two rfl rfl) (fun w1 hw => ?_)
    cases h
    replace hw := hw.addNil
    refine postG_of_St (js := [0]) hw rfl ⟨.slice none 0 0, rfl, rfl, OSl.nil _ _ _ _⟩
   refine atr 5 [3] rfl ?_
   have rc1 : RC RTToken 3 Φ_1 ([[]] : List (List Nat)) [iV x2.1.K, iV x2.1.N, .string x2.1.S] ([x2.1] : List TToken) := RC.cons (c := [iV x2.1.K, iV x2.1.N, .string x2.1.S]) (cells := []) ⟨rfl, rfl⟩ rfl (RC.nil _ _ _)
   refine le' (e_lit (vs := [(0, .agg [iV x2.1.K, iV x2.1.N, .string x2.1.S].toArray)]) (C := #[iV x2.1.K, iV x2.1.N, .string x2.1.S]) RTToken.lasts Sl_44 Zr_77 rfl rfl rfl rfl (fill_made MC_77_1 (fill_cons (C' := [iV x2.1.K, iV x2.1.N, .string x2.1.S]) rfl rfl rfl rfl rfl (fill_nil))) rfl rc1 rfl (by simpa using Kw.nil)) rfl ?_
   rintro v1 Φ_2 D1 ⟨fr1, h1⟩
   replace h1 : OSl RTToken 77 3 Φ_2 [] v1 ([x2.1] : List TToken) := by simpa using h1
   replace k2 := k2.f0 fr1
   obtain ⟨x3, hx3, h⟩ := bs h
   refine le' (e_appF RTToken.lasts RTToken.one RTToken.flat Sl_44 Ei_77 rfl rfl rfl rfl rfl (js := [1]) (Rr := [ob v1]) rfl k2 h1.rsl hx3) rfl ?_
   rintro v2 Φ_3 D2 ⟨⟨ap1, fr2⟩, h2⟩
   refine art 7 [] rfl ?_
   exact lb [0] [] (ih1 (_, _, _, _) ⟨h, h2⟩)
  refine ch h rfl ?_ ?_ <;> intro h
  ·refine WT.skip ?_
   exact wo [0] [] (K _ h)
  refine att 5 [] rfl ?_
  refine ch h rfl ?_ ?_ <;> intro h
  ·refine WT.skip ?_
   exact wo [0] [] (K _ h)
  refine att 5 [] rfl ?_
  refine ch h rfl ?_ ?_ <;> intro h
  ·refine WT.skip ?_
   exact wo [0] [] (K _ h)
  refine att 4 [] rfl ?_
  exact wo [0] [] (K _ h)
 refine att 7 [] rfl ?_
 exact rtg [0] hF (resOk.two rfl rfl) rfl (by cases h; exact fun w1 hw => ⟨u1, rfl, rfl, k2⟩)
theorem m_i_parser_next_ok (w0 : Base Ψ Φ []) (p0 : Tparser) (ph0_0 : RSl RTToken 3 Ψ pG0_0 pv0_0 p0.tokens) (pp0 : Ψ pb0 = some (.cells #[pv0_0, iV p0.at_, .bool p0.bad] 75 (0, 0))) {r : TToken} (h : m_i_parser_next N p0 = some r) :
  CB w0 prog 97 [pQ pb0] (.agg [iV r.K, iV r.N, .string r.S].toArray) := by
 refine eN func97 rfl ntmps97 rfl w0 fun hF => ?_
 unfold m_i_parser_next at h
 refine sr <| lnz Zr_77 rfl fun b_1 => art 3 [] rfl <| WT.draw mixed (by kernel_rfl) (fun _ h => h.drew) <| qq (q_move rfl) rfl <| qq (q_nilCheck rfl) rfl <| qq (q_fieldAddr Fld_75_2 rfl) rfl <| qq (q_load1 T1_4 rfl (fun w1 hw => ((rg_cells pp0).of_eq 2 1 rfl rfl : rg _ _ _ [.bool p0.bad]).rangeAt hw.in0)) rfl <| qq (q_move rfl) rfl ?_
 obtain ⟨b1, hb_1, h⟩ := bs h
 refine WQ.cutN 11 [(18, .bool b1), (0, pQ pb0), (2, pQ b_1)] ?_ (fun K => ?_)
 rotate_left
 ·refine WQ.split (d := 7) rfl (fun c1 => ?_) (fun c1 => ?_)
  ·replace hb_1 := ite_t hb_1 c1
   refine aqq 11 [] rfl ?_
   cases hb_1
   exact kq K
  ·replace hb_1 := ite_f hb_1 c1
   refine WQ.yes rfl rfl <| qq (q_move rfl) rfl <| WQ.yes rfl rfl <| qq (q_nilCheck rfl) rfl <| WQ.yes rfl rfl <| qq (q_fieldAddr Fld_75_1 rfl) rfl <| WQ.yes rfl rfl <| qq (q_load1 T1_3 rfl (fun w1 hw => ((rg_cells pp0).of_eq 1 1 rfl rfl : rg _ _ _ [iV p0.at_]).rangeAt hw.in0)) rfl <| WQ.yes rfl rfl <| qq (q_move rfl) rfl <| WQ.yes rfl rfl <| qq (q_nilCheck rfl) rfl <| WQ.yes rfl rfl <| qq (q_fieldAddr Fld_75_0 rfl) rfl <| WQ.yes rfl rfl <| qq (q_load1 T1_44 rfl (fun w1 hw => ((rg_cells pp0).of_eq 0 1 rfl rfl : rg _ _ _ [pv0_0]).rangeAt hw.in0)) rfl <| WQ.yes rfl rfl ?_
   refine qq (q_lenR Sl_44 rfl rfl ph0_0) rfl <| aqq 2 [] rfl ?_
   cases hb_1
   exact kq K
 refine WQ.nil ?_
 refine ch h rfl ?_ ?_ <;> intro h
 ·refine sr <| lq (q_build (vs := []) (C := #[iV 0, iV 0, .string (⟨#[]⟩ : ByteArray)]) Pl_77 Zr_77 rfl (fill_nil)) rfl <| soN 0 Sz_77 rfl ⟨rfl, rfl, rfl, trivial⟩ rfl ?_
  refine en ?_
  refine WT.ret hF (resOk.one (rv_cell Tn_77 rfl (fun w1 hw => hw.rgO (i := 0) rfl 0 3 [iV 0, iV 0, .string (⟨#[]⟩ : ByteArray)] rfl) rfl)) (fun w1 hw => ?_)
  cases h
  exact post_of_St hw
 refine att 2 [] rfl <| wm [0] [10] rfl <| amm 1 [0] [0] rfl rfl <| mq 1 rfl (by kernel_rfl) (kN [0]) (q_nilCheck rfl) rfl <| amm 1 [2, 0] [0] rfl rfl <| mq 3 rfl (by kernel_rfl) (kN [0]) (q_load1 T1_44 rfl (fun w1 hw => ((rg_cells pp0).of_eq 0 1 rfl rfl : rg _ _ _ [pv0_0]).rangeAt hw.1)) rfl <| amm 1 [4] [0] rfl rfl <| mq 5 rfl (by kernel_rfl) (kN [0]) (q_nilCheck rfl) rfl <| amm 1 [6, 1] [0] rfl rfl <| mq 7 rfl (by kernel_rfl) (kN [0]) (q_load1 T1_3 rfl (fun w1 hw => ((rg_cells pp0).of_eq 1 1 rfl rfl : rg _ _ _ [iV p0.at_]).rangeAt hw.1)) rfl ?_
 obtain ⟨x1, hx1, h⟩ := bs h
 obtain ⟨cs1, F1, -, g1, hb1, hs1, r1⟩ := ph0_0.el (idx_some hx1).2.2
 obtain ⟨rfl, -⟩ := r1
 refine mq 8 rfl (by kernel_rfl) (kN [0]) (q_indexAddr Sl_44 rfl rfl ph0_0 hx1) rfl <| mq 9 rfl (by kernel_rfl) (kN [0]) (q_loadN Tn_77 rfl (fun w1 hw => (g1.of_eq 0 3 rfl rfl : rg _ _ _ [iV x1.K, iV x1.N, .string x1.S]).rangeAt hw.1) rfl) rfl ?_
 refine on1 10 (msN 0 rfl nk Sz_77 rfl ⟨rfl, rfl, rfl, trivial⟩ rfl rfl ?_)
 refine WM.nil (by kernel_rfl) ?_
 refine WT.ret hF (resOk.one (rv_cell Tn_77 rfl (fun w1 hw => hw.rgO (i := 0) rfl 0 3 [iV x1.K, iV x1.N, .string x1.S] rfl) rfl)) (fun w1 hw => ?_)
 cases h
 exact post_of_St hw
theorem m_i_parser_is_ok (w0 : Base Ψ Φ []) (p0 : Tparser) (p1 : Int) (p2 : ByteArray) (ph0_0 : RSl RTToken 3 Ψ pG0_0 pv0_0 p0.tokens) (pp0 : Ψ pb0 = some (.cells #[pv0_0, iV p0.at_, .bool p0.bad] 75 (0, 0))) {r : Bool} (h : m_i_parser_is N p0 p1 p2 = some r) :
  CB w0 prog 154 [pQ pb0, iV p1, .string p2] (.bool r) := by
 refine eN func154 rfl ntmps154 rfl w0 fun hF => ?_
 unfold m_i_parser_is at h
 refine atr 7 [] rfl <| qd h (m_i_parser_next_ok N · p0 ph0_0 pp0 ·) rfl rfl rfl fun x1 h => arr 2 [] rfl <| lq (q_build (vs := [(0, iV p1), (2, .string p2)]) (C := #[iV p1, iV 0, .string p2]) Pl_77 Zr_77 rfl (fill_cons (C' := [iV p1, iV 0, .string ⟨#[]⟩]) rfl rfl rfl rfl rfl (fill_cons (C' := [iV p1, iV 0, .string p2]) rfl rfl rfl rfl rfl (fill_nil)))) rfl <| lq (q_eqA EqT_77 rfl rfl rfl (r := eqT_TToken x1 (⟨p1, 0, p2⟩ : TToken)) rfl) rfl <| la rfl <| en ?_
 exact rt hF h
theorem m_i_parser_skip_ok (w0 : Base Ψ Φ [[pb0]].flatten) (p0 : Tparser) (p1 : Int) (p2 : ByteArray) (ph0_0 : RSl RTToken 3 Ψ pG0_0 pv0_0 p0.tokens) (pp0 : Φ pb0 = some (.cells #[pv0_0, iV p0.at_, .bool p0.bad] 75 (0, 0))) {r : Bool × Tparser} (h : m_i_parser_skip N p0 p1 p2 = some r) :
  Calls prog 96 [pQ pb0, iV p1, .string p2].toArray w0.w (PostG Φ w0.w [[pb0]].flatten (fun Φ' Fs v => v = .bool r.1 ∧ Fs = [[pb0]] ∧ r.2.tokens = p0.tokens ∧ Φ' pb0 = some (.cells #[pv0_0, iV r.2.at_, .bool r.2.bad] 75 (0, 0)))) := by
 refine eL func96 rfl ntmps96 rfl (L := [[pb0]]) w0 (fun hF => ?_)
 unfold m_i_parser_skip at h
 refine atr 10 [] rfl <| qz h (fun b z q => m_i_parser_is_ok N b p0 p1 p2 (ph0_0.y z) pp0 q) rfl rfl rfl fun x1 h => la rfl <| en ?_
 refine ch h rfl ?_ ?_ <;> intro h
 ·refine att 4 [] rfl ?_
  exact rtg [0] hF (resOk.one rfl) rfl (by cases h; exact fun w1 hw => ⟨rfl, rfl, rfl, pp0⟩)
 refine atr 4 [] rfl <| lq (q_nilCheck rfl) rfl <| lf Fld_75_1 rfl rfl rfl <| lgx 1 0 (rg_cells pp0) rfl <| la rfl <| lq (q_nilCheck rfl) rfl <| lf Fld_75_1 rfl rfl rfl ?_
 refine WL.thw (js := [0]) (R := []) rfl pp0 (fun Φ_1 ap1 fr1 => ?_)
 refine so1 0 Sz_3 rfl rfl ?_
 refine art 5 [] rfl ?_
 refine WT.frz (js := [0]) (R := []) rfl (fun Φ_2 fr2 k1 => ?_)
 exact rtg [0] hF (resOk.one rfl) rfl (by cases h; exact fun w1 hw => ⟨rfl, rfl, rfl, k1⟩)
theorem m_i_parser_take_ok (w0 : Base Ψ Φ [[pb0]].flatten) (p0 : Tparser) (p1 : Int) (p2 : ByteArray) (ph0_0 : RSl RTToken 3 Ψ pG0_0 pv0_0 p0.tokens) (pp0 : Φ pb0 = some (.cells #[pv0_0, iV p0.at_, .bool p0.bad] 75 (0, 0))) {r : Tparser} (h : m_i_parser_take N p0 p1 p2 = some r) :
  Calls prog 46 [pQ pb0, iV p1, .string p2].toArray w0.w (PostG Φ w0.w [[pb0]].flatten (fun Φ' Fs v => v = .tuple #[] ∧ Fs = [[pb0]] ∧ r.tokens = p0.tokens ∧ Φ' pb0 = some (.cells #[pv0_0, iV r.at_, .bool r.bad] 75 (0, 0)))) := by
 refine eL func46 rfl ntmps46 rfl (L := [[pb0]]) w0 (fun hF => ?_)
 unfold m_i_parser_take at h
 refine atr 5 [] rfl <| kcb [0] h rfl rfl rfl rfl (fun b ap z q => m_i_parser_skip_ok N b p0 p1 p2 (ph0_0.y z) pp0 q) ?_
 rintro x1 h v1 Φ_1 F1 ⟨ap1, fr1, rfl, rfl, e1, h1⟩
 refine la rfl <| en ?_
 refine ch h rfl ?_ ?_ <;> intro h
 ·refine atr 2 [] rfl <| lq (q_nilCheck rfl) rfl <| lf Fld_75_2 rfl rfl rfl ?_
  refine WL.thw (js := [0]) (R := []) rfl h1 (fun Φ_2 ap2 fr2 => ?_)
  refine so1 0 Sz_4 rfl rfl ?_
  refine en ?_
  refine WT.frz (js := [0]) (R := []) rfl (fun Φ_3 fr3 k1 => ?_)
  refine WT.fin hF resOk.none (fun w1 hw => ?_)
  cases h
  refine postG_of_St (js := [0]) hw rfl ⟨rfl, rfl, rfl, k1⟩
 refine WT.skip ?_
 refine WT.fin hF resOk.none (fun w1 hw => ?_)
 cases h
 refine postG_of_St (js := [0]) hw rfl ⟨rfl, rfl, rfl, h1⟩
theorem m_i_parser_word_ok (w0 : Base Ψ Φ [[pb0]].flatten) (p0 : Tparser) (p1 : Int) (ph0_0 : RSl RTToken 3 Ψ pG0_0 pv0_0 p0.tokens) (pp0 : Φ pb0 = some (.cells #[pv0_0, iV p0.at_, .bool p0.bad] 75 (0, 0))) {r : TToken × Tparser} (h : m_i_parser_word N p0 p1 = some r) :
  Calls prog 47 [pQ pb0, iV p1].toArray w0.w (PostG Φ w0.w [[pb0]].flatten (fun Φ' Fs v => v = .agg [iV r.1.K, iV r.1.N, .string r.1.S].toArray ∧ Fs = [[pb0]] ∧ r.2.tokens = p0.tokens ∧ Φ' pb0 = some (.cells #[pv0_0, iV r.2.at_, .bool r.2.bad] 75 (0, 0)))) := by
 refine eL func47 rfl ntmps47 rfl (L := [[pb0]]) w0 (fun hF => ?_)
 unfold m_i_parser_word at h
 refine sr <| lnz Zr_77 rfl fun b_1 => arr 4 [] rfl <| qz h (fun b z q => m_i_parser_next_ok N b p0 (ph0_0.y z) pp0 q) rfl rfl rfl fun x1 h => lnz Zr_77 rfl fun b_2 => soN 0 Sz_77 rfl ⟨rfl, rfl, rfl, trivial⟩ rfl ?_
 refine art 9 [0, 0] rfl ?_
 refine ch h rfl ?_ ?_ <;> intro h
 ·refine sr <| la rfl <| lq (q_nilCheck rfl) rfl <| lf Fld_75_2 rfl rfl rfl ?_
  refine WL.thw (js := [0]) (R := []) rfl pp0 (fun Φ_1 ap1 fr1 => ?_)
  refine so1 0 Sz_4 rfl rfl ?_
  refine en <| sr <| lq (q_build (vs := []) (C := #[iV 0, iV 0, .string (⟨#[]⟩ : ByteArray)]) Pl_77 Zr_77 rfl (fill_nil)) rfl <| soN 2 Sz_77 rfl ⟨rfl, rfl, rfl, trivial⟩ rfl ?_
  refine en ?_
  refine WT.frz (js := [0]) (R := [(b_2, .cells #[iV x1.K, iV x1.N, .string x1.S] 77 (0, 0)), (b_1, .cells #[iV 0, iV 0, .string (⟨#[]⟩ : ByteArray)] 77 (0, 0))]) rfl (fun Φ_2 fr2 k1 => ?_)
  exact rtg [0] hF (resOk.one (rv_cell Tn_77 rfl (fun w1 hw => hw.rgO (i := 1) rfl 0 3 [iV 0, iV 0, .string (⟨#[]⟩ : ByteArray)] rfl) rfl)) rfl (by cases h; exact fun w1 hw => ⟨rfl, rfl, rfl, k1⟩)
 refine atr 4 [] rfl <| lq (q_nilCheck rfl) rfl <| lf Fld_75_1 rfl rfl rfl <| lgx 1 0 (rg_cells pp0) rfl <| la rfl <| lq (q_nilCheck rfl) rfl <| lf Fld_75_1 rfl rfl rfl ?_
 refine WL.thw (js := [0]) (R := []) rfl pp0 (fun Φ_3 ap2 fr3 => ?_)
 refine so1 0 Sz_3 rfl rfl ?_
 refine arr 4 [35] rfl <| soN 2 Sz_77 rfl ⟨rfl, rfl, rfl, trivial⟩ rfl ?_
 refine en ?_
 refine WT.frz (js := [0]) (R := [(b_2, .cells #[iV x1.K, iV x1.N, .string x1.S] 77 (0, 0)), (b_1, .cells #[iV x1.K, iV x1.N, .string x1.S] 77 (0, 0))]) rfl (fun Φ_4 fr4 k2 => ?_)
 exact rtg [0] hF (resOk.one (rv_cell Tn_77 rfl (fun w1 hw => hw.rgO (i := 1) rfl 0 3 [iV x1.K, iV x1.N, .string x1.S] rfl) rfl)) rfl (by cases h; exact fun w1 hw => ⟨rfl, rfl, rfl, k2⟩)
theorem m_i_parser_number_ok (w0 : Base Ψ Φ [[pb0]].flatten) (p0 : Tparser) (ph0_0 : RSl RTToken 3 Ψ pG0_0 pv0_0 p0.tokens) (pp0 : Φ pb0 = some (.cells #[pv0_0, iV p0.at_, .bool p0.bad] 75 (0, 0))) {r : Int × Tparser} (h : m_i_parser_number N p0 = some r) :
  Calls prog 98 [pQ pb0].toArray w0.w (PostG Φ w0.w [[pb0]].flatten (fun Φ' Fs v => v = iV r.1 ∧ Fs = [[pb0]] ∧ r.2.tokens = p0.tokens ∧ Φ' pb0 = some (.cells #[pv0_0, iV r.2.at_, .bool r.2.bad] 75 (0, 0)))) := by
 refine eL func98 rfl ntmps98 rfl (L := [[pb0]]) w0 (fun hF => ?_)
 unfold m_i_parser_number at h
 refine atr 8 [] rfl <| kcb [0] h rfl rfl rfl rfl (fun b ap z q => m_i_parser_skip_ok N b p0 5 (⟨#[45]⟩ : ByteArray) (ph0_0.y z) pp0 q) ?_
 rintro x1 h v1 Φ_1 F1 ⟨ap1, fr1, rfl, rfl, e1, h1⟩
 refine en ?_
 refine ch h rfl ?_ ?_ <;> intro h
 ·refine sr <| la rfl <| kcb [0] h rfl rfl rfl rfl (fun b ap z q => m_i_parser_word_ok N b (⟨p0.tokens, x1.2.at_, x1.2.bad⟩ : Tparser) 1 (ph0_0.y z) h1 q) ?_
  rintro x2 h v2 Φ_2 F2 ⟨ap2, fr2, rfl, rfl, e2, h2⟩
  refine lq (q_field1 Fd1_77_1 rfl rfl) rfl <| lq (q_neg rfl) rfl <| la rfl <| en ?_
  exact rtg [0] hF (resOk.one rfl) rfl (by cases h; exact fun w1 hw => ⟨rfl, rfl, rfl, h2⟩)
 refine atr 4 [] rfl <| kcb [0] h rfl rfl rfl rfl (fun b ap z q => m_i_parser_word_ok N b (⟨p0.tokens, x1.2.at_, x1.2.bad⟩ : Tparser) 1 (ph0_0.y z) h1 q) ?_
 rintro x3 h v3 Φ_3 F3 ⟨ap3, fr3, rfl, rfl, e3, h3⟩
 refine lq (q_field1 Fd1_77_1 rfl rfl) rfl <| la rfl <| en ?_
 exact rtg [0] hF (resOk.one rfl) rfl (by cases h; exact fun w1 hw => ⟨rfl, rfl, rfl, h3⟩)
theorem m_i_parser_arg_ok (w0 : Base Ψ Φ [[pb0]].flatten) (p0 : Tparser) (ph0_0 : RSl RTToken 3 Ψ pG0_0 pv0_0 p0.tokens) (pp0 : Φ pb0 = some (.cells #[pv0_0, iV p0.at_, .bool p0.bad] 75 (0, 0))) {r : TArg × Tparser} (h : m_i_parser_arg N p0 = some r) :
  Calls prog 157 [pQ pb0].toArray w0.w (PostG Φ w0.w [[pb0]].flatten (fun Φ' Fs v => v = .agg [iV r.1.K, .string r.1.S, iV r.1.V.K, iV r.1.V.N, .string r.1.V.S].toArray ∧ Fs = [[pb0]] ∧ r.2.tokens = p0.tokens ∧ Φ' pb0 = some (.cells #[pv0_0, iV r.2.at_, .bool r.2.bad] 75 (0, 0)))) := by
 refine eL func157 rfl ntmps157 rfl (L := [[pb0]]) w0 (fun hF => ?_)
 unfold m_i_parser_arg at h
 refine sr <| lnz Zr_60 rfl fun b_1 => arr 4 [] rfl <| qz h (fun b z q => m_i_parser_next_ok N b p0 (ph0_0.y z) pp0 q) rfl rfl rfl fun x1 h => lnz Zr_77 rfl fun b_2 => soN 0 Sz_77 rfl ⟨rfl, rfl, rfl, trivial⟩ rfl ?_
 refine art 10 [0, 0] rfl ?_
 refine ch h rfl ?_ ?_ <;> intro h
 ·refine sr <| la rfl <| lq (q_nilCheck rfl) rfl <| lf Fld_75_1 rfl rfl rfl <| lgx 1 0 (rg_cells pp0) rfl <| la rfl <| lq (q_nilCheck rfl) rfl <| lf Fld_75_1 rfl rfl rfl ?_
  refine WL.thw (js := [0]) (R := []) rfl pp0 (fun Φ_1 ap1 fr1 => ?_)
  refine so1 0 Sz_3 rfl rfl ?_
  refine arr 5 [2, 32] rfl <| lq (q_build (vs := [(0, iV 1), (1, .string x1.S)]) (C := #[iV 1, .string x1.S, iV 0, iV 0, .string (⟨#[]⟩ : ByteArray)]) Pl_60 Zr_60 rfl (fill_cons (C' := [iV 1, .string ⟨#[]⟩, iV 0, iV 0, .string ⟨#[]⟩]) rfl rfl rfl rfl rfl (fill_cons (C' := [iV 1, .string x1.S, iV 0, iV 0, .string ⟨#[]⟩]) rfl rfl rfl rfl rfl (fill_nil)))) rfl <| soN 2 Sz_60 rfl ⟨rfl, rfl, rfl, rfl, rfl, trivial⟩ rfl ?_
  refine en ?_
  refine WT.frz (js := [0]) (R := [(b_2, .cells #[iV x1.K, iV x1.N, .string x1.S] 77 (0, 0)), (b_1, .cells #[iV 1, .string x1.S, iV 0, iV 0, .string (⟨#[]⟩ : ByteArray)] 60 (0, 0))]) rfl (fun Φ_2 fr2 k1 => ?_)
  exact rtg [0] hF (resOk.one (rv_cell Tn_60 rfl (fun w1 hw => hw.rgO (i := 1) rfl 0 5 [iV 1, .string x1.S, iV 0, iV 0, .string (⟨#[]⟩ : ByteArray)] rfl) rfl)) rfl (by cases h; exact fun w1 hw => ⟨rfl, rfl, rfl, k1⟩)
 refine att 7 [0, 0] rfl ?_
 refine ch h rfl ?_ ?_ <;> intro h
 ·refine sr <| la rfl <| lq (q_nilCheck rfl) rfl <| lf Fld_75_1 rfl rfl rfl <| lgx 1 0 (rg_cells pp0) rfl <| la rfl <| lq (q_nilCheck rfl) rfl <| lf Fld_75_1 rfl rfl rfl ?_
  refine WL.thw (js := [0]) (R := []) rfl pp0 (fun Φ_3 ap2 fr3 => ?_)
  refine so1 0 Sz_3 rfl rfl ?_
  refine arr 5 [2, 32] rfl <| lq (q_build (vs := [(0, iV 2), (2, .string x1.S)]) (C := #[iV 2, iV 0, .string x1.S]) Pl_58 Zr_58 rfl (fill_cons (C' := [iV 2, iV 0, .string ⟨#[]⟩]) rfl rfl rfl rfl rfl (fill_cons (C' := [iV 2, iV 0, .string x1.S]) rfl rfl rfl rfl rfl (fill_nil)))) rfl ?_
  refine lq (q_build (vs := [(0, iV 2), (2, .agg [iV 2, iV 0, .string x1.S].toArray)]) (C := #[iV 2, .string (⟨#[]⟩ : ByteArray), iV 2, iV 0, .string x1.S]) Pl_60 Zr_60 rfl (fill_cons (C' := [iV 2, .string ⟨#[]⟩, iV 0, iV 0, .string ⟨#[]⟩]) rfl rfl rfl rfl rfl (fill_cons (C' := [iV 2, .string ⟨#[]⟩, iV 2, iV 0, .string x1.S]) rfl rfl rfl rfl rfl (fill_nil)))) rfl <| soN 2 Sz_60 rfl ⟨rfl, rfl, rfl, rfl, rfl, trivial⟩ rfl ?_
  refine en ?_
  refine WT.frz (js := [0]) (R := [(b_2, .cells #[iV x1.K, iV x1.N, .string x1.S] 77 (0, 0)), (b_1, .cells #[iV 2, .string (⟨#[]⟩ : ByteArray), iV 2, iV 0, .string x1.S] 60 (0, 0))]) rfl (fun Φ_4 fr4 k2 => ?_)
  exact rtg [0] hF (resOk.one (rv_cell Tn_60 rfl (fun w1 hw => hw.rgO (i := 1) rfl 0 5 [iV 2, .string (⟨#[]⟩ : ByteArray), iV 2, iV 0, .string x1.S] rfl) rfl)) rfl (by cases h; exact fun w1 hw => ⟨rfl, rfl, rfl, k2⟩)
 refine sr <| la rfl <| kcb [0] h rfl rfl rfl rfl (fun b ap z q => m_i_parser_skip_ok N b p0 5 (⟨#[95]⟩ : ByteArray) (ph0_0.y z) pp0 q) ?_
 rintro x2 h v1 Φ_5 F1 ⟨ap3, fr5, rfl, rfl, e1, h1⟩
 refine la rfl <| en ?_
 refine ch h rfl ?_ ?_ <;> intro h
 ·refine sr <| lq (q_build (vs := [(0, iV 3)]) (C := #[iV 3, .string (⟨#[]⟩ : ByteArray), iV 0, iV 0, .string (⟨#[]⟩ : ByteArray)]) Pl_60 Zr_60 rfl (fill_cons (C' := [iV 3, .string ⟨#[]⟩, iV 0, iV 0, .string ⟨#[]⟩]) rfl rfl rfl rfl rfl (fill_nil))) rfl <| soN 1 Sz_60 rfl ⟨rfl, rfl, rfl, rfl, rfl, trivial⟩ rfl ?_
  refine en ?_
  exact rtg [0] hF (resOk.one (rv_cell Tn_60 rfl (fun w1 hw => hw.rgO (i := 1) rfl 0 5 [iV 3, .string (⟨#[]⟩ : ByteArray), iV 0, iV 0, .string (⟨#[]⟩ : ByteArray)] rfl) rfl)) rfl (by cases h; exact fun w1 hw => ⟨rfl, rfl, rfl, h1⟩)
 refine atr 5 [] rfl <| kcb [0] h rfl rfl rfl rfl (fun b ap z q => m_i_parser_number_ok N b (⟨p0.tokens, x2.2.at_, x2.2.bad⟩ : Tparser) (ph0_0.y z) h1 q) ?_
 rintro x3 h v2 Φ_6 F2 ⟨ap4, fr6, rfl, rfl, e2, h2⟩
 refine lq (q_build (vs := [(0, iV 1), (1, iV x3.1)]) (C := #[iV 1, iV x3.1, .string (⟨#[]⟩ : ByteArray)]) Pl_58 Zr_58 rfl (fill_cons (C' := [iV 1, iV 0, .string ⟨#[]⟩]) rfl rfl rfl rfl rfl (fill_cons (C' := [iV 1, iV x3.1, .string ⟨#[]⟩]) rfl rfl rfl rfl rfl (fill_nil)))) rfl ?_
 refine lq (q_build (vs := [(0, iV 2), (2, .agg [iV 1, iV x3.1, .string (⟨#[]⟩ : ByteArray)].toArray)]) (C := #[iV 2, .string (⟨#[]⟩ : ByteArray), iV 1, iV x3.1, .string (⟨#[]⟩ : ByteArray)]) Pl_60 Zr_60 rfl (fill_cons (C' := [iV 2, .string ⟨#[]⟩, iV 0, iV 0, .string ⟨#[]⟩]) rfl rfl rfl rfl rfl (fill_cons (C' := [iV 2, .string ⟨#[]⟩, iV 1, iV x3.1, .string (⟨#[]⟩ : ByteArray)]) rfl rfl rfl rfl rfl (fill_nil)))) rfl <| soN 1 Sz_60 rfl ⟨rfl, rfl, rfl, rfl, rfl, trivial⟩ rfl ?_
 refine en ?_
 exact rtg [0] hF (resOk.one (rv_cell Tn_60 rfl (fun w1 hw => hw.rgO (i := 1) rfl 0 5 [iV 2, .string (⟨#[]⟩ : ByteArray), iV 1, iV x3.1, .string (⟨#[]⟩ : ByteArray)] rfl) rfl)) rfl (by cases h; exact fun w1 hw => ⟨rfl, rfl, rfl, h2⟩)
theorem m_i_parser_pat_c1_ok (w0 : Base Ψ Φ [[pbc0], ob pvc0_0, [pbt1]].flatten) (c0 : TPat) (c1 : Tparser) (phc0_0 : OSl RTArg 60 5 Φ [] pvc0_0 c0.Args) (ppc0 : Φ pbc0 = some (.cells #[.string c0.Kind, pvc0_0, .bool c0.Not] 35 (0, 0))) (pht1_0 : RSl RTToken 3 Ψ pGt1_0 pvt1_0 c1.tokens) (ppt1 : Φ pbt1 = some (.cells #[pvt1_0, iV c1.at_, .bool c1.bad] 75 (0, 0))) (ppc1 : Ψ pbc1 = some (.cells #[pQ pbt1] 125 (0, 0))) {r : TPat × Tparser} (h : m_i_parser_pat_c1 N c0 c1 = some r) :
  Calls prog 156 [pQ pbc0, pQ pbc1].toArray w0.w (PostG Φ w0.w [[pbc0], ob pvc0_0, [pbt1]].flatten (fun Φ' Fs v => ∃ (so_0_0 : Value), v = .tuple #[] ∧ Fs = [[pbc0], ob so_0_0, [pbt1]] ∧ OSl RTArg 60 5 Φ' [] so_0_0 r.1.Args ∧ Φ' pbc0 = some (.cells #[.string r.1.Kind, so_0_0, .bool r.1.Not] 35 (0, 0)) ∧ r.2.tokens = c1.tokens ∧ Φ' pbt1 = some (.cells #[pvt1_0, iV r.2.at_, .bool r.2.bad] 75 (0, 0)))) := by
 refine eL func156 rfl ntmps156 rfl (L := [[pbc0], ob pvc0_0, [pbt1]]) w0 (fun hF => ?_)
 unfold m_i_parser_pat_c1 at h
 refine WT.mix (Kn w0 Φ [pbc0] []) (fun i => match i with | 7 => false | _ => true) mixed (fun _ h => h.drew) <| mq 0 rfl (by kernel_rfl) (kn Kf.id aN) (q_fieldAddr Fld_35_1 rfl) rfl <| mq 1 rfl (by kernel_rfl) (kn Kf.id aN) (q_load1 T1_33 rfl (fun w1 hw => hw.rg (by simp) ((rg_cells ppc0).of_eq 1 1 rfl rfl : rg _ _ _ [pvc0_0]))) rfl <| mq 2 rfl (by kernel_rfl) (kn Kf.id aN) (q_load1 T1_125 rfl (fun w1 hw => ((rg_cells ppc1).of_eq 0 1 rfl rfl : rg _ _ _ [pQ pbt1]).rangeAt hw.1)) rfl ?_
 obtain ⟨x1, hx1, h⟩ := bs h
 refine WM.one 3 (by kernel_rfl) (mc rfl (fun _ v Φx D w1 hq hw => Kn.of (Kf.id.st hq.2.1 (hq.1.r (i := 0) rfl)) aN hw) (k_call (js := [2]) (R := [[pbc0], ob pvc0_0]) Fun_157 rfl rfl (fun w1 hw ap hl => m_i_parser_arg_ok N (bx hw ap hl) c1 (pht1_0.y (hw.uo ap)) ppt1  hx1)) rfl ?_)
 rintro v1 Φ_1 F1 ⟨ap1, fr1, rfl, rfl, e1, h1⟩
 replace phc0_0 := phc0_0.fr fr1 (ap1.q 1 rfl) dN
 replace ppc0 := fr1 _ _ ((ap1.q 0 rfl) _ (by simp)) ppc0
 have rc1 : RC RTArg 5 Φ_1 ([[]] : List (List Nat)) [iV x1.1.K, .string x1.1.S, iV x1.1.V.K, iV x1.1.V.N, .string x1.1.V.S] ([x1.1] : List TArg) := RC.cons (c := [iV x1.1.K, .string x1.1.S, iV x1.1.V.K, iV x1.1.V.N, .string x1.1.V.S]) (cells := []) ⟨rfl, rfl⟩ rfl (RC.nil _ _ _)
 have kf1 := (Kf.id (F := [pbc0]) : Kf Φ _ _).st fr1 (ap1.q 0 rfl)
 refine WM.one 4 (by kernel_rfl) (me rfl (fun _ v Φx D w1 hq hw => Kn.of (kf1.se hq.1) aN hw) (e_lit (vs := [(0, .agg [iV x1.1.K, .string x1.1.S, iV x1.1.V.K, iV x1.1.V.N, .string x1.1.V.S].toArray)]) (C := #[iV x1.1.K, .string x1.1.S, iV x1.1.V.K, iV x1.1.V.N, .string x1.1.V.S]) RTArg.lasts Sl_33 Zr_60 rfl rfl rfl rfl (fill_made MC_60_1 (fill_cons (C' := [iV x1.1.K, .string x1.1.S, iV x1.1.V.K, iV x1.1.V.N, .string x1.1.V.S]) rfl rfl rfl rfl rfl (fill_nil))) rfl rc1 rfl (by simpa using Kw.nil)) rfl ?_)
 rintro v2 Φ_2 D1 ⟨fr2, h2⟩
 replace h2 : OSl RTArg 60 5 Φ_2 [] v2 ([x1.1] : List TArg) := by simpa using h2
 replace phc0_0 := phc0_0.f0 fr2
 replace ppc0 := fr2 _ _ (by simp) ppc0
 replace h1 := fr2 _ _ (by simp) h1
 obtain ⟨x2, hx2, h⟩ := bs h
 have kf2 := kf1.se fr2
 refine WM.one 5 (by kernel_rfl) (me rfl (fun _ v Φx D w1 hq hw => Kn.of (kf2.st hq.1.2 (hq.1.1.r (i := 2) rfl)) aN hw) (e_appF RTArg.lasts RTArg.one RTArg.flat Sl_33 Ei_60 rfl rfl rfl rfl rfl (js := [3]) (Rr := [ob v2, [pbt1], [pbc0]]) rfl phc0_0 h2.rsl hx2) rfl ?_)
 rintro v3 Φ_3 D2 ⟨⟨ap2, fr3⟩, h3⟩
 replace ppc0 := fr3 _ _ ((ap2.q 2 rfl) _ (by simp)) ppc0
 replace h1 := fr3 _ _ ((ap2.q 1 rfl) _ (by simp)) h1
 have kf3 := kf2.st fr3 (ap2.q 2 rfl)
 refine mq 6 rfl (by kernel_rfl) (kn kf3 aN) (q_fieldAddr Fld_35_1 rfl) rfl ?_
 refine WM.thw (js := [3]) (R := [ob v3, ob v2, [pbt1]]) rfl ppc0 (fun Φ_4 ap3 fr4 => ?_)
 replace h3 := h3.fr fr4 (ap3.q 0 rfl) dN
 replace h1 := fr4 _ _ ((ap3.q 2 rfl) _ (by simp)) h1
 refine on1 7 (ms1 0 rfl nk Sz_33 rfl h3.one ?_)
 refine WM.nil (by kernel_rfl) ?_
 refine WT.frz (js := [0]) (R := []) rfl (fun Φ_5 fr5 k1 => ?_)
 replace h3 := h3.f0 fr5
 replace h1 := fr5 _ _ (by simp) h1
 refine WT.fin hF resOk.none (fun w1 hw => ?_)
 cases h
 refine postG_of_St (js := [0, 0, 1]) hw rfl ⟨v3, rfl, rfl, h3, k1, rfl, h1⟩
theorem m_i_parser_listOf_parser_pat_c1_ok (w0 : Base Ψ Φ [[pb0], [pbc0], ob pvc0_0].flatten) (p0 : Tparser) (c0 : TPat) (ph0_0 : RSl RTToken 3 Ψ pG0_0 pv0_0 p0.tokens) (pp0 : Φ pb0 = some (.cells #[pv0_0, iV p0.at_, .bool p0.bad] 75 (0, 0))) (phc0_0 : OSl RTArg 60 5 Φ [] pvc0_0 c0.Args) (ppc0 : Φ pbc0 = some (.cells #[.string c0.Kind, pvc0_0, .bool c0.Not] 35 (0, 0))) (ppc1 : Ψ pbc1 = some (.cells #[pQ pb0] 125 (0, 0))) {r : Tparser × TPat} (h : m_i_parser_listOf_parser_pat_c1 N p0 c0 = some r) :
  Calls prog 155 [pQ pb0, .func (.func 156) #[] [pQ pbc0, pQ pbc1].toArray].toArray w0.w (PostG Φ w0.w [[pb0], [pbc0], ob pvc0_0].flatten (fun Φ' Fs v => ∃ (so_1_0 : Value), v = .tuple #[] ∧ Fs = [[pb0], [pbc0], ob so_1_0] ∧ r.1.tokens = p0.tokens ∧ Φ' pb0 = some (.cells #[pv0_0, iV r.1.at_, .bool r.1.bad] 75 (0, 0)) ∧ OSl RTArg 60 5 Φ' [] so_1_0 r.2.Args ∧ Φ' pbc0 = some (.cells #[.string r.2.Kind, so_1_0, .bool r.2.Not] 35 (0, 0)))) := by
 refine eL func155 rfl ntmps155 rfl (L := [[pb0], [pbc0], ob pvc0_0]) w0 (fun hF => ?_)
 unfold m_i_parser_listOf_parser_pat_c1 at h
 refine sr <| la rfl <| kcb [0] h rfl rfl rfl rfl (fun b ap z q => m_i_parser_take_ok N b p0 5 (⟨#[40]⟩ : ByteArray) (ph0_0.y z) pp0 q) ?_
 rintro x1 h v1 Φ_1 F1 ⟨ap1, fr1, rfl, rfl, e1, h1⟩
 replace phc0_0 := phc0_0.fr fr1 (ap1.q 1 rfl) dN
 replace ppc0 := fr1 _ _ ((ap1.q 0 rfl) _ (by simp)) ppc0
 refine arr 5 [] rfl <| kcb [0] h rfl rfl rfl rfl (fun b ap z q => m_i_parser_skip_ok N b (⟨p0.tokens, x1.at_, x1.bad⟩ : Tparser) 5 (⟨#[41]⟩ : ByteArray) (ph0_0.y z) h1 q) ?_
 rintro x2 h v2 Φ_2 F2 ⟨ap2, fr2, rfl, rfl, e2, h2⟩
 replace phc0_0 := phc0_0.fr fr2 (ap2.q 1 rfl) dN
 replace ppc0 := fr2 _ _ ((ap2.q 0 rfl) _ (by simp)) ppc0
 refine en ?_
 refine ch h rfl ?_ ?_ <;> intro h
 ·exact rtg [0, 0, 0] hF resOk.none rfl (by cases h; exact fun w1 hw => ⟨pvc0_0, rfl, rfl, rfl, h2, phc0_0, ppc0⟩)
 refine att 7 [] rfl ?_
 refine lin (σ := Hp × (List TArg) × Value × Bool × Int × Bool × ByteArray × Bool) (fun s => [(0, pQ pb0), (1, .func (.func 156) #[] [pQ pbc0, pQ pbc1].toArray), (4, .bool s.2.2.2.1)]) (fun s => St w0 s.1 [] [[pb0], [pbc0], ob s.2.2.1]) (fun m s => m_i_parser_listOf_parser_pat_c1_l1 N p0 m s.2.1 s.2.2.2.1 s.2.2.2.2.1 s.2.2.2.2.2.1 s.2.2.2.2.2.2.1 s.2.2.2.2.2.2.2 = some r ∧ (OSl RTArg 60 5 s.1 [] s.2.2.1 s.2.1) ∧ (s.1 pb0 = some (.cells #[pv0_0, iV s.2.2.2.2.1, .bool s.2.2.2.2.2.1] 75 (0, 0))) ∧ (s.1 pbc0 = some (.cells #[.string s.2.2.2.2.2.2.1, s.2.2.1, .bool s.2.2.2.2.2.2.2] 35 (0, 0)))) (Φ_2, c0.Args, pvc0_0, true, x2.2.at_, x2.2.bad, c0.Kind, c0.Not) N ⟨h, phc0_0, h2, ppc0⟩ (sx [0, 0, 0] []) (fun n1 ih1 s hm => ?_)
 obtain ⟨Φ_3, s1, u1, s2, s3, s4, s5, s6⟩ := s
 obtain ⟨h, k1, k2, k3⟩ := hm
 dsimp only at h k1 k2 k3 ⊢
 unfold m_i_parser_listOf_parser_pat_c1_l1 at h
 refine atr 5 [] rfl ?_
 obtain ⟨b3, hb_1, h⟩ := bs h
 refine WL.cutN 6 [(16, .bool b3), (0, pQ pb0), (1, .func (.func 156) #[] [pQ pbc0, pQ pbc1].toArray)] ?_ (fun K => ?_)
 rotate_left
 ·refine sp 10 hb_1 rfl (fun hb_1 => ?_) fun hb_1 => ?_
  ·refine ly rfl rfl <| la rfl <| ly rfl rfl <| lq (q_nilCheck rfl) rfl <| ly rfl rfl <| lf Fld_75_2 rfl rfl rfl <| ly rfl rfl <| lgx 2 0 (rg_cells k2) rfl <| arr 2 [] rfl ?_
   cases hb_1
   exact ku K
  ·refine arr 6 [] rfl ?_
   cases hb_1
   exact ku K
 refine en ?_
 refine ch h rfl ?_ ?_ <;> intro h
 ·refine atr 5 [] rfl ?_
  obtain ⟨x3, hx3, h⟩ := bs h
  refine lc (k_callV (js := [1, 1, 0]) (R := []) Fun_156 rfl rfl rfl (fun w1 hw ap hl => m_i_parser_pat_c1_ok N (bx hw ap hl) (⟨s5, s1, s6⟩ : TPat) (⟨p0.tokens, s3, s4⟩ : Tparser) k1 k3 (ph0_0.y (hw.uo ap)) k2 (hw.uo ap _ _ ppc1)  hx3)) rfl ?_
  rintro v3 Φ_4 F3 ⟨ap3, fr3, v4, rfl, rfl, h3, h4, e3, h5⟩
  refine arr 4 [] rfl <| kcb [2] h rfl rfl rfl rfl (fun b ap z q => m_i_parser_skip_ok N b (⟨p0.tokens, x3.2.at_, x3.2.bad⟩ : Tparser) 5 (⟨#[44]⟩ : ByteArray) (ph0_0.y z) h5 q) ?_
  rintro x4 h v5 Φ_5 F4 ⟨ap4, fr4, rfl, rfl, e4, h6⟩
  replace h3 := h3.fr fr4 (ap4.q 1 rfl) dN
  replace h4 := fr4 _ _ ((ap4.q 0 rfl) _ (by simp)) h4
  refine la rfl <| en ?_
  exact lb [0, 0, 0] [] (ih1 (_, _, _, _, _, _, _, _) ⟨h, h3, h6, h4⟩)
 refine atr 3 [] rfl <| kcb [0] h rfl rfl rfl rfl (fun b ap z q => m_i_parser_take_ok N b (⟨p0.tokens, s3, s4⟩ : Tparser) 5 (⟨#[41]⟩ : ByteArray) (ph0_0.y z) k2 q) ?_
 rintro x5 h v6 Φ_6 F5 ⟨ap5, fr5, rfl, rfl, e5, h7⟩
 replace k1 := k1.fr fr5 (ap5.q 1 rfl) dN
 replace k3 := fr5 _ _ ((ap5.q 0 rfl) _ (by simp)) k3
 refine en ?_
 refine WT.fin hF resOk.none (fun w1 hw => ?_)
 cases h
 refine postG_of_St (js := [0, 0, 0]) hw rfl ⟨u1, rfl, rfl, rfl, h7, k1, k3⟩
theorem m_i_parser_pat_ok (w0 : Base Ψ Φ [[pb0]].flatten) (p0 : Tparser) (ph0_0 : RSl RTToken 3 Ψ pG0_0 pv0_0 p0.tokens) (pp0 : Φ pb0 = some (.cells #[pv0_0, iV p0.at_, .bool p0.bad] 75 (0, 0))) {r : TPat × Tparser} (h : m_i_parser_pat N p0 = some r) :
  Calls prog 99 [pQ pb0].toArray w0.w (PostG Φ w0.w [[pb0]].flatten (fun Φ' Fs v => ∃ (sr_0_0 : Value), v = .agg [.string r.1.Kind, sr_0_0, .bool r.1.Not].toArray ∧ Fs = [ob sr_0_0, [pb0]] ∧ OSl RTArg 60 5 Φ' [] sr_0_0 r.1.Args ∧ r.2.tokens = p0.tokens ∧ Φ' pb0 = some (.cells #[pv0_0, iV r.2.at_, .bool r.2.bad] 75 (0, 0)))) := by
 refine eL func99 rfl ntmps99 rfl (L := [[pb0]]) w0 (fun hF => ?_)
 unfold m_i_parser_pat at h
 refine sr ?_
 refine ln (n_box (C := #[pQ pb0]) rfl (rfl)) rfl (fun b_1 => ?_)
 refine lnz Zr_35 rfl fun b_2 => arr 4 [32] rfl <| kcb [0] h rfl rfl rfl rfl (fun b ap z q => m_i_parser_skip_ok N b p0 5 (⟨#[33]⟩ : ByteArray) (ph0_0.y z) pp0 q) ?_
 rintro x1 h v1 Φ_1 F1 ⟨ap1, fr1, rfl, rfl, e1, h1⟩
 refine lq (q_build (vs := [(2, .bool x1.1)]) (C := #[.string (⟨#[]⟩ : ByteArray), .slice none 0 0, .bool x1.1]) Pl_35 Zr_35 rfl (fill_cons (C' := [.string ⟨#[]⟩, .slice none 0 0, .bool x1.1]) rfl rfl rfl rfl rfl (fill_nil))) rfl <| lnz Zr_35 rfl fun b_3 => soN 0 Sz_35 rfl ⟨rfl, rfl, rfl, trivial⟩ rfl ?_
 refine arr 4 [64] rfl <| kcb [0] h rfl rfl rfl rfl (fun b ap z q => m_i_parser_word_ok N b (⟨p0.tokens, x1.2.at_, x1.2.bad⟩ : Tparser) 2 (ph0_0.y z) h1 q) ?_
 rintro x2 h v2 Φ_2 F2 ⟨ap2, fr2, rfl, rfl, e2, h2⟩
 refine lq (q_field1 Fd1_77_2 rfl rfl) rfl <| lf Fld_35_0 rfl rfl rfl <| so1 0 Sz_9 rfl rfl ?_
 refine arr 4 [64] rfl ?_
 refine WL.frz (js := [0]) (R := [(b_2, .cells #[.string (⟨#[]⟩ : ByteArray), .slice none 0 0, .bool false] 35 (0, 0)), (b_1, .cells #[pQ pb0] 125 (0, 0))]) rfl (fun Φ_3 fr3 k1 => ?_)
 replace h2 := fr3 _ _ (by simp) h2
 refine WL.frz (js := [1]) (R := [(b_2, .cells #[.string (⟨#[]⟩ : ByteArray), .slice none 0 0, .bool false] 35 (0, 0))]) rfl (fun Φ_4 fr4 k2 => ?_)
 replace k1 := fr4 _ _ (by simp) k1
 replace h2 := fr4 _ _ (by simp) h2
 refine lq (q_makeFunc rfl) rfl <| wlS ?_
 have k3 := OSl.nil RTArg 60 5 Φ_4
 refine kcb [3, 2, 0] h rfl rfl rfl rfl (fun b ap z q => m_i_parser_listOf_parser_pat_c1_ok N b (⟨p0.tokens, x2.2.at_, x2.2.bad⟩ : Tparser) (⟨x2.1.S, ([] : List TArg), x1.1⟩ : TPat) (ph0_0.y z) h2 k3 k1 (offv k2 (ap.q 0 rfl)) q) ?_
 rintro x3 h v3 Φ_5 F3 ⟨ap3, fr5, v4, rfl, rfl, e3, h3, h4, h5⟩
 refine en <| sr <| lgx 0 3 (rg_cells h5) rfl <| soN 0 Sz_35 rfl ⟨rfl, h4.one, rfl, trivial⟩ rfl ?_
 refine en ?_
 exact rtg [2, 0] hF (resOk.one (rv_cell Tn_35 rfl (fun w1 hw => hw.rgO (i := 0) rfl 0 3 [.string x3.2.Kind, v4, .bool x3.2.Not] rfl) rfl)) rfl (by cases h; exact fun w1 hw => ⟨v4, rfl, rfl, h4, rfl, h3⟩)
theorem m_i_parser_cond_ok (w0 : Base Ψ Φ [[pb0]].flatten) (p0 : Tparser) (ph0_0 : RSl RTToken 3 Ψ pG0_0 pv0_0 p0.tokens) (pp0 : Φ pb0 = some (.cells #[pv0_0, iV p0.at_, .bool p0.bad] 75 (0, 0))) {r : TCond × Tparser} (h : m_i_parser_cond N p0 = some r) :
  Calls prog 100 [pQ pb0].toArray w0.w (PostG Φ w0.w [[pb0]].flatten (fun Φ' Fs v => v = .agg [iV r.1.Op, iV r.1.L.K, .string r.1.L.S, iV r.1.L.V.K, iV r.1.L.V.N, .string r.1.L.V.S, iV r.1.R.K, .string r.1.R.S, iV r.1.R.V.K, iV r.1.R.V.N, .string r.1.R.V.S].toArray ∧ Fs = [[pb0]] ∧ r.2.tokens = p0.tokens ∧ Φ' pb0 = some (.cells #[pv0_0, iV r.2.at_, .bool r.2.bad] 75 (0, 0)))) := by
 refine eL func100 rfl ntmps100 rfl (L := [[pb0]]) w0 (fun hF => ?_)
 unfold m_i_parser_cond at h
 refine sr <| lnz Zr_62 rfl fun b_1 => arr 4 [] rfl <| kcb [0] h rfl rfl rfl rfl (fun b ap z q => m_i_parser_arg_ok N b p0 (ph0_0.y z) pp0 q) ?_
 rintro x1 h v1 Φ_1 F1 ⟨ap1, fr1, rfl, rfl, e1, h1⟩
 refine lq (q_build (vs := [(1, .agg [iV x1.1.K, .string x1.1.S, iV x1.1.V.K, iV x1.1.V.N, .string x1.1.V.S].toArray)]) (C := #[iV 0, iV x1.1.K, .string x1.1.S, iV x1.1.V.K, iV x1.1.V.N, .string x1.1.V.S, iV 0, .string (⟨#[]⟩ : ByteArray), iV 0, iV 0, .string (⟨#[]⟩ : ByteArray)]) Pl_62 Zr_62 rfl (fill_cons (C' := [iV 0, iV x1.1.K, .string x1.1.S, iV x1.1.V.K, iV x1.1.V.N, .string x1.1.V.S, iV 0, .string ⟨#[]⟩, iV 0, iV 0, .string ⟨#[]⟩]) rfl rfl rfl rfl rfl (fill_nil))) rfl ?_
 refine lnz Zr_62 rfl fun b_2 => soN 0 Sz_62 rfl ⟨rfl, rfl, rfl, rfl, rfl, rfl, rfl, rfl, rfl, rfl, rfl, trivial⟩ rfl ?_
 refine arr 6 [] rfl <| kcb [0] h rfl rfl rfl rfl (fun b ap z q => m_i_parser_skip_ok N b (⟨p0.tokens, x1.2.at_, x1.2.bad⟩ : Tparser) 5 (⟨#[61]⟩ : ByteArray) (ph0_0.y z) h1 q) ?_
 rintro x2 h v2 Φ_2 F2 ⟨ap2, fr2, rfl, rfl, e2, h2⟩
 refine la rfl <| en ?_
 refine cut (σ := Hp × Int × Bool × Int) (fun s => [(0, pQ pb0), (2, pQ b_1), (3, pQ b_2)]) (fun s => St w0 s.1 [(b_2, .cells #[iV s.2.2.2, iV x1.1.K, .string x1.1.S, iV x1.1.V.K, iV x1.1.V.N, .string x1.1.V.S, iV 0, .string (⟨#[]⟩ : ByteArray), iV 0, iV 0, .string (⟨#[]⟩ : ByteArray)] 62 (0, 0)), (b_1, .cells #[iV 0, iV 0, .string (⟨#[]⟩ : ByteArray), iV 0, iV 0, .string (⟨#[]⟩ : ByteArray), iV 0, .string (⟨#[]⟩ : ByteArray), iV 0, iV 0, .string (⟨#[]⟩ : ByteArray)] 62 (0, 0))] [[pb0]]) (fun s => m_i_parser_cond_j1 N p0 x1 s.2.1 s.2.2.1 s.2.2.2 = some r ∧ (s.1 pb0 = some (.cells #[pv0_0, iV s.2.1, .bool s.2.2.1] 75 (0, 0)))) (fun s hm => ?_) (fun K => ?_)
 ·clear h
  obtain ⟨Φ_3, s1, s2, s3⟩ := s
  obtain ⟨h, k1⟩ := hm
  dsimp only at h k1 ⊢
  unfold m_i_parser_cond_j1 at h
  refine atr 4 [] rfl <| kcb [0] h rfl rfl rfl rfl (fun b ap z q => m_i_parser_arg_ok N b (⟨p0.tokens, s1, s2⟩ : Tparser) (ph0_0.y z) k1 q) ?_
  rintro x3 h v3 Φ_4 F3 ⟨ap3, fr3, rfl, rfl, e3, h3⟩
  refine lf Fld_62_2 rfl rfl rfl <| soN 0 Sz_60 rfl ⟨rfl, rfl, rfl, rfl, rfl, trivial⟩ rfl ?_
  refine arr 4 [11] rfl <| soN 1 Sz_62 rfl ⟨rfl, rfl, rfl, rfl, rfl, rfl, rfl, rfl, rfl, rfl, rfl, trivial⟩ rfl ?_
  refine en ?_
  exact rtg [0] hF (resOk.one (rv_cell Tn_62 rfl (fun w1 hw => hw.rgO (i := 1) rfl 0 11 [iV s3, iV x1.1.K, .string x1.1.S, iV x1.1.V.K, iV x1.1.V.N, .string x1.1.V.S, iV x3.1.K, .string x3.1.S, iV x3.1.V.K, iV x3.1.V.N, .string x3.1.V.S] rfl) rfl)) rfl (by cases h; exact fun w1 hw => ⟨rfl, rfl, rfl, h3⟩)
 refine ch h rfl ?_ ?_ <;> intro h
 ·refine atr 2 [0] rfl <| so1 0 Sz_3 rfl rfl ?_
  refine en ?_
  exact wo [0] [0, 0] (K (_, _, _, _) ⟨h, h2⟩)
 refine sr <| la rfl <| kcb [0] h rfl rfl rfl rfl (fun b ap z q => m_i_parser_skip_ok N b (⟨p0.tokens, x2.2.at_, x2.2.bad⟩ : Tparser) 5 (⟨#[35]⟩ : ByteArray) (ph0_0.y z) h2 q) ?_
 rintro x4 h v4 Φ_5 F4 ⟨ap4, fr4, rfl, rfl, e4, h4⟩
 refine la rfl <| en ?_
 refine ch h rfl ?_ ?_ <;> intro h
 ·refine atr 2 [0] rfl <| so1 0 Sz_3 rfl rfl ?_
  refine en ?_
  exact wo [0] [0, 0] (K (_, _, _, _) ⟨h, h4⟩)
 refine sr <| la rfl <| kcb [0] h rfl rfl rfl rfl (fun b ap z q => m_i_parser_skip_ok N b (⟨p0.tokens, x4.2.at_, x4.2.bad⟩ : Tparser) 5 (⟨#[60]⟩ : ByteArray) (ph0_0.y z) h4 q) ?_
 rintro x5 h v5 Φ_6 F5 ⟨ap5, fr5, rfl, rfl, e5, h5⟩
 refine la rfl <| en ?_
 refine ch h rfl ?_ ?_ <;> intro h
 ·refine atr 2 [0] rfl <| so1 0 Sz_3 rfl rfl ?_
  refine en ?_
  exact wo [0] [0, 0] (K (_, _, _, _) ⟨h, h5⟩)
 refine atr 2 [] rfl <| lq (q_nilCheck rfl) rfl <| lf Fld_75_2 rfl rfl rfl ?_
 refine WL.thw (js := [0]) (R := []) rfl h5 (fun Φ_7 ap6 fr6 => ?_)
 refine so1 0 Sz_4 rfl rfl ?_
 refine en ?_
 refine WT.frz (js := [0]) (R := [(b_2, .cells #[iV 0, iV x1.1.K, .string x1.1.S, iV x1.1.V.K, iV x1.1.V.N, .string x1.1.V.S, iV 0, .string (⟨#[]⟩ : ByteArray), iV 0, iV 0, .string (⟨#[]⟩ : ByteArray)] 62 (0, 0)), (b_1, .cells #[iV 0, iV 0, .string (⟨#[]⟩ : ByteArray), iV 0, iV 0, .string (⟨#[]⟩ : ByteArray), iV 0, .string (⟨#[]⟩ : ByteArray), iV 0, iV 0, .string (⟨#[]⟩ : ByteArray)] 62 (0, 0))]) rfl (fun Φ_8 fr7 k2 => ?_)
 exact wo [0] [0, 0] (K (_, _, _, _) ⟨h, k2⟩)
theorem m_i_parser_expr_ok (w0 : Base Ψ Φ [[pb0]].flatten) (p0 : Tparser) (ph0_0 : RSl RTToken 3 Ψ pG0_0 pv0_0 p0.tokens) (pp0 : Φ pb0 = some (.cells #[pv0_0, iV p0.at_, .bool p0.bad] 75 (0, 0))) {r : TExpr × Tparser} (h : m_i_parser_expr N p0 = some r) :
  Calls prog 200 [pQ pb0].toArray w0.w (PostG Φ w0.w [[pb0]].flatten (fun Φ' Fs v => v = .agg [.string r.1.Op, iV r.1.L.K, .string r.1.L.S, iV r.1.L.V.K, iV r.1.L.V.N, .string r.1.L.V.S, iV r.1.R.K, .string r.1.R.S, iV r.1.R.V.K, iV r.1.R.V.N, .string r.1.R.V.S].toArray ∧ Fs = [[pb0]] ∧ r.2.tokens = p0.tokens ∧ Φ' pb0 = some (.cells #[pv0_0, iV r.2.at_, .bool r.2.bad] 75 (0, 0)))) := by
 refine eL func200 rfl ntmps200 rfl (L := [[pb0]]) w0 (fun hF => ?_)
 unfold m_i_parser_expr at h
 refine sr <| lnz Zr_116 rfl fun b_1 => arr 4 [] rfl <| kcb [0] h rfl rfl rfl rfl (fun b ap z q => m_i_parser_arg_ok N b p0 (ph0_0.y z) pp0 q) ?_
 rintro x1 h v1 Φ_1 F1 ⟨ap1, fr1, rfl, rfl, e1, h1⟩
 refine lq (q_build (vs := [(1, .agg [iV x1.1.K, .string x1.1.S, iV x1.1.V.K, iV x1.1.V.N, .string x1.1.V.S].toArray)]) (C := #[.string (⟨#[]⟩ : ByteArray), iV x1.1.K, .string x1.1.S, iV x1.1.V.K, iV x1.1.V.N, .string x1.1.V.S, iV 0, .string (⟨#[]⟩ : ByteArray), iV 0, iV 0, .string (⟨#[]⟩ : ByteArray)]) Pl_116 Zr_116 rfl (fill_cons (C' := [.string ⟨#[]⟩, iV x1.1.K, .string x1.1.S, iV x1.1.V.K, iV x1.1.V.N, .string x1.1.V.S, iV 0, .string ⟨#[]⟩, iV 0, iV 0, .string ⟨#[]⟩]) rfl rfl rfl rfl rfl (fill_nil))) rfl ?_
 refine lnz Zr_116 rfl fun b_2 => soN 0 Sz_116 rfl ⟨rfl, rfl, rfl, rfl, rfl, rfl, rfl, rfl, rfl, rfl, rfl, trivial⟩ rfl ?_
 refine arr 4 [] rfl ?_
 have rc1 : RC RS 1 Φ_1 ([[], []] : List (List Nat)) [.string (⟨#[43]⟩ : ByteArray), .string (⟨#[45]⟩ : ByteArray)] ([(⟨#[43]⟩ : ByteArray), (⟨#[45]⟩ : ByteArray)] : List ByteArray) := RC.cons (c := [.string (⟨#[43]⟩ : ByteArray)]) (cells := [.string (⟨#[45]⟩ : ByteArray)]) ⟨rfl, rfl⟩ rfl (RC.cons (c := [.string (⟨#[45]⟩ : ByteArray)]) (cells := []) ⟨rfl, rfl⟩ rfl (RC.nil _ _ _))
 refine le' (e_lit (vs := [(0, .string (⟨#[43]⟩ : ByteArray)), (1, .string (⟨#[45]⟩ : ByteArray))]) (C := #[.string (⟨#[43]⟩ : ByteArray), .string (⟨#[45]⟩ : ByteArray)]) RS.lasts Sl_68 Zr_9 rfl rfl rfl rfl (fill_made MC_9_2 (fill_cons (C' := [.string (⟨#[43]⟩ : ByteArray), .string ⟨#[]⟩]) rfl rfl rfl rfl rfl (fill_cons (C' := [.string (⟨#[43]⟩ : ByteArray), .string (⟨#[45]⟩ : ByteArray)]) rfl rfl rfl rfl rfl (fill_nil)))) rfl rc1 rfl (by simpa using Kw.nil)) rfl ?_
 rintro v2 Φ_2 D1 ⟨fr2, h2⟩
 replace h2 : OSl RS 9 1 Φ_2 [] v2 ([(⟨#[43]⟩ : ByteArray), (⟨#[45]⟩ : ByteArray)] : List ByteArray) := by simpa using h2
 replace h1 := fr2 _ _ (by simp) h1
 refine lno h2 rfl <| art 3 [] rfl ?_
 refine lin (σ := Hp × Int × Int × Bool) (fun s => [(0, pQ pb0), (2, pQ b_1), (3, pQ b_2), (9, v2), (10, iV (([(⟨#[43]⟩ : ByteArray), (⟨#[45]⟩ : ByteArray)] : List ByteArray).length : Int)), (11, iV s.2.1)]) (fun s => St w0 s.1 [(b_2, .cells #[.string (⟨#[]⟩ : ByteArray), iV x1.1.K, .string x1.1.S, iV x1.1.V.K, iV x1.1.V.N, .string x1.1.V.S, iV 0, .string (⟨#[]⟩ : ByteArray), iV 0, iV 0, .string (⟨#[]⟩ : ByteArray)] 116 (0, 0)), (b_1, .cells #[.string (⟨#[]⟩ : ByteArray), iV 0, .string (⟨#[]⟩ : ByteArray), iV 0, iV 0, .string (⟨#[]⟩ : ByteArray), iV 0, .string (⟨#[]⟩ : ByteArray), iV 0, iV 0, .string (⟨#[]⟩ : ByteArray)] 116 (0, 0))] [ob v2, [pb0]]) (fun m s => m_i_parser_expr_l1 N p0 x1 m s.2.1 s.2.2.1 s.2.2.2 = some r ∧ (OSl RS 9 1 s.1 [] v2 ([(⟨#[43]⟩ : ByteArray), (⟨#[45]⟩ : ByteArray)] : List ByteArray)) ∧ (s.1 pb0 = some (.cells #[pv0_0, iV s.2.2.1, .bool s.2.2.2] 75 (0, 0)))) (Φ_2, 0, x1.2.at_, x1.2.bad) N ⟨h, h2, h1⟩ (sx [0, 0] [0, 0]) (fun n1 ih1 s hm => ?_)
 obtain ⟨Φ_3, s1, s2, s3⟩ := s
 obtain ⟨h, h2, k1⟩ := hm
 dsimp only at h h2 k1 ⊢
 unfold m_i_parser_expr_l1 at h
 refine att 5 [] rfl ?_
 refine ch h rfl ?_ ?_ <;> intro h
 ·refine atr 5 [] rfl ?_
  obtain ⟨x2, hx2, h⟩ := bs h
  obtain ⟨cs1, F2, -, g1, hb1, hs1, r1⟩ := h2.elS (idx_some hx2).2.2
  obtain ⟨rfl, -⟩ := r1
  refine lio h2 hx2 rfl <| lgx 0 0 g1 rfl <| arr 6 [] rfl <| kcb [1] h rfl rfl rfl rfl (fun b ap z q => m_i_parser_skip_ok N b (⟨p0.tokens, s2, s3⟩ : Tparser) 5 x2 (ph0_0.y z) k1 q) ?_
  rintro x3 h v3 Φ_4 F3 ⟨ap2, fr3, rfl, rfl, e2, h3⟩
  replace h2 := h2.fr fr3 (ap2.q 0 rfl) dN
  refine en ?_
  refine ch h rfl ?_ ?_ <;> intro h
  ·refine atr 4 [0] rfl <| so1 0 Sz_9 rfl rfl ?_
   refine arr 4 [] rfl <| kcb [0] h rfl rfl rfl rfl (fun b ap z q => m_i_parser_arg_ok N b (⟨p0.tokens, x3.2.at_, x3.2.bad⟩ : Tparser) (ph0_0.y z) h3 q) ?_
   rintro x4 h v4 Φ_5 F4 ⟨ap3, fr4, rfl, rfl, e3, h4⟩
   refine lf Fld_116_2 rfl rfl rfl <| soN 0 Sz_60 rfl ⟨rfl, rfl, rfl, rfl, rfl, trivial⟩ rfl ?_
   refine arr 4 [11] rfl <| soN 1 Sz_116 rfl ⟨rfl, rfl, rfl, rfl, rfl, rfl, rfl, rfl, rfl, rfl, rfl, trivial⟩ rfl ?_
   refine en ?_
   exact rtg [0] hF (resOk.one (rv_cell Tn_116 rfl (fun w1 hw => hw.rgO (i := 1) rfl 0 11 [.string x2, iV x1.1.K, .string x1.1.S, iV x1.1.V.K, iV x1.1.V.N, .string x1.1.V.S, iV x4.1.K, .string x4.1.S, iV x4.1.V.K, iV x4.1.V.N, .string x4.1.V.S] rfl) rfl)) rfl (by cases h; exact fun w1 hw => ⟨rfl, rfl, rfl, h4⟩)
  refine att 6 [] rfl ?_
  exact lb [1, 0] [0, 0] (ih1 (_, _, _, _) ⟨h, h2, h3⟩)
 refine atr 4 [11] rfl <| soN 1 Sz_116 rfl ⟨rfl, rfl, rfl, rfl, rfl, rfl, rfl, rfl, rfl, rfl, rfl, trivial⟩ rfl ?_
 refine en ?_
 exact rtg [1] hF (resOk.one (rv_cell Tn_116 rfl (fun w1 hw => hw.rgO (i := 1) rfl 0 11 [.string (⟨#[]⟩ : ByteArray), iV x1.1.K, .string x1.1.S, iV x1.1.V.K, iV x1.1.V.N, .string x1.1.V.S, iV 0, .string (⟨#[]⟩ : ByteArray), iV 0, iV 0, .string (⟨#[]⟩ : ByteArray)] rfl) rfl)) rfl (by cases h; exact fun w1 hw => ⟨rfl, rfl, rfl, k1⟩)
theorem m_i_parser_call_c1_ok (w0 : Base Ψ Φ [[pbt0], ob pvt0_0, [pbt1]].flatten) (c0 : TAct) (c1 : Tparser) (pht0_0 : OSl RTExpr 116 11 Φ [] pvt0_0 c0.Args) (ppt0 : Φ pbt0 = some (.cells #[iV c0.Kind, .string c0.Name, pvt0_0, iV c0.N, .string c0.Undo] 66 (0, 0))) (ppc0 : Ψ pbc0 = some (.cells #[pQ pbt0] 171 (0, 0))) (pht1_0 : RSl RTToken 3 Ψ pGt1_0 pvt1_0 c1.tokens) (ppt1 : Φ pbt1 = some (.cells #[pvt1_0, iV c1.at_, .bool c1.bad] 75 (0, 0))) (ppc1 : Ψ pbc1 = some (.cells #[pQ pbt1] 125 (0, 0))) {r : TAct × Tparser} (h : m_i_parser_call_c1 N c0 c1 = some r) :
  Calls prog 199 [pQ pbc0, pQ pbc1].toArray w0.w (PostG Φ w0.w [[pbt0], ob pvt0_0, [pbt1]].flatten (fun Φ' Fs v => ∃ (so_0_0 : Value), v = .tuple #[] ∧ Fs = [[pbt0], ob so_0_0, [pbt1]] ∧ OSl RTExpr 116 11 Φ' [] so_0_0 r.1.Args ∧ Φ' pbt0 = some (.cells #[iV r.1.Kind, .string r.1.Name, so_0_0, iV r.1.N, .string r.1.Undo] 66 (0, 0)) ∧ r.2.tokens = c1.tokens ∧ Φ' pbt1 = some (.cells #[pvt1_0, iV r.2.at_, .bool r.2.bad] 75 (0, 0)))) := by
 refine eL func199 rfl ntmps199 rfl (L := [[pbt0], ob pvt0_0, [pbt1]]) w0 (fun hF => ?_)
 unfold m_i_parser_call_c1 at h
 refine WT.mix (Kn w0 Φ [pbt0] []) (fun i => match i with | 11 => false | _ => true) mixed (fun _ h => h.drew) <| mq 0 rfl (by kernel_rfl) (kn Kf.id aN) (q_load1 T1_171 rfl (fun w1 hw => ((rg_cells ppc0).of_eq 0 1 rfl rfl : rg _ _ _ [pQ pbt0]).rangeAt hw.1)) rfl <| mq 1 rfl (by kernel_rfl) (kn Kf.id aN) (q_load1 T1_171 rfl (fun w1 hw => ((rg_cells ppc0).of_eq 0 1 rfl rfl : rg _ _ _ [pQ pbt0]).rangeAt hw.1)) rfl <| mq 2 rfl (by kernel_rfl) (kn Kf.id aN) (q_nilCheck rfl) rfl <| mq 3 rfl (by kernel_rfl) (kn Kf.id aN) (q_fieldAddr Fld_66_2 rfl) rfl ?_
 refine mq 4 rfl (by kernel_rfl) (kn Kf.id aN) (q_load1 T1_64 rfl (fun w1 hw => hw.rg (by simp) ((rg_cells ppt0).of_eq 2 1 rfl rfl : rg _ _ _ [pvt0_0]))) rfl <| mq 5 rfl (by kernel_rfl) (kn Kf.id aN) (q_load1 T1_125 rfl (fun w1 hw => ((rg_cells ppc1).of_eq 0 1 rfl rfl : rg _ _ _ [pQ pbt1]).rangeAt hw.1)) rfl ?_
 obtain ⟨x1, hx1, h⟩ := bs h
 refine WM.one 6 (by kernel_rfl) (mc rfl (fun _ v Φx D w1 hq hw => Kn.of (Kf.id.st hq.2.1 (hq.1.r (i := 0) rfl)) aN hw) (k_call (js := [2]) (R := [[pbt0], ob pvt0_0]) Fun_200 rfl rfl (fun w1 hw ap hl => m_i_parser_expr_ok N (bx hw ap hl) c1 (pht1_0.y (hw.uo ap)) ppt1  hx1)) rfl ?_)
 rintro v1 Φ_1 F1 ⟨ap1, fr1, rfl, rfl, e1, h1⟩
 replace pht0_0 := pht0_0.fr fr1 (ap1.q 1 rfl) dN
 replace ppt0 := fr1 _ _ ((ap1.q 0 rfl) _ (by simp)) ppt0
 have rc1 : RC RTExpr 11 Φ_1 ([[]] : List (List Nat)) [.string x1.1.Op, iV x1.1.L.K, .string x1.1.L.S, iV x1.1.L.V.K, iV x1.1.L.V.N, .string x1.1.L.V.S, iV x1.1.R.K, .string x1.1.R.S, iV x1.1.R.V.K, iV x1.1.R.V.N, .string x1.1.R.V.S] ([x1.1] : List TExpr) := RC.cons (c := [.string x1.1.Op, iV x1.1.L.K, .string x1.1.L.S, iV x1.1.L.V.K, iV x1.1.L.V.N, .string x1.1.L.V.S, iV x1.1.R.K, .string x1.1.R.S, iV x1.1.R.V.K, iV x1.1.R.V.N, .string x1.1.R.V.S]) (cells := []) ⟨rfl, rfl⟩ rfl (RC.nil _ _ _)
 have kf1 := (Kf.id (F := [pbt0]) : Kf Φ _ _).st fr1 (ap1.q 0 rfl)
 refine WM.one 7 (by kernel_rfl) (me rfl (fun _ v Φx D w1 hq hw => Kn.of (kf1.se hq.1) aN hw) (e_lit (vs := [(0, .agg [.string x1.1.Op, iV x1.1.L.K, .string x1.1.L.S, iV x1.1.L.V.K, iV x1.1.L.V.N, .string x1.1.L.V.S, iV x1.1.R.K, .string x1.1.R.S, iV x1.1.R.V.K, iV x1.1.R.V.N, .string x1.1.R.V.S].toArray)]) (C := #[.string x1.1.Op, iV x1.1.L.K, .string x1.1.L.S, iV x1.1.L.V.K, iV x1.1.L.V.N, .string x1.1.L.V.S, iV x1.1.R.K, .string x1.1.R.S, iV x1.1.R.V.K, iV x1.1.R.V.N, .string x1.1.R.V.S]) RTExpr.lasts Sl_64 Zr_116 rfl rfl rfl rfl (fill_made MC_116_1 (fill_cons (C' := [.string x1.1.Op, iV x1.1.L.K, .string x1.1.L.S, iV x1.1.L.V.K, iV x1.1.L.V.N, .string x1.1.L.V.S, iV x1.1.R.K, .string x1.1.R.S, iV x1.1.R.V.K, iV x1.1.R.V.N, .string x1.1.R.V.S]) rfl rfl rfl rfl rfl (fill_nil))) rfl rc1 rfl (by simpa using Kw.nil)) rfl ?_)
 rintro v2 Φ_2 D1 ⟨fr2, h2⟩
 replace h2 : OSl RTExpr 116 11 Φ_2 [] v2 ([x1.1] : List TExpr) := by simpa using h2
 replace pht0_0 := pht0_0.f0 fr2
 replace ppt0 := fr2 _ _ (by simp) ppt0
 replace h1 := fr2 _ _ (by simp) h1
 obtain ⟨x2, hx2, h⟩ := bs h
 have kf2 := kf1.se fr2
 refine WM.one 8 (by kernel_rfl) (me rfl (fun _ v Φx D w1 hq hw => Kn.of (kf2.st hq.1.2 (hq.1.1.r (i := 2) rfl)) aN hw) (e_appF RTExpr.lasts RTExpr.one RTExpr.flat Sl_64 Ei_116 rfl rfl rfl rfl rfl (js := [3]) (Rr := [ob v2, [pbt1], [pbt0]]) rfl pht0_0 h2.rsl hx2) rfl ?_)
 rintro v3 Φ_3 D2 ⟨⟨ap2, fr3⟩, h3⟩
 replace ppt0 := fr3 _ _ ((ap2.q 2 rfl) _ (by simp)) ppt0
 replace h1 := fr3 _ _ ((ap2.q 1 rfl) _ (by simp)) h1
 have kf3 := kf2.st fr3 (ap2.q 2 rfl)
 refine mqT 9 [10, 11] rfl (by kernel_rfl) (kn kf3 aN) (q_nilCheck rfl) rfl <| mq 10 rfl (by kernel_rfl) (kn kf3 aN) (q_fieldAddr Fld_66_2 rfl) rfl ?_
 refine WM.thw (js := [3]) (R := [ob v3, ob v2, [pbt1]]) rfl ppt0 (fun Φ_4 ap3 fr4 => ?_)
 replace h3 := h3.fr fr4 (ap3.q 0 rfl) dN
 replace h1 := fr4 _ _ ((ap3.q 2 rfl) _ (by simp)) h1
 refine on1 11 (ms1 0 rfl nk Sz_64 rfl h3.one ?_)
 refine WM.nil (by kernel_rfl) ?_
 refine WT.frz (js := [0]) (R := []) rfl (fun Φ_5 fr5 k1 => ?_)
 replace h3 := h3.f0 fr5
 replace h1 := fr5 _ _ (by simp) h1
 refine WT.fin hF resOk.none (fun w1 hw => ?_)
 cases h
 refine postG_of_St (js := [0, 0, 1]) hw rfl ⟨v3, rfl, rfl, h3, k1, rfl, h1⟩
theorem m_i_parser_listOf_parser_call_c1_ok (w0 : Base Ψ Φ [[pb0], [pbt0], ob pvt0_0].flatten) (p0 : Tparser) (c0 : TAct) (ph0_0 : RSl RTToken 3 Ψ pG0_0 pv0_0 p0.tokens) (pp0 : Φ pb0 = some (.cells #[pv0_0, iV p0.at_, .bool p0.bad] 75 (0, 0))) (pht0_0 : OSl RTExpr 116 11 Φ [] pvt0_0 c0.Args) (ppt0 : Φ pbt0 = some (.cells #[iV c0.Kind, .string c0.Name, pvt0_0, iV c0.N, .string c0.Undo] 66 (0, 0))) (ppc0 : Ψ pbc0 = some (.cells #[pQ pbt0] 171 (0, 0))) (ppc1 : Ψ pbc1 = some (.cells #[pQ pb0] 125 (0, 0))) {r : Tparser × TAct} (h : m_i_parser_listOf_parser_call_c1 N p0 c0 = some r) :
  Calls prog 155 [pQ pb0, .func (.func 199) #[] [pQ pbc0, pQ pbc1].toArray].toArray w0.w (PostG Φ w0.w [[pb0], [pbt0], ob pvt0_0].flatten (fun Φ' Fs v => ∃ (so_1_0 : Value), v = .tuple #[] ∧ Fs = [[pb0], [pbt0], ob so_1_0] ∧ r.1.tokens = p0.tokens ∧ Φ' pb0 = some (.cells #[pv0_0, iV r.1.at_, .bool r.1.bad] 75 (0, 0)) ∧ OSl RTExpr 116 11 Φ' [] so_1_0 r.2.Args ∧ Φ' pbt0 = some (.cells #[iV r.2.Kind, .string r.2.Name, so_1_0, iV r.2.N, .string r.2.Undo] 66 (0, 0)))) := by
 refine eL func155 rfl ntmps155 rfl (L := [[pb0], [pbt0], ob pvt0_0]) w0 (fun hF => ?_)
 unfold m_i_parser_listOf_parser_call_c1 at h
 refine sr <| la rfl <| kcb [0] h rfl rfl rfl rfl (fun b ap z q => m_i_parser_take_ok N b p0 5 (⟨#[40]⟩ : ByteArray) (ph0_0.y z) pp0 q) ?_
 rintro x1 h v1 Φ_1 F1 ⟨ap1, fr1, rfl, rfl, e1, h1⟩
 replace pht0_0 := pht0_0.fr fr1 (ap1.q 1 rfl) dN
 replace ppt0 := fr1 _ _ ((ap1.q 0 rfl) _ (by simp)) ppt0
 refine arr 5 [] rfl <| kcb [0] h rfl rfl rfl rfl (fun b ap z q => m_i_parser_skip_ok N b (⟨p0.tokens, x1.at_, x1.bad⟩ : Tparser) 5 (⟨#[41]⟩ : ByteArray) (ph0_0.y z) h1 q) ?_
 rintro x2 h v2 Φ_2 F2 ⟨ap2, fr2, rfl, rfl, e2, h2⟩
 replace pht0_0 := pht0_0.fr fr2 (ap2.q 1 rfl) dN
 replace ppt0 := fr2 _ _ ((ap2.q 0 rfl) _ (by simp)) ppt0
 refine en ?_
 refine ch h rfl ?_ ?_ <;> intro h
 ·exact rtg [0, 0, 0] hF resOk.none rfl (by cases h; exact fun w1 hw => ⟨pvt0_0, rfl, rfl, rfl, h2, pht0_0, ppt0⟩)
 refine att 7 [] rfl ?_
 refine lin (σ := Hp × (List TExpr) × Value × Bool × Int × Bool × Int × ByteArray × Int × ByteArray) (fun s => [(0, pQ pb0), (1, .func (.func 199) #[] [pQ pbc0, pQ pbc1].toArray), (4, .bool s.2.2.2.1)]) (fun s => St w0 s.1 [] [[pb0], [pbt0], ob s.2.2.1]) (fun m s => m_i_parser_listOf_parser_call_c1_l1 N p0 m s.2.1 s.2.2.2.1 s.2.2.2.2.1 s.2.2.2.2.2.1 s.2.2.2.2.2.2.1 s.2.2.2.2.2.2.2.1 s.2.2.2.2.2.2.2.2.1 s.2.2.2.2.2.2.2.2.2 = some r ∧ (OSl RTExpr 116 11 s.1 [] s.2.2.1 s.2.1) ∧ (s.1 pb0 = some (.cells #[pv0_0, iV s.2.2.2.2.1, .bool s.2.2.2.2.2.1] 75 (0, 0))) ∧ (s.1 pbt0 = some (.cells #[iV s.2.2.2.2.2.2.1, .string s.2.2.2.2.2.2.2.1, s.2.2.1, iV s.2.2.2.2.2.2.2.2.1, .string s.2.2.2.2.2.2.2.2.2] 66 (0, 0)))) (Φ_2, c0.Args, pvt0_0, true, x2.2.at_, x2.2.bad, c0.Kind, c0.Name, c0.N, c0.Undo) N ⟨h, pht0_0, h2, ppt0⟩ (sx [0, 0, 0] []) (fun n1 ih1 s hm => ?_)
 obtain ⟨Φ_3, s1, u1, s2, s3, s4, s5, s6, s7, s8⟩ := s
 obtain ⟨h, k1, k2, k3⟩ := hm
 dsimp only at h k1 k2 k3 ⊢
 unfold m_i_parser_listOf_parser_call_c1_l1 at h
 refine atr 5 [] rfl ?_
 obtain ⟨b3, hb_1, h⟩ := bs h
 refine WL.cutN 6 [(16, .bool b3), (0, pQ pb0), (1, .func (.func 199) #[] [pQ pbc0, pQ pbc1].toArray)] ?_ (fun K => ?_)
 rotate_left
 ·refine sp 10 hb_1 rfl (fun hb_1 => ?_) fun hb_1 => ?_
  ·refine ly rfl rfl <| la rfl <| ly rfl rfl <| lq (q_nilCheck rfl) rfl <| ly rfl rfl <| lf Fld_75_2 rfl rfl rfl <| ly rfl rfl <| lgx 2 0 (rg_cells k2) rfl <| arr 2 [] rfl ?_
   cases hb_1
   exact ku K
  ·refine arr 6 [] rfl ?_
   cases hb_1
   exact ku K
 refine en ?_
 refine ch h rfl ?_ ?_ <;> intro h
 ·refine atr 5 [] rfl ?_
  obtain ⟨x3, hx3, h⟩ := bs h
  refine lc (k_callV (js := [1, 1, 0]) (R := []) Fun_199 rfl rfl rfl (fun w1 hw ap hl => m_i_parser_call_c1_ok N (bx hw ap hl) (⟨s5, s6, s1, s7, s8⟩ : TAct) (⟨p0.tokens, s3, s4⟩ : Tparser) k1 k3 (hw.uo ap _ _ ppc0) (ph0_0.y (hw.uo ap)) k2 (hw.uo ap _ _ ppc1)  hx3)) rfl ?_
  rintro v3 Φ_4 F3 ⟨ap3, fr3, v4, rfl, rfl, h3, h4, e3, h5⟩
  refine arr 4 [] rfl <| kcb [2] h rfl rfl rfl rfl (fun b ap z q => m_i_parser_skip_ok N b (⟨p0.tokens, x3.2.at_, x3.2.bad⟩ : Tparser) 5 (⟨#[44]⟩ : ByteArray) (ph0_0.y z) h5 q) ?_
  rintro x4 h v5 Φ_5 F4 ⟨ap4, fr4, rfl, rfl, e4, h6⟩
  replace h3 := h3.fr fr4 (ap4.q 1 rfl) dN
  replace h4 := fr4 _ _ ((ap4.q 0 rfl) _ (by simp)) h4
  refine la rfl <| en ?_
  exact lb [0, 0, 0] [] (ih1 (_, _, _, _, _, _, _, _, _, _) ⟨h, h3, h6, h4⟩)
 refine atr 3 [] rfl <| kcb [0] h rfl rfl rfl rfl (fun b ap z q => m_i_parser_take_ok N b (⟨p0.tokens, s3, s4⟩ : Tparser) 5 (⟨#[41]⟩ : ByteArray) (ph0_0.y z) k2 q) ?_
 rintro x5 h v6 Φ_6 F5 ⟨ap5, fr5, rfl, rfl, e5, h7⟩
 replace k1 := k1.fr fr5 (ap5.q 1 rfl) dN
 replace k3 := fr5 _ _ ((ap5.q 0 rfl) _ (by simp)) k3
 refine en ?_
 refine WT.fin hF resOk.none (fun w1 hw => ?_)
 cases h
 refine postG_of_St (js := [0, 0, 0]) hw rfl ⟨u1, rfl, rfl, rfl, h7, k1, k3⟩
theorem m_i_parser_call_ok (w0 : Base Ψ Φ [[pb0], [pb1], ob pv1_0].flatten) (p0 : Tparser) (p1 : TAct) (ph0_0 : RSl RTToken 3 Ψ pG0_0 pv0_0 p0.tokens) (pp0 : Φ pb0 = some (.cells #[pv0_0, iV p0.at_, .bool p0.bad] 75 (0, 0))) (ph1_0 : OSl RTExpr 116 11 Φ [] pv1_0 p1.Args) (pp1 : Φ pb1 = some (.cells #[iV p1.Kind, .string p1.Name, pv1_0, iV p1.N, .string p1.Undo] 66 (0, 0))) {r : Tparser × TAct} (h : m_i_parser_call N p0 p1 = some r) :
  Calls prog 158 [pQ pb0, pQ pb1].toArray w0.w (PostG Φ w0.w [[pb0], [pb1], ob pv1_0].flatten (fun Φ' Fs v => ∃ (so_1_0 : Value), v = .tuple #[] ∧ Fs = [[pb0], [pb1], ob so_1_0] ∧ r.1.tokens = p0.tokens ∧ Φ' pb0 = some (.cells #[pv0_0, iV r.1.at_, .bool r.1.bad] 75 (0, 0)) ∧ OSl RTExpr 116 11 Φ' [] so_1_0 r.2.Args ∧ Φ' pb1 = some (.cells #[iV r.2.Kind, .string r.2.Name, so_1_0, iV r.2.N, .string r.2.Undo] 66 (0, 0)))) := by
 refine eL func158 rfl ntmps158 rfl (L := [[pb0], [pb1], ob pv1_0]) w0 (fun hF => ?_)
 unfold m_i_parser_call at h
 refine sr ?_
 refine ln (n_box (C := #[pQ pb0]) rfl (rfl)) rfl (fun b_1 => ?_)
 refine ln (n_box (C := #[pQ pb1]) rfl (rfl)) rfl (fun b_2 => ?_)
 refine en <| sq <| wm [0, 1] [6] rfl <| amm 2 [0, 0, 1, 32] [0, 1] rfl rfl ?_
 obtain ⟨x1, hx1, h⟩ := bs h
 refine WM.one 2 (by kernel_rfl) (mc rfl (fun _ v Φx D w1 hq hw => Kn.of Kf.nil (ai2 0 1 rfl rfl) hw) (k_call (js := [0]) (R := [[pb1], ob pv1_0]) Fun_47 rfl rfl (fun w1 hw ap hl => m_i_parser_word_ok N (bx hw ap hl) p0 2 (ph0_0.y (hw.uo ap)) pp0  hx1)) rfl ?_)
 rintro v1 Φ_1 F1 ⟨ap1, fr1, rfl, rfl, e1, h1⟩
 replace ph1_0 := ph1_0.fr fr1 (ap1.q 1 rfl) dN
 replace pp1 := fr1 _ _ ((ap1.q 0 rfl) _ (by simp)) pp1
 refine mq 3 rfl (by kernel_rfl) (kN [0, 1]) (q_field1 Fd1_77_2 rfl rfl) rfl <| mqT 4 [5, 6] rfl (by kernel_rfl) (kN [0, 1]) (q_nilCheck rfl) rfl <| amm 1 [5, 1] [0, 1] rfl rfl ?_
 refine WM.thw (js := [1]) (R := [[pb0], ob pv1_0]) rfl pp1 (fun Φ_2 ap2 fr2 => ?_)
 replace ph1_0 := ph1_0.fr fr2 (ap2.q 1 rfl) dN
 replace h1 := fr2 _ _ ((ap2.q 0 rfl) _ (by simp)) h1
 refine on1 6 (ms1 0 rfl nk Sz_9 rfl rfl ?_)
 refine WM.nil (by kernel_rfl) <| atr 2 [64] rfl ?_
 refine WL.frz (js := [1]) (R := [(pb1, .cells #[iV p1.Kind, .string x1.1.S, pv1_0, iV p1.N, .string p1.Undo] 66 (0, 0)), (b_1, .cells #[pQ pb0] 125 (0, 0))]) rfl (fun Φ_3 fr3 k1 => ?_)
 replace ph1_0 := ph1_0.f0 fr3
 replace h1 := fr3 _ _ (by simp) h1
 refine WL.frz (js := [1]) (R := [(pb1, .cells #[iV p1.Kind, .string x1.1.S, pv1_0, iV p1.N, .string p1.Undo] 66 (0, 0))]) rfl (fun Φ_4 fr4 k2 => ?_)
 replace ph1_0 := ph1_0.f0 fr4
 replace k1 := fr4 _ _ (by simp) k1
 replace h1 := fr4 _ _ (by simp) h1
 refine lq (q_makeFunc rfl) rfl ?_
 refine WL.frz (js := [0]) (R := []) rfl (fun Φ_5 fr5 k3 => ?_)
 replace ph1_0 := ph1_0.f0 fr5
 replace k2 := fr5 _ _ (by simp) k2
 replace k1 := fr5 _ _ (by simp) k1
 replace h1 := fr5 _ _ (by simp) h1
 refine kcb [3, 0, 2] h rfl rfl rfl rfl (fun b ap z q => m_i_parser_listOf_parser_call_c1_ok N b (⟨p0.tokens, x1.2.at_, x1.2.bad⟩ : Tparser) (⟨p1.Kind, x1.1.S, p1.Args, p1.N, p1.Undo⟩ : TAct) (ph0_0.y z) h1 ph1_0 k3 (offv k1 (ap.q 1 rfl)) (offv k2 (ap.q 0 rfl)) q) ?_
 rintro x2 h v2 Φ_6 F2 ⟨ap3, fr6, v3, rfl, rfl, e2, h2, h3, h4⟩
 refine en ?_
 refine WT.fin hF resOk.none (fun w1 hw => ?_)
 cases h
 refine postG_of_St (js := [0, 0, 0]) hw rfl ⟨v3, rfl, rfl, rfl, h2, h3, h4⟩
end Go.Proofs.YteipbimepilcfaaGreatDoor
