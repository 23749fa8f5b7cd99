/- Printed by a program of ours: each Go function computes its Lean function. -/
import Derived.Test.YteipbimepilcfaaGreatDoorProg
import Derived.Test.YteipbimepilcfaaGreatDoorWExactParseDefWalk4
namespace Go.Proofs.YteipbimepilcfaaGreatDoor
open Eng Tryz
open Go.RowKit (Below)
set_option linter.unusedVariables false
set_option linter.unusedSimpArgs false

set_option maxRecDepth 100000
set_option maxHeartbeats 1000000
variable {Ψ Φ : Hp} {pv0_0 pv0 pv1 pv1_0 pv0_1 pv0_2 pv1_1 pv1_2 : Value} {pG0_0 pG0 pG1 pG1_0 pG0_1 pG0_2 pG1_1 pG1_2 pD0 pD0_0 : List Nat} {pb0 : Nat} (N : Nat)
theorem m_s_l10Act_ok (w0 : Base Ψ Φ [[pb0]].flatten) (p0 : Tl10Reader) (ph0_0 : RSl RTToken 3 Ψ pG0_0 pv0_0 p0.l) (pp0 : Φ pb0 = some (.cells #[pv0_0, iV p0.at_, .bool p0.bad] 100 (0, 0))) {r : TAct × Tl10Reader} (h : m_s_l10Act N p0 = some r) :
  Calls prog 128 [pQ pb0].toArray w0.w (PostG Φ w0.w [[pb0]].flatten (fun Φ' Fs v => ∃ (sr_0_0 : Value), v = .agg [iV r.1.Kind, .string r.1.Name, sr_0_0, iV r.1.N, .string r.1.Undo].toArray ∧ Fs = [ob sr_0_0, [pb0]] ∧ OSl RTExpr 116 11 Φ' [] sr_0_0 r.1.Args ∧ r.2.l = p0.l ∧ Φ' pb0 = some (.cells #[pv0_0, iV r.2.at_, .bool r.2.bad] 100 (0, 0)))) := by
 refine eL func128 rfl ntmps128 rfl (L := [[pb0]]) w0 (fun hF => ?_)
 unfold m_s_l10Act at h
 refine sr <| lnz Zr_66 rfl fun b_1 => en <| sr <| lq (q_build (vs := []) (C := #[iV 0, .string (⟨#[]⟩ : ByteArray), .slice none 0 0, iV 0, .string (⟨#[]⟩ : ByteArray)]) Pl_66 Zr_66 rfl (fill_nil)) rfl <| lnz Zr_66 rfl fun b_2 => soN 0 Sz_66 rfl ⟨rfl, rfl, rfl, rfl, rfl, trivial⟩ rfl ?_
 refine arr 5 [] rfl <| kcb [0] h rfl rfl rfl rfl (fun b ap z q => m_s_l10Next_ok N b p0 2 (ph0_0.y z) pp0 q) ?_
 rintro x1 h v1 Φ_1 F1 ⟨ap1, fr1, rfl, rfl, e1, h1⟩
 refine lq (q_field1 Fd1_77_2 rfl rfl) rfl <| art 7 [] rfl <| wtS ?_
 have k1 := OSl.nil RTExpr 116 11 Φ_1
 refine cut (σ := Hp × (List TExpr) × Value × Int × Bool × Int × ByteArray × Int × ByteArray) (fun s => [(2, pQ b_1), (3, pQ b_2)]) (fun s => St w0 s.1 [(b_2, .cells #[iV s.2.2.2.2.2.1, .string s.2.2.2.2.2.2.1, s.2.2.1, iV s.2.2.2.2.2.2.2.1, .string s.2.2.2.2.2.2.2.2] 66 (0, 0)), (b_1, .cells #[iV 0, .string (⟨#[]⟩ : ByteArray), .slice none 0 0, iV 0, .string (⟨#[]⟩ : ByteArray)] 66 (0, 0))] [ob s.2.2.1, [pb0]]) (fun s => m_s_l10Act_j1 N p0 s.2.1 s.2.2.2.1 s.2.2.2.2.1 s.2.2.2.2.2.1 s.2.2.2.2.2.2.1 s.2.2.2.2.2.2.2.1 s.2.2.2.2.2.2.2.2 = some r ∧ (OSl RTExpr 116 11 s.1 [] s.2.2.1 s.2.1) ∧ (s.1 pb0 = some (.cells #[pv0_0, iV s.2.2.2.1, .bool s.2.2.2.2.1] 100 (0, 0)))) (fun s hm => ?_) (fun K => ?_)
 ·clear h
  obtain ⟨Φ_2, s1, u1, s2, s3, s4, s5, s6, s7⟩ := s
  obtain ⟨h, k2, k3⟩ := hm
  dsimp only at h k2 k3 ⊢
  unfold m_s_l10Act_j1 at h
  refine atr 4 [5] rfl <| soN 1 Sz_66 rfl ⟨rfl, rfl, k2.one, rfl, rfl, trivial⟩ rfl ?_
  refine en ?_
  exact rtg [0, 0] hF (resOk.one (rv_cell Tn_66 rfl (fun w1 hw => hw.rgO (i := 1) rfl 0 5 [iV s4, .string s5, u1, iV s6, .string s7] rfl) rfl)) rfl (by cases h; exact fun w1 hw => ⟨u1, rfl, rfl, k2, rfl, k3⟩)
 refine ch h rfl ?_ ?_ <;> intro h
 ·refine atr 3 [0] rfl <| so1 0 Sz_3 rfl rfl ?_
  refine arr 3 [] rfl ?_
  refine WL.frz (js := [0]) (R := [(b_1, .cells #[iV 0, .string (⟨#[]⟩ : ByteArray), .slice none 0 0, iV 0, .string (⟨#[]⟩ : ByteArray)] 66 (0, 0))]) rfl (fun Φ_3 fr2 k4 => ?_)
  replace k1 := k1.f0 fr2
  replace h1 := fr2 _ _ (by simp) h1
  refine kcb [2, 0, 0] h rfl rfl rfl rfl (fun b ap z q => m_s_l10Args_ok N b (⟨p0.l, x1.2.at_, x1.2.bad⟩ : Tl10Reader) (⟨1, (⟨#[]⟩ : ByteArray), ([] : List TExpr), 0, (⟨#[]⟩ : ByteArray)⟩ : TAct) (ph0_0.y z) h1 k1 k4 q) ?_
  rintro x2 h v2 Φ_4 F2 ⟨ap2, fr3, v3, rfl, rfl, e2, h2, h3, h4⟩
  refine en ?_
  refine WT.thw (js := [1]) (R := [[pb0], ob v3]) rfl h4 (fun Φ_5 ap3 fr4 => ?_)
  replace h3 := h3.fr fr4 (ap3.q 1 rfl) dN
  replace h2 := fr4 _ _ ((ap3.q 0 rfl) _ (by simp)) h2
  exact wo [1, 0] [0, 0] (K (_, _, _, _, _, _, _, _, _) ⟨h, h3, h2⟩)
 refine att 5 [] rfl ?_
 refine ch h rfl ?_ ?_ <;> intro h
 ·refine atr 3 [0] rfl <| so1 0 Sz_3 rfl rfl ?_
  refine arr 3 [] rfl <| kcb [1] h rfl rfl rfl rfl (fun b ap z q => m_s_l10Next_ok N b (⟨p0.l, x1.2.at_, x1.2.bad⟩ : Tl10Reader) 1 (ph0_0.y z) h1 q) ?_
  rintro x3 h v4 Φ_6 F3 ⟨ap4, fr5, rfl, rfl, e3, h5⟩
  replace k1 := k1.fr fr5 (ap4.q 0 rfl) dN
  refine lq (q_field1 Fd1_77_1 rfl rfl) rfl <| lf Fld_66_3 rfl rfl rfl <| so1 0 Sz_3 rfl rfl ?_
  refine en ?_
  exact wo [1, 0] [0, 0] (K (_, _, _, _, _, _, _, _, _) ⟨h, k1, h5⟩)
 refine att 5 [] rfl ?_
 refine ch h rfl ?_ ?_ <;> intro h
 ·refine atr 3 [0] rfl <| so1 0 Sz_3 rfl rfl ?_
  refine arr 4 [] rfl ?_
  refine WL.frz (js := [0]) (R := [(b_1, .cells #[iV 0, .string (⟨#[]⟩ : ByteArray), .slice none 0 0, iV 0, .string (⟨#[]⟩ : ByteArray)] 66 (0, 0))]) rfl (fun Φ_7 fr6 k5 => ?_)
  replace k1 := k1.f0 fr6
  replace h1 := fr6 _ _ (by simp) h1
  refine kcb [2, 0, 0] h rfl rfl rfl rfl (fun b ap z q => m_s_l10Args_ok N b (⟨p0.l, x1.2.at_, x1.2.bad⟩ : Tl10Reader) (⟨3, (⟨#[]⟩ : ByteArray), ([] : List TExpr), 0, (⟨#[]⟩ : ByteArray)⟩ : TAct) (ph0_0.y z) h1 k1 k5 q) ?_
  rintro x4 h v5 Φ_8 F4 ⟨ap5, fr7, v6, rfl, rfl, e4, h6, h7, h8⟩
  refine arr 4 [] rfl <| kcb [0] h rfl rfl rfl rfl (fun b ap z q => m_s_l10Is_ok N b (⟨p0.l, x4.1.at_, x4.1.bad⟩ : Tl10Reader) 2 (⟨#[117, 110, 100, 111]⟩ : ByteArray) (ph0_0.y z) h6 q) ?_
  rintro x5 h v7 Φ_9 F5 ⟨ap6, fr8, rfl, rfl, e5, h9⟩
  replace h7 := h7.fr fr8 (ap6.q 1 rfl) dN
  replace h8 := fr8 _ _ ((ap6.q 0 rfl) _ (by simp)) h8
  refine en ?_
  refine ch h rfl ?_ ?_ <;> intro h
  ·refine atr 2 [] rfl <| kcb [0] h rfl rfl rfl rfl (fun b ap z q => m_s_l10Next_ok N b (⟨p0.l, x5.2.at_, x5.2.bad⟩ : Tl10Reader) 2 (ph0_0.y z) h9 q) ?_
   rintro x6 h v8 Φ_10 F6 ⟨ap7, fr9, rfl, rfl, e6, h10⟩
   replace h7 := h7.fr fr9 (ap7.q 1 rfl) dN
   replace h8 := fr9 _ _ ((ap7.q 0 rfl) _ (by simp)) h8
   refine lq (q_field1 Fd1_77_2 rfl rfl) rfl <| lf Fld_66_4 rfl rfl rfl ?_
   refine WL.thw (js := [1]) (R := [[pb0], ob v6]) rfl h8 (fun Φ_11 ap8 fr10 => ?_)
   replace h7 := h7.fr fr10 (ap8.q 1 rfl) dN
   replace h10 := fr10 _ _ ((ap8.q 0 rfl) _ (by simp)) h10
   refine so1 0 Sz_9 rfl rfl ?_
   refine en ?_
   exact wo [1, 0] [0, 0] (K (_, _, _, _, _, _, _, _, _) ⟨h, h7, h10⟩)
  refine WT.skip ?_
  refine WT.thw (js := [1]) (R := [[pb0], ob v6]) rfl h8 (fun Φ_12 ap9 fr11 => ?_)
  replace h7 := h7.fr fr11 (ap9.q 1 rfl) dN
  replace h9 := fr11 _ _ ((ap9.q 0 rfl) _ (by simp)) h9
  exact wo [1, 0] [0, 0] (K (_, _, _, _, _, _, _, _, _) ⟨h, h7, h9⟩)
 refine att 5 [] rfl ?_
 refine ch h rfl ?_ ?_ <;> intro h
 ·refine atr 3 [0] rfl <| so1 0 Sz_3 rfl rfl ?_
  refine arr 4 [] rfl <| kcb [1] h rfl rfl rfl rfl (fun b ap z q => m_s_l10Next_ok N b (⟨p0.l, x1.2.at_, x1.2.bad⟩ : Tl10Reader) 1 (ph0_0.y z) h1 q) ?_
  rintro x7 h v9 Φ_13 F7 ⟨ap10, fr12, rfl, rfl, e7, h11⟩
  replace k1 := k1.fr fr12 (ap10.q 0 rfl) dN
  refine lq (q_field1 Fd1_77_1 rfl rfl) rfl <| lf Fld_66_3 rfl rfl rfl <| so1 0 Sz_3 rfl rfl ?_
  refine arr 3 [] rfl ?_
  refine WL.frz (js := [0]) (R := [(b_1, .cells #[iV 0, .string (⟨#[]⟩ : ByteArray), .slice none 0 0, iV 0, .string (⟨#[]⟩ : ByteArray)] 66 (0, 0))]) rfl (fun Φ_14 fr13 k6 => ?_)
  replace k1 := k1.f0 fr13
  replace h11 := fr13 _ _ (by simp) h11
  refine kcb [1, 0, 0] h rfl rfl rfl rfl (fun b ap z q => m_s_l10Args_ok N b (⟨p0.l, x7.2.at_, x7.2.bad⟩ : Tl10Reader) (⟨4, (⟨#[]⟩ : ByteArray), ([] : List TExpr), x7.1.N, (⟨#[]⟩ : ByteArray)⟩ : TAct) (ph0_0.y z) h11 k1 k6 q) ?_
  rintro x8 h v10 Φ_15 F8 ⟨ap11, fr14, v11, rfl, rfl, e8, h12, h13, h14⟩
  refine en ?_
  refine WT.thw (js := [1]) (R := [[pb0], ob v11]) rfl h14 (fun Φ_16 ap12 fr15 => ?_)
  replace h13 := h13.fr fr15 (ap12.q 1 rfl) dN
  replace h12 := fr15 _ _ ((ap12.q 0 rfl) _ (by simp)) h12
  exact wo [1, 0] [0, 0] (K (_, _, _, _, _, _, _, _, _) ⟨h, h13, h12⟩)
 refine att 5 [] rfl ?_
 refine ch h rfl ?_ ?_ <;> intro h
 ·refine atr 2 [0] rfl <| so1 0 Sz_3 rfl rfl ?_
  refine en ?_
  exact wo [0, 0] [0, 0] (K (_, _, _, _, _, _, _, _, _) ⟨h, k1, h1⟩)
 refine att 5 [] rfl ?_
 refine ch h rfl ?_ ?_ <;> intro h
 ·refine atr 2 [0] rfl <| so1 0 Sz_3 rfl rfl ?_
  refine en ?_
  exact wo [0, 0] [0, 0] (K (_, _, _, _, _, _, _, _, _) ⟨h, k1, h1⟩)
 refine atr 2 [] rfl <| lq (q_nilCheck rfl) rfl <| lf Fld_100_2 rfl rfl rfl ?_
 refine WL.thw (js := [1]) (R := [ob (.slice none 0 0)]) rfl h1 (fun Φ_17 ap13 fr16 => ?_)
 replace k1 := k1.fr fr16 (ap13.q 0 rfl) dN
 refine so1 0 Sz_4 rfl rfl ?_
 refine en ?_
 refine WT.frz (js := [0]) (R := [(b_2, .cells #[iV 0, .string (⟨#[]⟩ : ByteArray), (.slice none 0 0), iV 0, .string (⟨#[]⟩ : ByteArray)] 66 (0, 0)), (b_1, .cells #[iV 0, .string (⟨#[]⟩ : ByteArray), .slice none 0 0, iV 0, .string (⟨#[]⟩ : ByteArray)] 66 (0, 0))]) rfl (fun Φ_18 fr17 k7 => ?_)
 replace k1 := k1.f0 fr17
 exact wo [1, 0] [0, 0] (K (_, _, _, _, _, _, _, _, _) ⟨h, k1, k7⟩)
theorem m_s_l10Rule_ok (w0 : Base Ψ Φ [[pb0]].flatten) (p0 : Tl10Reader) (ph0_0 : RSl RTToken 3 Ψ pG0_0 pv0_0 p0.l) (pp0 : Φ pb0 = some (.cells #[pv0_0, iV p0.at_, .bool p0.bad] 100 (0, 0))) {r : TRule × Tl10Reader} (h : m_s_l10Rule N p0 = some r) :
  Calls prog 69 [pQ pb0].toArray w0.w (PostG Φ w0.w [[pb0]].flatten (fun Φ' Fs v => ∃ (sr_0_0 : Value) (Dr_0_0 : List Nat) (sr_0_1 : Value) (sr_0_2 : Value) (Dr_0_2 : List Nat), v = .agg [.string r.1.Name, iV r.1.Sal, sr_0_0, sr_0_1, sr_0_2].toArray ∧ Fs = [ob sr_0_0, Dr_0_0, ob sr_0_1, ob sr_0_2, Dr_0_2, [pb0]] ∧ OSl OTPat 35 3 Φ' Dr_0_0 sr_0_0 r.1.Pats ∧ OSl RTCond 62 11 Φ' [] sr_0_1 r.1.Conds ∧ OSl OTAct 66 5 Φ' Dr_0_2 sr_0_2 r.1.Acts ∧ r.2.l = p0.l ∧ Φ' pb0 = some (.cells #[pv0_0, iV r.2.at_, .bool r.2.bad] 100 (0, 0)))) := by
 refine eL func69 rfl ntmps69 rfl (L := [[pb0]]) w0 (fun hF => ?_)
 unfold m_s_l10Rule at h
 refine sr <| lnz Zr_28 rfl fun b_1 => arr 4 [] rfl <| kcb [0] h rfl rfl rfl rfl (fun b ap z q => m_s_l10Word_ok N b p0 (⟨#[114, 117, 108, 101]⟩ : ByteArray) (ph0_0.y z) pp0 q) ?_
 rintro x1 h v1 Φ_1 F1 ⟨ap1, fr1, rfl, rfl, e1, h1⟩
 refine arr 4 [] rfl <| kcb [0] h rfl rfl rfl rfl (fun b ap z q => m_s_l10Next_ok N b (⟨p0.l, x1.at_, x1.bad⟩ : Tl10Reader) 2 (ph0_0.y z) h1 q) ?_
 rintro x2 h v2 Φ_2 F2 ⟨ap2, fr2, rfl, rfl, e2, h2⟩
 refine lq (q_field1 Fd1_77_2 rfl rfl) rfl <| lq (q_build (vs := [(0, .string x2.1.S)]) (C := #[.string x2.1.S, iV 0, .slice none 0 0, .slice none 0 0, .slice none 0 0]) Pl_28 Zr_28 rfl (fill_cons (C' := [.string x2.1.S, iV 0, .slice none 0 0, .slice none 0 0, .slice none 0 0]) rfl rfl rfl rfl rfl (fill_nil))) rfl <| lnz Zr_28 rfl fun b_2 => soN 0 Sz_28 rfl ⟨rfl, rfl, rfl, rfl, rfl, trivial⟩ rfl ?_
 refine arr 4 [] rfl <| kcb [0] h rfl rfl rfl rfl (fun b ap z q => m_s_l10Num_ok N b (⟨p0.l, x2.2.at_, x2.2.bad⟩ : Tl10Reader) (ph0_0.y z) h2 q) ?_
 rintro x3 h v3 Φ_3 F3 ⟨ap3, fr3, rfl, rfl, e3, h3⟩
 refine lf Fld_28_1 rfl rfl rfl <| so1 0 Sz_3 rfl rfl ?_
 refine arr 4 [] rfl <| kcb [0] h rfl rfl rfl rfl (fun b ap z q => m_s_l10Mark_ok N b (⟨p0.l, x3.2.at_, x3.2.bad⟩ : Tl10Reader) (⟨#[58]⟩ : ByteArray) (ph0_0.y z) h3 q) ?_
 rintro x4 h v4 Φ_4 F4 ⟨ap4, fr4, rfl, rfl, e4, h4⟩
 refine art 7 [] rfl <| wtS <| wt0 ?_
 have k1 := OSl.nil OTPat 35 3 Φ_4
 refine lin (σ := Hp × (List TPat) × Value × List Nat × Bool × Int × Bool) (fun s => [(0, pQ pb0), (2, pQ b_1), (3, pQ b_2), (4, .bool s.2.2.2.2.1)]) (fun s => St w0 s.1 [(b_2, .cells #[.string x2.1.S, iV x3.1, s.2.2.1, .slice none 0 0, .slice none 0 0] 28 (0, 0)), (b_1, .cells #[.string (⟨#[]⟩ : ByteArray), iV 0, .slice none 0 0, .slice none 0 0, .slice none 0 0] 28 (0, 0))] [s.2.2.2.1, ob s.2.2.1, [pb0]]) (fun m s => m_s_l10Rule_l1 N p0 x2 x3 m s.2.1 s.2.2.2.2.1 s.2.2.2.2.2.1 s.2.2.2.2.2.2 = some r ∧ (OSl OTPat 35 3 s.1 s.2.2.2.1 s.2.2.1 s.2.1) ∧ (s.1 pb0 = some (.cells #[pv0_0, iV s.2.2.2.2.2.1, .bool s.2.2.2.2.2.2] 100 (0, 0)))) (Φ_4, ([] : List TPat), (.slice none 0 0), [], true, x4.at_, x4.bad) N ⟨h, k1, h4⟩ (sx [0, 0, 0] [0, 0]) (fun n1 ih1 s hm => ?_)
 obtain ⟨Φ_5, s1, u1, D1, s2, s3, s4⟩ := s
 obtain ⟨h, k2, k3⟩ := hm
 dsimp only at h k2 k3 ⊢
 unfold m_s_l10Rule_l1 at h
 refine atr 5 [] rfl ?_
 obtain ⟨b5, hb_1, h⟩ := bs h
 refine WL.cutN 6 [(25, .bool b5), (0, pQ pb0), (2, pQ b_1), (3, pQ b_2)] ?_ (fun K => ?_)
 rotate_left
 ·refine sp 19 hb_1 rfl (fun hb_1 => ?_) fun hb_1 => ?_
  ·refine ly rfl rfl <| la rfl <| ly rfl rfl <| lq (q_nilCheck rfl) rfl <| ly rfl rfl <| lf Fld_100_2 rfl rfl rfl <| ly rfl rfl <| lgx 2 0 (rg_cells k3) rfl <| arr 2 [] rfl ?_
   cases hb_1
   exact ku K
  ·refine arr 6 [] rfl ?_
   cases hb_1
   exact ku K
 refine en ?_
 refine ch h rfl ?_ ?_ <;> intro h
 ·refine att 3 [] rfl <| wm [0, 1] [7] rfl <| amm 3 [0, 2, 1, 0, 2] [0, 1] rfl rfl ?_
  obtain ⟨x5, hx5, h⟩ := bs h
  refine WM.one 3 (by kernel_rfl) (mc rfl (fun _ v Φx D w1 hq hw => Kn.of Kf.nil (ai2 0 1 rfl rfl) hw) (k_call (js := [2]) (R := [D1, ob u1]) Fun_126 rfl rfl (fun w1 hw ap hl => m_s_l10Pat_ok N (bx hw ap hl) (⟨p0.l, s3, s4⟩ : Tl10Reader) (ph0_0.y (hw.uo ap)) k3  hx5)) rfl ?_)
  rintro v5 Φ_6 F5 ⟨ap5, fr5, v6, rfl, rfl, h5, e5, h6⟩
  replace k2 := k2.fr fr5 (ap5.q 1 rfl) (ap5.q 0 rfl)
  have rc1 : RC OTPat 3 Φ_6 ([(ob v6 ++ [])] : List (List Nat)) [.string x5.1.Kind, v6, .bool x5.1.Not] ([x5.1] : List TPat) := RC.cons (c := [.string x5.1.Kind, v6, .bool x5.1.Not]) (cells := []) ⟨v6, rfl, rfl, h5⟩ rfl (RC.nil _ _ _)
  refine WM.one 4 (by kernel_rfl) (me rfl (fun _ v Φx D w1 hq hw => Kn.of Kf.nil (ai2 0 1 rfl rfl) hw) (e_lit (vs := [(0, .agg [.string x5.1.Kind, v6, .bool x5.1.Not].toArray)]) (C := #[.string x5.1.Kind, v6, .bool x5.1.Not]) OTPat.lasts Sl_24 Zr_35 rfl rfl rfl rfl (fill_made MC_35_1 (fill_cons (C' := [.string x5.1.Kind, v6, .bool x5.1.Not]) rfl rfl rfl rfl rfl (fill_nil))) rfl rc1 rfl (RC.kn OTPat.knows rc1)) rfl ?_)
  rintro v7 Φ_7 D2 ⟨fr6, h7⟩
  replace h7 : OSl OTPat 35 3 Φ_7 ((ob v6 ++ [])) v7 ([x5.1] : List TPat) := by simpa [List.append_assoc] using h7
  replace k2 := k2.f0 fr6
  replace h6 := fr6 _ _ (by simp) h6
  refine WM.conv (S' := St w0 Φ_7 [(b_2, .cells #[.string x2.1.S, iV x3.1, u1, .slice none 0 0, .slice none 0 0] 28 (0, 0)), (b_1, .cells #[.string (⟨#[]⟩ : ByteArray), iV 0, .slice none 0 0, .slice none 0 0, .slice none 0 0] 28 (0, 0))] [((ob v6 ++ [])), ob v7, [pb0], D1, ob u1]) (fun w1 hw => hw.merge (js := [1]) rfl (SP.eq (by simp [List.append_assoc, ob_nil]))) ?_
  obtain ⟨x6, hx6, h⟩ := bs h
  refine WM.one 5 (by kernel_rfl) (me rfl (fun _ v Φx D w1 hq hw => Kn.of Kf.nil (ai2 0 1 rfl rfl) hw) (e_appO OTPat.lasts OTPat.one Sl_24 Ei_35 rfl rfl rfl rfl rfl (js := [4]) (Rr := [((ob v6 ++ [])), ob v7, [pb0], D1]) rfl k2 h7 (fun ap => ap.q 3 rfl) (fun ap => ap.q 0 rfl) hx6) rfl ?_)
  rintro v8 Φ_8 D3 ⟨⟨ap6, fr7⟩, h8⟩
  replace h6 := fr7 _ _ ((ap6.q 2 rfl) _ (by simp)) h6
  refine WM.conv (S' := St w0 Φ_8 [(b_2, .cells #[.string x2.1.S, iV x3.1, u1, .slice none 0 0, .slice none 0 0] 28 (0, 0)), (b_1, .cells #[.string (⟨#[]⟩ : ByteArray), iV 0, .slice none 0 0, .slice none 0 0, .slice none 0 0] 28 (0, 0))] [(D1 ++ ((ob v6 ++ []))), ob v8, ob v7, [pb0]]) (fun w1 hw => hw.merge (js := [4, 1]) rfl (SP.eq (by simp))) <| amm 1 [6, 2] [0, 1] rfl rfl ?_
  refine on1 7 (ms1 0 rfl nk Sz_24 rfl h8.one ?_)
  refine WM.nil (by kernel_rfl) <| atr 2 [] rfl <| kcb [3] h rfl rfl rfl rfl (fun b ap z q => m_s_l10Is_ok N b (⟨p0.l, x5.2.at_, x5.2.bad⟩ : Tl10Reader) 5 (⟨#[44]⟩ : ByteArray) (ph0_0.y z) h6 q) ?_
  rintro x7 h v9 Φ_9 F6 ⟨ap7, fr8, rfl, rfl, e6, h9⟩
  replace h8 := h8.fr fr8 (ap7.q 1 rfl) (ap7.q 0 rfl)
  refine art 3 [] rfl ?_
  exact lb [1, 1, 0] [0, 0] (ih1 (_, _, _, _, _, _, _) ⟨h, h8, h9⟩)
 refine atr 5 [] rfl <| kcb [2] h rfl rfl rfl rfl (fun b ap z q => m_s_l10Is_ok N b (⟨p0.l, s3, s4⟩ : Tl10Reader) 5 (⟨#[43]⟩ : ByteArray) (ph0_0.y z) k3 q) ?_
 rintro x8 h v10 Φ_10 F7 ⟨ap8, fr9, rfl, rfl, e7, h10⟩
 replace k2 := k2.fr fr9 (ap8.q 1 rfl) (ap8.q 0 rfl)
 refine art 3 [] rfl <| wtS ?_
 have k4 := OSl.nil RTCond 62 11 Φ_10
 refine lin (σ := Hp × (List TCond) × Value × Bool × Int × Bool) (fun s => [(0, pQ pb0), (2, pQ b_1), (3, pQ b_2), (5, .bool s.2.2.2.1)]) (fun s => St w0 s.1 [(b_2, .cells #[.string x2.1.S, iV x3.1, u1, s.2.2.1, .slice none 0 0] 28 (0, 0)), (b_1, .cells #[.string (⟨#[]⟩ : ByteArray), iV 0, .slice none 0 0, .slice none 0 0, .slice none 0 0] 28 (0, 0))] [ob s.2.2.1, [pb0], D1, ob u1]) (fun m s => m_s_l10Rule_l2 N p0 x2 x3 s1 m s.2.1 s.2.2.2.1 s.2.2.2.2.1 s.2.2.2.2.2 = some r ∧ (OSl OTPat 35 3 s.1 D1 u1 s1) ∧ (OSl RTCond 62 11 s.1 [] s.2.2.1 s.2.1) ∧ (s.1 pb0 = some (.cells #[pv0_0, iV s.2.2.2.2.1, .bool s.2.2.2.2.2] 100 (0, 0)))) (Φ_10, ([] : List TCond), (.slice none 0 0), x8.1, x8.2.at_, x8.2.bad) N ⟨h, k2, k4, h10⟩ (sx [0, 0, 0, 0] [0, 0]) (fun n2 ih2 s hm => ?_)
 obtain ⟨Φ_11, s5, u2, s6, s7, s8⟩ := s
 obtain ⟨h, k2, k5, k6⟩ := hm
 dsimp only at h k2 k5 k6 ⊢
 unfold m_s_l10Rule_l2 at h
 refine atr 5 [] rfl ?_
 obtain ⟨b9, hb_2, h⟩ := bs h
 refine WL.cutN 6 [(44, .bool b9), (0, pQ pb0), (2, pQ b_1), (3, pQ b_2)] ?_ (fun K => ?_)
 rotate_left
 ·refine sp 38 hb_2 rfl (fun hb_2 => ?_) fun hb_2 => ?_
  ·refine ly rfl rfl <| la rfl <| ly rfl rfl <| lq (q_nilCheck rfl) rfl <| ly rfl rfl <| lf Fld_100_2 rfl rfl rfl <| ly rfl rfl <| lgx 2 0 (rg_cells k6) rfl <| arr 2 [] rfl ?_
   cases hb_2
   exact ku K
  ·refine arr 6 [] rfl ?_
   cases hb_2
   exact ku K
 refine en ?_
 refine ch h rfl ?_ ?_ <;> intro h
 ·refine att 3 [] rfl <| wm [0, 1] [7] rfl <| amm 3 [0, 3, 1, 0, 2] [0, 1] rfl rfl ?_
  obtain ⟨x9, hx9, h⟩ := bs h
  refine WM.one 3 (by kernel_rfl) (mc rfl (fun _ v Φx D w1 hq hw => Kn.of Kf.nil (ai2 0 1 rfl rfl) hw) (k_call (js := [1]) (R := [ob u2, D1, ob u1]) Fun_127 rfl rfl (fun w1 hw ap hl => m_s_l10Cond_ok N (bx hw ap hl) (⟨p0.l, s7, s8⟩ : Tl10Reader) (ph0_0.y (hw.uo ap)) k6  hx9)) rfl ?_)
  rintro v11 Φ_12 F8 ⟨ap9, fr10, rfl, rfl, e8, h11⟩
  replace k2 := k2.fr fr10 (ap9.q 2 rfl) (ap9.q 1 rfl)
  replace k5 := k5.fr fr10 (ap9.q 0 rfl) dN
  have rc2 : RC RTCond 11 Φ_12 ([[]] : List (List Nat)) [iV x9.1.Op, iV x9.1.L.K, .string x9.1.L.S, iV x9.1.L.V.K, iV x9.1.L.V.N, .string x9.1.L.V.S, iV x9.1.R.K, .string x9.1.R.S, iV x9.1.R.V.K, iV x9.1.R.V.N, .string x9.1.R.V.S] ([x9.1] : List TCond) := RC.cons (c := [iV x9.1.Op, iV x9.1.L.K, .string x9.1.L.S, iV x9.1.L.V.K, iV x9.1.L.V.N, .string x9.1.L.V.S, iV x9.1.R.K, .string x9.1.R.S, iV x9.1.R.V.K, iV x9.1.R.V.N, .string x9.1.R.V.S]) (cells := []) ⟨rfl, rfl⟩ rfl (RC.nil _ _ _)
  refine WM.one 4 (by kernel_rfl) (me rfl (fun _ v Φx D w1 hq hw => Kn.of Kf.nil (ai2 0 1 rfl rfl) hw) (e_lit (vs := [(0, .agg [iV x9.1.Op, iV x9.1.L.K, .string x9.1.L.S, iV x9.1.L.V.K, iV x9.1.L.V.N, .string x9.1.L.V.S, iV x9.1.R.K, .string x9.1.R.S, iV x9.1.R.V.K, iV x9.1.R.V.N, .string x9.1.R.V.S].toArray)]) (C := #[iV x9.1.Op, iV x9.1.L.K, .string x9.1.L.S, iV x9.1.L.V.K, iV x9.1.L.V.N, .string x9.1.L.V.S, iV x9.1.R.K, .string x9.1.R.S, iV x9.1.R.V.K, iV x9.1.R.V.N, .string x9.1.R.V.S]) RTCond.lasts Sl_25 Zr_62 rfl rfl rfl rfl (fill_made MC_62_1 (fill_cons (C' := [iV x9.1.Op, iV x9.1.L.K, .string x9.1.L.S, iV x9.1.L.V.K, iV x9.1.L.V.N, .string x9.1.L.V.S, iV x9.1.R.K, .string x9.1.R.S, iV x9.1.R.V.K, iV x9.1.R.V.N, .string x9.1.R.V.S]) rfl rfl rfl rfl rfl (fill_nil))) rfl rc2 rfl (by simpa using Kw.nil)) rfl ?_)
  rintro v12 Φ_13 D4 ⟨fr11, h12⟩
  replace h12 : OSl RTCond 62 11 Φ_13 [] v12 ([x9.1] : List TCond) := by simpa using h12
  replace k2 := k2.f0 fr11
  replace k5 := k5.f0 fr11
  replace h11 := fr11 _ _ (by simp) h11
  obtain ⟨x10, hx10, h⟩ := bs h
  refine WM.one 5 (by kernel_rfl) (me rfl (fun _ v Φx D w1 hq hw => Kn.of Kf.nil (ai2 0 1 rfl rfl) hw) (e_appF RTCond.lasts RTCond.one RTCond.flat Sl_25 Ei_62 rfl rfl rfl rfl rfl (js := [2]) (Rr := [ob v12, [pb0], D1, ob u1]) rfl k5 h12.rsl hx10) rfl ?_)
  rintro v13 Φ_14 D5 ⟨⟨ap10, fr12⟩, h13⟩
  replace k2 := k2.fr fr12 (ap10.q 3 rfl) (ap10.q 2 rfl)
  replace h11 := fr12 _ _ ((ap10.q 1 rfl) _ (by simp)) h11
  refine amm 1 [6, 3] [0, 1] rfl rfl ?_
  refine on1 7 (ms1 0 rfl nk Sz_25 rfl h13.one ?_)
  refine WM.nil (by kernel_rfl) <| atr 2 [] rfl <| kcb [2] h rfl rfl rfl rfl (fun b ap z q => m_s_l10Is_ok N b (⟨p0.l, x9.2.at_, x9.2.bad⟩ : Tl10Reader) 5 (⟨#[44]⟩ : ByteArray) (ph0_0.y z) h11 q) ?_
  rintro x11 h v14 Φ_15 F9 ⟨ap11, fr13, rfl, rfl, e9, h14⟩
  replace k2 := k2.fr fr13 (ap11.q 3 rfl) (ap11.q 2 rfl)
  replace h13 := h13.fr fr13 (ap11.q 0 rfl) dN
  refine art 3 [] rfl ?_
  exact lb [1, 0, 1, 1] [0, 0] (ih2 (_, _, _, _, _, _) ⟨h, k2, h13, h14⟩)
 refine atr 4 [] rfl <| kcb [1] h rfl rfl rfl rfl (fun b ap z q => m_s_l10Mark_ok N b (⟨p0.l, s7, s8⟩ : Tl10Reader) (⟨#[45, 62]⟩ : ByteArray) (ph0_0.y z) k6 q) ?_
 rintro x12 h v15 Φ_16 F10 ⟨ap12, fr14, rfl, rfl, e10, h15⟩
 replace k2 := k2.fr fr14 (ap12.q 2 rfl) (ap12.q 1 rfl)
 replace k5 := k5.fr fr14 (ap12.q 0 rfl) dN
 refine art 7 [] rfl <| wtS <| wt0 ?_
 have k7 := OSl.nil OTAct 66 5 Φ_16
 refine lin (σ := Hp × (List TAct) × Value × List Nat × Bool × Int × Bool) (fun s => [(0, pQ pb0), (2, pQ b_1), (3, pQ b_2), (6, .bool s.2.2.2.2.1)]) (fun s => St w0 s.1 [(b_2, .cells #[.string x2.1.S, iV x3.1, u1, u2, s.2.2.1] 28 (0, 0)), (b_1, .cells #[.string (⟨#[]⟩ : ByteArray), iV 0, .slice none 0 0, .slice none 0 0, .slice none 0 0] 28 (0, 0))] [s.2.2.2.1, ob s.2.2.1, [pb0], ob u2, D1, ob u1]) (fun m s => m_s_l10Rule_l3 N p0 x2 x3 s1 s5 m s.2.1 s.2.2.2.2.1 s.2.2.2.2.2.1 s.2.2.2.2.2.2 = some r ∧ (OSl OTPat 35 3 s.1 D1 u1 s1) ∧ (OSl RTCond 62 11 s.1 [] u2 s5) ∧ (OSl OTAct 66 5 s.1 s.2.2.2.1 s.2.2.1 s.2.1) ∧ (s.1 pb0 = some (.cells #[pv0_0, iV s.2.2.2.2.2.1, .bool s.2.2.2.2.2.2] 100 (0, 0)))) (Φ_16, ([] : List TAct), (.slice none 0 0), [], true, x12.at_, x12.bad) N ⟨h, k2, k5, k7, h15⟩ (sx [0, 0, 0, 0, 0, 0] [0, 0]) (fun n3 ih3 s hm => ?_)
 obtain ⟨Φ_17, s9, u3, D6, s10, s11, s12⟩ := s
 obtain ⟨h, k2, k5, k8, k9⟩ := hm
 dsimp only at h k2 k5 k8 k9 ⊢
 unfold m_s_l10Rule_l3 at h
 refine atr 5 [] rfl ?_
 obtain ⟨b13, hb_3, h⟩ := bs h
 refine WL.cutN 6 [(63, .bool b13), (0, pQ pb0), (2, pQ b_1), (3, pQ b_2)] ?_ (fun K => ?_)
 rotate_left
 ·refine sp 57 hb_3 rfl (fun hb_3 => ?_) fun hb_3 => ?_
  ·refine ly rfl rfl <| la rfl <| ly rfl rfl <| lq (q_nilCheck rfl) rfl <| ly rfl rfl <| lf Fld_100_2 rfl rfl rfl <| ly rfl rfl <| lgx 2 0 (rg_cells k9) rfl <| arr 2 [] rfl ?_
   cases hb_3
   exact ku K
  ·refine arr 6 [] rfl ?_
   cases hb_3
   exact ku K
 refine en ?_
 refine ch h rfl ?_ ?_ <;> intro h
 ·refine att 3 [] rfl <| wm [0, 1] [7] rfl <| amm 3 [0, 4, 1, 0, 2] [0, 1] rfl rfl ?_
  obtain ⟨x13, hx13, h⟩ := bs h
  refine WM.one 3 (by kernel_rfl) (mc rfl (fun _ v Φx D w1 hq hw => Kn.of Kf.nil (ai2 0 1 rfl rfl) hw) (k_call (js := [2]) (R := [D6, ob u3, ob u2, D1, ob u1]) Fun_128 rfl rfl (fun w1 hw ap hl => m_s_l10Act_ok N (bx hw ap hl) (⟨p0.l, s11, s12⟩ : Tl10Reader) (ph0_0.y (hw.uo ap)) k9  hx13)) rfl ?_)
  rintro v16 Φ_18 F11 ⟨ap13, fr15, v17, rfl, rfl, h16, e11, h17⟩
  replace k2 := k2.fr fr15 (ap13.q 4 rfl) (ap13.q 3 rfl)
  replace k5 := k5.fr fr15 (ap13.q 2 rfl) dN
  replace k8 := k8.fr fr15 (ap13.q 1 rfl) (ap13.q 0 rfl)
  have rc3 : RC OTAct 5 Φ_18 ([(ob v17 ++ [])] : List (List Nat)) [iV x13.1.Kind, .string x13.1.Name, v17, iV x13.1.N, .string x13.1.Undo] ([x13.1] : List TAct) := RC.cons (c := [iV x13.1.Kind, .string x13.1.Name, v17, iV x13.1.N, .string x13.1.Undo]) (cells := []) ⟨v17, rfl, rfl, h16⟩ rfl (RC.nil _ _ _)
  refine WM.one 4 (by kernel_rfl) (me rfl (fun _ v Φx D w1 hq hw => Kn.of Kf.nil (ai2 0 1 rfl rfl) hw) (e_lit (vs := [(0, .agg [iV x13.1.Kind, .string x13.1.Name, v17, iV x13.1.N, .string x13.1.Undo].toArray)]) (C := #[iV x13.1.Kind, .string x13.1.Name, v17, iV x13.1.N, .string x13.1.Undo]) OTAct.lasts Sl_26 Zr_66 rfl rfl rfl rfl (fill_made MC_66_1 (fill_cons (C' := [iV x13.1.Kind, .string x13.1.Name, v17, iV x13.1.N, .string x13.1.Undo]) rfl rfl rfl rfl rfl (fill_nil))) rfl rc3 rfl (RC.kn OTAct.knows rc3)) rfl ?_)
  rintro v18 Φ_19 D7 ⟨fr16, h18⟩
  replace h18 : OSl OTAct 66 5 Φ_19 ((ob v17 ++ [])) v18 ([x13.1] : List TAct) := by simpa [List.append_assoc] using h18
  replace k2 := k2.f0 fr16
  replace k5 := k5.f0 fr16
  replace k8 := k8.f0 fr16
  replace h17 := fr16 _ _ (by simp) h17
  refine WM.conv (S' := St w0 Φ_19 [(b_2, .cells #[.string x2.1.S, iV x3.1, u1, u2, u3] 28 (0, 0)), (b_1, .cells #[.string (⟨#[]⟩ : ByteArray), iV 0, .slice none 0 0, .slice none 0 0, .slice none 0 0] 28 (0, 0))] [((ob v17 ++ [])), ob v18, [pb0], D6, ob u3, ob u2, D1, ob u1]) (fun w1 hw => hw.merge (js := [1]) rfl (SP.eq (by simp [List.append_assoc, ob_nil]))) ?_
  obtain ⟨x14, hx14, h⟩ := bs h
  refine WM.one 5 (by kernel_rfl) (me rfl (fun _ v Φx D w1 hq hw => Kn.of Kf.nil (ai2 0 1 rfl rfl) hw) (e_appO OTAct.lasts OTAct.one Sl_26 Ei_66 rfl rfl rfl rfl rfl (js := [4]) (Rr := [((ob v17 ++ [])), ob v18, [pb0], D6, ob u2, D1, ob u1]) rfl k8 h18 (fun ap => ap.q 3 rfl) (fun ap => ap.q 0 rfl) hx14) rfl ?_)
  rintro v19 Φ_20 D8 ⟨⟨ap14, fr17⟩, h19⟩
  replace k2 := k2.fr fr17 (ap14.q 6 rfl) (ap14.q 5 rfl)
  replace k5 := k5.fr fr17 (ap14.q 4 rfl) dN
  replace h17 := fr17 _ _ ((ap14.q 2 rfl) _ (by simp)) h17
  refine WM.conv (S' := St w0 Φ_20 [(b_2, .cells #[.string x2.1.S, iV x3.1, u1, u2, u3] 28 (0, 0)), (b_1, .cells #[.string (⟨#[]⟩ : ByteArray), iV 0, .slice none 0 0, .slice none 0 0, .slice none 0 0] 28 (0, 0))] [(D6 ++ ((ob v17 ++ []))), ob v19, ob v18, [pb0], ob u2, D1, ob u1]) (fun w1 hw => hw.merge (js := [4, 1]) rfl (SP.eq (by simp))) <| amm 1 [6, 4] [0, 1] rfl rfl ?_
  refine on1 7 (ms1 0 rfl nk Sz_26 rfl h19.one ?_)
  refine WM.nil (by kernel_rfl) <| atr 2 [] rfl <| kcb [3] h rfl rfl rfl rfl (fun b ap z q => m_s_l10Is_ok N b (⟨p0.l, x13.2.at_, x13.2.bad⟩ : Tl10Reader) 5 (⟨#[44]⟩ : ByteArray) (ph0_0.y z) h17 q) ?_
  rintro x15 h v20 Φ_21 F12 ⟨ap15, fr18, rfl, rfl, e12, h20⟩
  replace k2 := k2.fr fr18 (ap15.q 5 rfl) (ap15.q 4 rfl)
  replace k5 := k5.fr fr18 (ap15.q 3 rfl) dN
  replace h19 := h19.fr fr18 (ap15.q 1 rfl) (ap15.q 0 rfl)
  refine art 3 [] rfl ?_
  exact lb [1, 1, 0, 1, 1, 1] [0, 0] (ih3 (_, _, _, _, _, _, _) ⟨h, k2, k5, h19, h20⟩)
 refine atr 4 [] rfl <| kcb [2] h rfl rfl rfl rfl (fun b ap z q => m_s_l10Mark_ok N b (⟨p0.l, s11, s12⟩ : Tl10Reader) (⟨#[46]⟩ : ByteArray) (ph0_0.y z) k9 q) ?_
 rintro x16 h v21 Φ_22 F13 ⟨ap16, fr19, rfl, rfl, e13, h21⟩
 replace k2 := k2.fr fr19 (ap16.q 4 rfl) (ap16.q 3 rfl)
 replace k5 := k5.fr fr19 (ap16.q 2 rfl) dN
 replace k8 := k8.fr fr19 (ap16.q 1 rfl) (ap16.q 0 rfl)
 refine arr 4 [5] rfl <| soN 1 Sz_28 rfl ⟨rfl, rfl, k2.one, k5.one, k8.one, trivial⟩ rfl ?_
 refine en ?_
 exact rtg [5, 4, 3, 2, 1, 0] hF (resOk.one (rv_cell Tn_28 rfl (fun w1 hw => hw.rgO (i := 1) rfl 0 5 [.string x2.1.S, iV x3.1, u1, u2, u3] rfl) rfl)) rfl (by cases h; exact fun w1 hw => ⟨u1, D1, u2, u3, D6, rfl, rfl, k2, k5, k8, rfl, h21⟩)
theorem m_s_ParseDef_ok  (w0 : Base Ψ Φ []) (p0 : ByteArray)  {r : TDef × Bool} (h : m_s_ParseDef N p0 = some r) :
  Calls prog 23 [.string p0].toArray w0.w (PostG Φ w0.w [] (fun Φ' Fs v => ∃ (sr_0_0 : Value) (Dr_0_0 : List Nat), v = .tuple #[.agg [.string r.1.Name, sr_0_0].toArray, .bool r.2] ∧ Fs = [ob sr_0_0, Dr_0_0] ∧ OSl OTRule 28 5 Φ' Dr_0_0 sr_0_0 r.1.Rules)) := by
 refine eN func23 rfl ntmps23 rfl w0 fun hF => ?_
 unfold m_s_ParseDef at h
 refine sr <| lnz Zr_38 rfl fun b_1 => arr 5 [] rfl <| kab h rfl rfl rfl (fun b z q => m_s_Lex_ok N b p0 q) ?_
 rintro x1 h v1 Φ_1 F1 ⟨ap1, fr1, v2, rfl, rfl, h1⟩
 refine arr 11 [] rfl <| lq (q_build (vs := [(0, v2), (2, .bool (!decide (x1.2 = (-1))))]) (C := #[v2, iV 0, .bool (!decide (x1.2 = (-1)))]) Pl_100 Zr_100 rfl (fill_cons (C' := [v2, iV 0, .bool false]) rfl (one_cells h1.one) rfl rfl rfl (fill_cons (C' := [v2, iV 0, .bool (!decide (x1.2 = (-1)))]) rfl rfl rfl rfl rfl (fill_nil)))) rfl <| lbx rfl fun b_2 => arr 5 [] rfl ?_
 refine WL.frz (js := [0]) (R := [(b_1, .cells #[.string (⟨#[]⟩ : ByteArray), .slice none 0 0] 38 (0, 0))]) rfl (fun Φ_2 fr2 k1 => ?_)
 replace h1 := h1.f0 fr2
 refine kcb [0] h rfl rfl rfl rfl (fun b ap z q => m_s_l10Word_ok N b (⟨x1.1, 0, !decide (x1.2 = (-1))⟩ : Tl10Reader) (⟨#[100, 101, 102]⟩ : ByteArray) (h1.rsl.x (Dj.app (ap.q 0 rfl) dN)) k1 q) ?_
 rintro x2 h v3 Φ_3 F2 ⟨ap2, fr3, rfl, rfl, e1, h2⟩
 replace h1 := h1.fr fr3 (ap2.q 0 rfl) dN
 refine arr 4 [] rfl <| kcb [0] h rfl rfl rfl rfl (fun b ap z q => m_s_l10Next_ok N b (⟨x1.1, x2.at_, x2.bad⟩ : Tl10Reader) 2 (h1.rsl.x (Dj.app (ap.q 0 rfl) dN)) h2 q) ?_
 rintro x3 h v4 Φ_4 F3 ⟨ap3, fr4, rfl, rfl, e2, h3⟩
 replace h1 := h1.fr fr4 (ap3.q 0 rfl) dN
 refine lq (q_field1 Fd1_77_2 rfl rfl) rfl <| lq (q_build (vs := [(0, .string x3.1.S)]) (C := #[.string x3.1.S, .slice none 0 0]) Pl_38 Zr_38 rfl (fill_cons (C' := [.string x3.1.S, .slice none 0 0]) rfl rfl rfl rfl rfl (fill_nil))) rfl <| lnz Zr_38 rfl fun b_3 => soN 0 Sz_38 rfl ⟨rfl, rfl, trivial⟩ rfl ?_
 refine arr 4 [] rfl <| kcb [0] h rfl rfl rfl rfl (fun b ap z q => m_s_l10Mark_ok N b (⟨x1.1, x3.2.at_, x3.2.bad⟩ : Tl10Reader) (⟨#[46]⟩ : ByteArray) (h1.rsl.x (Dj.app (ap.q 0 rfl) dN)) h3 q) ?_
 rintro x4 h v5 Φ_5 F4 ⟨ap4, fr5, rfl, rfl, e3, h4⟩
 replace h1 := h1.fr fr5 (ap4.q 0 rfl) dN
 refine art 3 [] rfl <| wtS <| wt0 ?_
 have k2 := OSl.nil OTRule 28 5 Φ_5
 refine lin (σ := Hp × (List TRule) × Value × List Nat × Int × Bool) (fun s => [(2, pQ b_1), (4, v2), (6, pQ b_2), (7, pQ b_3)]) (fun s => St w0 s.1 [(b_3, .cells #[.string x3.1.S, s.2.2.1] 38 (0, 0)), (b_1, .cells #[.string (⟨#[]⟩ : ByteArray), .slice none 0 0] 38 (0, 0))] [s.2.2.2.1, ob s.2.2.1, [b_2], ob v2]) (fun m s => m_s_ParseDef_l1 N x1 x3 m s.2.1 s.2.2.2.2.1 s.2.2.2.2.2 = some r ∧ (OSl RTToken 77 3 s.1 [] v2 x1.1) ∧ (OSl OTRule 28 5 s.1 s.2.2.2.1 s.2.2.1 s.2.1) ∧ (s.1 b_2 = some (.cells #[v2, iV s.2.2.2.2.1, .bool s.2.2.2.2.2] 100 (0, 0)))) (Φ_5, ([] : List TRule), (.slice none 0 0), [], x4.at_, x4.bad) N ⟨h, h1, k2, h4⟩ (sx [0, 0, 0, 0] [0, 0]) (fun n1 ih1 s hm => ?_)
 obtain ⟨Φ_6, s1, u1, D1, s2, s3⟩ := s
 obtain ⟨h, h1, k3, k4⟩ := hm
 dsimp only at h h1 k3 k4 ⊢
 unfold m_s_ParseDef_l1 at h
 refine atr 4 [] rfl <| lq (q_nilCheck rfl) rfl <| lf Fld_100_1 rfl rfl rfl <| lgx 1 0 (rg_cells k4) rfl <| la rfl <| lno h1 rfl <| arr 2 [] rfl ?_
 obtain ⟨b5, hb_1, h⟩ := bs h
 refine WL.cutN 6 [(39, .bool b5), (2, pQ b_1), (4, v2), (6, pQ b_2), (7, pQ b_3)] ?_ (fun K => ?_)
 rotate_left
 ·refine sp 33 hb_1 rfl (fun hb_1 => ?_) fun hb_1 => ?_
  ·refine ly rfl rfl <| la rfl <| ly rfl rfl <| lq (q_nilCheck rfl) rfl <| ly rfl rfl <| lf Fld_100_2 rfl rfl rfl <| ly rfl rfl <| lgx 2 0 (rg_cells k4) rfl <| arr 2 [] rfl ?_
   cases hb_1
   exact ku K
  ·refine arr 6 [] rfl ?_
   cases hb_1
   exact ku K
 refine en ?_
 refine ch h rfl ?_ ?_ <;> intro h
 ·refine att 2 [] rfl <| wm [0, 1] [7] rfl <| amm 3 [0, 1, 1, 0, 2] [0, 1] rfl rfl ?_
  obtain ⟨x5, hx5, h⟩ := bs h
  refine WM.one 3 (by kernel_rfl) (mc rfl (fun _ v Φx D w1 hq hw => Kn.of Kf.nil (ai2 0 1 rfl rfl) hw) (k_call (js := [2]) (R := [D1, ob u1, ob v2]) Fun_69 rfl rfl (fun w1 hw ap hl => m_s_l10Rule_ok N (bx hw ap hl) (⟨x1.1, s2, s3⟩ : Tl10Reader) (h1.rsl.x (Dj.app (ap.q 2 rfl) dN)) k4  hx5)) rfl ?_)
  rintro v6 Φ_7 F5 ⟨ap5, fr6, v7, D2, v8, v9, D3, rfl, rfl, h5, h6, h7, e4, h8⟩
  replace h1 := h1.fr fr6 (ap5.q 2 rfl) dN
  replace k3 := k3.fr fr6 (ap5.q 1 rfl) (ap5.q 0 rfl)
  have rc1 : RC OTRule 5 Φ_7 ([(ob v7 ++ D2) ++ ((ob v8 ++ []) ++ ((ob v9 ++ D3)))] : List (List Nat)) [.string x5.1.Name, iV x5.1.Sal, v7, v8, v9] ([x5.1] : List TRule) := RC.cons (c := [.string x5.1.Name, iV x5.1.Sal, v7, v8, v9]) (cells := []) ⟨v7, D2, v8, v9, D3, rfl, rfl, h5, h6, h7⟩ rfl (RC.nil _ _ _)
  refine WM.one 4 (by kernel_rfl) (me rfl (fun _ v Φx D w1 hq hw => Kn.of Kf.nil (ai2 0 1 rfl rfl) hw) (e_lit (vs := [(0, .agg [.string x5.1.Name, iV x5.1.Sal, v7, v8, v9].toArray)]) (C := #[.string x5.1.Name, iV x5.1.Sal, v7, v8, v9]) OTRule.lasts Sl_36 Zr_28 rfl rfl rfl rfl (fill_made MC_28_1 (fill_cons (C' := [.string x5.1.Name, iV x5.1.Sal, v7, v8, v9]) rfl rfl rfl rfl rfl (fill_nil))) rfl rc1 rfl (RC.kn OTRule.knows rc1)) rfl ?_)
  rintro v10 Φ_8 D4 ⟨fr7, h9⟩
  replace h9 : OSl OTRule 28 5 Φ_8 ((ob v7 ++ D2) ++ ((ob v8 ++ []) ++ ((ob v9 ++ D3)))) v10 ([x5.1] : List TRule) := by simpa [List.append_assoc] using h9
  replace h1 := h1.f0 fr7
  replace k3 := k3.f0 fr7
  replace h8 := fr7 _ _ (by simp) h8
  refine WM.conv (S' := St w0 Φ_8 [(b_3, .cells #[.string x3.1.S, u1] 38 (0, 0)), (b_1, .cells #[.string (⟨#[]⟩ : ByteArray), .slice none 0 0] 38 (0, 0))] [((ob v7 ++ D2) ++ ((ob v8 ++ []) ++ ((ob v9 ++ D3)))), ob v10, [b_2], D1, ob u1, ob v2]) (fun w1 hw => hw.merge (js := [1, 1, 1, 1, 1]) rfl (SP.eq (by simp [List.append_assoc, ob_nil]))) ?_
  obtain ⟨x6, hx6, h⟩ := bs h
  refine WM.one 5 (by kernel_rfl) (me rfl (fun _ v Φx D w1 hq hw => Kn.of Kf.nil (ai2 0 1 rfl rfl) hw) (e_appO OTRule.lasts OTRule.one Sl_36 Ei_28 rfl rfl rfl rfl rfl (js := [4]) (Rr := [((ob v7 ++ D2) ++ ((ob v8 ++ []) ++ ((ob v9 ++ D3)))), ob v10, [b_2], D1, ob v2]) rfl k3 h9 (fun ap => ap.q 3 rfl) (fun ap => ap.q 0 rfl) hx6) rfl ?_)
  rintro v11 Φ_9 D5 ⟨⟨ap6, fr8⟩, h10⟩
  replace h1 := h1.fr fr8 (ap6.q 4 rfl) dN
  replace h8 := fr8 _ _ ((ap6.q 2 rfl) _ (by simp)) h8
  refine WM.conv (S' := St w0 Φ_9 [(b_3, .cells #[.string x3.1.S, u1] 38 (0, 0)), (b_1, .cells #[.string (⟨#[]⟩ : ByteArray), .slice none 0 0] 38 (0, 0))] [(D1 ++ ((ob v7 ++ D2) ++ ((ob v8 ++ []) ++ ((ob v9 ++ D3))))), ob v11, ob v10, [b_2], ob v2]) (fun w1 hw => hw.merge (js := [4, 1]) rfl (SP.eq (by simp))) <| amm 1 [6, 1] [0, 1] rfl rfl ?_
  refine on1 7 (ms1 0 rfl nk Sz_36 rfl h10.one ?_)
  refine WM.nil (by kernel_rfl) <| ib ?_
  exact lb [0, 0, 1, 1] [0, 0] (ih1 (_, _, _, _, _, _) ⟨h, h1, h10, h8⟩)
 refine atr 5 [] rfl <| lq (q_nilCheck rfl) rfl <| lf Fld_100_2 rfl rfl rfl <| lgx 2 0 (rg_cells k4) rfl <| la rfl ?_
 obtain ⟨b7, hb_2, h⟩ := bs h
 refine WL.cutN 4 [(55, .bool b7), (2, pQ b_1), (7, pQ b_3)] ?_ (fun K => ?_)
 rotate_left
 ·refine sp 51 hb_2 rfl (fun hb_2 => ?_) fun hb_2 => ?_
  ·refine arr 4 [] rfl ?_
   cases hb_2
   exact ku K
  ·refine ly rfl rfl <| ld2 Tn_38 0 rfl <| ly rfl rfl <| qc hb_2 (m_s_DefOk_ok N · (⟨x3.1.S, s1⟩ : TDef) (k3.rslG OTRule.gives) ·) rfl rfl rfl fun x7 hb_2 => arr 2 [] rfl ?_
   cases hb_2
   exact ku K
 refine en ?_
 refine ch h rfl ?_ ?_ <;> intro h
 ·refine sr <| lq (q_build (vs := []) (C := #[.string (⟨#[]⟩ : ByteArray), .slice none 0 0]) Pl_38 Zr_38 rfl (fill_nil)) rfl <| soN 1 Sz_38 rfl ⟨rfl, rfl, trivial⟩ rfl ?_
  refine la rfl <| en ?_
  refine WT.ret hF (resOk.two (rv_cell Tn_38 rfl (fun w1 hw => hw.rgO (i := 1) rfl 0 2 [.string (⟨#[]⟩ : ByteArray), .slice none 0 0] rfl) rfl) rfl) (fun w1 hw => ?_)
  cases h
  replace hw := hw.addNil
  replace hw := hw.addNil
  refine postG_of_St (js := [1, 0]) hw rfl ⟨.slice none 0 0, [], rfl, rfl, OSl.nil _ _ _ _⟩
 refine atr 4 [2] rfl <| soN 1 Sz_38 rfl ⟨rfl, k3.one, trivial⟩ rfl ?_
 refine la rfl <| en ?_
 exact rtg [1, 0] hF (resOk.two (rv_cell Tn_38 rfl (fun w1 hw => hw.rgO (i := 1) rfl 0 2 [.string x3.1.S, u1] rfl) rfl) rfl) rfl (by cases h; exact fun w1 hw => ⟨u1, D1, rfl, rfl, k3⟩)
theorem m_l_eqVal_ok  (w0 : Base Ψ Φ []) (p0 : TVal) (p1 : TVal)  {r : Bool} (h : m_l_eqVal N p0 p1 = some r) :
  CB w0 prog 234 [.agg [iV p0.K, iV p0.N, .string p0.S].toArray, .agg [iV p1.K, iV p1.N, .string p1.S].toArray] (.bool r) := by
 refine eN func234 rfl ntmps234 rfl w0 fun hF => ?_
 unfold m_l_eqVal at h
 refine sr <| lbx rfl fun b_1 => lbx rfl fun b_2 => art 11 [0, 32, 0, 0] rfl ?_
 refine ch h rfl ?_ ?_ <;> intro h
 ·refine att 4 [] rfl ?_
  exact rt hF h
 refine att 10 [1, 32, 1, 0] rfl ?_
 refine ch h rfl ?_ ?_ <;> intro h
 ·refine att 4 [] rfl ?_
  exact rt hF h
 refine att 10 [2, 32, 2, 0] rfl ?_
 refine ch h rfl ?_ ?_ <;> intro h
 ·refine att 4 [] rfl ?_
  exact rt hF h
 refine att 5 [] rfl ?_
 exact rt hF h
theorem m_l_eqArg_ok  (w0 : Base Ψ Φ []) (p0 : TArg) (p1 : TArg)  {r : Bool} (h : m_l_eqArg N p0 p1 = some r) :
  CB w0 prog 224 [.agg [iV p0.K, .string p0.S, iV p0.V.K, iV p0.V.N, .string p0.V.S].toArray, .agg [iV p1.K, .string p1.S, iV p1.V.K, iV p1.V.N, .string p1.V.S].toArray] (.bool r) := by
 refine eN func224 rfl ntmps224 rfl w0 fun hF => ?_
 unfold m_l_eqArg at h
 refine sr <| lbx rfl fun b_1 => lbx rfl fun b_2 => art 11 [0, 32, 0, 0] rfl ?_
 refine ch h rfl ?_ ?_ <;> intro h
 ·refine att 4 [] rfl ?_
  exact rt hF h
 refine att 10 [1, 32, 1, 0] rfl ?_
 refine ch h rfl ?_ ?_ <;> intro h
 ·refine att 4 [] rfl ?_
  exact rt hF h
 refine atr 8 [2, 35, 2, 3] rfl <| qc h (m_l_eqVal_ok N · p0.V p1.V ·) rfl rfl rfl fun x1 h => la rfl <| en ?_
 refine ch h rfl ?_ ?_ <;> intro h
 ·refine att 4 [] rfl ?_
  exact rt hF h
 refine att 5 [] rfl ?_
 exact rt hF h
theorem m_l_eqArgS_ok (w0 : Base Ψ Φ []) (p0 : (List TArg)) (p1 : (List TArg)) (ph0 : RSl RTArg 5 Ψ pG0 pv0 p0) (ph1 : RSl RTArg 5 Ψ pG1 pv1 p1) {r : Bool} (h : m_l_eqArgS N p0 p1 = some r) :
  CB w0 prog 223 [pv0, pv1] (.bool r) := by
 refine eN func223 rfl ntmps223 rfl w0 fun hF => ?_
 unfold m_l_eqArgS at h
 refine atr 8 [] rfl <| lnr ph0 rfl <| la rfl <| lnr ph1 rfl <| la rfl <| en ?_
 refine ch h rfl ?_ ?_ <;> intro h
 ·refine att 4 [] rfl ?_
  exact rt hF h
 refine att 7 [] rfl ?_
 refine lin (σ := Int) (fun s => [(0, pv0), (1, pv1), (5, iV s)]) (fun s => St w0 Φ [] []) (fun m s => m_l_eqArgS_l1 N p0 p1 m s = some r) (0) N h (sx [] []) (fun n1 ih1 s hm => ?_)
 revert hm; revert s; intro s1 hm
 have h : m_l_eqArgS_l1 N p0 p1 (n1 + 1) s1 = some r := hm
 show WT _ _ [(0, pv0), (1, pv1), (5, iV s1)] (St w0 Φ [] [])
 unfold m_l_eqArgS_l1 at h
 refine atr 5 [] rfl <| lnr ph0 rfl <| la rfl <| en ?_
 refine ch h rfl ?_ ?_ <;> intro h
 ·refine att 4 [] rfl <| WT.draw mixed (by kernel_rfl) (fun _ h => h.drew) <| aqq 2 [] rfl ?_
  obtain ⟨x1, hx1, h⟩ := bs h
  obtain ⟨cs1, F1, -, g1, hb1, hs1, r1⟩ := ph0.el (idx_some hx1).2.2
  obtain ⟨rfl, -⟩ := r1
  refine qq (q_indexAddr Sl_33 rfl rfl ph0 hx1) rfl <| qq (q_loadN Tn_60 rfl (fun w1 hw => (g1.of_eq 0 5 rfl rfl : rg _ _ _ [iV x1.K, .string x1.S, iV x1.V.K, iV x1.V.N, .string x1.V.S]).rangeAt hw.in0) rfl) rfl <| aqq 2 [] rfl ?_
  obtain ⟨x2, hx2, h⟩ := bs h
  obtain ⟨cs2, F2, -, g2, hb2, hs2, r2⟩ := ph1.el (idx_some hx2).2.2
  obtain ⟨rfl, -⟩ := r2
  refine qq (q_indexAddr Sl_33 rfl rfl ph1 hx2) rfl <| qq (q_loadN Tn_60 rfl (fun w1 hw => (g2.of_eq 0 5 rfl rfl : rg _ _ _ [iV x2.K, .string x2.S, iV x2.V.K, iV x2.V.N, .string x2.V.S]).rangeAt hw.in0) rfl) rfl ?_
  obtain ⟨x3, hx3, h⟩ := bs h
  refine qp (p_call Fun_224 rfl (fun w1 hw => m_l_eqArg_ok N (ba hw.fro) x1 x2 hx3)) rfl <| aqt 2 [] rfl ?_
  refine ch h rfl ?_ ?_ <;> intro h
  ·refine att 4 [] rfl ?_
   exact rt hF h
  refine att 7 [] rfl ?_
  exact lb [] [] (ih1 _ h)
 refine att 5 [] rfl ?_
 exact rt hF h
theorem m_l_eqPat_ok (w0 : Base Ψ Φ []) (p0 : TPat) (p1 : TPat) (ph0_0 : RSl RTArg 5 Ψ pG0_0 pv0_0 p0.Args) (ph1_0 : RSl RTArg 5 Ψ pG1_0 pv1_0 p1.Args) {r : Bool} (h : m_l_eqPat N p0 p1 = some r) :
  CB w0 prog 208 [.agg [.string p0.Kind, pv0_0, .bool p0.Not].toArray, .agg [.string p1.Kind, pv1_0, .bool p1.Not].toArray] (.bool r) := by
 refine eN func208 rfl ntmps208 rfl w0 fun hF => ?_
 unfold m_l_eqPat at h
 refine sr <| lbx rfl fun b_1 => lbx rfl fun b_2 => art 11 [0, 32, 0, 0] rfl ?_
 refine ch h rfl ?_ ?_ <;> intro h
 ·refine att 4 [] rfl ?_
  exact rt hF h
 refine atr 8 [1, 32, 1, 0] rfl <| qd h (m_l_eqArgS_ok N · p0.Args p1.Args ph0_0 ph1_0 ·) rfl rfl rfl fun x1 h => la rfl <| en ?_
 refine ch h rfl ?_ ?_ <;> intro h
 ·refine att 4 [] rfl ?_
  exact rt hF h
 refine atr 8 [2, 32, 2, 0] rfl <| lq (q_bne Bo_4 rfl rfl) rfl <| en ?_
 refine ch h rfl ?_ ?_ <;> intro h
 ·refine att 4 [] rfl ?_
  exact rt hF h
 refine att 5 [] rfl ?_
 exact rt hF h
theorem m_l_eqPatS_ok (w0 : Base Ψ Φ []) (p0 : (List TPat)) (p1 : (List TPat)) (ph0 : RSl RTPat 3 Ψ pG0 pv0 p0) (ph1 : RSl RTPat 3 Ψ pG1 pv1 p1) {r : Bool} (h : m_l_eqPatS N p0 p1 = some r) :
  CB w0 prog 180 [pv0, pv1] (.bool r) := by
 refine eN func180 rfl ntmps180 rfl w0 fun hF => ?_
 unfold m_l_eqPatS at h
 refine atr 8 [] rfl <| lnr ph0 rfl <| la rfl <| lnr ph1 rfl <| la rfl <| en ?_
 refine ch h rfl ?_ ?_ <;> intro h
 ·refine att 4 [] rfl ?_
  exact rt hF h
 refine att 7 [] rfl ?_
 refine lin (σ := Int) (fun s => [(0, pv0), (1, pv1), (5, iV s)]) (fun s => St w0 Φ [] []) (fun m s => m_l_eqPatS_l1 N p0 p1 m s = some r) (0) N h (sx [] []) (fun n1 ih1 s hm => ?_)
 revert hm; revert s; intro s1 hm
 have h : m_l_eqPatS_l1 N p0 p1 (n1 + 1) s1 = some r := hm
 show WT _ _ [(0, pv0), (1, pv1), (5, iV s1)] (St w0 Φ [] [])
 unfold m_l_eqPatS_l1 at h
 refine atr 5 [] rfl <| lnr ph0 rfl <| la rfl <| en ?_
 refine ch h rfl ?_ ?_ <;> intro h
 ·refine att 4 [] rfl <| WT.draw mixed (by kernel_rfl) (fun _ h => h.drew) <| aqq 2 [] rfl ?_
  obtain ⟨x1, hx1, h⟩ := bs h
  obtain ⟨cs1, F1, -, g1, hb1, hs1, r1⟩ := ph0.el (idx_some hx1).2.2
  obtain ⟨v1, G1, rfl, hq1, h1⟩ := r1
  obtain rfl := hq1.symm
  refine qq (q_indexAddr Sl_24 rfl rfl ph0 hx1) rfl <| qq (q_loadN Tn_35 rfl (fun w1 hw => (g1.of_eq 0 3 rfl rfl : rg _ _ _ [.string x1.Kind, v1, .bool x1.Not]).rangeAt hw.in0) rfl) rfl <| aqq 2 [] rfl ?_
  obtain ⟨x2, hx2, h⟩ := bs h
  obtain ⟨cs2, F2, -, g2, hb2, hs2, r2⟩ := ph1.el (idx_some hx2).2.2
  obtain ⟨v2, G2, rfl, hq2, h2⟩ := r2
  obtain rfl := hq2.symm
  refine qq (q_indexAddr Sl_24 rfl rfl ph1 hx2) rfl <| qq (q_loadN Tn_35 rfl (fun w1 hw => (g2.of_eq 0 3 rfl rfl : rg _ _ _ [.string x2.Kind, v2, .bool x2.Not]).rangeAt hw.in0) rfl) rfl ?_
  obtain ⟨x3, hx3, h⟩ := bs h
  refine qp (p_call Fun_208 rfl (fun w1 hw => m_l_eqPat_ok N (ba hw.in0) x1 x2 h1 h2 hx3)) rfl <| aqt 2 [] rfl ?_
  refine ch h rfl ?_ ?_ <;> intro h
  ·refine att 4 [] rfl ?_
   exact rt hF h
  refine att 7 [] rfl ?_
  exact lb [] [] (ih1 _ h)
 refine att 5 [] rfl ?_
 exact rt hF h
theorem m_l_eqCond_ok  (w0 : Base Ψ Φ []) (p0 : TCond) (p1 : TCond)  {r : Bool} (h : m_l_eqCond N p0 p1 = some r) :
  CB w0 prog 209 [.agg [iV p0.Op, iV p0.L.K, .string p0.L.S, iV p0.L.V.K, iV p0.L.V.N, .string p0.L.V.S, iV p0.R.K, .string p0.R.S, iV p0.R.V.K, iV p0.R.V.N, .string p0.R.V.S].toArray, .agg [iV p1.Op, iV p1.L.K, .string p1.L.S, iV p1.L.V.K, iV p1.L.V.N, .string p1.L.V.S, iV p1.R.K, .string p1.R.S, iV p1.R.V.K, iV p1.R.V.N, .string p1.R.V.S].toArray] (.bool r) := by
 refine eN func209 rfl ntmps209 rfl w0 fun hF => ?_
 unfold m_l_eqCond at h
 refine sr <| lbx rfl fun b_1 => lbx rfl fun b_2 => art 11 [0, 32, 0, 0] rfl ?_
 refine ch h rfl ?_ ?_ <;> intro h
 ·refine att 4 [] rfl ?_
  exact rt hF h
 refine atr 8 [1, 37, 1, 5] rfl <| qc h (m_l_eqArg_ok N · p0.L p1.L ·) rfl rfl rfl fun x1 h => la rfl <| en ?_
 refine ch h rfl ?_ ?_ <;> intro h
 ·refine att 4 [] rfl ?_
  exact rt hF h
 refine atr 8 [6, 37, 6, 5] rfl <| qc h (m_l_eqArg_ok N · p0.R p1.R ·) rfl rfl rfl fun x2 h => la rfl <| en ?_
 refine ch h rfl ?_ ?_ <;> intro h
 ·refine att 4 [] rfl ?_
  exact rt hF h
 refine att 5 [] rfl ?_
 exact rt hF h
theorem m_l_eqCondS_ok (w0 : Base Ψ Φ []) (p0 : (List TCond)) (p1 : (List TCond)) (ph0 : RSl RTCond 11 Ψ pG0 pv0 p0) (ph1 : RSl RTCond 11 Ψ pG1 pv1 p1) {r : Bool} (h : m_l_eqCondS N p0 p1 = some r) :
  CB w0 prog 181 [pv0, pv1] (.bool r) := by
 refine eN func181 rfl ntmps181 rfl w0 fun hF => ?_
 unfold m_l_eqCondS at h
 refine atr 8 [] rfl <| lnr ph0 rfl <| la rfl <| lnr ph1 rfl <| la rfl <| en ?_
 refine ch h rfl ?_ ?_ <;> intro h
 ·refine att 4 [] rfl ?_
  exact rt hF h
 refine att 7 [] rfl ?_
 refine lin (σ := Int) (fun s => [(0, pv0), (1, pv1), (5, iV s)]) (fun s => St w0 Φ [] []) (fun m s => m_l_eqCondS_l1 N p0 p1 m s = some r) (0) N h (sx [] []) (fun n1 ih1 s hm => ?_)
 revert hm; revert s; intro s1 hm
 have h : m_l_eqCondS_l1 N p0 p1 (n1 + 1) s1 = some r := hm
 show WT _ _ [(0, pv0), (1, pv1), (5, iV s1)] (St w0 Φ [] [])
 unfold m_l_eqCondS_l1 at h
 refine atr 5 [] rfl <| lnr ph0 rfl <| la rfl <| en ?_
 refine ch h rfl ?_ ?_ <;> intro h
 ·refine att 4 [] rfl <| WT.draw mixed (by kernel_rfl) (fun _ h => h.drew) <| aqq 2 [] rfl ?_
  obtain ⟨x1, hx1, h⟩ := bs h
  obtain ⟨cs1, F1, -, g1, hb1, hs1, r1⟩ := ph0.el (idx_some hx1).2.2
  obtain ⟨rfl, -⟩ := r1
  refine qq (q_indexAddr Sl_25 rfl rfl ph0 hx1) rfl <| qq (q_loadN Tn_62 rfl (fun w1 hw => (g1.of_eq 0 11 rfl rfl : rg _ _ _ [iV x1.Op, iV x1.L.K, .string x1.L.S, iV x1.L.V.K, iV x1.L.V.N, .string x1.L.V.S, iV x1.R.K, .string x1.R.S, iV x1.R.V.K, iV x1.R.V.N, .string x1.R.V.S]).rangeAt hw.in0) rfl) rfl <| aqq 2 [] rfl ?_
  obtain ⟨x2, hx2, h⟩ := bs h
  obtain ⟨cs2, F2, -, g2, hb2, hs2, r2⟩ := ph1.el (idx_some hx2).2.2
  obtain ⟨rfl, -⟩ := r2
  refine qq (q_indexAddr Sl_25 rfl rfl ph1 hx2) rfl <| qq (q_loadN Tn_62 rfl (fun w1 hw => (g2.of_eq 0 11 rfl rfl : rg _ _ _ [iV x2.Op, iV x2.L.K, .string x2.L.S, iV x2.L.V.K, iV x2.L.V.N, .string x2.L.V.S, iV x2.R.K, .string x2.R.S, iV x2.R.V.K, iV x2.R.V.N, .string x2.R.V.S]).rangeAt hw.in0) rfl) rfl ?_
  obtain ⟨x3, hx3, h⟩ := bs h
  refine qp (p_call Fun_209 rfl (fun w1 hw => m_l_eqCond_ok N (ba hw.fro) x1 x2 hx3)) rfl <| aqt 2 [] rfl ?_
  refine ch h rfl ?_ ?_ <;> intro h
  ·refine att 4 [] rfl ?_
   exact rt hF h
  refine att 7 [] rfl ?_
  exact lb [] [] (ih1 _ h)
 refine att 5 [] rfl ?_
 exact rt hF h
theorem m_l_eqExpr_ok  (w0 : Base Ψ Φ []) (p0 : TExpr) (p1 : TExpr)  {r : Bool} (h : m_l_eqExpr N p0 p1 = some r) :
  CB w0 prog 235 [.agg [.string p0.Op, iV p0.L.K, .string p0.L.S, iV p0.L.V.K, iV p0.L.V.N, .string p0.L.V.S, iV p0.R.K, .string p0.R.S, iV p0.R.V.K, iV p0.R.V.N, .string p0.R.V.S].toArray, .agg [.string p1.Op, iV p1.L.K, .string p1.L.S, iV p1.L.V.K, iV p1.L.V.N, .string p1.L.V.S, iV p1.R.K, .string p1.R.S, iV p1.R.V.K, iV p1.R.V.N, .string p1.R.V.S].toArray] (.bool r) := by
 refine eN func235 rfl ntmps235 rfl w0 fun hF => ?_
 unfold m_l_eqExpr at h
 refine sr <| lbx rfl fun b_1 => lbx rfl fun b_2 => art 11 [0, 32, 0, 0] rfl ?_
 refine ch h rfl ?_ ?_ <;> intro h
 ·refine att 4 [] rfl ?_
  exact rt hF h
 refine atr 8 [1, 37, 1, 5] rfl <| qc h (m_l_eqArg_ok N · p0.L p1.L ·) rfl rfl rfl fun x1 h => la rfl <| en ?_
 refine ch h rfl ?_ ?_ <;> intro h
 ·refine att 4 [] rfl ?_
  exact rt hF h
 refine atr 8 [6, 37, 6, 5] rfl <| qc h (m_l_eqArg_ok N · p0.R p1.R ·) rfl rfl rfl fun x2 h => la rfl <| en ?_
 refine ch h rfl ?_ ?_ <;> intro h
 ·refine att 4 [] rfl ?_
  exact rt hF h
 refine att 5 [] rfl ?_
 exact rt hF h
theorem m_l_eqExprS_ok (w0 : Base Ψ Φ []) (p0 : (List TExpr)) (p1 : (List TExpr)) (ph0 : RSl RTExpr 11 Ψ pG0 pv0 p0) (ph1 : RSl RTExpr 11 Ψ pG1 pv1 p1) {r : Bool} (h : m_l_eqExprS N p0 p1 = some r) :
  CB w0 prog 225 [pv0, pv1] (.bool r) := by
 refine eN func225 rfl ntmps225 rfl w0 fun hF => ?_
 unfold m_l_eqExprS at h
 refine atr 8 [] rfl <| lnr ph0 rfl <| la rfl <| lnr ph1 rfl <| la rfl <| en ?_
 refine ch h rfl ?_ ?_ <;> intro h
 ·refine att 4 [] rfl ?_
  exact rt hF h
 refine att 7 [] rfl ?_
 refine lin (σ := Int) (fun s => [(0, pv0), (1, pv1), (5, iV s)]) (fun s => St w0 Φ [] []) (fun m s => m_l_eqExprS_l1 N p0 p1 m s = some r) (0) N h (sx [] []) (fun n1 ih1 s hm => ?_)
 revert hm; revert s; intro s1 hm
 have h : m_l_eqExprS_l1 N p0 p1 (n1 + 1) s1 = some r := hm
 show WT _ _ [(0, pv0), (1, pv1), (5, iV s1)] (St w0 Φ [] [])
 unfold m_l_eqExprS_l1 at h
 refine atr 5 [] rfl <| lnr ph0 rfl <| la rfl <| en ?_
 refine ch h rfl ?_ ?_ <;> intro h
 ·refine att 4 [] rfl <| WT.draw mixed (by kernel_rfl) (fun _ h => h.drew) <| aqq 2 [] rfl ?_
  obtain ⟨x1, hx1, h⟩ := bs h
  obtain ⟨cs1, F1, -, g1, hb1, hs1, r1⟩ := ph0.el (idx_some hx1).2.2
  obtain ⟨rfl, -⟩ := r1
  refine qq (q_indexAddr Sl_64 rfl rfl ph0 hx1) rfl <| qq (q_loadN Tn_116 rfl (fun w1 hw => (g1.of_eq 0 11 rfl rfl : rg _ _ _ [.string x1.Op, iV x1.L.K, .string x1.L.S, iV x1.L.V.K, iV x1.L.V.N, .string x1.L.V.S, iV x1.R.K, .string x1.R.S, iV x1.R.V.K, iV x1.R.V.N, .string x1.R.V.S]).rangeAt hw.in0) rfl) rfl <| aqq 2 [] rfl ?_
  obtain ⟨x2, hx2, h⟩ := bs h
  obtain ⟨cs2, F2, -, g2, hb2, hs2, r2⟩ := ph1.el (idx_some hx2).2.2
  obtain ⟨rfl, -⟩ := r2
  refine qq (q_indexAddr Sl_64 rfl rfl ph1 hx2) rfl <| qq (q_loadN Tn_116 rfl (fun w1 hw => (g2.of_eq 0 11 rfl rfl : rg _ _ _ [.string x2.Op, iV x2.L.K, .string x2.L.S, iV x2.L.V.K, iV x2.L.V.N, .string x2.L.V.S, iV x2.R.K, .string x2.R.S, iV x2.R.V.K, iV x2.R.V.N, .string x2.R.V.S]).rangeAt hw.in0) rfl) rfl ?_
  obtain ⟨x3, hx3, h⟩ := bs h
  refine qp (p_call Fun_235 rfl (fun w1 hw => m_l_eqExpr_ok N (ba hw.fro) x1 x2 hx3)) rfl <| aqt 2 [] rfl ?_
  refine ch h rfl ?_ ?_ <;> intro h
  ·refine att 4 [] rfl ?_
   exact rt hF h
  refine att 7 [] rfl ?_
  exact lb [] [] (ih1 _ h)
 refine att 5 [] rfl ?_
 exact rt hF h
theorem m_l_eqAct_ok (w0 : Base Ψ Φ []) (p0 : TAct) (p1 : TAct) (ph0_0 : RSl RTExpr 11 Ψ pG0_0 pv0_0 p0.Args) (ph1_0 : RSl RTExpr 11 Ψ pG1_0 pv1_0 p1.Args) {r : Bool} (h : m_l_eqAct N p0 p1 = some r) :
  CB w0 prog 210 [.agg [iV p0.Kind, .string p0.Name, pv0_0, iV p0.N, .string p0.Undo].toArray, .agg [iV p1.Kind, .string p1.Name, pv1_0, iV p1.N, .string p1.Undo].toArray] (.bool r) := by
 refine eN func210 rfl ntmps210 rfl w0 fun hF => ?_
 unfold m_l_eqAct at h
 refine sr <| lbx rfl fun b_1 => lbx rfl fun b_2 => art 11 [0, 32, 0, 0] rfl ?_
 refine ch h rfl ?_ ?_ <;> intro h
 ·refine att 4 [] rfl ?_
  exact rt hF h
 refine att 10 [1, 32, 1, 0] rfl ?_
 refine ch h rfl ?_ ?_ <;> intro h
 ·refine att 4 [] rfl ?_
  exact rt hF h
 refine atr 8 [2, 32, 2, 0] rfl <| qd h (m_l_eqExprS_ok N · p0.Args p1.Args ph0_0 ph1_0 ·) rfl rfl rfl fun x1 h => la rfl <| en ?_
 refine ch h rfl ?_ ?_ <;> intro h
 ·refine att 4 [] rfl ?_
  exact rt hF h
 refine att 10 [3, 32, 3, 0] rfl ?_
 refine ch h rfl ?_ ?_ <;> intro h
 ·refine att 4 [] rfl ?_
  exact rt hF h
 refine att 10 [4, 32, 4, 0] rfl ?_
 refine ch h rfl ?_ ?_ <;> intro h
 ·refine att 4 [] rfl ?_
  exact rt hF h
 refine att 5 [] rfl ?_
 exact rt hF h
theorem m_l_eqActS_ok (w0 : Base Ψ Φ []) (p0 : (List TAct)) (p1 : (List TAct)) (ph0 : RSl RTAct 5 Ψ pG0 pv0 p0) (ph1 : RSl RTAct 5 Ψ pG1 pv1 p1) {r : Bool} (h : m_l_eqActS N p0 p1 = some r) :
  CB w0 prog 182 [pv0, pv1] (.bool r) := by
 refine eN func182 rfl ntmps182 rfl w0 fun hF => ?_
 unfold m_l_eqActS at h
 refine atr 8 [] rfl <| lnr ph0 rfl <| la rfl <| lnr ph1 rfl <| la rfl <| en ?_
 refine ch h rfl ?_ ?_ <;> intro h
 ·refine att 4 [] rfl ?_
  exact rt hF h
 refine att 7 [] rfl ?_
 refine lin (σ := Int) (fun s => [(0, pv0), (1, pv1), (5, iV s)]) (fun s => St w0 Φ [] []) (fun m s => m_l_eqActS_l1 N p0 p1 m s = some r) (0) N h (sx [] []) (fun n1 ih1 s hm => ?_)
 revert hm; revert s; intro s1 hm
 have h : m_l_eqActS_l1 N p0 p1 (n1 + 1) s1 = some r := hm
 show WT _ _ [(0, pv0), (1, pv1), (5, iV s1)] (St w0 Φ [] [])
 unfold m_l_eqActS_l1 at h
 refine atr 5 [] rfl <| lnr ph0 rfl <| la rfl <| en ?_
 refine ch h rfl ?_ ?_ <;> intro h
 ·refine att 4 [] rfl <| WT.draw mixed (by kernel_rfl) (fun _ h => h.drew) <| aqq 2 [] rfl ?_
  obtain ⟨x1, hx1, h⟩ := bs h
  obtain ⟨cs1, F1, -, g1, hb1, hs1, r1⟩ := ph0.el (idx_some hx1).2.2
  obtain ⟨v1, G1, rfl, hq1, h1⟩ := r1
  obtain rfl := hq1.symm
  refine qq (q_indexAddr Sl_26 rfl rfl ph0 hx1) rfl <| qq (q_loadN Tn_66 rfl (fun w1 hw => (g1.of_eq 0 5 rfl rfl : rg _ _ _ [iV x1.Kind, .string x1.Name, v1, iV x1.N, .string x1.Undo]).rangeAt hw.in0) rfl) rfl <| aqq 2 [] rfl ?_
  obtain ⟨x2, hx2, h⟩ := bs h
  obtain ⟨cs2, F2, -, g2, hb2, hs2, r2⟩ := ph1.el (idx_some hx2).2.2
  obtain ⟨v2, G2, rfl, hq2, h2⟩ := r2
  obtain rfl := hq2.symm
  refine qq (q_indexAddr Sl_26 rfl rfl ph1 hx2) rfl <| qq (q_loadN Tn_66 rfl (fun w1 hw => (g2.of_eq 0 5 rfl rfl : rg _ _ _ [iV x2.Kind, .string x2.Name, v2, iV x2.N, .string x2.Undo]).rangeAt hw.in0) rfl) rfl ?_
  obtain ⟨x3, hx3, h⟩ := bs h
  refine qp (p_call Fun_210 rfl (fun w1 hw => m_l_eqAct_ok N (ba hw.in0) x1 x2 h1 h2 hx3)) rfl <| aqt 2 [] rfl ?_
  refine ch h rfl ?_ ?_ <;> intro h
  ·refine att 4 [] rfl ?_
   exact rt hF h
  refine att 7 [] rfl ?_
  exact lb [] [] (ih1 _ h)
 refine att 5 [] rfl ?_
 exact rt hF h
theorem m_l_eqRule_ok (w0 : Base Ψ Φ []) (p0 : TRule) (p1 : TRule) (ph0_0 : RSl RTPat 3 Ψ pG0_0 pv0_0 p0.Pats) (ph0_1 : RSl RTCond 11 Ψ pG0_1 pv0_1 p0.Conds) (ph0_2 : RSl RTAct 5 Ψ pG0_2 pv0_2 p0.Acts) (ph1_0 : RSl RTPat 3 Ψ pG1_0 pv1_0 p1.Pats) (ph1_1 : RSl RTCond 11 Ψ pG1_1 pv1_1 p1.Conds) (ph1_2 : RSl RTAct 5 Ψ pG1_2 pv1_2 p1.Acts) {r : Bool} (h : m_l_eqRule N p0 p1 = some r) :
  CB w0 prog 129 [.agg [.string p0.Name, iV p0.Sal, pv0_0, pv0_1, pv0_2].toArray, .agg [.string p1.Name, iV p1.Sal, pv1_0, pv1_1, pv1_2].toArray] (.bool r) := by
 refine eN func129 rfl ntmps129 rfl w0 fun hF => ?_
 unfold m_l_eqRule at h
 refine sr <| lbx rfl fun b_1 => lbx rfl fun b_2 => art 11 [0, 32, 0, 0] rfl ?_
 refine ch h rfl ?_ ?_ <;> intro h
 ·refine att 4 [] rfl ?_
  exact rt hF h
 refine att 10 [1, 32, 1, 0] rfl ?_
 refine ch h rfl ?_ ?_ <;> intro h
 ·refine att 4 [] rfl ?_
  exact rt hF h
 refine atr 8 [2, 32, 2, 0] rfl <| qd h (m_l_eqPatS_ok N · p0.Pats p1.Pats ph0_0 ph1_0 ·) rfl rfl rfl fun x1 h => la rfl <| en ?_
 refine ch h rfl ?_ ?_ <;> intro h
 ·refine att 4 [] rfl ?_
  exact rt hF h
 refine atr 8 [3, 32, 3, 0] rfl <| qd h (m_l_eqCondS_ok N · p0.Conds p1.Conds ph0_1 ph1_1 ·) rfl rfl rfl fun x2 h => la rfl <| en ?_
 refine ch h rfl ?_ ?_ <;> intro h
 ·refine att 4 [] rfl ?_
  exact rt hF h
 refine atr 8 [4, 32, 4, 0] rfl <| qd h (m_l_eqActS_ok N · p0.Acts p1.Acts ph0_2 ph1_2 ·) rfl rfl rfl fun x3 h => la rfl <| en ?_
 refine ch h rfl ?_ ?_ <;> intro h
 ·refine att 4 [] rfl ?_
  exact rt hF h
 refine att 5 [] rfl ?_
 exact rt hF h
theorem m_l_eqRuleS_ok (w0 : Base Ψ Φ []) (p0 : (List TRule)) (p1 : (List TRule)) (ph0 : RSl RTRule 5 Ψ pG0 pv0 p0) (ph1 : RSl RTRule 5 Ψ pG1 pv1 p1) {r : Bool} (h : m_l_eqRuleS N p0 p1 = some r) :
  CB w0 prog 70 [pv0, pv1] (.bool r) := by
 refine eN func70 rfl ntmps70 rfl w0 fun hF => ?_
 unfold m_l_eqRuleS at h
 refine atr 8 [] rfl <| lnr ph0 rfl <| la rfl <| lnr ph1 rfl <| la rfl <| en ?_
 refine ch h rfl ?_ ?_ <;> intro h
 ·refine att 4 [] rfl ?_
  exact rt hF h
 refine att 7 [] rfl ?_
 refine lin (σ := Int) (fun s => [(0, pv0), (1, pv1), (5, iV s)]) (fun s => St w0 Φ [] []) (fun m s => m_l_eqRuleS_l1 N p0 p1 m s = some r) (0) N h (sx [] []) (fun n1 ih1 s hm => ?_)
 revert hm; revert s; intro s1 hm
 have h : m_l_eqRuleS_l1 N p0 p1 (n1 + 1) s1 = some r := hm
 show WT _ _ [(0, pv0), (1, pv1), (5, iV s1)] (St w0 Φ [] [])
 unfold m_l_eqRuleS_l1 at h
 refine atr 5 [] rfl <| lnr ph0 rfl <| la rfl <| en ?_
 refine ch h rfl ?_ ?_ <;> intro h
 ·refine att 4 [] rfl <| WT.draw mixed (by kernel_rfl) (fun _ h => h.drew) <| aqq 2 [] rfl ?_
  obtain ⟨x1, hx1, h⟩ := bs h
  obtain ⟨cs1, F1, -, g1, hb1, hs1, r1⟩ := ph0.el (idx_some hx1).2.2
  obtain ⟨v1, G1, v2, G2, v3, G3, rfl, rfl, h1, h2, h3⟩ := r1
  refine qq (q_indexAddr Sl_36 rfl rfl ph0 hx1) rfl <| qq (q_loadN Tn_28 rfl (fun w1 hw => (g1.of_eq 0 5 rfl rfl : rg _ _ _ [.string x1.Name, iV x1.Sal, v1, v2, v3]).rangeAt hw.in0) rfl) rfl <| aqq 2 [] rfl ?_
  obtain ⟨x2, hx2, h⟩ := bs h
  obtain ⟨cs2, F2, -, g2, hb2, hs2, r2⟩ := ph1.el (idx_some hx2).2.2
  obtain ⟨v4, G4, v5, G5, v6, G6, rfl, rfl, h4, h5, h6⟩ := r2
  refine qq (q_indexAddr Sl_36 rfl rfl ph1 hx2) rfl <| qq (q_loadN Tn_28 rfl (fun w1 hw => (g2.of_eq 0 5 rfl rfl : rg _ _ _ [.string x2.Name, iV x2.Sal, v4, v5, v6]).rangeAt hw.in0) rfl) rfl ?_
  obtain ⟨x3, hx3, h⟩ := bs h
  refine qp (p_call Fun_129 rfl (fun w1 hw => m_l_eqRule_ok N (ba hw.in0) x1 x2 h1 h2 h3 h4 h5 h6 hx3)) rfl <| aqt 2 [] rfl ?_
  refine ch h rfl ?_ ?_ <;> intro h
  ·refine att 4 [] rfl ?_
   exact rt hF h
  refine att 7 [] rfl ?_
  exact lb [] [] (ih1 _ h)
 refine att 5 [] rfl ?_
 exact rt hF h
theorem m_l_eqDef_ok (w0 : Base Ψ Φ []) (p0 : TDef) (p1 : TDef) (ph0_0 : RSl RTRule 5 Ψ pG0_0 pv0_0 p0.Rules) (ph1_0 : RSl RTRule 5 Ψ pG1_0 pv1_0 p1.Rules) {r : Bool} (h : m_l_eqDef N p0 p1 = some r) :
  CB w0 prog 25 [.agg [.string p0.Name, pv0_0].toArray, .agg [.string p1.Name, pv1_0].toArray] (.bool r) := by
 refine eN func25 rfl ntmps25 rfl w0 fun hF => ?_
 unfold m_l_eqDef at h
 refine sr <| lbx rfl fun b_1 => lbx rfl fun b_2 => art 11 [0, 32, 0, 0] rfl ?_
 refine ch h rfl ?_ ?_ <;> intro h
 ·refine att 4 [] rfl ?_
  exact rt hF h
 refine atr 8 [1, 32, 1, 0] rfl <| qd h (m_l_eqRuleS_ok N · p0.Rules p1.Rules ph0_0 ph1_0 ·) rfl rfl rfl fun x1 h => la rfl <| en ?_
 refine ch h rfl ?_ ?_ <;> intro h
 ·refine att 4 [] rfl ?_
  exact rt hF h
 refine att 5 [] rfl ?_
 exact rt hF h
theorem m_l_markText_ok  (w0 : Base Ψ Φ []) (p0 : Int)  {r : ByteArray} (h : m_l_markText N p0 = some r) :
  CB w0 prog 130 [iV p0] (.string r) := by
 refine eN func130 rfl ntmps130 rfl w0 fun hF => ?_
 unfold m_l_markText at h
 refine att 10 [] rfl ?_
 refine ch h rfl ?_ ?_ <;> intro h
 ·refine att 4 [] rfl ?_
  exact rt hF h
 refine att 7 [] rfl ?_
 refine lin (σ := Hp × Int × ByteArray) (fun s => [(0, iV s.2.1), (3, .string s.2.2)]) (fun s => St w0 s.1 [] []) (fun m s => m_l_markText_l1 N m s.2.1 s.2.2 = some r) (Φ, p0, (⟨#[]⟩ : ByteArray)) N h (sx [] []) (fun n1 ih1 s hm => ?_)
 obtain ⟨Φ_1, s1, s2⟩ := s
 have h : m_l_markText_l1 N (n1 + 1) s1 s2 = some r := hm
 show WT _ _ [(0, iV s1), (3, .string s2)] (St w0 Φ_1 [] [])
 unfold m_l_markText_l1 at h
 refine att 6 [] rfl ?_
 refine ch h rfl ?_ ?_ <;> intro h
 ·refine atr 5 [] rfl <| lq (q_rem rfl rfl (by decide)) rfl <| la rfl <| lq (q_convI Ik_3 Ik_5 rfl) rfl ?_
  have rc1 : RC (RI .u8) 1 Φ_1 ([[]] : List (List Nat)) [.int .u8 (IntKind.u8.wrap (wz (48 + (s1.tmod 10))))] ([(IntKind.u8.wrap (wz (48 + (s1.tmod 10))))] : List Int) := RC.cons (c := [.int .u8 (IntKind.u8.wrap (wz (48 + (s1.tmod 10))))]) (cells := []) ⟨rfl, rfl⟩ rfl (RC.nil _ _ _)
  refine le' (e_lit (vs := [(0, .int .u8 (IntKind.u8.wrap (wz (48 + (s1.tmod 10)))))]) (C := #[.int .u8 (IntKind.u8.wrap (wz (48 + (s1.tmod 10))))]) RI.lasts Sl_22 Zr_5 rfl rfl rfl rfl (fill_made MC_5_1 (fill_cons (C' := [.int .u8 (IntKind.u8.wrap (wz (48 + (s1.tmod 10))))]) rfl rfl rfl rfl rfl (fill_nil))) rfl rc1 rfl (by simpa using Kw.nil)) rfl ?_
  rintro v1 Φ_2 D1 ⟨fr1, h1⟩
  replace h1 : OSl (RI .u8) 5 1 Φ_2 [] v1 ([(IntKind.u8.wrap (wz (48 + (s1.tmod 10))))] : List Int) := by simpa using h1
  refine lq (q_convB Sl_22 Ik_5 Str_9 rfl (fun w1 hw => h1.rsl)) rfl <| la rfl ?_
  obtain ⟨z1, hz1, h⟩ := bs h
  refine lq (q_cat rfl rfl hz1) rfl <| arr 4 [] rfl <| lq (q_quo rfl rfl (by decide)) rfl <| art 3 [] rfl ?_
  exact lb [] [] (ih1 (_, _, _) h)
 refine atr 4 [] rfl ?_
 obtain ⟨z2, hz2, h⟩ := bs h
 refine lq (q_cat rfl rfl hz2) rfl <| la rfl <| en ?_
 exact rt hF h
theorem m_l_markArgS_ok (w0 : Base Ψ Φ [ob pv0].flatten) (p0 : (List TArg)) (p1 : Int) (ph0 : OSl RTArg 60 5 Φ [] pv0 p0) {r : Int × (List TArg)} (h : m_l_markArgS N p0 p1 = some r) :
  Calls prog 183 [pv0, iV p1].toArray w0.w (PostG Φ w0.w [ob pv0].flatten (fun Φ' Fs v => v = iV r.1 ∧ Fs = [ob pv0] ∧ OSl RTArg 60 5 Φ' [] pv0 r.2)) := by
 refine eL func183 rfl ntmps183 rfl (L := [ob pv0]) w0 (fun hF => ?_)
 unfold m_l_markArgS at h
 refine att 10 [] rfl ?_
 refine lin (σ := Hp × (List TArg) × Int × Int) (fun s => [(0, pv0), (1, iV s.2.2.1), (5, iV s.2.2.2)]) (fun s => St w0 s.1 [] [ob pv0]) (fun m s => m_l_markArgS_l1 N m s.2.1 s.2.2.1 s.2.2.2 = some r ∧ (OSl RTArg 60 5 s.1 [] pv0 s.2.1)) (Φ, p0, p1, 0) N ⟨h, ph0⟩ (sx [0] []) (fun n1 ih1 s hm => ?_)
 obtain ⟨Φ_1, s1, s2, s3⟩ := s
 obtain ⟨h, k1⟩ := hm
 dsimp only at h k1 ⊢
 unfold m_l_markArgS_l1 at h
 refine atr 5 [] rfl <| lno k1 rfl <| la rfl <| en ?_
 refine ch h rfl ?_ ?_ <;> intro h
 ·refine atr 8 [] rfl ?_
  obtain ⟨x1, hx1, h⟩ := bs h
  obtain ⟨cs1, F1, h1, r1⟩ := k1.focusF RTArg.flat hx1
  obtain ⟨rfl, -⟩ := r1
  refine lih h1 hx1 rfl <| lf Fld_60_0 rfl rfl rfl <| lu (us [0] [] 0 RTArg.lasts Sz_3 rfl rfl rfl rfl h1 rfl (fun ap => dN)) rfl ?_
  rintro Φ_2 D2 ⟨⟨ap1, fr1⟩, h2⟩
  refine arr 12 [] rfl <| qc h (m_l_markText_ok N · (wz (s2 + 1)) ·) rfl rfl rfl fun x2 h => lih h2 hx1 rfl <| lf Fld_60_1 rfl rfl rfl <| lu (us [0] [] 1 RTArg.lasts Sz_9 rfl rfl rfl rfl h2 rfl (fun ap => dN)) rfl ?_
  rintro Φ_3 D3 ⟨⟨ap2, fr2⟩, h3⟩
  refine arr 12 [] rfl <| lih h3 hx1 rfl <| arr 2 [2, 0] rfl <| lu (us [0] [] 2 RTArg.lasts Sz_3 rfl rfl rfl rfl h3 rfl (fun ap => dN)) rfl ?_
  rintro Φ_4 D4 ⟨⟨ap3, fr3⟩, h4⟩
  refine arr 12 [] rfl <| lih h4 hx1 rfl <| arr 2 [2, 1] rfl <| lu (us [0] [] 3 RTArg.lasts Sz_3 rfl rfl rfl rfl h4 rfl (fun ap => dN)) rfl ?_
  rintro Φ_5 D5 ⟨⟨ap4, fr4⟩, h5⟩
  refine arr 12 [] rfl <| qc h (m_l_markText_ok N · (wz ((wz ((wz ((wz (s2 + 1)) + 1)) + 1)) + 1)) ·) rfl rfl rfl fun x3 h => lih h5 hx1 rfl <| arr 2 [2, 2] rfl <| lu (us [0] [] 4 RTArg.lasts Sz_9 rfl rfl rfl rfl h5 rfl (fun ap => dN)) rfl ?_
  rintro Φ_6 D6 ⟨⟨ap5, fr5⟩, h6⟩
  refine art 12 [] rfl ?_
  have h7 := h6.unfocusF RTArg.flat (x' := (⟨s2, x2, (⟨wz ((wz (s2 + 1)) + 1), wz ((wz ((wz (s2 + 1)) + 1)) + 1), x3⟩ : TVal)⟩ : TArg)) ⟨rfl, rfl⟩
  exact lb [0] [] (ih1 (_, _, _, _) ⟨h, h7⟩)
 refine att 6 [] rfl ?_
 exact rtg [0] hF (resOk.one rfl) rfl (by cases h; exact fun w1 hw => ⟨rfl, rfl, k1⟩)
theorem m_l_markPatS_ok (w0 : Base Ψ Φ [ob pv0, pD0].flatten) (p0 : (List TPat)) (p1 : Int) (ph0 : OSl OTPat 35 3 Φ pD0 pv0 p0) {r : Int × (List TPat)} (h : m_l_markPatS N p0 p1 = some r) :
  Calls prog 131 [pv0, iV p1].toArray w0.w (PostG Φ w0.w [ob pv0, pD0].flatten (fun Φ' Fs v => ∃ (Do_0_0 : List Nat), v = iV r.1 ∧ Fs = [ob pv0, Do_0_0] ∧ OSl OTPat 35 3 Φ' Do_0_0 pv0 r.2)) := by
 refine eL func131 rfl ntmps131 rfl (L := [ob pv0, pD0]) w0 (fun hF => ?_)
 unfold m_l_markPatS at h
 refine att 10 [] rfl ?_
 refine lin (σ := Hp × (List TPat) × List Nat × Int × Int) (fun s => [(0, pv0), (1, iV s.2.2.2.1), (5, iV s.2.2.2.2)]) (fun s => St w0 s.1 [] [ob pv0, s.2.2.1]) (fun m s => m_l_markPatS_l1 N m s.2.1 s.2.2.2.1 s.2.2.2.2 = some r ∧ (OSl OTPat 35 3 s.1 s.2.2.1 pv0 s.2.1)) (Φ, p0, pD0, p1, 0) N ⟨h, ph0⟩ (sx [0, 0] []) (fun n1 ih1 s hm => ?_)
 obtain ⟨Φ_1, s1, D1, s2, s3⟩ := s
 obtain ⟨h, k1⟩ := hm
 dsimp only at h k1 ⊢
 unfold m_l_markPatS_l1 at h
 refine atr 5 [] rfl <| lno k1 rfl <| la rfl <| en ?_
 refine ch h rfl ?_ ?_ <;> intro h
 ·refine atr 8 [] rfl <| qc h (m_l_markText_ok N · s2 ·) rfl rfl rfl fun x1 h => ?_
  obtain ⟨x2, hx2, h⟩ := bs h
  obtain ⟨cs1, F1, D2, h1, r1, kf1, sp1⟩ := k1.focus hx2
  obtain ⟨v1, rfl, rfl, h2⟩ := r1
  refine wlL [ob v1, D2, ob pv0] (sre [1] [ob v1, D2] rfl (by simpa [List.append_assoc] using sp1)) <| lih h1 hx2 rfl <| lf Fld_35_0 rfl rfl rfl <| lu (us [2] [ob v1, D2] 0 OTPat.lasts Sz_9 rfl rfl rfl rfl h1 rfl (fun ap => ap.q 1 rfl)) rfl ?_
  rintro Φ_2 D3 ⟨⟨ap1, fr1⟩, h3⟩
  replace h2 := h2.fr fr1 (ap1.q 0 rfl) dN
  refine arr 11 [] rfl <| lih h3 hx2 rfl <| lf Fld_35_1 rfl rfl rfl <| lgx 1 0 h3.rg rfl <| la rfl <| kcb [1] h rfl rfl rfl rfl (fun b ap z q => m_l_markArgS_ok N b x2.Args (wz (s2 + 1)) h2 q) ?_
  rintro x3 h v2 Φ_3 F2 ⟨ap2, fr2, rfl, rfl, h4⟩
  replace h3 := h3.fr fr2 (ap2.q 0 rfl) (ap2.q 1 rfl)
  refine arr 7 [] rfl <| lq (q_rem rfl rfl (by decide)) rfl <| la rfl <| lih h3 hx2 rfl <| lf Fld_35_2 rfl rfl rfl <| lu (us [1] [ob v1, D2] 2 OTPat.lasts Sz_4 rfl rfl rfl rfl h3 rfl (fun ap => ap.q 1 rfl)) rfl ?_
  rintro Φ_4 D4 ⟨⟨ap3, fr3⟩, h5⟩
  replace h4 := h4.fr fr3 (ap3.q 0 rfl) dN
  refine art 12 [] rfl ?_
  have r2 : OTPat Φ_4 _ [.string x1, v1, .bool (decide ((x3.1.tmod 3) = 0))] (⟨x1, x3.2, decide ((x3.1.tmod 3) = 0)⟩ : TPat) := ⟨v1, rfl, rfl, h4⟩
  obtain ⟨D5, h6, sp2⟩ := h5.unfocus r2 (OTPat.knows _ _ _ _ r2)
  refine wtL [D5, ob pv0] (smg [1, 1] rfl (by simpa [List.append_assoc, ob_nil] using sp2)) ?_
  exact lb [1, 0] [] (ih1 (_, _, _, _, _) ⟨h, h6⟩)
 refine att 6 [] rfl ?_
 exact rtg [0, 0] hF (resOk.one rfl) rfl (by cases h; exact fun w1 hw => ⟨D1, rfl, rfl, k1⟩)
theorem m_l_markCondS_ok (w0 : Base Ψ Φ [ob pv0].flatten) (p0 : (List TCond)) (p1 : Int) (ph0 : OSl RTCond 62 11 Φ [] pv0 p0) {r : Int × (List TCond)} (h : m_l_markCondS N p0 p1 = some r) :
  Calls prog 132 [pv0, iV p1].toArray w0.w (PostG Φ w0.w [ob pv0].flatten (fun Φ' Fs v => v = iV r.1 ∧ Fs = [ob pv0] ∧ OSl RTCond 62 11 Φ' [] pv0 r.2)) := by
 refine eL func132 rfl ntmps132 rfl (L := [ob pv0]) w0 (fun hF => ?_)
 unfold m_l_markCondS at h
 refine att 10 [] rfl ?_
 refine lin (σ := Hp × (List TCond) × Int × Int) (fun s => [(0, pv0), (1, iV s.2.2.1), (5, iV s.2.2.2)]) (fun s => St w0 s.1 [] [ob pv0]) (fun m s => m_l_markCondS_l1 N m s.2.1 s.2.2.1 s.2.2.2 = some r ∧ (OSl RTCond 62 11 s.1 [] pv0 s.2.1)) (Φ, p0, p1, 0) N ⟨h, ph0⟩ (sx [0] []) (fun n1 ih1 s hm => ?_)
 obtain ⟨Φ_1, s1, s2, s3⟩ := s
 obtain ⟨h, k1⟩ := hm
 dsimp only at h k1 ⊢
 unfold m_l_markCondS_l1 at h
 refine atr 5 [] rfl <| lno k1 rfl <| la rfl <| en ?_
 refine ch h rfl ?_ ?_ <;> intro h
 ·refine atr 8 [] rfl ?_
  obtain ⟨x1, hx1, h⟩ := bs h
  obtain ⟨cs1, F1, h1, r1⟩ := k1.focusF RTCond.flat hx1
  obtain ⟨rfl, -⟩ := r1
  refine lih h1 hx1 rfl <| lf Fld_62_0 rfl rfl rfl <| lu (us [0] [] 0 RTCond.lasts Sz_3 rfl rfl rfl rfl h1 rfl (fun ap => dN)) rfl ?_
  rintro Φ_2 D2 ⟨⟨ap1, fr1⟩, h2⟩
  refine arr 12 [] rfl <| lih h2 hx1 rfl <| arr 2 [1, 0] rfl <| lu (us [0] [] 1 RTCond.lasts Sz_3 rfl rfl rfl rfl h2 rfl (fun ap => dN)) rfl ?_
  rintro Φ_3 D3 ⟨⟨ap2, fr2⟩, h3⟩
  refine arr 12 [] rfl <| qc h (m_l_markText_ok N · (wz ((wz (s2 + 1)) + 1)) ·) rfl rfl rfl fun x2 h => lih h3 hx1 rfl <| arr 2 [1, 1] rfl <| lu (us [0] [] 2 RTCond.lasts Sz_9 rfl rfl rfl rfl h3 rfl (fun ap => dN)) rfl ?_
  rintro Φ_4 D4 ⟨⟨ap3, fr3⟩, h4⟩
  refine arr 12 [] rfl <| lih h4 hx1 rfl <| arr 3 [1, 2, 0] rfl <| lu (us [0] [] 3 RTCond.lasts Sz_3 rfl rfl rfl rfl h4 rfl (fun ap => dN)) rfl ?_
  rintro Φ_5 D5 ⟨⟨ap4, fr4⟩, h5⟩
  refine arr 12 [] rfl <| lih h5 hx1 rfl <| arr 3 [1, 2, 1] rfl <| lu (us [0] [] 4 RTCond.lasts Sz_3 rfl rfl rfl rfl h5 rfl (fun ap => dN)) rfl ?_
  rintro Φ_6 D6 ⟨⟨ap5, fr5⟩, h6⟩
  refine arr 12 [] rfl <| qc h (m_l_markText_ok N · (wz ((wz ((wz ((wz ((wz (s2 + 1)) + 1)) + 1)) + 1)) + 1)) ·) rfl rfl rfl fun x3 h => lih h6 hx1 rfl <| arr 3 [1, 2, 2] rfl <| lu (us [0] [] 5 RTCond.lasts Sz_9 rfl rfl rfl rfl h6 rfl (fun ap => dN)) rfl ?_
  rintro Φ_7 D7 ⟨⟨ap6, fr6⟩, h7⟩
  refine arr 12 [] rfl <| lih h7 hx1 rfl <| arr 2 [6, 0] rfl <| lu (us [0] [] 6 RTCond.lasts Sz_3 rfl rfl rfl rfl h7 rfl (fun ap => dN)) rfl ?_
  rintro Φ_8 D8 ⟨⟨ap7, fr7⟩, h8⟩
  refine arr 12 [] rfl <| qc h (m_l_markText_ok N · (wz ((wz ((wz ((wz ((wz ((wz ((wz (s2 + 1)) + 1)) + 1)) + 1)) + 1)) + 1)) + 1)) ·) rfl rfl rfl fun x4 h => lih h8 hx1 rfl <| arr 2 [6, 1] rfl <| lu (us [0] [] 7 RTCond.lasts Sz_9 rfl rfl rfl rfl h8 rfl (fun ap => dN)) rfl ?_
  rintro Φ_9 D9 ⟨⟨ap8, fr8⟩, h9⟩
  refine arr 12 [] rfl <| lih h9 hx1 rfl <| arr 3 [6, 2, 0] rfl <| lu (us [0] [] 8 RTCond.lasts Sz_3 rfl rfl rfl rfl h9 rfl (fun ap => dN)) rfl ?_
  rintro Φ_10 D10 ⟨⟨ap9, fr9⟩, h10⟩
  refine arr 12 [] rfl <| lih h10 hx1 rfl <| arr 3 [6, 2, 1] rfl <| lu (us [0] [] 9 RTCond.lasts Sz_3 rfl rfl rfl rfl h10 rfl (fun ap => dN)) rfl ?_
  rintro Φ_11 D11 ⟨⟨ap10, fr10⟩, h11⟩
  refine arr 12 [] rfl <| qc h (m_l_markText_ok N · (wz ((wz ((wz ((wz ((wz ((wz ((wz ((wz ((wz ((wz (s2 + 1)) + 1)) + 1)) + 1)) + 1)) + 1)) + 1)) + 1)) + 1)) + 1)) ·) rfl rfl rfl fun x5 h => lih h11 hx1 rfl <| arr 3 [6, 2, 2] rfl <| lu (us [0] [] 10 RTCond.lasts Sz_9 rfl rfl rfl rfl h11 rfl (fun ap => dN)) rfl ?_
  rintro Φ_12 D12 ⟨⟨ap11, fr11⟩, h12⟩
  refine art 12 [] rfl ?_
  have h13 := h12.unfocusF RTCond.flat (x' := (⟨s2, (⟨wz (s2 + 1), x2, (⟨wz ((wz ((wz (s2 + 1)) + 1)) + 1), wz ((wz ((wz ((wz (s2 + 1)) + 1)) + 1)) + 1), x3⟩ : TVal)⟩ : TArg), (⟨wz ((wz ((wz ((wz ((wz ((wz (s2 + 1)) + 1)) + 1)) + 1)) + 1)) + 1), x4, (⟨wz ((wz ((wz ((wz ((wz ((wz ((wz ((wz (s2 + 1)) + 1)) + 1)) + 1)) + 1)) + 1)) + 1)) + 1), wz ((wz ((wz ((wz ((wz ((wz ((wz ((wz ((wz (s2 + 1)) + 1)) + 1)) + 1)) + 1)) + 1)) + 1)) + 1)) + 1), x5⟩ : TVal)⟩ : TArg)⟩ : TCond)) ⟨rfl, rfl⟩
  exact lb [0] [] (ih1 (_, _, _, _) ⟨h, h13⟩)
 refine att 6 [] rfl ?_
 exact rtg [0] hF (resOk.one rfl) rfl (by cases h; exact fun w1 hw => ⟨rfl, rfl, k1⟩)
theorem m_l_markExprS_ok (w0 : Base Ψ Φ [ob pv0].flatten) (p0 : (List TExpr)) (p1 : Int) (ph0 : OSl RTExpr 116 11 Φ [] pv0 p0) {r : Int × (List TExpr)} (h : m_l_markExprS N p0 p1 = some r) :
  Calls prog 184 [pv0, iV p1].toArray w0.w (PostG Φ w0.w [ob pv0].flatten (fun Φ' Fs v => v = iV r.1 ∧ Fs = [ob pv0] ∧ OSl RTExpr 116 11 Φ' [] pv0 r.2)) := by
 refine eL func184 rfl ntmps184 rfl (L := [ob pv0]) w0 (fun hF => ?_)
 unfold m_l_markExprS at h
 refine att 10 [] rfl ?_
 refine lin (σ := Hp × (List TExpr) × Int × Int) (fun s => [(0, pv0), (1, iV s.2.2.1), (5, iV s.2.2.2)]) (fun s => St w0 s.1 [] [ob pv0]) (fun m s => m_l_markExprS_l1 N m s.2.1 s.2.2.1 s.2.2.2 = some r ∧ (OSl RTExpr 116 11 s.1 [] pv0 s.2.1)) (Φ, p0, p1, 0) N ⟨h, ph0⟩ (sx [0] []) (fun n1 ih1 s hm => ?_)
 obtain ⟨Φ_1, s1, s2, s3⟩ := s
 obtain ⟨h, k1⟩ := hm
 dsimp only at h k1 ⊢
 unfold m_l_markExprS_l1 at h
 refine atr 5 [] rfl <| lno k1 rfl <| la rfl <| en ?_
 refine ch h rfl ?_ ?_ <;> intro h
 ·refine atr 8 [] rfl <| qc h (m_l_markText_ok N · s2 ·) rfl rfl rfl fun x1 h => ?_
  obtain ⟨x2, hx2, h⟩ := bs h
  obtain ⟨cs1, F1, h1, r1⟩ := k1.focusF RTExpr.flat hx2
  obtain ⟨rfl, -⟩ := r1
  refine lih h1 hx2 rfl <| lf Fld_116_0 rfl rfl rfl <| lu (us [0] [] 0 RTExpr.lasts Sz_9 rfl rfl rfl rfl h1 rfl (fun ap => dN)) rfl ?_
  rintro Φ_2 D2 ⟨⟨ap1, fr1⟩, h2⟩
  refine arr 12 [] rfl <| lih h2 hx2 rfl <| arr 2 [1, 0] rfl <| lu (us [0] [] 1 RTExpr.lasts Sz_3 rfl rfl rfl rfl h2 rfl (fun ap => dN)) rfl ?_
  rintro Φ_3 D3 ⟨⟨ap2, fr2⟩, h3⟩
  refine arr 12 [] rfl <| qc h (m_l_markText_ok N · (wz ((wz (s2 + 1)) + 1)) ·) rfl rfl rfl fun x3 h => lih h3 hx2 rfl <| arr 2 [1, 1] rfl <| lu (us [0] [] 2 RTExpr.lasts Sz_9 rfl rfl rfl rfl h3 rfl (fun ap => dN)) rfl ?_
  rintro Φ_4 D4 ⟨⟨ap3, fr3⟩, h4⟩
  refine arr 12 [] rfl <| lih h4 hx2 rfl <| arr 3 [1, 2, 0] rfl <| lu (us [0] [] 3 RTExpr.lasts Sz_3 rfl rfl rfl rfl h4 rfl (fun ap => dN)) rfl ?_
  rintro Φ_5 D5 ⟨⟨ap4, fr4⟩, h5⟩
  refine arr 12 [] rfl <| lih h5 hx2 rfl <| arr 3 [1, 2, 1] rfl <| lu (us [0] [] 4 RTExpr.lasts Sz_3 rfl rfl rfl rfl h5 rfl (fun ap => dN)) rfl ?_
  rintro Φ_6 D6 ⟨⟨ap5, fr5⟩, h6⟩
  refine arr 12 [] rfl <| qc h (m_l_markText_ok N · (wz ((wz ((wz ((wz ((wz (s2 + 1)) + 1)) + 1)) + 1)) + 1)) ·) rfl rfl rfl fun x4 h => lih h6 hx2 rfl <| arr 3 [1, 2, 2] rfl <| lu (us [0] [] 5 RTExpr.lasts Sz_9 rfl rfl rfl rfl h6 rfl (fun ap => dN)) rfl ?_
  rintro Φ_7 D7 ⟨⟨ap6, fr6⟩, h7⟩
  refine arr 12 [] rfl <| lih h7 hx2 rfl <| arr 2 [6, 0] rfl <| lu (us [0] [] 6 RTExpr.lasts Sz_3 rfl rfl rfl rfl h7 rfl (fun ap => dN)) rfl ?_
  rintro Φ_8 D8 ⟨⟨ap7, fr7⟩, h8⟩
  refine arr 12 [] rfl <| qc h (m_l_markText_ok N · (wz ((wz ((wz ((wz ((wz ((wz ((wz (s2 + 1)) + 1)) + 1)) + 1)) + 1)) + 1)) + 1)) ·) rfl rfl rfl fun x5 h => lih h8 hx2 rfl <| arr 2 [6, 1] rfl <| lu (us [0] [] 7 RTExpr.lasts Sz_9 rfl rfl rfl rfl h8 rfl (fun ap => dN)) rfl ?_
  rintro Φ_9 D9 ⟨⟨ap8, fr8⟩, h9⟩
  refine arr 12 [] rfl <| lih h9 hx2 rfl <| arr 3 [6, 2, 0] rfl <| lu (us [0] [] 8 RTExpr.lasts Sz_3 rfl rfl rfl rfl h9 rfl (fun ap => dN)) rfl ?_
  rintro Φ_10 D10 ⟨⟨ap9, fr9⟩, h10⟩
  refine arr 12 [] rfl <| lih h10 hx2 rfl <| arr 3 [6, 2, 1] rfl <| lu (us [0] [] 9 RTExpr.lasts Sz_3 rfl rfl rfl rfl h10 rfl (fun ap => dN)) rfl ?_
  rintro Φ_11 D11 ⟨⟨ap10, fr10⟩, h11⟩
  refine arr 12 [] rfl <| qc h (m_l_markText_ok N · (wz ((wz ((wz ((wz ((wz ((wz ((wz ((wz ((wz ((wz (s2 + 1)) + 1)) + 1)) + 1)) + 1)) + 1)) + 1)) + 1)) + 1)) + 1)) ·) rfl rfl rfl fun x6 h => lih h11 hx2 rfl <| arr 3 [6, 2, 2] rfl <| lu (us [0] [] 10 RTExpr.lasts Sz_9 rfl rfl rfl rfl h11 rfl (fun ap => dN)) rfl ?_
  rintro Φ_12 D12 ⟨⟨ap11, fr11⟩, h12⟩
  refine art 12 [] rfl ?_
  have h13 := h12.unfocusF RTExpr.flat (x' := (⟨x1, (⟨wz (s2 + 1), x3, (⟨wz ((wz ((wz (s2 + 1)) + 1)) + 1), wz ((wz ((wz ((wz (s2 + 1)) + 1)) + 1)) + 1), x4⟩ : TVal)⟩ : TArg), (⟨wz ((wz ((wz ((wz ((wz ((wz (s2 + 1)) + 1)) + 1)) + 1)) + 1)) + 1), x5, (⟨wz ((wz ((wz ((wz ((wz ((wz ((wz ((wz (s2 + 1)) + 1)) + 1)) + 1)) + 1)) + 1)) + 1)) + 1), wz ((wz ((wz ((wz ((wz ((wz ((wz ((wz ((wz (s2 + 1)) + 1)) + 1)) + 1)) + 1)) + 1)) + 1)) + 1)) + 1), x6⟩ : TVal)⟩ : TArg)⟩ : TExpr)) ⟨rfl, rfl⟩
  exact lb [0] [] (ih1 (_, _, _, _) ⟨h, h13⟩)
 refine att 6 [] rfl ?_
 exact rtg [0] hF (resOk.one rfl) rfl (by cases h; exact fun w1 hw => ⟨rfl, rfl, k1⟩)
theorem m_l_markActS_ok (w0 : Base Ψ Φ [ob pv0, pD0].flatten) (p0 : (List TAct)) (p1 : Int) (ph0 : OSl OTAct 66 5 Φ pD0 pv0 p0) {r : Int × (List TAct)} (h : m_l_markActS N p0 p1 = some r) :
  Calls prog 133 [pv0, iV p1].toArray w0.w (PostG Φ w0.w [ob pv0, pD0].flatten (fun Φ' Fs v => ∃ (Do_0_0 : List Nat), v = iV r.1 ∧ Fs = [ob pv0, Do_0_0] ∧ OSl OTAct 66 5 Φ' Do_0_0 pv0 r.2)) := by
 refine eL func133 rfl ntmps133 rfl (L := [ob pv0, pD0]) w0 (fun hF => ?_)
 unfold m_l_markActS at h
 refine att 10 [] rfl ?_
 refine lin (σ := Hp × (List TAct) × List Nat × Int × Int) (fun s => [(0, pv0), (1, iV s.2.2.2.1), (5, iV s.2.2.2.2)]) (fun s => St w0 s.1 [] [ob pv0, s.2.2.1]) (fun m s => m_l_markActS_l1 N m s.2.1 s.2.2.2.1 s.2.2.2.2 = some r ∧ (OSl OTAct 66 5 s.1 s.2.2.1 pv0 s.2.1)) (Φ, p0, pD0, p1, 0) N ⟨h, ph0⟩ (sx [0, 0] []) (fun n1 ih1 s hm => ?_)
 obtain ⟨Φ_1, s1, D1, s2, s3⟩ := s
 obtain ⟨h, k1⟩ := hm
 dsimp only at h k1 ⊢
 unfold m_l_markActS_l1 at h
 refine atr 5 [] rfl <| lno k1 rfl <| la rfl <| en ?_
 refine ch h rfl ?_ ?_ <;> intro h
 ·refine atr 8 [] rfl ?_
  obtain ⟨x1, hx1, h⟩ := bs h
  obtain ⟨cs1, F1, D2, h1, r1, kf1, sp1⟩ := k1.focus hx1
  obtain ⟨v1, rfl, rfl, h2⟩ := r1
  refine wlL [ob v1, D2, ob pv0] (sre [1] [ob v1, D2] rfl (by simpa [List.append_assoc] using sp1)) <| lih h1 hx1 rfl <| lf Fld_66_0 rfl rfl rfl <| lu (us [2] [ob v1, D2] 0 OTAct.lasts Sz_3 rfl rfl rfl rfl h1 rfl (fun ap => ap.q 1 rfl)) rfl ?_
  rintro Φ_2 D3 ⟨⟨ap1, fr1⟩, h3⟩
  replace h2 := h2.fr fr1 (ap1.q 0 rfl) dN
  refine arr 12 [] rfl <| qc h (m_l_markText_ok N · (wz (s2 + 1)) ·) rfl rfl rfl fun x2 h => lih h3 hx1 rfl <| lf Fld_66_1 rfl rfl rfl <| lu (us [0] [ob v1, D2] 1 OTAct.lasts Sz_9 rfl rfl rfl rfl h3 rfl (fun ap => ap.q 1 rfl)) rfl ?_
  rintro Φ_3 D4 ⟨⟨ap2, fr2⟩, h4⟩
  replace h2 := h2.fr fr2 (ap2.q 0 rfl) dN
  refine arr 11 [] rfl <| lih h4 hx1 rfl <| lf Fld_66_2 rfl rfl rfl <| lgx 2 0 h4.rg rfl <| la rfl <| kcb [1] h rfl rfl rfl rfl (fun b ap z q => m_l_markExprS_ok N b x1.Args (wz ((wz (s2 + 1)) + 1)) h2 q) ?_
  rintro x3 h v2 Φ_4 F2 ⟨ap3, fr3, rfl, rfl, h5⟩
  replace h4 := h4.fr fr3 (ap3.q 0 rfl) (ap3.q 1 rfl)
  refine arr 7 [] rfl <| lih h4 hx1 rfl <| lf Fld_66_3 rfl rfl rfl <| lu (us [1] [ob v1, D2] 3 OTAct.lasts Sz_3 rfl rfl rfl rfl h4 rfl (fun ap => ap.q 1 rfl)) rfl ?_
  rintro Φ_5 D5 ⟨⟨ap4, fr4⟩, h6⟩
  replace h5 := h5.fr fr4 (ap4.q 0 rfl) dN
  refine arr 12 [] rfl <| qc h (m_l_markText_ok N · (wz (x3.1 + 1)) ·) rfl rfl rfl fun x4 h => lih h6 hx1 rfl <| lf Fld_66_4 rfl rfl rfl <| lu (us [0] [ob v1, D2] 4 OTAct.lasts Sz_9 rfl rfl rfl rfl h6 rfl (fun ap => ap.q 1 rfl)) rfl ?_
  rintro Φ_6 D6 ⟨⟨ap5, fr5⟩, h7⟩
  replace h5 := h5.fr fr5 (ap5.q 0 rfl) dN
  refine art 12 [] rfl ?_
  have r2 : OTAct Φ_6 _ [iV s2, .string x2, v1, iV x3.1, .string x4] (⟨s2, x2, x3.2, x3.1, x4⟩ : TAct) := ⟨v1, rfl, rfl, h5⟩
  obtain ⟨D7, h8, sp2⟩ := h7.unfocus r2 (OTAct.knows _ _ _ _ r2)
  refine wtL [D7, ob pv0] (smg [1, 1] rfl (by simpa [List.append_assoc, ob_nil] using sp2)) ?_
  exact lb [1, 0] [] (ih1 (_, _, _, _, _) ⟨h, h8⟩)
 refine att 6 [] rfl ?_
 exact rtg [0, 0] hF (resOk.one rfl) rfl (by cases h; exact fun w1 hw => ⟨D1, rfl, rfl, k1⟩)
theorem m_l_markRuleS_ok (w0 : Base Ψ Φ [ob pv0, pD0].flatten) (p0 : (List TRule)) (p1 : Int) (ph0 : OSl OTRule 28 5 Φ pD0 pv0 p0) {r : Int × (List TRule)} (h : m_l_markRuleS N p0 p1 = some r) :
  Calls prog 71 [pv0, iV p1].toArray w0.w (PostG Φ w0.w [ob pv0, pD0].flatten (fun Φ' Fs v => ∃ (Do_0_0 : List Nat), v = iV r.1 ∧ Fs = [ob pv0, Do_0_0] ∧ OSl OTRule 28 5 Φ' Do_0_0 pv0 r.2)) := by
 refine eL func71 rfl ntmps71 rfl (L := [ob pv0, pD0]) w0 (fun hF => ?_)
 unfold m_l_markRuleS at h
 refine att 10 [] rfl ?_
 refine lin (σ := Hp × (List TRule) × List Nat × Int × Int) (fun s => [(0, pv0), (1, iV s.2.2.2.1), (5, iV s.2.2.2.2)]) (fun s => St w0 s.1 [] [ob pv0, s.2.2.1]) (fun m s => m_l_markRuleS_l1 N m s.2.1 s.2.2.2.1 s.2.2.2.2 = some r ∧ (OSl OTRule 28 5 s.1 s.2.2.1 pv0 s.2.1)) (Φ, p0, pD0, p1, 0) N ⟨h, ph0⟩ (sx [0, 0] []) (fun n1 ih1 s hm => ?_)
 obtain ⟨Φ_1, s1, D1, s2, s3⟩ := s
 obtain ⟨h, k1⟩ := hm
 dsimp only at h k1 ⊢
 unfold m_l_markRuleS_l1 at h
 refine atr 5 [] rfl <| lno k1 rfl <| la rfl <| en ?_
 refine ch h rfl ?_ ?_ <;> intro h
 ·refine atr 8 [] rfl <| qc h (m_l_markText_ok N · s2 ·) rfl rfl rfl fun x1 h => ?_
  obtain ⟨x2, hx2, h⟩ := bs h
  obtain ⟨cs1, F1, D2, h1, r1, kf1, sp1⟩ := k1.focus hx2
  obtain ⟨v1, D3, v2, v3, D4, rfl, rfl, h2, h3, h4⟩ := r1
  refine wlL [ob v1, D3, ob v2, ob v3, D4, D2, ob pv0] (sre [1] [ob v1, D3, ob v2, ob v3, D4, D2] rfl (by simpa [List.append_assoc] using sp1)) <| lih h1 hx2 rfl <| lf Fld_28_0 rfl rfl rfl <| lu (us [6] [ob v1, D3, ob v2, ob v3, D4, D2] 0 OTRule.lasts Sz_9 rfl rfl rfl rfl h1 rfl (fun ap => ap.q 5 rfl)) rfl ?_
  rintro Φ_2 D5 ⟨⟨ap1, fr1⟩, h5⟩
  replace h2 := h2.fr fr1 (ap1.q 0 rfl) (ap1.q 1 rfl)
  replace h3 := h3.fr fr1 (ap1.q 2 rfl) dN
  replace h4 := h4.fr fr1 (ap1.q 3 rfl) (ap1.q 4 rfl)
  refine arr 12 [] rfl <| lih h5 hx2 rfl <| lf Fld_28_1 rfl rfl rfl <| lu (us [0] [ob v1, D3, ob v2, ob v3, D4, D2] 1 OTRule.lasts Sz_3 rfl rfl rfl rfl h5 rfl (fun ap => ap.q 5 rfl)) rfl ?_
  rintro Φ_3 D6 ⟨⟨ap2, fr2⟩, h6⟩
  replace h2 := h2.fr fr2 (ap2.q 0 rfl) (ap2.q 1 rfl)
  replace h3 := h3.fr fr2 (ap2.q 2 rfl) dN
  replace h4 := h4.fr fr2 (ap2.q 3 rfl) (ap2.q 4 rfl)
  refine arr 11 [] rfl <| lih h6 hx2 rfl <| lf Fld_28_2 rfl rfl rfl <| lgx 2 0 h6.rg rfl <| la rfl <| kcb [1, 1] h rfl rfl rfl rfl (fun b ap z q => m_l_markPatS_ok N b x2.Pats (wz ((wz (s2 + 1)) + 1)) h2 q) ?_
  rintro x3 h v4 Φ_4 F2 ⟨ap3, fr3, D7, rfl, rfl, h7⟩
  replace h6 := h6.fr fr3 (ap3.q 0 rfl) (ap3.q 4 rfl)
  replace h3 := h3.fr fr3 (ap3.q 1 rfl) dN
  replace h4 := h4.fr fr3 (ap3.q 2 rfl) (ap3.q 3 rfl)
  refine arr 6 [] rfl <| lih h6 hx2 rfl <| lf Fld_28_3 rfl rfl rfl <| lgx 3 0 h6.rg rfl <| la rfl <| kcb [3] h rfl rfl rfl rfl (fun b ap z q => m_l_markCondS_ok N b x2.Conds x3.1 h3 q) ?_
  rintro x4 h v5 Φ_5 F3 ⟨ap4, fr4, rfl, rfl, h8⟩
  replace h6 := h6.fr fr4 (ap4.q 2 rfl) (ap4.q 5 rfl)
  replace h7 := h7.fr fr4 (ap4.q 0 rfl) (ap4.q 1 rfl)
  replace h4 := h4.fr fr4 (ap4.q 3 rfl) (ap4.q 4 rfl)
  refine arr 5 [] rfl <| lih h6 hx2 rfl <| lf Fld_28_4 rfl rfl rfl <| lgx 4 0 h6.rg rfl <| la rfl <| kcb [4, 4] h rfl rfl rfl rfl (fun b ap z q => m_l_markActS_ok N b x2.Acts x4.1 h4 q) ?_
  rintro x5 h v6 Φ_6 F4 ⟨ap5, fr5, D8, rfl, rfl, h9⟩
  replace h6 := h6.fr fr5 (ap5.q 3 rfl) (ap5.q 4 rfl)
  replace h7 := h7.fr fr5 (ap5.q 1 rfl) (ap5.q 2 rfl)
  replace h8 := h8.fr fr5 (ap5.q 0 rfl) dN
  refine art 8 [] rfl ?_
  have r2 : OTRule Φ_6 _ [.string x1, iV (wz (s2 + 1)), v1, v2, v3] (⟨x1, wz (s2 + 1), x3.2, x4.2, x5.2⟩ : TRule) := ⟨v1, D7, v2, v3, D8, rfl, rfl, h7, h8, h9⟩
  obtain ⟨D9, h10, sp2⟩ := h6.unfocus r2 (OTRule.knows _ _ _ _ r2)
  refine wtL [D9, ob pv0] (smg [3, 3, 2, 0, 0, 1] rfl (by simpa [List.append_assoc, ob_nil] using sp2)) ?_
  exact lb [1, 0] [] (ih1 (_, _, _, _, _) ⟨h, h10⟩)
 refine att 6 [] rfl ?_
 exact rtg [0, 0] hF (resOk.one rfl) rfl (by cases h; exact fun w1 hw => ⟨D1, rfl, rfl, k1⟩)
theorem m_l_markDef_ok (w0 : Base Ψ Φ [ob pv0_0, pD0_0].flatten) (p0 : TDef) (p1 : Int) (ph0_0 : OSl OTRule 28 5 Φ pD0_0 pv0_0 p0.Rules) {r : Int × (List TRule)} (h : m_l_markDef N p0 p1 = some r) :
  Calls prog 26 [.agg [.string p0.Name, pv0_0].toArray, iV p1].toArray w0.w (PostG Φ w0.w [ob pv0_0, pD0_0].flatten (fun Φ' Fs v => ∃ (Do_0_0 : List Nat), v = iV r.1 ∧ Fs = [ob pv0_0, Do_0_0] ∧ OSl OTRule 28 5 Φ' Do_0_0 pv0_0 r.2)) := by
 refine eL func26 rfl ntmps26 rfl (L := [ob pv0_0, pD0_0]) w0 (fun hF => ?_)
 unfold m_l_markDef at h
 refine sr <| lbx rfl fun b_1 => arr 7 [1, 0] rfl <| kcb [0, 0] h rfl rfl rfl rfl (fun b ap z q => m_l_markRuleS_ok N b p0.Rules p1 ph0_0 q) ?_
 rintro x1 h v1 Φ_1 F1 ⟨ap1, fr1, D1, rfl, rfl, h1⟩
 refine art 7 [] rfl ?_
 exact rtg [0, 0] hF (resOk.one rfl) rfl (by cases h; exact fun w1 hw => ⟨D1, rfl, rfl, h1⟩)
end Go.Proofs.YteipbimepilcfaaGreatDoor
