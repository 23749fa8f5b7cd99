/- Printed by a program of ours: each Go function computes its Lean function. -/
import Derived.Test.YteipbimepilcfaaGreatDoorProg
import Derived.Test.YteipbimepilcfaaGreatDoorWDefsReadWalk2
namespace Go.Proofs.YteipbimepilcfaaGreatDoor
open Eng Tryz
open Go.RowKit (Below)
set_option linter.unusedVariables false
set_option linter.unusedSimpArgs false

set_option maxRecDepth 100000
set_option maxHeartbeats 1000000
variable {Ψ Φ : Hp} {pv0_0 pv0 pv1 pv0_1 pv0_2 : Value} {pG0_0 pG0 pG1 pG0_1 pG0_2 : List Nat} {pb0 : Nat} (N : Nat)
theorem m_i_parser_act_ok (w0 : Base Ψ Φ [[pb0]].flatten) (p0 : Tparser) (ph0_0 : RSl RTToken 3 Ψ pG0_0 pv0_0 p0.tokens) (pp0 : Φ pb0 = some (.cells #[pv0_0, iV p0.at_, .bool p0.bad] 75 (0, 0))) {r : TAct × Tparser} (h : m_i_parser_act N p0 = some r) :
  Calls prog 101 [pQ pb0].toArray w0.w (PostG Φ w0.w [[pb0]].flatten (fun Φ' Fs v => ∃ (sr_0_0 : Value), v = .agg [iV r.1.Kind, .string r.1.Name, sr_0_0, iV r.1.N, .string r.1.Undo].toArray ∧ Fs = [ob sr_0_0, [pb0]] ∧ OSl RTExpr 116 11 Φ' [] sr_0_0 r.1.Args ∧ r.2.tokens = p0.tokens ∧ Φ' pb0 = some (.cells #[pv0_0, iV r.2.at_, .bool r.2.bad] 75 (0, 0)))) := by
 refine eL func101 rfl ntmps101 rfl (L := [[pb0]]) w0 (fun hF => ?_)
 unfold m_i_parser_act at h
 refine sr <| lnz Zr_66 rfl fun b_1 => en <| sr <| lnz Zr_66 rfl fun b_2 => arr 5 [] rfl <| kcb [0] h rfl rfl rfl rfl (fun b ap z q => m_i_parser_word_ok N b p0 2 (ph0_0.y z) pp0 q) ?_
 rintro x1 h v1 Φ_1 F1 ⟨ap1, fr1, rfl, rfl, e1, h1⟩
 refine lq (q_field1 Fd1_77_2 rfl rfl) rfl <| art 7 [] rfl <| wtS ?_
 have k1 := OSl.nil RTExpr 116 11 Φ_1
 refine cut (σ := Hp × (List TExpr) × Value × Int × Bool × Int × ByteArray × Int × ByteArray) (fun s => [(2, pQ b_1), (3, pQ b_2)]) (fun s => St w0 s.1 [(b_2, .cells #[iV s.2.2.2.2.2.1, .string s.2.2.2.2.2.2.1, s.2.2.1, iV s.2.2.2.2.2.2.2.1, .string s.2.2.2.2.2.2.2.2] 66 (0, 0)), (b_1, .cells #[iV 0, .string (⟨#[]⟩ : ByteArray), .slice none 0 0, iV 0, .string (⟨#[]⟩ : ByteArray)] 66 (0, 0))] [ob s.2.2.1, [pb0]]) (fun s => m_i_parser_act_j1 N p0 s.2.1 s.2.2.2.1 s.2.2.2.2.1 s.2.2.2.2.2.1 s.2.2.2.2.2.2.1 s.2.2.2.2.2.2.2.1 s.2.2.2.2.2.2.2.2 = some r ∧ (OSl RTExpr 116 11 s.1 [] s.2.2.1 s.2.1) ∧ (s.1 pb0 = some (.cells #[pv0_0, iV s.2.2.2.1, .bool s.2.2.2.2.1] 75 (0, 0)))) (fun s hm => ?_) (fun K => ?_)
 ·clear h
  obtain ⟨Φ_2, s1, u1, s2, s3, s4, s5, s6, s7⟩ := s
  obtain ⟨h, k2, k3⟩ := hm
  dsimp only at h k2 k3 ⊢
  unfold m_i_parser_act_j1 at h
  refine atr 4 [5] rfl <| soN 1 Sz_66 rfl ⟨rfl, rfl, k2.one, rfl, rfl, trivial⟩ rfl ?_
  refine en ?_
  exact rtg [0, 0] hF (resOk.one (rv_cell Tn_66 rfl (fun w1 hw => hw.rgO (i := 1) rfl 0 5 [iV s4, .string s5, u1, iV s6, .string s7] rfl) rfl)) rfl (by cases h; exact fun w1 hw => ⟨u1, rfl, rfl, k2, rfl, k3⟩)
 refine ch h rfl ?_ ?_ <;> intro h
 ·refine atr 3 [0] rfl <| so1 0 Sz_3 rfl rfl ?_
  refine arr 3 [] rfl ?_
  refine WL.frz (js := [0]) (R := [(b_1, .cells #[iV 0, .string (⟨#[]⟩ : ByteArray), .slice none 0 0, iV 0, .string (⟨#[]⟩ : ByteArray)] 66 (0, 0))]) rfl (fun Φ_3 fr2 k4 => ?_)
  replace k1 := k1.f0 fr2
  replace h1 := fr2 _ _ (by simp) h1
  refine kcb [2, 0, 0] h rfl rfl rfl rfl (fun b ap z q => m_i_parser_call_ok N b (⟨p0.tokens, x1.2.at_, x1.2.bad⟩ : Tparser) (⟨1, (⟨#[]⟩ : ByteArray), ([] : List TExpr), 0, (⟨#[]⟩ : ByteArray)⟩ : TAct) (ph0_0.y z) h1 k1 k4 q) ?_
  rintro x2 h v2 Φ_4 F2 ⟨ap2, fr3, v3, rfl, rfl, e2, h2, h3, h4⟩
  refine en ?_
  refine WT.thw (js := [1]) (R := [[pb0], ob v3]) rfl h4 (fun Φ_5 ap3 fr4 => ?_)
  replace h3 := h3.fr fr4 (ap3.q 1 rfl) dN
  replace h2 := fr4 _ _ ((ap3.q 0 rfl) _ (by simp)) h2
  exact wo [1, 0] [0, 0] (K (_, _, _, _, _, _, _, _, _) ⟨h, h3, h2⟩)
 refine att 5 [] rfl ?_
 refine ch h rfl ?_ ?_ <;> intro h
 ·refine atr 3 [0] rfl <| so1 0 Sz_3 rfl rfl ?_
  refine arr 3 [] rfl <| kcb [1] h rfl rfl rfl rfl (fun b ap z q => m_i_parser_word_ok N b (⟨p0.tokens, x1.2.at_, x1.2.bad⟩ : Tparser) 1 (ph0_0.y z) h1 q) ?_
  rintro x3 h v4 Φ_6 F3 ⟨ap4, fr5, rfl, rfl, e3, h5⟩
  replace k1 := k1.fr fr5 (ap4.q 0 rfl) dN
  refine lq (q_field1 Fd1_77_1 rfl rfl) rfl <| lf Fld_66_3 rfl rfl rfl <| so1 0 Sz_3 rfl rfl ?_
  refine en ?_
  exact wo [1, 0] [0, 0] (K (_, _, _, _, _, _, _, _, _) ⟨h, k1, h5⟩)
 refine att 5 [] rfl ?_
 refine ch h rfl ?_ ?_ <;> intro h
 ·refine atr 3 [0] rfl <| so1 0 Sz_3 rfl rfl ?_
  refine arr 4 [] rfl ?_
  refine WL.frz (js := [0]) (R := [(b_1, .cells #[iV 0, .string (⟨#[]⟩ : ByteArray), .slice none 0 0, iV 0, .string (⟨#[]⟩ : ByteArray)] 66 (0, 0))]) rfl (fun Φ_7 fr6 k5 => ?_)
  replace k1 := k1.f0 fr6
  replace h1 := fr6 _ _ (by simp) h1
  refine kcb [2, 0, 0] h rfl rfl rfl rfl (fun b ap z q => m_i_parser_call_ok N b (⟨p0.tokens, x1.2.at_, x1.2.bad⟩ : Tparser) (⟨3, (⟨#[]⟩ : ByteArray), ([] : List TExpr), 0, (⟨#[]⟩ : ByteArray)⟩ : TAct) (ph0_0.y z) h1 k1 k5 q) ?_
  rintro x4 h v5 Φ_8 F4 ⟨ap5, fr7, v6, rfl, rfl, e4, h6, h7, h8⟩
  refine arr 4 [] rfl <| kcb [0] h rfl rfl rfl rfl (fun b ap z q => m_i_parser_skip_ok N b (⟨p0.tokens, x4.1.at_, x4.1.bad⟩ : Tparser) 2 (⟨#[117, 110, 100, 111]⟩ : ByteArray) (ph0_0.y z) h6 q) ?_
  rintro x5 h v7 Φ_9 F5 ⟨ap6, fr8, rfl, rfl, e5, h9⟩
  replace h7 := h7.fr fr8 (ap6.q 1 rfl) dN
  replace h8 := fr8 _ _ ((ap6.q 0 rfl) _ (by simp)) h8
  refine en ?_
  refine ch h rfl ?_ ?_ <;> intro h
  ·refine atr 2 [] rfl <| kcb [0] h rfl rfl rfl rfl (fun b ap z q => m_i_parser_word_ok N b (⟨p0.tokens, x5.2.at_, x5.2.bad⟩ : Tparser) 2 (ph0_0.y z) h9 q) ?_
   rintro x6 h v8 Φ_10 F6 ⟨ap7, fr9, rfl, rfl, e6, h10⟩
   replace h7 := h7.fr fr9 (ap7.q 1 rfl) dN
   replace h8 := fr9 _ _ ((ap7.q 0 rfl) _ (by simp)) h8
   refine lq (q_field1 Fd1_77_2 rfl rfl) rfl <| lf Fld_66_4 rfl rfl rfl ?_
   refine WL.thw (js := [1]) (R := [[pb0], ob v6]) rfl h8 (fun Φ_11 ap8 fr10 => ?_)
   replace h7 := h7.fr fr10 (ap8.q 1 rfl) dN
   replace h10 := fr10 _ _ ((ap8.q 0 rfl) _ (by simp)) h10
   refine so1 0 Sz_9 rfl rfl ?_
   refine en ?_
   exact wo [1, 0] [0, 0] (K (_, _, _, _, _, _, _, _, _) ⟨h, h7, h10⟩)
  refine WT.skip ?_
  refine WT.thw (js := [1]) (R := [[pb0], ob v6]) rfl h8 (fun Φ_12 ap9 fr11 => ?_)
  replace h7 := h7.fr fr11 (ap9.q 1 rfl) dN
  replace h9 := fr11 _ _ ((ap9.q 0 rfl) _ (by simp)) h9
  exact wo [1, 0] [0, 0] (K (_, _, _, _, _, _, _, _, _) ⟨h, h7, h9⟩)
 refine att 5 [] rfl ?_
 refine ch h rfl ?_ ?_ <;> intro h
 ·refine atr 3 [0] rfl <| so1 0 Sz_3 rfl rfl ?_
  refine arr 4 [] rfl <| kcb [1] h rfl rfl rfl rfl (fun b ap z q => m_i_parser_word_ok N b (⟨p0.tokens, x1.2.at_, x1.2.bad⟩ : Tparser) 1 (ph0_0.y z) h1 q) ?_
  rintro x7 h v9 Φ_13 F7 ⟨ap10, fr12, rfl, rfl, e7, h11⟩
  replace k1 := k1.fr fr12 (ap10.q 0 rfl) dN
  refine lq (q_field1 Fd1_77_1 rfl rfl) rfl <| lf Fld_66_3 rfl rfl rfl <| so1 0 Sz_3 rfl rfl ?_
  refine arr 3 [] rfl ?_
  refine WL.frz (js := [0]) (R := [(b_1, .cells #[iV 0, .string (⟨#[]⟩ : ByteArray), .slice none 0 0, iV 0, .string (⟨#[]⟩ : ByteArray)] 66 (0, 0))]) rfl (fun Φ_14 fr13 k6 => ?_)
  replace k1 := k1.f0 fr13
  replace h11 := fr13 _ _ (by simp) h11
  refine kcb [1, 0, 0] h rfl rfl rfl rfl (fun b ap z q => m_i_parser_call_ok N b (⟨p0.tokens, x7.2.at_, x7.2.bad⟩ : Tparser) (⟨4, (⟨#[]⟩ : ByteArray), ([] : List TExpr), x7.1.N, (⟨#[]⟩ : ByteArray)⟩ : TAct) (ph0_0.y z) h11 k1 k6 q) ?_
  rintro x8 h v10 Φ_15 F8 ⟨ap11, fr14, v11, rfl, rfl, e8, h12, h13, h14⟩
  refine en ?_
  refine WT.thw (js := [1]) (R := [[pb0], ob v11]) rfl h14 (fun Φ_16 ap12 fr15 => ?_)
  replace h13 := h13.fr fr15 (ap12.q 1 rfl) dN
  replace h12 := fr15 _ _ ((ap12.q 0 rfl) _ (by simp)) h12
  exact wo [1, 0] [0, 0] (K (_, _, _, _, _, _, _, _, _) ⟨h, h13, h12⟩)
 refine att 5 [] rfl ?_
 refine ch h rfl ?_ ?_ <;> intro h
 ·refine atr 2 [0] rfl <| so1 0 Sz_3 rfl rfl ?_
  refine en ?_
  exact wo [0, 0] [0, 0] (K (_, _, _, _, _, _, _, _, _) ⟨h, k1, h1⟩)
 refine att 5 [] rfl ?_
 refine ch h rfl ?_ ?_ <;> intro h
 ·refine atr 2 [0] rfl <| so1 0 Sz_3 rfl rfl ?_
  refine en ?_
  exact wo [0, 0] [0, 0] (K (_, _, _, _, _, _, _, _, _) ⟨h, k1, h1⟩)
 refine atr 2 [] rfl <| lq (q_nilCheck rfl) rfl <| lf Fld_75_2 rfl rfl rfl ?_
 refine WL.thw (js := [1]) (R := [ob (.slice none 0 0)]) rfl h1 (fun Φ_17 ap13 fr16 => ?_)
 replace k1 := k1.fr fr16 (ap13.q 0 rfl) dN
 refine so1 0 Sz_4 rfl rfl ?_
 refine en ?_
 refine WT.frz (js := [0]) (R := [(b_2, .cells #[iV 0, .string (⟨#[]⟩ : ByteArray), (.slice none 0 0), iV 0, .string (⟨#[]⟩ : ByteArray)] 66 (0, 0)), (b_1, .cells #[iV 0, .string (⟨#[]⟩ : ByteArray), .slice none 0 0, iV 0, .string (⟨#[]⟩ : ByteArray)] 66 (0, 0))]) rfl (fun Φ_18 fr17 k7 => ?_)
 replace k1 := k1.f0 fr17
 exact wo [1, 0] [0, 0] (K (_, _, _, _, _, _, _, _, _) ⟨h, k1, k7⟩)
theorem m_i_parser_rule_ok (w0 : Base Ψ Φ [[pb0]].flatten) (p0 : Tparser) (ph0_0 : RSl RTToken 3 Ψ pG0_0 pv0_0 p0.tokens) (pp0 : Φ pb0 = some (.cells #[pv0_0, iV p0.at_, .bool p0.bad] 75 (0, 0))) {r : TRule × Tparser} (h : m_i_parser_rule N p0 = some r) :
  Calls prog 48 [pQ pb0].toArray w0.w (PostG Φ w0.w [[pb0]].flatten (fun Φ' Fs v => ∃ (sr_0_0 : Value) (Dr_0_0 : List Nat) (sr_0_1 : Value) (sr_0_2 : Value) (Dr_0_2 : List Nat), v = .agg [.string r.1.Name, iV r.1.Sal, sr_0_0, sr_0_1, sr_0_2].toArray ∧ Fs = [ob sr_0_0, Dr_0_0, ob sr_0_1, ob sr_0_2, Dr_0_2, [pb0]] ∧ OSl OTPat 35 3 Φ' Dr_0_0 sr_0_0 r.1.Pats ∧ OSl RTCond 62 11 Φ' [] sr_0_1 r.1.Conds ∧ OSl OTAct 66 5 Φ' Dr_0_2 sr_0_2 r.1.Acts ∧ r.2.tokens = p0.tokens ∧ Φ' pb0 = some (.cells #[pv0_0, iV r.2.at_, .bool r.2.bad] 75 (0, 0)))) := by
 refine eL func48 rfl ntmps48 rfl (L := [[pb0]]) w0 (fun hF => ?_)
 unfold m_i_parser_rule at h
 refine sr <| lnz Zr_28 rfl fun b_1 => arr 4 [] rfl <| kcb [0] h rfl rfl rfl rfl (fun b ap z q => m_i_parser_take_ok N b p0 2 (⟨#[114, 117, 108, 101]⟩ : ByteArray) (ph0_0.y z) pp0 q) ?_
 rintro x1 h v1 Φ_1 F1 ⟨ap1, fr1, rfl, rfl, e1, h1⟩
 refine arr 4 [] rfl <| kcb [0] h rfl rfl rfl rfl (fun b ap z q => m_i_parser_word_ok N b (⟨p0.tokens, x1.at_, x1.bad⟩ : Tparser) 2 (ph0_0.y z) h1 q) ?_
 rintro x2 h v2 Φ_2 F2 ⟨ap2, fr2, rfl, rfl, e2, h2⟩
 refine lq (q_field1 Fd1_77_2 rfl rfl) rfl <| lq (q_build (vs := [(0, .string x2.1.S)]) (C := #[.string x2.1.S, iV 0, .slice none 0 0, .slice none 0 0, .slice none 0 0]) Pl_28 Zr_28 rfl (fill_cons (C' := [.string x2.1.S, iV 0, .slice none 0 0, .slice none 0 0, .slice none 0 0]) rfl rfl rfl rfl rfl (fill_nil))) rfl <| lnz Zr_28 rfl fun b_2 => soN 0 Sz_28 rfl ⟨rfl, rfl, rfl, rfl, rfl, trivial⟩ rfl ?_
 refine arr 4 [] rfl <| kcb [0] h rfl rfl rfl rfl (fun b ap z q => m_i_parser_number_ok N b (⟨p0.tokens, x2.2.at_, x2.2.bad⟩ : Tparser) (ph0_0.y z) h2 q) ?_
 rintro x3 h v3 Φ_3 F3 ⟨ap3, fr3, rfl, rfl, e3, h3⟩
 refine lf Fld_28_1 rfl rfl rfl <| so1 0 Sz_3 rfl rfl ?_
 refine arr 4 [] rfl <| kcb [0] h rfl rfl rfl rfl (fun b ap z q => m_i_parser_take_ok N b (⟨p0.tokens, x3.2.at_, x3.2.bad⟩ : Tparser) 5 (⟨#[58]⟩ : ByteArray) (ph0_0.y z) h3 q) ?_
 rintro x4 h v4 Φ_4 F4 ⟨ap4, fr4, rfl, rfl, e4, h4⟩
 refine art 7 [] rfl <| wtS <| wt0 ?_
 have k1 := OSl.nil OTPat 35 3 Φ_4
 refine lin (σ := Hp × (List TPat) × Value × List Nat × Bool × Int × Bool) (fun s => [(0, pQ pb0), (2, pQ b_1), (3, pQ b_2), (4, .bool s.2.2.2.2.1)]) (fun s => St w0 s.1 [(b_2, .cells #[.string x2.1.S, iV x3.1, s.2.2.1, .slice none 0 0, .slice none 0 0] 28 (0, 0)), (b_1, .cells #[.string (⟨#[]⟩ : ByteArray), iV 0, .slice none 0 0, .slice none 0 0, .slice none 0 0] 28 (0, 0))] [s.2.2.2.1, ob s.2.2.1, [pb0]]) (fun m s => m_i_parser_rule_l1 N p0 x2 x3 m s.2.1 s.2.2.2.2.1 s.2.2.2.2.2.1 s.2.2.2.2.2.2 = some r ∧ (OSl OTPat 35 3 s.1 s.2.2.2.1 s.2.2.1 s.2.1) ∧ (s.1 pb0 = some (.cells #[pv0_0, iV s.2.2.2.2.2.1, .bool s.2.2.2.2.2.2] 75 (0, 0)))) (Φ_4, ([] : List TPat), (.slice none 0 0), [], true, x4.at_, x4.bad) N ⟨h, k1, h4⟩ (sx [0, 0, 0] [0, 0]) (fun n1 ih1 s hm => ?_)
 obtain ⟨Φ_5, s1, u1, D1, s2, s3, s4⟩ := s
 obtain ⟨h, k2, k3⟩ := hm
 dsimp only at h k2 k3 ⊢
 unfold m_i_parser_rule_l1 at h
 refine atr 5 [] rfl ?_
 obtain ⟨b5, hb_1, h⟩ := bs h
 refine WL.cutN 6 [(25, .bool b5), (0, pQ pb0), (2, pQ b_1), (3, pQ b_2)] ?_ (fun K => ?_)
 rotate_left
 ·refine sp 19 hb_1 rfl (fun hb_1 => ?_) fun hb_1 => ?_
  ·refine ly rfl rfl <| la rfl <| ly rfl rfl <| lq (q_nilCheck rfl) rfl <| ly rfl rfl <| lf Fld_75_2 rfl rfl rfl <| ly rfl rfl <| lgx 2 0 (rg_cells k3) rfl <| arr 2 [] rfl ?_
   cases hb_1
   exact ku K
  ·refine arr 6 [] rfl ?_
   cases hb_1
   exact ku K
 refine en ?_
 refine ch h rfl ?_ ?_ <;> intro h
 ·refine att 3 [] rfl <| wm [0, 1] [7] rfl <| amm 3 [0, 2, 1, 0, 2] [0, 1] rfl rfl ?_
  obtain ⟨x5, hx5, h⟩ := bs h
  refine WM.one 3 (by kernel_rfl) (mc rfl (fun _ v Φx D w1 hq hw => Kn.of Kf.nil (ai2 0 1 rfl rfl) hw) (k_call (js := [2]) (R := [D1, ob u1]) Fun_99 rfl rfl (fun w1 hw ap hl => m_i_parser_pat_ok N (bx hw ap hl) (⟨p0.tokens, s3, s4⟩ : Tparser) (ph0_0.y (hw.uo ap)) k3  hx5)) rfl ?_)
  rintro v5 Φ_6 F5 ⟨ap5, fr5, v6, rfl, rfl, h5, e5, h6⟩
  replace k2 := k2.fr fr5 (ap5.q 1 rfl) (ap5.q 0 rfl)
  have rc1 : RC OTPat 3 Φ_6 ([(ob v6 ++ [])] : List (List Nat)) [.string x5.1.Kind, v6, .bool x5.1.Not] ([x5.1] : List TPat) := RC.cons (c := [.string x5.1.Kind, v6, .bool x5.1.Not]) (cells := []) ⟨v6, rfl, rfl, h5⟩ rfl (RC.nil _ _ _)
  refine WM.one 4 (by kernel_rfl) (me rfl (fun _ v Φx D w1 hq hw => Kn.of Kf.nil (ai2 0 1 rfl rfl) hw) (e_lit (vs := [(0, .agg [.string x5.1.Kind, v6, .bool x5.1.Not].toArray)]) (C := #[.string x5.1.Kind, v6, .bool x5.1.Not]) OTPat.lasts Sl_24 Zr_35 rfl rfl rfl rfl (fill_made MC_35_1 (fill_cons (C' := [.string x5.1.Kind, v6, .bool x5.1.Not]) rfl rfl rfl rfl rfl (fill_nil))) rfl rc1 rfl (RC.kn OTPat.knows rc1)) rfl ?_)
  rintro v7 Φ_7 D2 ⟨fr6, h7⟩
  replace h7 : OSl OTPat 35 3 Φ_7 ((ob v6 ++ [])) v7 ([x5.1] : List TPat) := by simpa [List.append_assoc] using h7
  replace k2 := k2.f0 fr6
  replace h6 := fr6 _ _ (by simp) h6
  refine WM.conv (S' := St w0 Φ_7 [(b_2, .cells #[.string x2.1.S, iV x3.1, u1, .slice none 0 0, .slice none 0 0] 28 (0, 0)), (b_1, .cells #[.string (⟨#[]⟩ : ByteArray), iV 0, .slice none 0 0, .slice none 0 0, .slice none 0 0] 28 (0, 0))] [((ob v6 ++ [])), ob v7, [pb0], D1, ob u1]) (fun w1 hw => hw.merge (js := [1]) rfl (SP.eq (by simp [List.append_assoc, ob_nil]))) ?_
  obtain ⟨x6, hx6, h⟩ := bs h
  refine WM.one 5 (by kernel_rfl) (me rfl (fun _ v Φx D w1 hq hw => Kn.of Kf.nil (ai2 0 1 rfl rfl) hw) (e_appO OTPat.lasts OTPat.one Sl_24 Ei_35 rfl rfl rfl rfl rfl (js := [4]) (Rr := [((ob v6 ++ [])), ob v7, [pb0], D1]) rfl k2 h7 (fun ap => ap.q 3 rfl) (fun ap => ap.q 0 rfl) hx6) rfl ?_)
  rintro v8 Φ_8 D3 ⟨⟨ap6, fr7⟩, h8⟩
  replace h6 := fr7 _ _ ((ap6.q 2 rfl) _ (by simp)) h6
  refine WM.conv (S' := St w0 Φ_8 [(b_2, .cells #[.string x2.1.S, iV x3.1, u1, .slice none 0 0, .slice none 0 0] 28 (0, 0)), (b_1, .cells #[.string (⟨#[]⟩ : ByteArray), iV 0, .slice none 0 0, .slice none 0 0, .slice none 0 0] 28 (0, 0))] [(D1 ++ ((ob v6 ++ []))), ob v8, ob v7, [pb0]]) (fun w1 hw => hw.merge (js := [4, 1]) rfl (SP.eq (by simp))) <| amm 1 [6, 2] [0, 1] rfl rfl ?_
  refine on1 7 (ms1 0 rfl nk Sz_24 rfl h8.one ?_)
  refine WM.nil (by kernel_rfl) <| atr 3 [] rfl <| kcb [3] h rfl rfl rfl rfl (fun b ap z q => m_i_parser_skip_ok N b (⟨p0.tokens, x5.2.at_, x5.2.bad⟩ : Tparser) 5 (⟨#[44]⟩ : ByteArray) (ph0_0.y z) h6 q) ?_
  rintro x7 h v9 Φ_9 F6 ⟨ap7, fr8, rfl, rfl, e6, h9⟩
  replace h8 := h8.fr fr8 (ap7.q 1 rfl) (ap7.q 0 rfl)
  refine la rfl <| en ?_
  exact lb [1, 1, 0] [0, 0] (ih1 (_, _, _, _, _, _, _) ⟨h, h8, h9⟩)
 refine atr 5 [] rfl <| kcb [2] h rfl rfl rfl rfl (fun b ap z q => m_i_parser_skip_ok N b (⟨p0.tokens, s3, s4⟩ : Tparser) 5 (⟨#[43]⟩ : ByteArray) (ph0_0.y z) k3 q) ?_
 rintro x8 h v10 Φ_10 F7 ⟨ap8, fr9, rfl, rfl, e7, h10⟩
 replace k2 := k2.fr fr9 (ap8.q 1 rfl) (ap8.q 0 rfl)
 refine en <| wtS ?_
 have k4 := OSl.nil RTCond 62 11 Φ_10
 refine cut (σ := Hp × (List TCond) × Value × Int × Bool) (fun s => [(0, pQ pb0), (2, pQ b_1), (3, pQ b_2)]) (fun s => St w0 s.1 [(b_2, .cells #[.string x2.1.S, iV x3.1, u1, s.2.2.1, .slice none 0 0] 28 (0, 0)), (b_1, .cells #[.string (⟨#[]⟩ : ByteArray), iV 0, .slice none 0 0, .slice none 0 0, .slice none 0 0] 28 (0, 0))] [ob s.2.2.1, [pb0], D1, ob u1]) (fun s => m_i_parser_rule_j2 N p0 x2 x3 s1 s.2.1 s.2.2.2.1 s.2.2.2.2 = some r ∧ (OSl OTPat 35 3 s.1 D1 u1 s1) ∧ (OSl RTCond 62 11 s.1 [] s.2.2.1 s.2.1) ∧ (s.1 pb0 = some (.cells #[pv0_0, iV s.2.2.2.1, .bool s.2.2.2.2] 75 (0, 0)))) (fun s hm => ?_) (fun K => ?_)
 ·clear h
  obtain ⟨Φ_11, s5, u2, s6, s7⟩ := s
  obtain ⟨h, k2, k5, k6⟩ := hm
  dsimp only at h k2 k5 k6 ⊢
  unfold m_i_parser_rule_j2 at h
  refine sr <| la rfl <| kcb [1] h rfl rfl rfl rfl (fun b ap z q => m_i_parser_take_ok N b (⟨p0.tokens, s6, s7⟩ : Tparser) 5 (⟨#[45, 62]⟩ : ByteArray) (ph0_0.y z) k6 q) ?_
  rintro x9 h v11 Φ_12 F8 ⟨ap9, fr10, rfl, rfl, e8, h11⟩
  replace k2 := k2.fr fr10 (ap9.q 2 rfl) (ap9.q 1 rfl)
  replace k5 := k5.fr fr10 (ap9.q 0 rfl) dN
  refine art 7 [] rfl <| wtS <| wt0 ?_
  have k7 := OSl.nil OTAct 66 5 Φ_12
  refine lin (σ := Hp × (List TAct) × Value × List Nat × Bool × Int × Bool) (fun s => [(0, pQ pb0), (2, pQ b_1), (3, pQ b_2), (6, .bool s.2.2.2.2.1)]) (fun s => St w0 s.1 [(b_2, .cells #[.string x2.1.S, iV x3.1, u1, u2, s.2.2.1] 28 (0, 0)), (b_1, .cells #[.string (⟨#[]⟩ : ByteArray), iV 0, .slice none 0 0, .slice none 0 0, .slice none 0 0] 28 (0, 0))] [s.2.2.2.1, ob s.2.2.1, [pb0], ob u2, D1, ob u1]) (fun m s => m_i_parser_rule_l3 N p0 x2 x3 s1 s5 m s.2.1 s.2.2.2.2.1 s.2.2.2.2.2.1 s.2.2.2.2.2.2 = some r ∧ (OSl OTPat 35 3 s.1 D1 u1 s1) ∧ (OSl RTCond 62 11 s.1 [] u2 s5) ∧ (OSl OTAct 66 5 s.1 s.2.2.2.1 s.2.2.1 s.2.1) ∧ (s.1 pb0 = some (.cells #[pv0_0, iV s.2.2.2.2.2.1, .bool s.2.2.2.2.2.2] 75 (0, 0)))) (Φ_12, ([] : List TAct), (.slice none 0 0), [], true, x9.at_, x9.bad) N ⟨h, k2, k5, k7, h11⟩ (sx [0, 0, 0, 0, 0, 0] [0, 0]) (fun n3 ih3 s hm => ?_)
  obtain ⟨Φ_13, s8, u3, D4, s9, s10, s11⟩ := s
  obtain ⟨h, k2, k5, k8, k9⟩ := hm
  dsimp only at h k2 k5 k8 k9 ⊢
  unfold m_i_parser_rule_l3 at h
  refine atr 5 [] rfl ?_
  obtain ⟨b10, hb_2, h⟩ := bs h
  refine WL.cutN 6 [(63, .bool b10), (0, pQ pb0), (2, pQ b_1), (3, pQ b_2)] ?_ (fun K => ?_)
  rotate_left
  ·refine sp 57 hb_2 rfl (fun hb_2 => ?_) fun hb_2 => ?_
   ·refine ly rfl rfl <| la rfl <| ly rfl rfl <| lq (q_nilCheck rfl) rfl <| ly rfl rfl <| lf Fld_75_2 rfl rfl rfl <| ly rfl rfl <| lgx 2 0 (rg_cells k9) rfl <| arr 2 [] rfl ?_
    cases hb_2
    exact ku K
   ·refine arr 6 [] rfl ?_
    cases hb_2
    exact ku K
  refine en ?_
  refine ch h rfl ?_ ?_ <;> intro h
  ·refine att 3 [] rfl <| wm [0, 1] [7] rfl <| amm 3 [0, 4, 1, 0, 2] [0, 1] rfl rfl ?_
   obtain ⟨x10, hx10, h⟩ := bs h
   refine WM.one 3 (by kernel_rfl) (mc rfl (fun _ v Φx D w1 hq hw => Kn.of Kf.nil (ai2 0 1 rfl rfl) hw) (k_call (js := [2]) (R := [D4, ob u3, ob u2, D1, ob u1]) Fun_101 rfl rfl (fun w1 hw ap hl => m_i_parser_act_ok N (bx hw ap hl) (⟨p0.tokens, s10, s11⟩ : Tparser) (ph0_0.y (hw.uo ap)) k9  hx10)) rfl ?_)
   rintro v12 Φ_14 F9 ⟨ap10, fr11, v13, rfl, rfl, h12, e9, h13⟩
   replace k2 := k2.fr fr11 (ap10.q 4 rfl) (ap10.q 3 rfl)
   replace k5 := k5.fr fr11 (ap10.q 2 rfl) dN
   replace k8 := k8.fr fr11 (ap10.q 1 rfl) (ap10.q 0 rfl)
   have rc2 : RC OTAct 5 Φ_14 ([(ob v13 ++ [])] : List (List Nat)) [iV x10.1.Kind, .string x10.1.Name, v13, iV x10.1.N, .string x10.1.Undo] ([x10.1] : List TAct) := RC.cons (c := [iV x10.1.Kind, .string x10.1.Name, v13, iV x10.1.N, .string x10.1.Undo]) (cells := []) ⟨v13, rfl, rfl, h12⟩ rfl (RC.nil _ _ _)
   refine WM.one 4 (by kernel_rfl) (me rfl (fun _ v Φx D w1 hq hw => Kn.of Kf.nil (ai2 0 1 rfl rfl) hw) (e_lit (vs := [(0, .agg [iV x10.1.Kind, .string x10.1.Name, v13, iV x10.1.N, .string x10.1.Undo].toArray)]) (C := #[iV x10.1.Kind, .string x10.1.Name, v13, iV x10.1.N, .string x10.1.Undo]) OTAct.lasts Sl_26 Zr_66 rfl rfl rfl rfl (fill_made MC_66_1 (fill_cons (C' := [iV x10.1.Kind, .string x10.1.Name, v13, iV x10.1.N, .string x10.1.Undo]) rfl rfl rfl rfl rfl (fill_nil))) rfl rc2 rfl (RC.kn OTAct.knows rc2)) rfl ?_)
   rintro v14 Φ_15 D5 ⟨fr12, h14⟩
   replace h14 : OSl OTAct 66 5 Φ_15 ((ob v13 ++ [])) v14 ([x10.1] : List TAct) := by simpa [List.append_assoc] using h14
   replace k2 := k2.f0 fr12
   replace k5 := k5.f0 fr12
   replace k8 := k8.f0 fr12
   replace h13 := fr12 _ _ (by simp) h13
   refine WM.conv (S' := St w0 Φ_15 [(b_2, .cells #[.string x2.1.S, iV x3.1, u1, u2, u3] 28 (0, 0)), (b_1, .cells #[.string (⟨#[]⟩ : ByteArray), iV 0, .slice none 0 0, .slice none 0 0, .slice none 0 0] 28 (0, 0))] [((ob v13 ++ [])), ob v14, [pb0], D4, ob u3, ob u2, D1, ob u1]) (fun w1 hw => hw.merge (js := [1]) rfl (SP.eq (by simp [List.append_assoc, ob_nil]))) ?_
   obtain ⟨x11, hx11, h⟩ := bs h
   refine WM.one 5 (by kernel_rfl) (me rfl (fun _ v Φx D w1 hq hw => Kn.of Kf.nil (ai2 0 1 rfl rfl) hw) (e_appO OTAct.lasts OTAct.one Sl_26 Ei_66 rfl rfl rfl rfl rfl (js := [4]) (Rr := [((ob v13 ++ [])), ob v14, [pb0], D4, ob u2, D1, ob u1]) rfl k8 h14 (fun ap => ap.q 3 rfl) (fun ap => ap.q 0 rfl) hx11) rfl ?_)
   rintro v15 Φ_16 D6 ⟨⟨ap11, fr13⟩, h15⟩
   replace k2 := k2.fr fr13 (ap11.q 6 rfl) (ap11.q 5 rfl)
   replace k5 := k5.fr fr13 (ap11.q 4 rfl) dN
   replace h13 := fr13 _ _ ((ap11.q 2 rfl) _ (by simp)) h13
   refine WM.conv (S' := St w0 Φ_16 [(b_2, .cells #[.string x2.1.S, iV x3.1, u1, u2, u3] 28 (0, 0)), (b_1, .cells #[.string (⟨#[]⟩ : ByteArray), iV 0, .slice none 0 0, .slice none 0 0, .slice none 0 0] 28 (0, 0))] [(D4 ++ ((ob v13 ++ []))), ob v15, ob v14, [pb0], ob u2, D1, ob u1]) (fun w1 hw => hw.merge (js := [4, 1]) rfl (SP.eq (by simp))) <| amm 1 [6, 4] [0, 1] rfl rfl ?_
   refine on1 7 (ms1 0 rfl nk Sz_26 rfl h15.one ?_)
   refine WM.nil (by kernel_rfl) <| atr 3 [] rfl <| kcb [3] h rfl rfl rfl rfl (fun b ap z q => m_i_parser_skip_ok N b (⟨p0.tokens, x10.2.at_, x10.2.bad⟩ : Tparser) 5 (⟨#[44]⟩ : ByteArray) (ph0_0.y z) h13 q) ?_
   rintro x12 h v16 Φ_17 F10 ⟨ap12, fr14, rfl, rfl, e10, h16⟩
   replace k2 := k2.fr fr14 (ap12.q 5 rfl) (ap12.q 4 rfl)
   replace k5 := k5.fr fr14 (ap12.q 3 rfl) dN
   replace h15 := h15.fr fr14 (ap12.q 1 rfl) (ap12.q 0 rfl)
   refine la rfl <| en ?_
   exact lb [1, 1, 0, 1, 1, 1] [0, 0] (ih3 (_, _, _, _, _, _, _) ⟨h, k2, k5, h15, h16⟩)
  refine atr 4 [] rfl <| kcb [2] h rfl rfl rfl rfl (fun b ap z q => m_i_parser_take_ok N b (⟨p0.tokens, s10, s11⟩ : Tparser) 5 (⟨#[46]⟩ : ByteArray) (ph0_0.y z) k9 q) ?_
  rintro x13 h v17 Φ_18 F11 ⟨ap13, fr15, rfl, rfl, e11, h17⟩
  replace k2 := k2.fr fr15 (ap13.q 4 rfl) (ap13.q 3 rfl)
  replace k5 := k5.fr fr15 (ap13.q 2 rfl) dN
  replace k8 := k8.fr fr15 (ap13.q 1 rfl) (ap13.q 0 rfl)
  refine arr 4 [5] rfl <| soN 1 Sz_28 rfl ⟨rfl, rfl, k2.one, k5.one, k8.one, trivial⟩ rfl ?_
  refine en ?_
  exact rtg [5, 4, 3, 2, 1, 0] hF (resOk.one (rv_cell Tn_28 rfl (fun w1 hw => hw.rgO (i := 1) rfl 0 5 [.string x2.1.S, iV x3.1, u1, u2, u3] rfl) rfl)) rfl (by cases h; exact fun w1 hw => ⟨u1, D1, u2, u3, D4, rfl, rfl, k2, k5, k8, rfl, h17⟩)
 refine ch h rfl ?_ ?_ <;> intro h
 ·refine att 5 [] rfl ?_
  refine lin (σ := Hp × (List TCond) × Value × Bool × Int × Bool) (fun s => [(0, pQ pb0), (2, pQ b_1), (3, pQ b_2), (5, .bool s.2.2.2.1)]) (fun s => St w0 s.1 [(b_2, .cells #[.string x2.1.S, iV x3.1, u1, s.2.2.1, .slice none 0 0] 28 (0, 0)), (b_1, .cells #[.string (⟨#[]⟩ : ByteArray), iV 0, .slice none 0 0, .slice none 0 0, .slice none 0 0] 28 (0, 0))] [ob s.2.2.1, [pb0], D1, ob u1]) (fun m s => m_i_parser_rule_l4 N p0 x2 x3 s1 m s.2.1 s.2.2.2.1 s.2.2.2.2.1 s.2.2.2.2.2 = some r ∧ (OSl OTPat 35 3 s.1 D1 u1 s1) ∧ (OSl RTCond 62 11 s.1 [] s.2.2.1 s.2.1) ∧ (s.1 pb0 = some (.cells #[pv0_0, iV s.2.2.2.2.1, .bool s.2.2.2.2.2] 75 (0, 0)))) (Φ_10, ([] : List TCond), (.slice none 0 0), true, x8.2.at_, x8.2.bad) N ⟨h, k2, k4, h10⟩ (sx [0, 0, 0, 0] [0, 0]) (fun n4 ih4 s hm => ?_)
  obtain ⟨Φ_19, s12, u4, s13, s14, s15⟩ := s
  obtain ⟨h, k2, k10, k11⟩ := hm
  dsimp only at h k2 k10 k11 ⊢
  unfold m_i_parser_rule_l4 at h
  refine atr 5 [] rfl ?_
  obtain ⟨b14, hb_3, h⟩ := bs h
  refine WL.cutN 6 [(44, .bool b14), (0, pQ pb0), (2, pQ b_1), (3, pQ b_2)] ?_ (fun K => ?_)
  rotate_left
  ·refine sp 38 hb_3 rfl (fun hb_3 => ?_) fun hb_3 => ?_
   ·refine ly rfl rfl <| la rfl <| ly rfl rfl <| lq (q_nilCheck rfl) rfl <| ly rfl rfl <| lf Fld_75_2 rfl rfl rfl <| ly rfl rfl <| lgx 2 0 (rg_cells k11) rfl <| arr 2 [] rfl ?_
    cases hb_3
    exact ku K
   ·refine arr 6 [] rfl ?_
    cases hb_3
    exact ku K
  refine en ?_
  refine ch h rfl ?_ ?_ <;> intro h
  ·refine att 3 [] rfl <| wm [0, 1] [7] rfl <| amm 3 [0, 3, 1, 0, 2] [0, 1] rfl rfl ?_
   obtain ⟨x14, hx14, h⟩ := bs h
   refine WM.one 3 (by kernel_rfl) (mc rfl (fun _ v Φx D w1 hq hw => Kn.of Kf.nil (ai2 0 1 rfl rfl) hw) (k_call (js := [1]) (R := [ob u4, D1, ob u1]) Fun_100 rfl rfl (fun w1 hw ap hl => m_i_parser_cond_ok N (bx hw ap hl) (⟨p0.tokens, s14, s15⟩ : Tparser) (ph0_0.y (hw.uo ap)) k11  hx14)) rfl ?_)
   rintro v18 Φ_20 F12 ⟨ap14, fr16, rfl, rfl, e12, h18⟩
   replace k2 := k2.fr fr16 (ap14.q 2 rfl) (ap14.q 1 rfl)
   replace k10 := k10.fr fr16 (ap14.q 0 rfl) dN
   have rc3 : RC RTCond 11 Φ_20 ([[]] : List (List Nat)) [iV x14.1.Op, iV x14.1.L.K, .string x14.1.L.S, iV x14.1.L.V.K, iV x14.1.L.V.N, .string x14.1.L.V.S, iV x14.1.R.K, .string x14.1.R.S, iV x14.1.R.V.K, iV x14.1.R.V.N, .string x14.1.R.V.S] ([x14.1] : List TCond) := RC.cons (c := [iV x14.1.Op, iV x14.1.L.K, .string x14.1.L.S, iV x14.1.L.V.K, iV x14.1.L.V.N, .string x14.1.L.V.S, iV x14.1.R.K, .string x14.1.R.S, iV x14.1.R.V.K, iV x14.1.R.V.N, .string x14.1.R.V.S]) (cells := []) ⟨rfl, rfl⟩ rfl (RC.nil _ _ _)
   refine WM.one 4 (by kernel_rfl) (me rfl (fun _ v Φx D w1 hq hw => Kn.of Kf.nil (ai2 0 1 rfl rfl) hw) (e_lit (vs := [(0, .agg [iV x14.1.Op, iV x14.1.L.K, .string x14.1.L.S, iV x14.1.L.V.K, iV x14.1.L.V.N, .string x14.1.L.V.S, iV x14.1.R.K, .string x14.1.R.S, iV x14.1.R.V.K, iV x14.1.R.V.N, .string x14.1.R.V.S].toArray)]) (C := #[iV x14.1.Op, iV x14.1.L.K, .string x14.1.L.S, iV x14.1.L.V.K, iV x14.1.L.V.N, .string x14.1.L.V.S, iV x14.1.R.K, .string x14.1.R.S, iV x14.1.R.V.K, iV x14.1.R.V.N, .string x14.1.R.V.S]) RTCond.lasts Sl_25 Zr_62 rfl rfl rfl rfl (fill_made MC_62_1 (fill_cons (C' := [iV x14.1.Op, iV x14.1.L.K, .string x14.1.L.S, iV x14.1.L.V.K, iV x14.1.L.V.N, .string x14.1.L.V.S, iV x14.1.R.K, .string x14.1.R.S, iV x14.1.R.V.K, iV x14.1.R.V.N, .string x14.1.R.V.S]) rfl rfl rfl rfl rfl (fill_nil))) rfl rc3 rfl (by simpa using Kw.nil)) rfl ?_)
   rintro v19 Φ_21 D7 ⟨fr17, h19⟩
   replace h19 : OSl RTCond 62 11 Φ_21 [] v19 ([x14.1] : List TCond) := by simpa using h19
   replace k2 := k2.f0 fr17
   replace k10 := k10.f0 fr17
   replace h18 := fr17 _ _ (by simp) h18
   obtain ⟨x15, hx15, h⟩ := bs h
   refine WM.one 5 (by kernel_rfl) (me rfl (fun _ v Φx D w1 hq hw => Kn.of Kf.nil (ai2 0 1 rfl rfl) hw) (e_appF RTCond.lasts RTCond.one RTCond.flat Sl_25 Ei_62 rfl rfl rfl rfl rfl (js := [2]) (Rr := [ob v19, [pb0], D1, ob u1]) rfl k10 h19.rsl hx15) rfl ?_)
   rintro v20 Φ_22 D8 ⟨⟨ap15, fr18⟩, h20⟩
   replace k2 := k2.fr fr18 (ap15.q 3 rfl) (ap15.q 2 rfl)
   replace h18 := fr18 _ _ ((ap15.q 1 rfl) _ (by simp)) h18
   refine amm 1 [6, 3] [0, 1] rfl rfl ?_
   refine on1 7 (ms1 0 rfl nk Sz_25 rfl h20.one ?_)
   refine WM.nil (by kernel_rfl) <| atr 3 [] rfl <| kcb [2] h rfl rfl rfl rfl (fun b ap z q => m_i_parser_skip_ok N b (⟨p0.tokens, x14.2.at_, x14.2.bad⟩ : Tparser) 5 (⟨#[44]⟩ : ByteArray) (ph0_0.y z) h18 q) ?_
   rintro x16 h v21 Φ_23 F13 ⟨ap16, fr19, rfl, rfl, e13, h21⟩
   replace k2 := k2.fr fr19 (ap16.q 3 rfl) (ap16.q 2 rfl)
   replace h20 := h20.fr fr19 (ap16.q 0 rfl) dN
   refine la rfl <| en ?_
   exact lb [1, 0, 1, 1] [0, 0] (ih4 (_, _, _, _, _, _) ⟨h, k2, h20, h21⟩)
  refine xt rfl ?_
  exact wo [0, 0, 0, 0] [0, 0] (K (_, _, _, _, _) ⟨h, k2, k10, k11⟩)
 refine WT.skip ?_
 exact wo [0, 0, 0, 0] [0, 0] (K (_, _, _, _, _) ⟨h, k2, k4, h10⟩)
theorem m_sl_Equal_Si_Token_i_Token_ok (w0 : Base Ψ Φ []) (p0 : (List TToken)) (p1 : (List TToken)) (ph0 : RSl RTToken 3 Ψ pG0 pv0 p0) (ph1 : RSl RTToken 3 Ψ pG1 pv1 p1) {r : Bool} (h : m_sl_Equal_Si_Token_i_Token N p0 p1 = some r) :
  CB w0 prog 49 [pv0, pv1] (.bool r) := by
 refine eN func49 rfl ntmps49 rfl w0 fun hF => ?_
 unfold m_sl_Equal_Si_Token_i_Token at h
 refine atr 8 [] rfl <| lnr ph0 rfl <| la rfl <| lnr ph1 rfl <| la rfl <| en ?_
 refine ch h rfl ?_ ?_ <;> intro h
 ·refine att 4 [] rfl ?_
  exact rt hF h
 refine atr 5 [] rfl <| lnr ph0 rfl <| art 3 [] rfl ?_
 refine lin (σ := Int) (fun s => [(0, pv0), (1, pv1), (12, iV (p0.length : Int)), (13, iV s)]) (fun s => St w0 Φ [] []) (fun m s => m_sl_Equal_Si_Token_i_Token_l1 N p0 p1 m s = some r) (0) N h (sx [] []) (fun n1 ih1 s hm => ?_)
 revert hm; revert s; intro s1 hm
 have h : m_sl_Equal_Si_Token_i_Token_l1 N p0 p1 (n1 + 1) s1 = some r := hm
 show WT _ _ [(0, pv0), (1, pv1), (12, iV (p0.length : Int)), (13, iV s1)] (St w0 Φ [] [])
 unfold m_sl_Equal_Si_Token_i_Token_l1 at h
 refine att 5 [] rfl ?_
 refine ch h rfl ?_ ?_ <;> intro h
 ·refine att 9 [] rfl <| WT.draw mixed (by kernel_rfl) (fun _ h => h.drew) <| aqq 2 [] rfl ?_
  obtain ⟨x1, hx1, h⟩ := bs h
  obtain ⟨cs1, F1, -, g1, hb1, hs1, r1⟩ := ph0.el (idx_some hx1).2.2
  obtain ⟨rfl, -⟩ := r1
  refine qq (q_indexAddr Sl_44 rfl rfl ph0 hx1) rfl <| qq (q_loadN Tn_77 rfl (fun w1 hw => (g1.of_eq 0 3 rfl rfl : rg _ _ _ [iV x1.K, iV x1.N, .string x1.S]).rangeAt hw.in0) rfl) rfl <| aqq 2 [] rfl ?_
  obtain ⟨x2, hx2, h⟩ := bs h
  obtain ⟨cs2, F2, -, g2, hb2, hs2, r2⟩ := ph1.el (idx_some hx2).2.2
  obtain ⟨rfl, -⟩ := r2
  refine qq (q_indexAddr Sl_44 rfl rfl ph1 hx2) rfl <| qq (q_loadN Tn_77 rfl (fun w1 hw => (g2.of_eq 0 3 rfl rfl : rg _ _ _ [iV x2.K, iV x2.N, .string x2.S]).rangeAt hw.in0) rfl) rfl <| qq (q_neA EqT_77 rfl rfl rfl (r := eqT_TToken x1 x2) rfl) rfl <| WQ.nil ?_
  refine ch h rfl ?_ ?_ <;> intro h
  ·refine att 4 [] rfl ?_
   exact rt hF h
  refine att 6 [] rfl ?_
  exact lb [] [] (ih1 _ h)
 refine att 5 [] rfl ?_
 exact rt hF h
theorem m_i_ParseDef_ok  (w0 : Base Ψ Φ []) (p0 : ByteArray) (hT : Tab Ψ) {r : TDef × Bool} (h : m_i_ParseDef N p0 = some r) :
  Calls prog 13 [.string p0].toArray w0.w (PostG Φ w0.w [] (fun Φ' Fs v => ∃ (sr_0_0 : Value) (Dr_0_0 : List Nat), v = .tuple #[.agg [.string r.1.Name, sr_0_0].toArray, .bool r.2] ∧ Fs = [ob sr_0_0, Dr_0_0] ∧ OSl OTRule 28 5 Φ' Dr_0_0 sr_0_0 r.1.Rules)) := by
 refine eN func13 rfl ntmps13 rfl w0 fun hF => ?_
 unfold m_i_ParseDef at h
 refine sr <| lnz Zr_38 rfl fun b_1 => arr 5 [] rfl <| kab h rfl rfl rfl (fun b z q => m_i_Lex_ok N b p0 (hT.y z) q) ?_
 rintro x1 h v1 Φ_1 F1 ⟨ap1, fr1, v2, rfl, rfl, h1⟩
 refine art 12 [] rfl ?_
 refine ch h rfl ?_ ?_ <;> intro h
 ·refine sr <| lq (q_build (vs := []) (C := #[.string (⟨#[]⟩ : ByteArray), .slice none 0 0]) Pl_38 Zr_38 rfl (fill_nil)) rfl <| soN 0 Sz_38 rfl ⟨rfl, rfl, trivial⟩ rfl ?_
  refine la rfl <| en ?_
  refine WT.ret hF (resOk.two (rv_cell Tn_38 rfl (fun w1 hw => hw.rgO (i := 0) rfl 0 2 [.string (⟨#[]⟩ : ByteArray), .slice none 0 0] rfl) rfl) rfl) (fun w1 hw => ?_)
  cases h
  replace hw := hw.addNil
  replace hw := hw.addNil
  refine postG_of_St (js := [1, 0]) hw rfl ⟨.slice none 0 0, [], rfl, rfl, OSl.nil _ _ _ _⟩
 refine atr 4 [] rfl <| lq (q_build (vs := [(0, v2)]) (C := #[v2, iV 0, .bool false]) Pl_75 Zr_75 rfl (fill_cons (C' := [v2, iV 0, .bool false]) rfl (one_cells h1.one) rfl rfl rfl (fill_nil))) rfl <| lnz Zr_75 rfl fun b_2 => soN 0 Sz_75 rfl ⟨h1.one, rfl, rfl, trivial⟩ rfl ?_
 refine en <| sr ?_
 refine WL.frz (js := [0]) (R := [(b_1, .cells #[.string (⟨#[]⟩ : ByteArray), .slice none 0 0] 38 (0, 0))]) rfl (fun Φ_2 fr2 k1 => ?_)
 replace h1 := h1.f0 fr2
 refine kcb [0] h rfl rfl rfl rfl (fun b ap z q => m_i_parser_take_ok N b (⟨x1.1, 0, false⟩ : Tparser) 2 (⟨#[100, 101, 102]⟩ : ByteArray) (h1.rsl.x (Dj.app (ap.q 0 rfl) dN)) k1 q) ?_
 rintro x2 h v3 Φ_3 F2 ⟨ap2, fr3, rfl, rfl, e1, h2⟩
 replace h1 := h1.fr fr3 (ap2.q 0 rfl) dN
 refine en <| sr <| kcb [0] h rfl rfl rfl rfl (fun b ap z q => m_i_parser_word_ok N b (⟨x1.1, x2.at_, x2.bad⟩ : Tparser) 2 (h1.rsl.x (Dj.app (ap.q 0 rfl) dN)) h2 q) ?_
 rintro x3 h v4 Φ_4 F3 ⟨ap3, fr4, rfl, rfl, e2, h3⟩
 replace h1 := h1.fr fr4 (ap3.q 0 rfl) dN
 refine lq (q_field1 Fd1_77_2 rfl rfl) rfl <| lq (q_build (vs := [(0, .string x3.1.S)]) (C := #[.string x3.1.S, .slice none 0 0]) Pl_38 Zr_38 rfl (fill_cons (C' := [.string x3.1.S, .slice none 0 0]) rfl rfl rfl rfl rfl (fill_nil))) rfl <| lnz Zr_38 rfl fun b_3 => soN 0 Sz_38 rfl ⟨rfl, rfl, trivial⟩ rfl ?_
 refine en <| sr <| kcb [0] h rfl rfl rfl rfl (fun b ap z q => m_i_parser_take_ok N b (⟨x1.1, x3.2.at_, x3.2.bad⟩ : Tparser) 5 (⟨#[46]⟩ : ByteArray) (h1.rsl.x (Dj.app (ap.q 0 rfl) dN)) h3 q) ?_
 rintro x4 h v5 Φ_5 F4 ⟨ap4, fr5, rfl, rfl, e3, h4⟩
 replace h1 := h1.fr fr5 (ap4.q 0 rfl) dN
 refine art 3 [] rfl <| wtS <| wt0 ?_
 have k2 := OSl.nil OTRule 28 5 Φ_5
 refine lin (σ := Hp × (List TRule) × Value × List Nat × Int × Bool) (fun s => [(2, pQ b_1), (4, v2), (6, pQ b_2), (7, pQ b_3)]) (fun s => St w0 s.1 [(b_3, .cells #[.string x3.1.S, s.2.2.1] 38 (0, 0)), (b_1, .cells #[.string (⟨#[]⟩ : ByteArray), .slice none 0 0] 38 (0, 0))] [s.2.2.2.1, ob s.2.2.1, [b_2], ob v2]) (fun m s => m_i_ParseDef_l1 N x1 x3 m s.2.1 s.2.2.2.2.1 s.2.2.2.2.2 = some r ∧ (OSl RTToken 77 3 s.1 [] v2 x1.1) ∧ (OSl OTRule 28 5 s.1 s.2.2.2.1 s.2.2.1 s.2.1) ∧ (s.1 b_2 = some (.cells #[v2, iV s.2.2.2.2.1, .bool s.2.2.2.2.2] 75 (0, 0)))) (Φ_5, ([] : List TRule), (.slice none 0 0), [], x4.at_, x4.bad) N ⟨h, h1, k2, h4⟩ (sx [0, 0, 0, 0] [0, 0]) (fun n1 ih1 s hm => ?_)
 obtain ⟨Φ_6, s1, u1, D1, s2, s3⟩ := s
 obtain ⟨h, h1, k3, k4⟩ := hm
 dsimp only at h h1 k3 k4 ⊢
 unfold m_i_ParseDef_l1 at h
 refine atr 4 [2] rfl <| lgx 2 0 (rg_cells k4) rfl <| arr 2 [] rfl ?_
 obtain ⟨b5, hb_1, h⟩ := bs h
 refine WL.cutN 6 [(34, .bool b5), (2, pQ b_1), (4, v2), (6, pQ b_2), (7, pQ b_3)] ?_ (fun K => ?_)
 rotate_left
 ·refine sp 28 hb_1 rfl (fun hb_1 => ?_) fun hb_1 => ?_
  ·refine ly rfl rfl <| lf Fld_75_1 rfl rfl rfl <| ly rfl rfl <| lgx 1 0 (rg_cells k4) rfl <| ly rfl rfl <| la rfl <| ly rfl rfl <| lno h1 rfl <| arr 2 [] rfl ?_
   cases hb_1
   exact ku K
  ·refine arr 6 [] rfl ?_
   cases hb_1
   exact ku K
 refine en ?_
 refine ch h rfl ?_ ?_ <;> intro h
 ·refine att 2 [] rfl <| wm [0, 1] [6] rfl <| amm 2 [0, 1, 1, 0] [0, 1] rfl rfl ?_
  obtain ⟨x5, hx5, h⟩ := bs h
  refine WM.one 2 (by kernel_rfl) (mc rfl (fun _ v Φx D w1 hq hw => Kn.of Kf.nil (ai2 0 1 rfl rfl) hw) (k_call (js := [2]) (R := [D1, ob u1, ob v2]) Fun_48 rfl rfl (fun w1 hw ap hl => m_i_parser_rule_ok N (bx hw ap hl) (⟨x1.1, s2, s3⟩ : Tparser) (h1.rsl.x (Dj.app (ap.q 2 rfl) dN)) k4  hx5)) rfl ?_)
  rintro v6 Φ_7 F5 ⟨ap5, fr6, v7, D2, v8, v9, D3, rfl, rfl, h5, h6, h7, e4, h8⟩
  replace h1 := h1.fr fr6 (ap5.q 2 rfl) dN
  replace k3 := k3.fr fr6 (ap5.q 1 rfl) (ap5.q 0 rfl)
  have rc1 : RC OTRule 5 Φ_7 ([(ob v7 ++ D2) ++ ((ob v8 ++ []) ++ ((ob v9 ++ D3)))] : List (List Nat)) [.string x5.1.Name, iV x5.1.Sal, v7, v8, v9] ([x5.1] : List TRule) := RC.cons (c := [.string x5.1.Name, iV x5.1.Sal, v7, v8, v9]) (cells := []) ⟨v7, D2, v8, v9, D3, rfl, rfl, h5, h6, h7⟩ rfl (RC.nil _ _ _)
  refine WM.one 3 (by kernel_rfl) (me rfl (fun _ v Φx D w1 hq hw => Kn.of Kf.nil (ai2 0 1 rfl rfl) hw) (e_lit (vs := [(0, .agg [.string x5.1.Name, iV x5.1.Sal, v7, v8, v9].toArray)]) (C := #[.string x5.1.Name, iV x5.1.Sal, v7, v8, v9]) OTRule.lasts Sl_36 Zr_28 rfl rfl rfl rfl (fill_made MC_28_1 (fill_cons (C' := [.string x5.1.Name, iV x5.1.Sal, v7, v8, v9]) rfl rfl rfl rfl rfl (fill_nil))) rfl rc1 rfl (RC.kn OTRule.knows rc1)) rfl ?_)
  rintro v10 Φ_8 D4 ⟨fr7, h9⟩
  replace h9 : OSl OTRule 28 5 Φ_8 ((ob v7 ++ D2) ++ ((ob v8 ++ []) ++ ((ob v9 ++ D3)))) v10 ([x5.1] : List TRule) := by simpa [List.append_assoc] using h9
  replace h1 := h1.f0 fr7
  replace k3 := k3.f0 fr7
  replace h8 := fr7 _ _ (by simp) h8
  refine WM.conv (S' := St w0 Φ_8 [(b_3, .cells #[.string x3.1.S, u1] 38 (0, 0)), (b_1, .cells #[.string (⟨#[]⟩ : ByteArray), .slice none 0 0] 38 (0, 0))] [((ob v7 ++ D2) ++ ((ob v8 ++ []) ++ ((ob v9 ++ D3)))), ob v10, [b_2], D1, ob u1, ob v2]) (fun w1 hw => hw.merge (js := [1, 1, 1, 1, 1]) rfl (SP.eq (by simp [List.append_assoc, ob_nil]))) ?_
  obtain ⟨x6, hx6, h⟩ := bs h
  refine WM.one 4 (by kernel_rfl) (me rfl (fun _ v Φx D w1 hq hw => Kn.of Kf.nil (ai2 0 1 rfl rfl) hw) (e_appO OTRule.lasts OTRule.one Sl_36 Ei_28 rfl rfl rfl rfl rfl (js := [4]) (Rr := [((ob v7 ++ D2) ++ ((ob v8 ++ []) ++ ((ob v9 ++ D3)))), ob v10, [b_2], D1, ob v2]) rfl k3 h9 (fun ap => ap.q 3 rfl) (fun ap => ap.q 0 rfl) hx6) rfl ?_)
  rintro v11 Φ_9 D5 ⟨⟨ap6, fr8⟩, h10⟩
  replace h1 := h1.fr fr8 (ap6.q 4 rfl) dN
  replace h8 := fr8 _ _ ((ap6.q 2 rfl) _ (by simp)) h8
  refine WM.conv (S' := St w0 Φ_9 [(b_3, .cells #[.string x3.1.S, u1] 38 (0, 0)), (b_1, .cells #[.string (⟨#[]⟩ : ByteArray), .slice none 0 0] 38 (0, 0))] [(D1 ++ ((ob v7 ++ D2) ++ ((ob v8 ++ []) ++ ((ob v9 ++ D3))))), ob v11, ob v10, [b_2], ob v2]) (fun w1 hw => hw.merge (js := [4, 1]) rfl (SP.eq (by simp))) <| amm 1 [5, 1] [0, 1] rfl rfl ?_
  refine on1 6 (ms1 0 rfl nk Sz_36 rfl h10.one ?_)
  refine WM.nil (by kernel_rfl) <| ib ?_
  exact lb [0, 0, 1, 1] [0, 0] (ih1 (_, _, _, _, _, _) ⟨h, h1, h10, h8⟩)
 refine atr 5 [2] rfl <| lgx 2 0 (rg_cells k4) rfl <| la rfl ?_
 obtain ⟨b7, hb_2, h⟩ := bs h
 refine WL.cutN 4 [(47, .bool b7), (2, pQ b_1), (4, v2), (7, pQ b_3)] ?_ (fun K => ?_)
 rotate_left
 ·refine sp 43 hb_2 rfl (fun hb_2 => ?_) fun hb_2 => ?_
  ·refine arr 4 [] rfl ?_
   cases hb_2
   exact ku K
  ·refine ly rfl rfl <| ld2 Tn_38 0 rfl <| ly rfl rfl <| qc hb_2 (m_i_DefOk_ok N · (⟨x3.1.S, s1⟩ : TDef) (k3.rslG OTRule.gives) ·) rfl rfl rfl fun x7 hb_2 => arr 2 [] rfl ?_
   cases hb_2
   exact ku K
 refine en ?_
 refine ch h rfl ?_ ?_ <;> intro h
 ·refine sr <| lq (q_build (vs := []) (C := #[.string (⟨#[]⟩ : ByteArray), .slice none 0 0]) Pl_38 Zr_38 rfl (fill_nil)) rfl <| soN 1 Sz_38 rfl ⟨rfl, rfl, trivial⟩ rfl ?_
  refine la rfl <| en ?_
  refine WT.ret hF (resOk.two (rv_cell Tn_38 rfl (fun w1 hw => hw.rgO (i := 1) rfl 0 2 [.string (⟨#[]⟩ : ByteArray), .slice none 0 0] rfl) rfl) rfl) (fun w1 hw => ?_)
  cases h
  replace hw := hw.addNil
  replace hw := hw.addNil
  refine postG_of_St (js := [1, 0]) hw rfl ⟨.slice none 0 0, [], rfl, rfl, OSl.nil _ _ _ _⟩
 refine atr 4 [2] rfl <| qz h (fun b z q => m_i_DefText_ok N b (⟨x3.1.S, s1⟩ : TDef) (hT.y z) (k3.rslG OTRule.gives) q) rfl rfl rfl fun x8 h => kab h rfl rfl rfl (fun b z q => m_i_Lex_ok N b x8 (hT.y z) q) ?_
 rintro x9 h v12 Φ_10 F6 ⟨ap7, fr9, v13, rfl, rfl, h11⟩
 replace h1 := h1.fr fr9 (ap7.q 3 rfl) dN
 replace k3 := k3.fr fr9 (ap7.q 1 rfl) (ap7.q 0 rfl)
 refine arr 11 [] rfl <| qc h (m_sl_Equal_Si_Token_i_Token_ok N · x9.1 x1.1 h11.rsl h1.rsl ·) rfl rfl rfl fun x10 h => la rfl <| en ?_
 refine ch h rfl ?_ ?_ <;> intro h
 ·refine sr <| lq (q_build (vs := []) (C := #[.string (⟨#[]⟩ : ByteArray), .slice none 0 0]) Pl_38 Zr_38 rfl (fill_nil)) rfl <| soN 1 Sz_38 rfl ⟨rfl, rfl, trivial⟩ rfl ?_
  refine la rfl <| en ?_
  refine WT.ret hF (resOk.two (rv_cell Tn_38 rfl (fun w1 hw => hw.rgO (i := 1) rfl 0 2 [.string (⟨#[]⟩ : ByteArray), .slice none 0 0] rfl) rfl) rfl) (fun w1 hw => ?_)
  cases h
  replace hw := hw.addNil
  replace hw := hw.addNil
  refine postG_of_St (js := [1, 0]) hw rfl ⟨.slice none 0 0, [], rfl, rfl, OSl.nil _ _ _ _⟩
 refine atr 4 [2] rfl <| soN 1 Sz_38 rfl ⟨rfl, k3.one, trivial⟩ rfl ?_
 refine la rfl <| en ?_
 exact rtg [2, 1] hF (resOk.two (rv_cell Tn_38 rfl (fun w1 hw => hw.rgO (i := 1) rfl 0 2 [.string x3.1.S, u1] rfl) rfl) rfl) rfl (by cases h; exact fun w1 hw => ⟨u1, D1, rfl, rfl, k3⟩)
theorem m_s_l6Has_ok (w0 : Base Ψ Φ []) (p0 : (List ByteArray)) (p1 : ByteArray) (ph0 : RSl RS 1 Ψ pG0 pv0 p0) {r : Bool} (h : m_s_l6Has N p0 p1 = some r) :
  CB w0 prog 90 [pv0, .string p1] (.bool r) := by
 refine eN func90 rfl ntmps90 rfl w0 fun hF => ?_
 unfold m_s_l6Has at h
 refine att 10 [] rfl ?_
 refine lin (σ := Int) (fun s => [(0, pv0), (1, .string p1), (5, iV s)]) (fun s => St w0 Φ [] []) (fun m s => m_s_l6Has_l1 N p0 p1 m s = some r) (0) N h (sx [] []) (fun n1 ih1 s hm => ?_)
 revert hm; revert s; intro s1 hm
 have h : m_s_l6Has_l1 N p0 p1 (n1 + 1) s1 = some r := hm
 show WT _ _ [(0, pv0), (1, .string p1), (5, iV s1)] (St w0 Φ [] [])
 unfold m_s_l6Has_l1 at h
 refine atr 5 [] rfl <| lnr ph0 rfl <| la rfl <| en ?_
 refine ch h rfl ?_ ?_ <;> intro h
 ·refine atr 7 [] rfl ?_
  obtain ⟨x1, hx1, h⟩ := bs h
  obtain ⟨cs1, F1, -, g1, hb1, hs1, r1⟩ := ph0.el (idx_some hx1).2.2
  obtain ⟨rfl, -⟩ := r1
  refine lia ph0 hx1 rfl <| lhx 0 0 g1 rfl <| art 3 [] rfl ?_
  refine ch h rfl ?_ ?_ <;> intro h
  ·refine att 4 [] rfl ?_
   exact rt hF h
  refine att 7 [] rfl ?_
  exact lb [] [] (ih1 _ h)
 refine att 5 [] rfl ?_
 exact rt hF h
theorem m_s_VarsOf_ok (w0 : Base Ψ Φ []) (p0 : TPat) (ph0_0 : RSl RTArg 5 Ψ pG0_0 pv0_0 p0.Args) {r : (List ByteArray)} (h : m_s_VarsOf N p0 = some r) :
  Calls prog 89 [.agg [.string p0.Kind, pv0_0, .bool p0.Not].toArray].toArray w0.w (PostG Φ w0.w [] (fun Φ' Fs v => ∃ (sr_0_0 : Value), v = sr_0_0 ∧ Fs = [ob sr_0_0] ∧ OSl RS 9 1 Φ' [] sr_0_0 r)) := by
 refine eN func89 rfl ntmps89 rfl w0 fun hF => ?_
 unfold m_s_VarsOf at h
 refine sr <| lbx rfl fun b_1 => arr 4 [] rfl <| le' (e_lit0 RS.lasts Sl_68 Zr_9 rfl rfl) rfl ?_
 rintro v1 Φ_1 D1 ⟨fr1, h1⟩
 refine art 8 [] rfl ?_
 refine lin (σ := Hp × (List ByteArray) × Value × Int) (fun s => [(1, pQ b_1), (3, s.2.2.1), (4, iV s.2.2.2)]) (fun s => St w0 s.1 [(b_1, .cells #[.string p0.Kind, pv0_0, .bool p0.Not] 35 (0, 0))] [ob s.2.2.1]) (fun m s => m_s_VarsOf_l1 N p0 m s.2.1 s.2.2.2 = some r ∧ (OSl RS 9 1 s.1 [] s.2.2.1 s.2.1)) (Φ_1, ([] : List ByteArray), v1, 0) N ⟨h, h1⟩ (sx [0] [0]) (fun n1 ih1 s hm => ?_)
 obtain ⟨Φ_2, s1, u1, s2⟩ := s
 obtain ⟨h, k1⟩ := hm
 dsimp only at h k1 ⊢
 unfold m_s_VarsOf_l1 at h
 refine atr 6 [1, 0] rfl <| lnr ph0_0 rfl <| la rfl <| en ?_
 refine ch h rfl ?_ ?_ <;> intro h
 ·refine atr 8 [1, 0] rfl ?_
  obtain ⟨x1, hx1, h⟩ := bs h
  obtain ⟨cs1, F1, -, g1, hb1, hs1, r1⟩ := ph0_0.el (idx_some hx1).2.2
  obtain ⟨rfl, -⟩ := r1
  refine lia ph0_0 hx1 rfl <| lf Fld_60_0 rfl rfl rfl <| lhx 0 0 g1 rfl <| arr 2 [] rfl ?_
  obtain ⟨b1, hb_1, h⟩ := bs h
  refine WL.cutN 10 [(30, .bool b1), (1, pQ b_1), (3, u1), (4, iV s2)] ?_ (fun K => ?_)
  rotate_left
  ·refine sp 20 hb_1 rfl (fun hb_1 => ?_) fun hb_1 => ?_
   ·refine arr 4 [1, 0] rfl <| ly rfl rfl ?_
    obtain ⟨x2, hx2, hb_1⟩ := bs hb_1
    obtain ⟨cs2, F2, -, g2, hb2, hs2, r2⟩ := ph0_0.el (idx_some hx2).2.2
    obtain ⟨rfl, -⟩ := r2
    refine lia ph0_0 hx2 rfl <| ly rfl rfl <| lf Fld_60_1 rfl rfl rfl <| ly rfl rfl <| lhx 1 0 g2 rfl <| ly rfl rfl <| qc hb_1 (m_s_l6Has_ok N · s1 x2.S k1.rsl ·) rfl rfl rfl fun x3 hb_1 => arr 2 [] rfl ?_
    cases hb_1
    exact ku K
   ·refine arr 10 [] rfl ?_
    cases hb_1
    exact ku K
  refine en ?_
  refine ch h rfl ?_ ?_ <;> intro h
  ·refine atr 5 [1, 0] rfl ?_
   obtain ⟨x4, hx4, h⟩ := bs h
   obtain ⟨cs3, F3, -, g3, hb3, hs3, r3⟩ := ph0_0.el (idx_some hx4).2.2
   obtain ⟨rfl, -⟩ := r3
   refine lia ph0_0 hx4 rfl <| lf Fld_60_1 rfl rfl rfl <| lhx 1 0 g3 rfl ?_
   have rc2 : RC RS 1 Φ_2 ([[]] : List (List Nat)) [.string x4.S] ([x4.S] : List ByteArray) := RC.cons (c := [.string x4.S]) (cells := []) ⟨rfl, rfl⟩ rfl (RC.nil _ _ _)
   refine le' (e_lit (vs := [(0, .string x4.S)]) (C := #[.string x4.S]) RS.lasts Sl_68 Zr_9 rfl rfl rfl rfl (fill_made MC_9_1 (fill_cons (C' := [.string x4.S]) rfl rfl rfl rfl rfl (fill_nil))) rfl rc2 rfl (by simpa using Kw.nil)) rfl ?_
   rintro v2 Φ_3 D2 ⟨fr2, h2⟩
   replace h2 : OSl RS 9 1 Φ_3 [] v2 ([x4.S] : List ByteArray) := by simpa using h2
   replace k1 := k1.f0 fr2
   obtain ⟨x5, hx5, h⟩ := bs h
   refine le' (e_appF RS.lasts RS.one RS.flat Sl_68 Ei_9 rfl rfl rfl rfl rfl (js := [1]) (Rr := [ob v2]) rfl k1 h2.rsl hx5) rfl ?_
   rintro v3 Φ_4 D3 ⟨⟨ap1, fr3⟩, h3⟩
   refine art 8 [] rfl ?_
   exact lb [0] [0] (ih1 (_, _, _, _) ⟨h, h3⟩)
  refine att 7 [] rfl ?_
  exact lb [0] [0] (ih1 (_, _, _, _) ⟨h, k1⟩)
 refine att 6 [] rfl ?_
 exact rtg [0] hF (resOk.one rfl) rfl (by cases h; exact fun w1 hw => ⟨u1, rfl, rfl, k1⟩)
theorem m_s_PosVars_ok (w0 : Base Ψ Φ []) (p0 : TRule) (ph0_0 : RSl RTPat 3 Ψ pG0_0 pv0_0 p0.Pats) (ph0_1 : RSl RTCond 11 Ψ pG0_1 pv0_1 p0.Conds) (ph0_2 : RSl RTAct 5 Ψ pG0_2 pv0_2 p0.Acts) {r : (List ByteArray)} (h : m_s_PosVars N p0 = some r) :
  Calls prog 39 [.agg [.string p0.Name, iV p0.Sal, pv0_0, pv0_1, pv0_2].toArray].toArray w0.w (PostG Φ w0.w [] (fun Φ' Fs v => ∃ (sr_0_0 : Value), v = sr_0_0 ∧ Fs = [ob sr_0_0] ∧ OSl RS 9 1 Φ' [] sr_0_0 r)) := by
 refine eN func39 rfl ntmps39 rfl w0 fun hF => ?_
 unfold m_s_PosVars at h
 refine sr <| lbx rfl fun b_1 => arr 4 [] rfl <| le' (e_lit0 RS.lasts Sl_68 Zr_9 rfl rfl) rfl ?_
 rintro v1 Φ_1 D1 ⟨fr1, h1⟩
 refine art 8 [] rfl ?_
 refine lin (σ := Hp × (List ByteArray) × Value × Int) (fun s => [(1, pQ b_1), (3, s.2.2.1), (4, iV s.2.2.2)]) (fun s => St w0 s.1 [(b_1, .cells #[.string p0.Name, iV p0.Sal, pv0_0, pv0_1, pv0_2] 28 (0, 0))] [ob s.2.2.1]) (fun m s => m_s_PosVars_l1 N p0 m s.2.1 s.2.2.2 = some r ∧ (OSl RS 9 1 s.1 [] s.2.2.1 s.2.1)) (Φ_1, ([] : List ByteArray), v1, 0) N ⟨h, h1⟩ (sx [0] [0]) (fun n1 ih1 s hm => ?_)
 obtain ⟨Φ_2, s1, u1, s2⟩ := s
 obtain ⟨h, k1⟩ := hm
 dsimp only at h k1 ⊢
 unfold m_s_PosVars_l1 at h
 refine atr 6 [2, 0] rfl <| lnr ph0_0 rfl <| la rfl <| en ?_
 refine ch h rfl ?_ ?_ <;> intro h
 ·refine atr 8 [2, 0] rfl ?_
  obtain ⟨x1, hx1, h⟩ := bs h
  obtain ⟨cs1, F1, -, g1, hb1, hs1, r1⟩ := ph0_0.el (idx_some hx1).2.2
  obtain ⟨v2, G1, rfl, hq1, h2⟩ := r1
  obtain rfl := hq1.symm
  refine lia ph0_0 hx1 rfl <| lhx 0 3 g1 rfl <| kab h rfl rfl rfl (fun b z q => m_s_VarsOf_ok N b x1 (h2.y z) q) ?_
  rintro x2 h v3 Φ_3 F2 ⟨ap1, fr2, v4, rfl, rfl, h3⟩
  replace k1 := k1.fr fr2 (ap1.q 0 rfl) dN
  refine art 7 [] rfl ?_
  refine lin (σ := Hp × (List ByteArray) × Value × Int) (fun s => [(1, pQ b_1), (3, s.2.2.1), (4, iV s2), (5, v3), (6, iV s.2.2.2)]) (fun s => St w0 s.1 [(b_1, .cells #[.string p0.Name, iV p0.Sal, pv0_0, pv0_1, pv0_2] 28 (0, 0))] [ob v3, ob s.2.2.1]) (fun m s => m_s_PosVars_l2 N p0 s2 (m_s_PosVars_l1 N p0 n1) x2 m s.2.1 s.2.2.2 = some r ∧ (OSl RS 9 1 s.1 [] s.2.2.1 s.2.1) ∧ (OSl RS 9 1 s.1 [] v3 x2)) (Φ_3, s1, u1, 0) N ⟨h, k1, h3⟩ (sx [0, 0] [0]) (fun n2 ih2 s hm => ?_)
  obtain ⟨Φ_4, s3, u2, s4⟩ := s
  obtain ⟨h, k2, h3⟩ := hm
  dsimp only at h k2 h3 ⊢
  unfold m_s_PosVars_l2 at h
  refine atr 5 [] rfl <| lno h3 rfl <| arr 2 [] rfl ?_
  obtain ⟨b1, hb_1, h⟩ := bs h
  refine WL.cutN 8 [(33, .bool b1), (1, pQ b_1), (3, u2), (4, iV s2), (5, v3), (6, iV s4)] ?_ (fun K => ?_)
  rotate_left
  ·refine sp 25 hb_1 rfl (fun hb_1 => ?_) fun hb_1 => ?_
   ·refine arr 3 [2, 0] rfl <| ly rfl rfl ?_
    obtain ⟨x3, hx3, hb_1⟩ := bs hb_1
    obtain ⟨cs2, F3, -, g2, hb2, hs2, r2⟩ := ph0_0.el (idx_some hx3).2.2
    obtain ⟨v5, G2, rfl, hq2, h4⟩ := r2
    obtain rfl := hq2.symm
    refine lia ph0_0 hx3 rfl <| ly rfl rfl <| lf Fld_35_2 rfl rfl rfl <| ly rfl rfl <| lhx 2 0 g2 rfl <| arr 2 [] rfl ?_
    cases hb_1
    exact ku K
   ·refine arr 8 [] rfl ?_
    cases hb_1
    exact ku K
  refine en ?_
  refine ch h rfl ?_ ?_ <;> intro h
  ·refine atr 8 [] rfl ?_
   obtain ⟨x4, hx4, h⟩ := bs h
   obtain ⟨cs3, F4, -, g3, hb3, hs3, r3⟩ := h3.elS (idx_some hx4).2.2
   obtain ⟨rfl, -⟩ := r3
   refine lio h3 hx4 rfl <| lgx 0 0 g3 rfl <| qc h (m_s_l6Has_ok N · s3 x4 k2.rsl ·) rfl rfl rfl fun x5 h => la rfl <| en ?_
   refine ch h rfl ?_ ?_ <;> intro h
   ·refine atr 4 [] rfl ?_
    obtain ⟨x6, hx6, h⟩ := bs h
    obtain ⟨cs4, F5, -, g4, hb4, hs4, r4⟩ := h3.elS (idx_some hx6).2.2
    obtain ⟨rfl, -⟩ := r4
    refine lio h3 hx6 rfl <| lgx 0 0 g4 rfl ?_
    have rc2 : RC RS 1 Φ_4 ([[]] : List (List Nat)) [.string x6] ([x6] : List ByteArray) := RC.cons (c := [.string x6]) (cells := []) ⟨rfl, rfl⟩ rfl (RC.nil _ _ _)
    refine le' (e_lit (vs := [(0, .string x6)]) (C := #[.string x6]) RS.lasts Sl_68 Zr_9 rfl rfl rfl rfl (fill_made MC_9_1 (fill_cons (C' := [.string x6]) rfl rfl rfl rfl rfl (fill_nil))) rfl rc2 rfl (by simpa using Kw.nil)) rfl ?_
    rintro v6 Φ_5 D2 ⟨fr3, h5⟩
    replace h5 : OSl RS 9 1 Φ_5 [] v6 ([x6] : List ByteArray) := by simpa using h5
    replace k2 := k2.f0 fr3
    replace h3 := h3.f0 fr3
    obtain ⟨x7, hx7, h⟩ := bs h
    refine le' (e_appF RS.lasts RS.one RS.flat Sl_68 Ei_9 rfl rfl rfl rfl rfl (js := [2]) (Rr := [ob v6, ob v3]) rfl k2 h5.rsl hx7) rfl ?_
    rintro v7 Φ_6 D3 ⟨⟨ap2, fr4⟩, h6⟩
    replace h3 := h3.fr fr4 (ap2.q 1 rfl) dN
    refine art 8 [] rfl ?_
    exact lb [2, 0] [0] (ih2 (_, _, _, _) ⟨h, h6, h3⟩)
   refine att 7 [] rfl ?_
   exact lb [0, 0] [0] (ih2 (_, _, _, _) ⟨h, k2, h3⟩)
  refine att 7 [] rfl ?_
  exact lb [1] [0] (ih1 (_, _, _, _) ⟨h, k2⟩)
 refine att 6 [] rfl ?_
 exact rtg [0] hF (resOk.one rfl) rfl (by cases h; exact fun w1 hw => ⟨u1, rfl, rfl, k1⟩)
theorem m_s_l1In_ok  (w0 : Base Ψ Φ []) (p0 : Int) (p1 : Int) (p2 : Int)  {r : Bool} (h : m_s_l1In N p0 p1 p2 = some r) :
  CB w0 prog 41 [iV p0, iV p1, iV p2] (.bool r) := by
 refine eN func41 rfl ntmps41 rfl w0 fun hF => ?_
 unfold m_s_l1In at h
 refine atr 10 [] rfl ?_
 obtain ⟨b1, hb_1, h⟩ := bs h
 refine WL.cutN 4 [(14, .bool b1), (6, .bool false)] ?_ (fun K => ?_)
 rotate_left
 ·refine sp 10 hb_1 rfl (fun hb_1 => ?_) fun hb_1 => ?_
  ·refine arr 4 [] rfl ?_
   cases hb_1
   exact ku K
  ·refine arr 4 [] rfl ?_
   cases hb_1
   exact ku K
 refine la rfl <| en ?_
 exact rt hF h
theorem m_s_l1Letter_ok  (w0 : Base Ψ Φ []) (p0 : Int)  {r : Bool} (h : m_s_l1Letter N p0 = some r) :
  CB w0 prog 91 [.int .u8 p0] (.bool r) := by
 refine eN func91 rfl ntmps91 rfl w0 fun hF => ?_
 unfold m_s_l1Letter at h
 refine atr 7 [] rfl <| lq (q_convI Ik_5 Ik_3 rfl) rfl <| qc h (m_s_l1In_ok N · (wz p0) 97 122 ·) rfl rfl rfl fun x1 h => la rfl ?_
 obtain ⟨b1, hb_1, h⟩ := bs h
 refine WL.cutN 4 [(10, .bool b1), (0, .int .u8 p0), (2, .bool false)] ?_ (fun K => ?_)
 rotate_left
 ·refine sp 6 hb_1 rfl (fun hb_1 => ?_) fun hb_1 => ?_
  ·refine arr 4 [] rfl ?_
   cases hb_1
   exact ku K
  ·refine ly rfl rfl <| la rfl <| ly rfl rfl <| lq (q_convI Ik_5 Ik_3 rfl) rfl <| ly rfl rfl <| qc hb_1 (m_s_l1In_ok N · (wz p0) 48 57 ·) rfl rfl rfl fun x2 hb_1 => la rfl ?_
   cases hb_1
   exact ku K
 refine la rfl ?_
 obtain ⟨b2, hb_2, h⟩ := bs h
 refine WL.cutN 3 [(14, .bool b2), (2, .bool false)] ?_ (fun K => ?_)
 rotate_left
 ·refine sp 11 hb_2 rfl (fun hb_2 => ?_) fun hb_2 => ?_
  ·refine arr 3 [] rfl ?_
   cases hb_2
   exact ku K
  ·refine arr 3 [] rfl ?_
   cases hb_2
   exact ku K
 refine la rfl <| en ?_
 exact rt hF h
theorem m_s_NameOk_ok  (w0 : Base Ψ Φ []) (p0 : ByteArray)  {r : Bool} (h : m_s_NameOk N p0 = some r) :
  CB w0 prog 40 [.string p0] (.bool r) := by
 refine eN func40 rfl ntmps40 rfl w0 fun hF => ?_
 unfold m_s_NameOk at h
 refine att 10 [] rfl ?_
 refine lin (σ := Int) (fun s => [(0, .string p0), (3, iV s)]) (fun s => St w0 Φ [] []) (fun m s => m_s_NameOk_l1 N p0 m s = some r) (0) N h (sx [] []) (fun n1 ih1 s hm => ?_)
 revert hm; revert s; intro s1 hm
 have h : m_s_NameOk_l1 N p0 (n1 + 1) s1 = some r := hm
 show WT _ _ [(0, .string p0), (3, iV s1)] (St w0 Φ [] [])
 unfold m_s_NameOk_l1 at h
 refine atr 5 [] rfl <| lq (q_lenS Str_9 rfl rfl) rfl <| la rfl <| en ?_
 refine ch h rfl ?_ ?_ <;> intro h
 ·refine atr 7 [] rfl ?_
  obtain ⟨y1, hy1, h⟩ := bs h
  refine lq (q_indexS Str_9 rfl rfl hy1) rfl <| qc h (m_s_l1Letter_ok N · (y1.toNat : Int) ·) rfl rfl rfl fun x1 h => arr 2 [] rfl ?_
  obtain ⟨b1, hb_1, h⟩ := bs h
  refine WL.cutN 11 [(26, .bool b1), (0, .string p0), (3, iV s1)] ?_ (fun K => ?_)
  rotate_left
  ·refine sp 15 hb_1 rfl (fun hb_1 => ?_) fun hb_1 => ?_
   ·refine arr 11 [] rfl ?_
    cases hb_1
    exact ku K
   ·refine arr 3 [] rfl ?_
    obtain ⟨b2, hb_2, hb_1⟩ := bs hb_1
    refine WL.cutN 7 [(25, .bool b2), (0, .string p0), (3, iV s1), (15, .bool false)] ?_ (fun K => ?_)
    rotate_left
    ·refine sp 18 hb_2 rfl (fun hb_2 => ?_) fun hb_2 => ?_
     ·refine arr 2 [] rfl <| ly rfl rfl ?_
      obtain ⟨y2, hy2, hb_2⟩ := bs hb_2
      refine lq (q_indexS Str_9 rfl rfl hy2) rfl <| ly rfl rfl <| lq (q_convI Ik_5 Ik_3 rfl) rfl <| ly rfl rfl <| qc hb_2 (m_s_l1In_ok N · (wz (y2.toNat : Int)) 97 122 ·) rfl rfl rfl fun x2 hb_2 => arr 2 [] rfl ?_
      cases hb_2
      exact ku K
     ·refine arr 7 [] rfl ?_
      cases hb_2
      exact ku K
    refine la rfl ?_
    cases hb_1
    exact ku K
  refine en ?_
  refine ch h rfl ?_ ?_ <;> intro h
  ·refine att 4 [] rfl ?_
   exact rt hF h
  refine att 7 [] rfl ?_
  exact lb [] [] (ih1 _ h)
 refine atr 4 [] rfl <| lq (q_lenS Str_9 rfl rfl) rfl <| qc h (m_s_l1In_ok N · (p0.size : Int) 1 12 ·) rfl rfl rfl fun x3 h => la rfl <| en ?_
 exact rt hF h
theorem m_s_l5Large_ok  (w0 : Base Ψ Φ []) (p0 : Int)  {r : Bool} (h : m_s_l5Large N p0 = some r) :
  CB w0 prog 173 [.int .u8 p0] (.bool r) := by
 refine eN func173 rfl ntmps173 rfl w0 fun hF => ?_
 unfold m_s_l5Large at h
 refine atr 7 [] rfl <| lq (q_convI Ik_5 Ik_3 rfl) rfl <| qc h (m_s_l1In_ok N · (wz p0) 65 90 ·) rfl rfl rfl fun x1 h => la rfl <| en ?_
 exact rt hF h
theorem m_s_l5VarOk_ok  (w0 : Base Ψ Φ []) (p0 : ByteArray)  {r : Bool} (h : m_s_l5VarOk N p0 = some r) :
  CB w0 prog 176 [.string p0] (.bool r) := by
 refine eN func176 rfl ntmps176 rfl w0 fun hF => ?_
 unfold m_s_l5VarOk at h
 refine att 10 [] rfl ?_
 refine lin (σ := Int) (fun s => [(0, .string p0), (3, iV s)]) (fun s => St w0 Φ [] []) (fun m s => m_s_l5VarOk_l1 N p0 m s = some r) (0) N h (sx [] []) (fun n1 ih1 s hm => ?_)
 revert hm; revert s; intro s1 hm
 have h : m_s_l5VarOk_l1 N p0 (n1 + 1) s1 = some r := hm
 show WT _ _ [(0, .string p0), (3, iV s1)] (St w0 Φ [] [])
 unfold m_s_l5VarOk_l1 at h
 refine atr 5 [] rfl <| lq (q_lenS Str_9 rfl rfl) rfl <| la rfl <| en ?_
 refine ch h rfl ?_ ?_ <;> intro h
 ·refine atr 7 [] rfl ?_
  obtain ⟨y1, hy1, h⟩ := bs h
  refine lq (q_indexS Str_9 rfl rfl hy1) rfl <| qc h (m_s_l5Large_ok N · (y1.toNat : Int) ·) rfl rfl rfl fun x1 h => arr 2 [] rfl ?_
  obtain ⟨b1, hb_1, h⟩ := bs h
  refine WL.cutN 10 [(25, .bool b1), (0, .string p0), (3, iV s1)] ?_ (fun K => ?_)
  rotate_left
  ·refine sp 15 hb_1 rfl (fun hb_1 => ?_) fun hb_1 => ?_
   ·refine arr 3 [] rfl ?_
    obtain ⟨b2, hb_2, hb_1⟩ := bs hb_1
    refine WL.cutN 6 [(24, .bool b2), (0, .string p0), (3, iV s1), (15, .bool true)] ?_ (fun K => ?_)
    rotate_left
    ·refine sp 18 hb_2 rfl (fun hb_2 => ?_) fun hb_2 => ?_
     ·refine arr 6 [] rfl ?_
      cases hb_2
      exact ku K
     ·refine arr 2 [] rfl <| ly rfl rfl ?_
      obtain ⟨y2, hy2, hb_2⟩ := bs hb_2
      refine lq (q_indexS Str_9 rfl rfl hy2) rfl <| ly rfl rfl <| qc hb_2 (m_s_l1Letter_ok N · (y2.toNat : Int) ·) rfl rfl rfl fun x2 hb_2 => arr 2 [] rfl ?_
      cases hb_2
      exact ku K
    refine la rfl ?_
    cases hb_1
    exact ku K
   ·refine arr 10 [] rfl ?_
    cases hb_1
    exact ku K
  refine en ?_
  refine ch h rfl ?_ ?_ <;> intro h
  ·refine att 4 [] rfl ?_
   exact rt hF h
  refine att 7 [] rfl ?_
  exact lb [] [] (ih1 _ h)
 refine atr 4 [] rfl <| lq (q_lenS Str_9 rfl rfl) rfl <| qc h (m_s_l1In_ok N · (p0.size : Int) 1 12 ·) rfl rfl rfl fun x3 h => la rfl <| en ?_
 exact rt hF h
theorem m_s_l2Plain_ok  (w0 : Base Ψ Φ []) (p0 : ByteArray)  {r : Bool} (h : m_s_l2Plain N p0 = some r) :
  CB w0 prog 177 [.string p0] (.bool r) := by
 refine eN func177 rfl ntmps177 rfl w0 fun hF => ?_
 unfold m_s_l2Plain at h
 refine att 10 [] rfl ?_
 refine lin (σ := Int) (fun s => [(0, .string p0), (3, iV s)]) (fun s => St w0 Φ [] []) (fun m s => m_s_l2Plain_l1 N p0 m s = some r) (0) N h (sx [] []) (fun n1 ih1 s hm => ?_)
 revert hm; revert s; intro s1 hm
 have h : m_s_l2Plain_l1 N p0 (n1 + 1) s1 = some r := hm
 show WT _ _ [(0, .string p0), (3, iV s1)] (St w0 Φ [] [])
 unfold m_s_l2Plain_l1 at h
 refine atr 5 [] rfl <| lq (q_lenS Str_9 rfl rfl) rfl <| la rfl <| en ?_
 refine ch h rfl ?_ ?_ <;> intro h
 ·refine atr 7 [] rfl ?_
  obtain ⟨y1, hy1, h⟩ := bs h
  refine lq (q_indexS Str_9 rfl rfl hy1) rfl <| qc h (m_s_l1Letter_ok N · (y1.toNat : Int) ·) rfl rfl rfl fun x1 h => la rfl <| en ?_
  refine ch h rfl ?_ ?_ <;> intro h
  ·refine att 4 [] rfl ?_
   exact rt hF h
  refine att 7 [] rfl ?_
  exact lb [] [] (ih1 _ h)
 refine atr 4 [] rfl <| lq (q_lenS Str_9 rfl rfl) rfl <| art 3 [] rfl ?_
 exact rt hF h
theorem m_s_ValOk_ok  (w0 : Base Ψ Φ []) (p0 : TVal)  {r : Bool} (h : m_s_ValOk N p0 = some r) :
  CB w0 prog 197 [.agg [iV p0.K, iV p0.N, .string p0.S].toArray] (.bool r) := by
 refine eN func197 rfl ntmps197 rfl w0 fun hF => ?_
 unfold m_s_ValOk at h
 refine sr <| lbx rfl fun b_1 => art 14 [0, 0] rfl ?_
 refine ch h rfl ?_ ?_ <;> intro h
 ·refine atr 4 [1, 0] rfl <| qc h (m_s_l1In_ok N · p0.N (-1000000000) 1000000000 ·) rfl rfl rfl fun x1 h => la rfl ?_
  obtain ⟨b1, hb_1, h⟩ := bs h
  refine WL.cutN 4 [(14, .bool b1), (2, .bool false)] ?_ (fun K => ?_)
  rotate_left
  ·refine sp 10 hb_1 rfl (fun hb_1 => ?_) fun hb_1 => ?_
   ·refine arr 4 [2, 0] rfl ?_
    cases hb_1
    exact ku K
   ·refine arr 4 [] rfl ?_
    cases hb_1
    exact ku K
  refine la rfl <| en ?_
  exact rt hF h
 refine att 5 [] rfl ?_
 refine ch h rfl ?_ ?_ <;> intro h
 ·refine atr 4 [2, 0] rfl <| qc h (m_s_l2Plain_ok N · p0.S ·) rfl rfl rfl fun x2 h => la rfl ?_
  obtain ⟨b2, hb_2, h⟩ := bs h
  refine WL.cutN 4 [(24, .bool b2), (2, .bool false)] ?_ (fun K => ?_)
  rotate_left
  ·refine sp 20 hb_2 rfl (fun hb_2 => ?_) fun hb_2 => ?_
   ·refine arr 4 [1, 0] rfl ?_
    cases hb_2
    exact ku K
   ·refine arr 4 [] rfl ?_
    cases hb_2
    exact ku K
  refine la rfl <| en ?_
  exact rt hF h
 refine att 6 [] rfl ?_
 exact rt hF h
theorem m_s_ArgOk_ok  (w0 : Base Ψ Φ []) (p0 : TArg)  {r : Bool} (h : m_s_ArgOk N p0 = some r) :
  CB w0 prog 152 [.agg [iV p0.K, .string p0.S, iV p0.V.K, iV p0.V.N, .string p0.V.S].toArray] (.bool r) := by
 refine eN func152 rfl ntmps152 rfl w0 fun hF => ?_
 unfold m_s_ArgOk at h
 refine sr <| lbx rfl fun b_1 => arr 6 [2, 3] rfl <| lq (q_build (vs := []) (C := #[iV 0, iV 0, .string (⟨#[]⟩ : ByteArray)]) Pl_58 Zr_58 rfl (fill_nil)) rfl <| lq (q_eqA EqT_58 rfl rfl rfl (r := eqT_TVal p0.V (⟨0, 0, (⟨#[]⟩ : ByteArray)⟩ : TVal)) rfl) rfl <| art 14 [0, 0] rfl ?_
 refine ch h rfl ?_ ?_ <;> intro h
 ·refine atr 4 [1, 0] rfl <| qc h (m_s_l5VarOk_ok N · p0.S ·) rfl rfl rfl fun x1 h => la rfl ?_
  obtain ⟨b1, hb_1, h⟩ := bs h
  refine WL.cutN 2 [(17, .bool b1), (2, .bool false)] ?_ (fun K => ?_)
  rotate_left
  ·refine sp 15 hb_1 rfl (fun hb_1 => ?_) fun hb_1 => ?_
   ·refine arr 2 [] rfl ?_
    cases hb_1
    exact ku K
   ·refine arr 2 [] rfl ?_
    cases hb_1
    exact ku K
  refine la rfl <| en ?_
  exact rt hF h
 refine att 5 [] rfl ?_
 refine ch h rfl ?_ ?_ <;> intro h
 ·refine atr 4 [2, 3] rfl <| qc h (m_s_ValOk_ok N · p0.V ·) rfl rfl rfl fun x2 h => la rfl ?_
  obtain ⟨b2, hb_2, h⟩ := bs h
  refine WL.cutN 4 [(27, .bool b2), (2, .bool false)] ?_ (fun K => ?_)
  rotate_left
  ·refine sp 23 hb_2 rfl (fun hb_2 => ?_) fun hb_2 => ?_
   ·refine arr 4 [1, 0] rfl ?_
    cases hb_2
    exact ku K
   ·refine arr 4 [] rfl ?_
    cases hb_2
    exact ku K
  refine la rfl <| en ?_
  exact rt hF h
 refine att 5 [] rfl ?_
 refine ch h rfl ?_ ?_ <;> intro h
 ·refine atr 6 [1, 0] rfl ?_
  obtain ⟨b3, hb_3, h⟩ := bs h
  refine WL.cutN 2 [(35, .bool b3), (2, .bool false)] ?_ (fun K => ?_)
  rotate_left
  ·refine sp 33 hb_3 rfl (fun hb_3 => ?_) fun hb_3 => ?_
   ·refine arr 2 [] rfl ?_
    cases hb_3
    exact ku K
   ·refine arr 2 [] rfl ?_
    cases hb_3
    exact ku K
  refine la rfl <| en ?_
  exact rt hF h
 refine att 6 [] rfl ?_
 exact rt hF h
theorem m_s_PatOk_ok (w0 : Base Ψ Φ []) (p0 : TPat) (ph0_0 : RSl RTArg 5 Ψ pG0_0 pv0_0 p0.Args) {r : Bool} (h : m_s_PatOk N p0 = some r) :
  CB w0 prog 92 [.agg [.string p0.Kind, pv0_0, .bool p0.Not].toArray] (.bool r) := by
 refine eN func92 rfl ntmps92 rfl w0 fun hF => ?_
 unfold m_s_PatOk at h
 refine sr <| lbx rfl fun b_1 => art 8 [] rfl ?_
 refine lin (σ := Int) (fun s => [(1, pQ b_1), (3, iV s)]) (fun s => St w0 Φ [(b_1, .cells #[.string p0.Kind, pv0_0, .bool p0.Not] 35 (0, 0))] []) (fun m s => m_s_PatOk_l1 N p0 m s = some r) (0) N h (sx [] [0]) (fun n1 ih1 s hm => ?_)
 revert hm; revert s; intro s1 hm
 have h : m_s_PatOk_l1 N p0 (n1 + 1) s1 = some r := hm
 show WT _ _ [(1, pQ b_1), (3, iV s1)] (St w0 Φ [(b_1, .cells #[.string p0.Kind, pv0_0, .bool p0.Not] 35 (0, 0))] [])
 unfold m_s_PatOk_l1 at h
 refine atr 6 [1, 0] rfl <| lnr ph0_0 rfl <| la rfl <| en ?_
 refine ch h rfl ?_ ?_ <;> intro h
 ·refine atr 8 [1, 0] rfl ?_
  obtain ⟨x1, hx1, h⟩ := bs h
  obtain ⟨cs1, F1, -, g1, hb1, hs1, r1⟩ := ph0_0.el (idx_some hx1).2.2
  obtain ⟨rfl, -⟩ := r1
  refine lia ph0_0 hx1 rfl <| lhx 0 5 g1 rfl <| qc h (m_s_ArgOk_ok N · x1 ·) rfl rfl rfl fun x2 h => la rfl <| en ?_
  refine ch h rfl ?_ ?_ <;> intro h
  ·refine att 4 [] rfl ?_
   exact rt hF h
  refine att 7 [] rfl ?_
  exact lb [] [0] (ih1 _ h)
 refine atr 5 [0, 0] rfl <| qc h (m_s_NameOk_ok N · p0.Kind ·) rfl rfl rfl fun x3 h => la rfl ?_
 obtain ⟨b1, hb_1, h⟩ := bs h
 refine WL.cutN 5 [(26, .bool b1)] ?_ (fun K => ?_)
 rotate_left
 ·refine sp 21 hb_1 rfl (fun hb_1 => ?_) fun hb_1 => ?_
  ·refine arr 2 [1, 0] rfl <| ly rfl rfl <| lnr ph0_0 rfl <| arr 2 [] rfl ?_
   cases hb_1
   exact ku K
  ·refine arr 5 [] rfl ?_
   cases hb_1
   exact ku K
 refine la rfl <| en ?_
 exact rt hF h
theorem m_s_l9Pats_ok (w0 : Base Ψ Φ []) (p0 : (List TPat)) (ph0 : RSl RTPat 3 Ψ pG0 pv0 p0) {r : Bool} (h : m_s_l9Pats N p0 = some r) :
  CB w0 prog 42 [pv0] (.bool r) := by
 refine eN func42 rfl ntmps42 rfl w0 fun hF => ?_
 unfold m_s_l9Pats at h
 refine att 10 [] rfl ?_
 refine lin (σ := Int) (fun s => [(0, pv0), (3, iV s)]) (fun s => St w0 Φ [] []) (fun m s => m_s_l9Pats_l1 N p0 m s = some r) (0) N h (sx [] []) (fun n1 ih1 s hm => ?_)
 revert hm; revert s; intro s1 hm
 have h : m_s_l9Pats_l1 N p0 (n1 + 1) s1 = some r := hm
 show WT _ _ [(0, pv0), (3, iV s1)] (St w0 Φ [] [])
 unfold m_s_l9Pats_l1 at h
 refine atr 5 [] rfl <| lnr ph0 rfl <| la rfl <| en ?_
 refine ch h rfl ?_ ?_ <;> intro h
 ·refine atr 9 [] rfl ?_
  obtain ⟨b1, hb_1, h⟩ := bs h
  refine WL.cutN 7 [(19, .bool b1), (0, pv0), (3, iV s1)] ?_ (fun K => ?_)
  rotate_left
  ·refine sp 12 hb_1 rfl (fun hb_1 => ?_) fun hb_1 => ?_
   ·refine arr 2 [] rfl <| ly rfl rfl ?_
    obtain ⟨x1, hx1, hb_1⟩ := bs hb_1
    obtain ⟨cs1, F1, -, g1, hb1, hs1, r1⟩ := ph0.el (idx_some hx1).2.2
    obtain ⟨v1, G1, rfl, hq1, h1⟩ := r1
    obtain rfl := hq1.symm
    refine lia ph0 hx1 rfl <| ly rfl rfl <| lf Fld_35_2 rfl rfl rfl <| ly rfl rfl <| lhx 2 0 g1 rfl <| arr 2 [] rfl ?_
    cases hb_1
    exact ku K
   ·refine arr 7 [] rfl ?_
    cases hb_1
    exact ku K
  refine en ?_
  refine ch h rfl ?_ ?_ <;> intro h
  ·refine att 4 [] rfl ?_
   exact rt hF h
  refine atr 5 [] rfl ?_
  obtain ⟨x2, hx2, h⟩ := bs h
  obtain ⟨cs2, F2, -, g2, hb2, hs2, r2⟩ := ph0.el (idx_some hx2).2.2
  obtain ⟨v2, G2, rfl, hq2, h2⟩ := r2
  obtain rfl := hq2.symm
  refine lia ph0 hx2 rfl <| lhx 0 3 g2 rfl <| qd h (m_s_PatOk_ok N · x2 h2 ·) rfl rfl rfl fun x3 h => arr 2 [] rfl ?_
  obtain ⟨b2, hb_2, h⟩ := bs h
  refine WL.cutN 10 [(36, .bool b2), (0, pv0), (3, iV s1)] ?_ (fun K => ?_)
  rotate_left
  ·refine sp 26 hb_2 rfl (fun hb_2 => ?_) fun hb_2 => ?_
   ·refine arr 10 [] rfl ?_
    cases hb_2
    exact ku K
   ·refine arr 3 [] rfl ?_
    obtain ⟨b3, hb_3, hb_2⟩ := bs hb_2
    refine WL.cutN 6 [(35, .bool b3), (0, pv0), (3, iV s1), (26, .bool false)] ?_ (fun K => ?_)
    rotate_left
    ·refine sp 29 hb_3 rfl (fun hb_3 => ?_) fun hb_3 => ?_
     ·refine arr 2 [] rfl <| ly rfl rfl ?_
      obtain ⟨x4, hx4, hb_3⟩ := bs hb_3
      obtain ⟨cs3, F3, -, g3, hb3, hs3, r3⟩ := ph0.el (idx_some hx4).2.2
      obtain ⟨v3, G3, rfl, hq3, h3⟩ := r3
      obtain rfl := hq3.symm
      refine lia ph0 hx4 rfl <| ly rfl rfl <| lf Fld_35_2 rfl rfl rfl <| ly rfl rfl <| lhx 2 0 g3 rfl <| ly rfl rfl <| la rfl ?_
      cases hb_3
      exact ku K
     ·refine arr 6 [] rfl ?_
      cases hb_3
      exact ku K
    refine la rfl ?_
    cases hb_2
    exact ku K
  refine la rfl ?_
  obtain ⟨b4, hb_4, h⟩ := bs h
  refine WL.cutN 19 [(56, .bool b4), (0, pv0), (3, iV s1)] ?_ (fun K => ?_)
  rotate_left
  ·refine sp 37 hb_4 rfl (fun hb_4 => ?_) fun hb_4 => ?_
   ·refine arr 19 [] rfl ?_
    cases hb_4
    exact ku K
   ·refine arr 3 [] rfl ?_
    obtain ⟨b5, hb_5, hb_4⟩ := bs hb_4
    refine WL.cutN 7 [(47, .bool b5), (0, pv0), (3, iV s1), (37, .bool false)] ?_ (fun K => ?_)
    rotate_left
    ·refine sp 40 hb_5 rfl (fun hb_5 => ?_) fun hb_5 => ?_
     ·refine arr 3 [] rfl <| ly rfl rfl ?_
      obtain ⟨x5, hx5, hb_5⟩ := bs hb_5
      obtain ⟨cs4, F4, -, g4, hb4, hs4, r4⟩ := ph0.el (idx_some hx5).2.2
      obtain ⟨v4, G4, rfl, hq4, h4⟩ := r4
      obtain rfl := hq4.symm
      refine lia ph0 hx5 rfl <| ly rfl rfl <| lf Fld_35_2 rfl rfl rfl <| ly rfl rfl <| lhx 2 0 g4 rfl <| ly rfl rfl <| la rfl ?_
      cases hb_5
      exact ku K
     ·refine arr 7 [] rfl ?_
      cases hb_5
      exact ku K
    refine ly rfl rfl <| la rfl ?_
    obtain ⟨b6, hb_6, hb_4⟩ := bs hb_4
    refine WL.cutN 7 [(55, .bool b6), (0, pv0), (3, iV s1), (37, .bool false)] ?_ (fun K => ?_)
    rotate_left
    ·refine sp 48 hb_6 rfl (fun hb_6 => ?_) fun hb_6 => ?_
     ·refine arr 2 [] rfl <| ly rfl rfl ?_
      obtain ⟨x6, hx6, hb_6⟩ := bs hb_6
      obtain ⟨cs5, F5, -, g5, hb5, hs5, r5⟩ := ph0.el (idx_some hx6).2.2
      obtain ⟨v5, G5, rfl, hq5, h5⟩ := r5
      obtain rfl := hq5.symm
      refine lia ph0 hx6 rfl <| ly rfl rfl <| lf Fld_35_2 rfl rfl rfl <| ly rfl rfl <| lhx 2 0 g5 rfl <| arr 2 [] rfl ?_
      cases hb_6
      exact ku K
     ·refine arr 7 [] rfl ?_
      cases hb_6
      exact ku K
    refine la rfl ?_
    cases hb_4
    exact ku K
  refine en ?_
  refine ch h rfl ?_ ?_ <;> intro h
  ·refine att 4 [] rfl ?_
   exact rt hF h
  refine att 7 [] rfl ?_
  exact lb [] [] (ih1 _ h)
 refine atr 4 [] rfl <| lnr ph0 rfl <| qc h (m_s_l1In_ok N · (p0.length : Int) 1 6 ·) rfl rfl rfl fun x7 h => la rfl <| en ?_
 exact rt hF h
theorem m_s_CondOk_ok  (w0 : Base Ψ Φ []) (p0 : TCond)  {r : Bool} (h : m_s_CondOk N p0 = some r) :
  CB w0 prog 93 [.agg [iV p0.Op, iV p0.L.K, .string p0.L.S, iV p0.L.V.K, iV p0.L.V.N, .string p0.L.V.S, iV p0.R.K, .string p0.R.S, iV p0.R.V.K, iV p0.R.V.N, .string p0.R.V.S].toArray] (.bool r) := by
 refine eN func93 rfl ntmps93 rfl w0 fun hF => ?_
 unfold m_s_CondOk at h
 refine sr <| lbx rfl fun b_1 => arr 6 [0, 0] rfl <| qc h (m_s_l1In_ok N · p0.Op 1 3 ·) rfl rfl rfl fun x1 h => la rfl ?_
 obtain ⟨b1, hb_1, h⟩ := bs h
 refine WL.cutN 4 [(10, .bool b1), (1, pQ b_1), (2, .bool false)] ?_ (fun K => ?_)
 rotate_left
 ·refine sp 6 hb_1 rfl (fun hb_1 => ?_) fun hb_1 => ?_
  ·refine arr 2 [1, 5] rfl <| ly rfl rfl <| qc hb_1 (m_s_ArgOk_ok N · p0.L ·) rfl rfl rfl fun x2 hb_1 => la rfl ?_
   cases hb_1
   exact ku K
  ·refine arr 4 [] rfl ?_
   cases hb_1
   exact ku K
 refine la rfl ?_
 obtain ⟨b2, hb_2, h⟩ := bs h
 refine WL.cutN 4 [(15, .bool b2), (1, pQ b_1), (2, .bool false)] ?_ (fun K => ?_)
 rotate_left
 ·refine sp 11 hb_2 rfl (fun hb_2 => ?_) fun hb_2 => ?_
  ·refine arr 2 [6, 5] rfl <| ly rfl rfl <| qc hb_2 (m_s_ArgOk_ok N · p0.R ·) rfl rfl rfl fun x3 hb_2 => la rfl ?_
   cases hb_2
   exact ku K
  ·refine arr 4 [] rfl ?_
   cases hb_2
   exact ku K
 refine la rfl ?_
 obtain ⟨b3, hb_3, h⟩ := bs h
 refine WL.cutN 5 [(21, .bool b3), (1, pQ b_1), (2, .bool false)] ?_ (fun K => ?_)
 rotate_left
 ·refine sp 16 hb_3 rfl (fun hb_3 => ?_) fun hb_3 => ?_
  ·refine arr 5 [1, 0, 0] rfl ?_
   cases hb_3
   exact ku K
  ·refine arr 5 [] rfl ?_
   cases hb_3
   exact ku K
 refine la rfl ?_
 obtain ⟨b4, hb_4, h⟩ := bs h
 refine WL.cutN 5 [(27, .bool b4), (2, .bool false)] ?_ (fun K => ?_)
 rotate_left
 ·refine sp 22 hb_4 rfl (fun hb_4 => ?_) fun hb_4 => ?_
  ·refine arr 5 [6, 0, 0] rfl ?_
   cases hb_4
   exact ku K
  ·refine arr 5 [] rfl ?_
   cases hb_4
   exact ku K
 refine la rfl <| en ?_
 exact rt hF h
theorem m_s_l9Known_ok (w0 : Base Ψ Φ []) (p0 : TArg) (p1 : (List ByteArray)) (ph1 : RSl RS 1 Ψ pG1 pv1 p1) {r : Bool} (h : m_s_l9Known N p0 p1 = some r) :
  CB w0 prog 94 [.agg [iV p0.K, .string p0.S, iV p0.V.K, iV p0.V.N, .string p0.V.S].toArray, pv1] (.bool r) := by
 refine eN func94 rfl ntmps94 rfl w0 fun hF => ?_
 unfold m_s_l9Known at h
 refine sr <| lbx rfl fun b_1 => arr 8 [0, 0] rfl ?_
 obtain ⟨b1, hb_1, h⟩ := bs h
 refine WL.cutN 5 [(13, .bool b1), (4, .bool false)] ?_ (fun K => ?_)
 rotate_left
 ·refine sp 8 hb_1 rfl (fun hb_1 => ?_) fun hb_1 => ?_
  ·refine arr 5 [] rfl ?_
   cases hb_1
   exact ku K
  ·refine arr 3 [1, 0] rfl <| ly rfl rfl <| qd hb_1 (m_s_l6Has_ok N · p1 p0.S ph1 ·) rfl rfl rfl fun x1 hb_1 => la rfl ?_
   cases hb_1
   exact ku K
 refine la rfl <| en ?_
 exact rt hF h
theorem m_s_l9Conds_ok (w0 : Base Ψ Φ []) (p0 : (List TCond)) (p1 : (List ByteArray)) (ph0 : RSl RTCond 11 Ψ pG0 pv0 p0) (ph1 : RSl RS 1 Ψ pG1 pv1 p1) {r : Bool} (h : m_s_l9Conds N p0 p1 = some r) :
  CB w0 prog 43 [pv0, pv1] (.bool r) := by
 refine eN func43 rfl ntmps43 rfl w0 fun hF => ?_
 unfold m_s_l9Conds at h
 refine att 10 [] rfl ?_
 refine lin (σ := Int) (fun s => [(0, pv0), (1, pv1), (5, iV s)]) (fun s => St w0 Φ [] []) (fun m s => m_s_l9Conds_l1 N p0 p1 m s = some r) (0) N h (sx [] []) (fun n1 ih1 s hm => ?_)
 revert hm; revert s; intro s1 hm
 have h : m_s_l9Conds_l1 N p0 p1 (n1 + 1) s1 = some r := hm
 show WT _ _ [(0, pv0), (1, pv1), (5, iV s1)] (St w0 Φ [] [])
 unfold m_s_l9Conds_l1 at h
 refine atr 5 [] rfl <| lnr ph0 rfl <| la rfl <| en ?_
 refine ch h rfl ?_ ?_ <;> intro h
 ·refine atr 7 [] rfl ?_
  obtain ⟨x1, hx1, h⟩ := bs h
  obtain ⟨cs1, F1, -, g1, hb1, hs1, r1⟩ := ph0.el (idx_some hx1).2.2
  obtain ⟨rfl, -⟩ := r1
  refine lia ph0 hx1 rfl <| lhx 0 11 g1 rfl <| qc h (m_s_CondOk_ok N · x1 ·) rfl rfl rfl fun x2 h => arr 2 [] rfl ?_
  obtain ⟨b1, hb_1, h⟩ := bs h
  refine WL.cutN 9 [(27, .bool b1), (0, pv0), (1, pv1), (5, iV s1)] ?_ (fun K => ?_)
  rotate_left
  ·refine sp 18 hb_1 rfl (fun hb_1 => ?_) fun hb_1 => ?_
   ·refine arr 9 [] rfl ?_
    cases hb_1
    exact ku K
   ·refine arr 2 [] rfl <| ly rfl rfl ?_
    obtain ⟨x3, hx3, hb_1⟩ := bs hb_1
    obtain ⟨cs2, F2, -, g2, hb2, hs2, r2⟩ := ph0.el (idx_some hx3).2.2
    obtain ⟨rfl, -⟩ := r2
    refine lia ph0 hx3 rfl <| ly rfl rfl <| lf Fld_62_1 rfl rfl rfl <| ly rfl rfl <| lhx 1 5 g2 rfl <| ly rfl rfl <| la rfl <| ly rfl rfl <| qd hb_1 (m_s_l9Known_ok N · x3.L p1 ph1 ·) rfl rfl rfl fun x4 hb_1 => arr 2 [] rfl ?_
    cases hb_1
    exact ku K
  refine la rfl ?_
  obtain ⟨b2, hb_2, h⟩ := bs h
  refine WL.cutN 9 [(37, .bool b2), (0, pv0), (1, pv1), (5, iV s1)] ?_ (fun K => ?_)
  rotate_left
  ·refine sp 28 hb_2 rfl (fun hb_2 => ?_) fun hb_2 => ?_
   ·refine arr 9 [] rfl ?_
    cases hb_2
    exact ku K
   ·refine arr 2 [] rfl <| ly rfl rfl ?_
    obtain ⟨x5, hx5, hb_2⟩ := bs hb_2
    obtain ⟨cs3, F3, -, g3, hb3, hs3, r3⟩ := ph0.el (idx_some hx5).2.2
    obtain ⟨rfl, -⟩ := r3
    refine lia ph0 hx5 rfl <| ly rfl rfl <| lf Fld_62_2 rfl rfl rfl <| ly rfl rfl <| lhx 6 5 g3 rfl <| ly rfl rfl <| la rfl <| ly rfl rfl <| qd hb_2 (m_s_l9Known_ok N · x5.R p1 ph1 ·) rfl rfl rfl fun x6 hb_2 => arr 2 [] rfl ?_
    cases hb_2
    exact ku K
  refine en ?_
  refine ch h rfl ?_ ?_ <;> intro h
  ·refine att 4 [] rfl ?_
   exact rt hF h
  refine att 7 [] rfl ?_
  exact lb [] [] (ih1 _ h)
 refine atr 4 [] rfl <| lnr ph0 rfl <| art 3 [] rfl ?_
 exact rt hF h
theorem m_s_l8Given_ok  (w0 : Base Ψ Φ []) (p0 : TArg)  {r : Bool} (h : m_s_l8Given N p0 = some r) :
  CB w0 prog 217 [.agg [iV p0.K, .string p0.S, iV p0.V.K, iV p0.V.N, .string p0.V.S].toArray] (.bool r) := by
 refine eN func217 rfl ntmps217 rfl w0 fun hF => ?_
 unfold m_s_l8Given at h
 refine sr <| lbx rfl fun b_1 => arr 5 [5] rfl <| qc h (m_s_ArgOk_ok N · p0 ·) rfl rfl rfl fun x1 h => la rfl ?_
 obtain ⟨b1, hb_1, h⟩ := bs h
 refine WL.cutN 4 [(9, .bool b1), (2, .bool false)] ?_ (fun K => ?_)
 rotate_left
 ·refine sp 5 hb_1 rfl (fun hb_1 => ?_) fun hb_1 => ?_
  ·refine arr 4 [0, 0] rfl ?_
   cases hb_1
   exact ku K
  ·refine arr 4 [] rfl ?_
   cases hb_1
   exact ku K
 refine la rfl <| en ?_
 exact rt hF h
theorem m_s_ExprOk_ok  (w0 : Base Ψ Φ []) (p0 : TExpr)  {r : Bool} (h : m_s_ExprOk N p0 = some r) :
  CB w0 prog 198 [.agg [.string p0.Op, iV p0.L.K, .string p0.L.S, iV p0.L.V.K, iV p0.L.V.N, .string p0.L.V.S, iV p0.R.K, .string p0.R.S, iV p0.R.V.K, iV p0.R.V.N, .string p0.R.V.S].toArray] (.bool r) := by
 refine eN func198 rfl ntmps198 rfl w0 fun hF => ?_
 unfold m_s_ExprOk at h
 refine sr <| lbx rfl fun b_1 => art 14 [0, 0] rfl ?_
 refine ch h rfl ?_ ?_ <;> intro h
 ·refine atr 4 [1, 5] rfl <| qc h (m_s_l8Given_ok N · p0.L ·) rfl rfl rfl fun x1 h => la rfl ?_
  obtain ⟨b1, hb_1, h⟩ := bs h
  refine WL.cutN 5 [(15, .bool b1), (2, .bool false)] ?_ (fun K => ?_)
  rotate_left
  ·refine sp 10 hb_1 rfl (fun hb_1 => ?_) fun hb_1 => ?_
   ·refine arr 2 [6, 5] rfl <| ly rfl rfl <| lq (q_build (vs := []) (C := #[iV 0, .string (⟨#[]⟩ : ByteArray), iV 0, iV 0, .string (⟨#[]⟩ : ByteArray)]) Pl_60 Zr_60 rfl (fill_nil)) rfl <| ly rfl rfl <| lq (q_eqA EqT_60 rfl rfl rfl (r := eqT_TArg p0.R (⟨0, (⟨#[]⟩ : ByteArray), (⟨0, 0, (⟨#[]⟩ : ByteArray)⟩ : TVal)⟩ : TArg)) rfl) rfl <| la rfl ?_
    cases hb_1
    exact ku K
   ·refine arr 5 [] rfl ?_
    cases hb_1
    exact ku K
  refine la rfl <| en ?_
  exact rt hF h
 refine att 6 [] rfl ?_
 refine cut (σ := Bool) (fun s => [(1, pQ b_1), (16, .bool s)]) (fun s => St w0 Φ [(b_1, .cells #[.string p0.Op, iV p0.L.K, .string p0.L.S, iV p0.L.V.K, iV p0.L.V.N, .string p0.L.V.S, iV p0.R.K, .string p0.R.S, iV p0.R.V.K, iV p0.R.V.N, .string p0.R.V.S] 116 (0, 0))] []) (fun s => m_s_ExprOk_j1 N p0 s = some r) (fun s hm => ?_) (fun K => ?_)
 ·clear h
  revert hm; revert s; intro s1 hm
  have h : m_s_ExprOk_j1 N p0 s1 = some r := hm
  show WT _ _ [(1, pQ b_1), (16, .bool s1)] (St w0 Φ [(b_1, .cells #[.string p0.Op, iV p0.L.K, .string p0.L.S, iV p0.L.V.K, iV p0.L.V.N, .string p0.L.V.S, iV p0.R.K, .string p0.R.S, iV p0.R.V.K, iV p0.R.V.N, .string p0.R.V.S] 116 (0, 0))] [])
  unfold m_s_ExprOk_j1 at h
  refine ch h rfl ?_ ?_ <;> intro h
  ·refine atr 4 [1, 5] rfl <| qc h (m_s_l8Given_ok N · p0.L ·) rfl rfl rfl fun x2 h => la rfl ?_
   obtain ⟨b2, hb_2, h⟩ := bs h
   refine WL.cutN 4 [(26, .bool b2)] ?_ (fun K => ?_)
   rotate_left
   ·refine sp 22 hb_2 rfl (fun hb_2 => ?_) fun hb_2 => ?_
    ·refine arr 2 [6, 5] rfl <| ly rfl rfl <| qc hb_2 (m_s_l8Given_ok N · p0.R ·) rfl rfl rfl fun x3 hb_2 => la rfl ?_
     cases hb_2
     exact ku K
    ·refine arr 4 [] rfl ?_
     cases hb_2
     exact ku K
   refine la rfl <| en ?_
   exact rt hF h
  refine att 6 [] rfl ?_
  exact rt hF h
 refine ch h rfl ?_ ?_ <;> intro h
 ·refine WT.skip ?_
  exact wo [] [0] (K _ h)
 refine att 4 [] rfl ?_
 exact wo [] [0] (K _ h)
theorem m_s_l8Args_ok (w0 : Base Ψ Φ []) (p0 : (List TExpr)) (ph0 : RSl RTExpr 11 Ψ pG0 pv0 p0) {r : Bool} (h : m_s_l8Args N p0 = some r) :
  CB w0 prog 153 [pv0] (.bool r) := by
 refine eN func153 rfl ntmps153 rfl w0 fun hF => ?_
 unfold m_s_l8Args at h
 refine att 10 [] rfl ?_
 refine lin (σ := Int) (fun s => [(0, pv0), (3, iV s)]) (fun s => St w0 Φ [] []) (fun m s => m_s_l8Args_l1 N p0 m s = some r) (0) N h (sx [] []) (fun n1 ih1 s hm => ?_)
 revert hm; revert s; intro s1 hm
 have h : m_s_l8Args_l1 N p0 (n1 + 1) s1 = some r := hm
 show WT _ _ [(0, pv0), (3, iV s1)] (St w0 Φ [] [])
 unfold m_s_l8Args_l1 at h
 refine atr 5 [] rfl <| lnr ph0 rfl <| la rfl <| en ?_
 refine ch h rfl ?_ ?_ <;> intro h
 ·refine atr 7 [] rfl ?_
  obtain ⟨x1, hx1, h⟩ := bs h
  obtain ⟨cs1, F1, -, g1, hb1, hs1, r1⟩ := ph0.el (idx_some hx1).2.2
  obtain ⟨rfl, -⟩ := r1
  refine lia ph0 hx1 rfl <| lhx 0 11 g1 rfl <| qc h (m_s_ExprOk_ok N · x1 ·) rfl rfl rfl fun x2 h => la rfl <| en ?_
  refine ch h rfl ?_ ?_ <;> intro h
  ·refine att 4 [] rfl ?_
   exact rt hF h
  refine att 7 [] rfl ?_
  exact lb [] [] (ih1 _ h)
 refine atr 4 [] rfl <| lnr ph0 rfl <| art 3 [] rfl ?_
 exact rt hF h
theorem m_s_ActOk_ok (w0 : Base Ψ Φ []) (p0 : TAct) (ph0_0 : RSl RTExpr 11 Ψ pG0_0 pv0_0 p0.Args) {r : Bool} (h : m_s_ActOk N p0 = some r) :
  CB w0 prog 95 [.agg [iV p0.Kind, .string p0.Name, pv0_0, iV p0.N, .string p0.Undo].toArray] (.bool r) := by
 refine eN func95 rfl ntmps95 rfl w0 fun hF => ?_
 unfold m_s_ActOk at h
 refine sr <| lbx rfl fun b_1 => arr 8 [1, 0] rfl ?_
 obtain ⟨b1, hb_1, h⟩ := bs h
 refine WL.cutN 5 [(12, .bool b1), (1, pQ b_1)] ?_ (fun K => ?_)
 rotate_left
 ·refine sp 7 hb_1 rfl (fun hb_1 => ?_) fun hb_1 => ?_
  ·refine arr 2 [2, 0] rfl <| ly rfl rfl <| lnr ph0_0 rfl <| arr 2 [] rfl ?_
   cases hb_1
   exact ku K
  ·refine arr 5 [] rfl ?_
   cases hb_1
   exact ku K
 refine la rfl ?_
 obtain ⟨b2, hb_2, h⟩ := bs h
 refine WL.cutN 4 [(17, .bool b2), (1, pQ b_1)] ?_ (fun K => ?_)
 rotate_left
 ·refine sp 13 hb_2 rfl (fun hb_2 => ?_) fun hb_2 => ?_
  ·refine arr 4 [4, 0] rfl ?_
   cases hb_2
   exact ku K
  ·refine arr 4 [] rfl ?_
   cases hb_2
   exact ku K
 refine art 14 [0, 0] rfl ?_
 refine ch h rfl ?_ ?_ <;> intro h
 ·refine atr 4 [1, 0] rfl <| qc h (m_s_NameOk_ok N · p0.Name ·) rfl rfl rfl fun x1 h => la rfl ?_
  obtain ⟨b3, hb_3, h⟩ := bs h
  refine WL.cutN 4 [(29, .bool b3), (1, pQ b_1)] ?_ (fun K => ?_)
  rotate_left
  ·refine sp 25 hb_3 rfl (fun hb_3 => ?_) fun hb_3 => ?_
   ·refine arr 2 [2, 0] rfl <| ly rfl rfl <| qd hb_3 (m_s_l8Args_ok N · p0.Args ph0_0 ·) rfl rfl rfl fun x2 hb_3 => la rfl ?_
    cases hb_3
    exact ku K
   ·refine arr 4 [] rfl ?_
    cases hb_3
    exact ku K
  refine la rfl ?_
  obtain ⟨b4, hb_4, h⟩ := bs h
  refine WL.cutN 4 [(34, .bool b4), (1, pQ b_1)] ?_ (fun K => ?_)
  rotate_left
  ·refine sp 30 hb_4 rfl (fun hb_4 => ?_) fun hb_4 => ?_
   ·refine arr 4 [3, 0] rfl ?_
    cases hb_4
    exact ku K
   ·refine arr 4 [] rfl ?_
    cases hb_4
    exact ku K
  refine la rfl ?_
  obtain ⟨b5, hb_5, h⟩ := bs h
  refine WL.cutN 4 [(39, .bool b5)] ?_ (fun K => ?_)
  rotate_left
  ·refine sp 35 hb_5 rfl (fun hb_5 => ?_) fun hb_5 => ?_
   ·refine arr 4 [4, 0] rfl ?_
    cases hb_5
    exact ku K
   ·refine arr 4 [] rfl ?_
    cases hb_5
    exact ku K
  refine la rfl <| en ?_
  exact rt hF h
 refine att 5 [] rfl ?_
 refine ch h rfl ?_ ?_ <;> intro h
 ·refine atr 4 [1, 0] rfl <| qc h (m_s_NameOk_ok N · p0.Name ·) rfl rfl rfl fun x3 h => la rfl ?_
  obtain ⟨b6, hb_6, h⟩ := bs h
  refine WL.cutN 4 [(49, .bool b6), (1, pQ b_1)] ?_ (fun K => ?_)
  rotate_left
  ·refine sp 45 hb_6 rfl (fun hb_6 => ?_) fun hb_6 => ?_
   ·refine arr 2 [2, 0] rfl <| ly rfl rfl <| qd hb_6 (m_s_l8Args_ok N · p0.Args ph0_0 ·) rfl rfl rfl fun x4 hb_6 => la rfl ?_
    cases hb_6
    exact ku K
   ·refine arr 4 [] rfl ?_
    cases hb_6
    exact ku K
  refine la rfl ?_
  obtain ⟨b7, hb_7, h⟩ := bs h
  refine WL.cutN 4 [(54, .bool b7), (1, pQ b_1)] ?_ (fun K => ?_)
  rotate_left
  ·refine sp 50 hb_7 rfl (fun hb_7 => ?_) fun hb_7 => ?_
   ·refine arr 4 [3, 0] rfl ?_
    cases hb_7
    exact ku K
   ·refine arr 4 [] rfl ?_
    cases hb_7
    exact ku K
  refine la rfl ?_
  obtain ⟨b8, hb_8, h⟩ := bs h
  refine WL.cutN 9 [(64, .bool b8)] ?_ (fun K => ?_)
  rotate_left
  ·refine sp 55 hb_8 rfl (fun hb_8 => ?_) fun hb_8 => ?_
   ·refine arr 4 [4, 0] rfl ?_
    obtain ⟨b9, hb_9, hb_8⟩ := bs hb_8
    refine WL.cutN 4 [(63, .bool b9), (55, .bool true)] ?_ (fun K => ?_)
    rotate_left
    ·refine sp 59 hb_9 rfl (fun hb_9 => ?_) fun hb_9 => ?_
     ·refine arr 4 [] rfl ?_
      cases hb_9
      exact ku K
     ·refine arr 2 [4, 0] rfl <| ly rfl rfl <| qc hb_9 (m_s_NameOk_ok N · p0.Undo ·) rfl rfl rfl fun x5 hb_9 => ly rfl rfl <| la rfl ?_
      cases hb_9
      exact ku K
    refine la rfl ?_
    cases hb_8
    exact ku K
   ·refine arr 9 [] rfl ?_
    cases hb_8
    exact ku K
  refine la rfl <| en ?_
  exact rt hF h
 refine att 5 [] rfl ?_
 refine ch h rfl ?_ ?_ <;> intro h
 ·refine atr 4 [1, 0] rfl <| qc h (m_s_NameOk_ok N · p0.Name ·) rfl rfl rfl fun x6 h => la rfl ?_
  obtain ⟨b10, hb_10, h⟩ := bs h
  refine WL.cutN 4 [(74, .bool b10), (1, pQ b_1)] ?_ (fun K => ?_)
  rotate_left
  ·refine sp 70 hb_10 rfl (fun hb_10 => ?_) fun hb_10 => ?_
   ·refine arr 2 [2, 0] rfl <| ly rfl rfl <| qd hb_10 (m_s_l8Args_ok N · p0.Args ph0_0 ·) rfl rfl rfl fun x7 hb_10 => la rfl ?_
    cases hb_10
    exact ku K
   ·refine arr 4 [] rfl ?_
    cases hb_10
    exact ku K
  refine la rfl ?_
  obtain ⟨b11, hb_11, h⟩ := bs h
  refine WL.cutN 4 [(79, .bool b11), (1, pQ b_1)] ?_ (fun K => ?_)
  rotate_left
  ·refine sp 75 hb_11 rfl (fun hb_11 => ?_) fun hb_11 => ?_
   ·refine arr 2 [3, 0] rfl <| ly rfl rfl <| qc hb_11 (m_s_l1In_ok N · p0.N 0 100000 ·) rfl rfl rfl fun x8 hb_11 => la rfl ?_
    cases hb_11
    exact ku K
   ·refine arr 4 [] rfl ?_
    cases hb_11
    exact ku K
  refine la rfl ?_
  obtain ⟨b12, hb_12, h⟩ := bs h
  refine WL.cutN 4 [(84, .bool b12)] ?_ (fun K => ?_)
  rotate_left
  ·refine sp 80 hb_12 rfl (fun hb_12 => ?_) fun hb_12 => ?_
   ·refine arr 4 [4, 0] rfl ?_
    cases hb_12
    exact ku K
   ·refine arr 4 [] rfl ?_
    cases hb_12
    exact ku K
  refine la rfl <| en ?_
  exact rt hF h
 refine att 5 [] rfl ?_
 refine ch h rfl ?_ ?_ <;> intro h
 ·refine atr 4 [] rfl ?_
  obtain ⟨b13, hb_13, h⟩ := bs h
  refine WL.cutN 4 [(92, .bool b13)] ?_ (fun K => ?_)
  rotate_left
  ·refine sp 88 hb_13 rfl (fun hb_13 => ?_) fun hb_13 => ?_
   ·refine arr 2 [3, 0] rfl <| ly rfl rfl <| qc hb_13 (m_s_l1In_ok N · p0.N 0 7 ·) rfl rfl rfl fun x9 hb_13 => la rfl ?_
    cases hb_13
    exact ku K
   ·refine arr 4 [] rfl ?_
    cases hb_13
    exact ku K
  refine la rfl <| en ?_
  exact rt hF h
 refine att 6 [] rfl ?_
 refine cut (σ := Bool) (fun s => [(1, pQ b_1), (3, .bool b2), (93, .bool s)]) (fun s => St w0 Φ [(b_1, .cells #[iV p0.Kind, .string p0.Name, pv0_0, iV p0.N, .string p0.Undo] 66 (0, 0))] []) (fun s => m_s_ActOk_j1 N p0 b2 s = some r) (fun s hm => ?_) (fun K => ?_)
 ·clear h
  revert hm; revert s; intro s1 hm
  have h : m_s_ActOk_j1 N p0 b2 s1 = some r := hm
  show WT _ _ [(1, pQ b_1), (3, .bool b2), (93, .bool s1)] (St w0 Φ [(b_1, .cells #[iV p0.Kind, .string p0.Name, pv0_0, iV p0.N, .string p0.Undo] 66 (0, 0))] [])
  unfold m_s_ActOk_j1 at h
  refine ch h rfl ?_ ?_ <;> intro h
  ·refine atr 4 [] rfl ?_
   obtain ⟨b14, hb_14, h⟩ := bs h
   refine WL.cutN 4 [(101, .bool b14)] ?_ (fun K => ?_)
   rotate_left
   ·refine sp 97 hb_14 rfl (fun hb_14 => ?_) fun hb_14 => ?_
    ·refine arr 4 [3, 0] rfl ?_
     cases hb_14
     exact ku K
    ·refine arr 4 [] rfl ?_
     cases hb_14
     exact ku K
   refine la rfl <| en ?_
   exact rt hF h
  refine att 6 [] rfl ?_
  exact rt hF h
 refine ch h rfl ?_ ?_ <;> intro h
 ·refine WT.skip ?_
  exact wo [] [0] (K _ h)
 refine att 4 [] rfl ?_
 exact wo [] [0] (K _ h)
end Go.Proofs.YteipbimepilcfaaGreatDoor
