/- Printed by a program of ours: each Go function computes its Lean function. -/
import Derived.Test.YteipbimepilcfaaGreatDoorProg
import Derived.Test.YteipbimepilcfaaGreatDoorWRulesWalk4
namespace Go.Proofs.YteipbimepilcfaaGreatDoor
open Eng Tryz
open Go.RowKit (Below)
set_option linter.unusedVariables false
set_option linter.unusedSimpArgs false

set_option maxRecDepth 100000
set_option maxHeartbeats 1000000
variable {Ψ Φ : Hp} {pvc0_0 pvt1_0 pv0_0 pvt0_0 pv1_0 pv0 pv1 : Value} {pGt1_0 pG0_0 pG0 pG1 : List Nat} {pbc0 pbt1 pbc1 pb0 pbt0 pb1 : Nat} (N : Nat)
theorem m_i_parser_pat_c1_ok (w0 : Base Ψ Φ [[pbc0], ob pvc0_0, [pbt1]].flatten) (c0 : TPat) (c1 : Tparser) (phc0_0 : OSl RTArg 60 5 Φ [] pvc0_0 c0.Args) (ppc0 : Φ pbc0 = some (.cells #[.string c0.Kind, pvc0_0, .bool c0.Not] 35 (0, 0))) (pht1_0 : RSl RTToken 3 Ψ pGt1_0 pvt1_0 c1.tokens) (ppt1 : Φ pbt1 = some (.cells #[pvt1_0, iV c1.at_, .bool c1.bad] 75 (0, 0))) (ppc1 : Ψ pbc1 = some (.cells #[pQ pbt1] 125 (0, 0))) {r : TPat × Tparser} (h : m_i_parser_pat_c1 N c0 c1 = some r) :
  Calls prog 156 [pQ pbc0, pQ pbc1].toArray w0.w (PostG Φ w0.w [[pbc0], ob pvc0_0, [pbt1]].flatten (fun Φ' Fs v => ∃ (so_0_0 : Value), v = .tuple #[] ∧ Fs = [[pbc0], ob so_0_0, [pbt1]] ∧ OSl RTArg 60 5 Φ' [] so_0_0 r.1.Args ∧ Φ' pbc0 = some (.cells #[.string r.1.Kind, so_0_0, .bool r.1.Not] 35 (0, 0)) ∧ r.2.tokens = c1.tokens ∧ Φ' pbt1 = some (.cells #[pvt1_0, iV r.2.at_, .bool r.2.bad] 75 (0, 0)))) := by
 refine eL func156 rfl ntmps156 rfl (L := [[pbc0], ob pvc0_0, [pbt1]]) w0 (fun hF => ?_)
 unfold m_i_parser_pat_c1 at h
 refine WT.mix (Kn w0 Φ [pbc0] []) (fun i => match i with | 7 => false | _ => true) mixed (fun _ h => h.drew) <| mq 0 rfl (by kernel_rfl) (kn Kf.id aN) (q_fieldAddr Fld_35_1 rfl) rfl <| mq 1 rfl (by kernel_rfl) (kn Kf.id aN) (q_load1 T1_33 rfl (fun w1 hw => hw.rg (by simp) ((rg_cells ppc0).of_eq 1 1 rfl rfl : rg _ _ _ [pvc0_0]))) rfl <| mq 2 rfl (by kernel_rfl) (kn Kf.id aN) (q_load1 T1_125 rfl (fun w1 hw => ((rg_cells ppc1).of_eq 0 1 rfl rfl : rg _ _ _ [pQ pbt1]).rangeAt hw.1)) rfl ?_
 obtain ⟨x1, hx1, h⟩ := bs h
 refine WM.one 3 (by kernel_rfl) (mc rfl (fun _ v Φx D w1 hq hw => Kn.of (Kf.id.st hq.2.1 (hq.1.r (i := 0) rfl)) aN hw) (k_call (js := [2]) (R := [[pbc0], ob pvc0_0]) Fun_157 rfl rfl (fun w1 hw ap hl => m_i_parser_arg_ok N (bx hw ap hl) c1 (pht1_0.y (hw.uo ap)) ppt1  hx1)) rfl ?_)
 rintro v1 Φ_1 F1 ⟨ap1, fr1, rfl, rfl, e1, h1⟩
 replace phc0_0 := phc0_0.fr fr1 (ap1.q 1 rfl) dN
 replace ppc0 := fr1 _ _ ((ap1.q 0 rfl) _ (by simp)) ppc0
 have rc1 : RC RTArg 5 Φ_1 ([[]] : List (List Nat)) [iV x1.1.K, .string x1.1.S, iV x1.1.V.K, iV x1.1.V.N, .string x1.1.V.S] ([x1.1] : List TArg) := RC.cons (c := [iV x1.1.K, .string x1.1.S, iV x1.1.V.K, iV x1.1.V.N, .string x1.1.V.S]) (cells := []) ⟨rfl, rfl⟩ rfl (RC.nil _ _ _)
 have kf1 := (Kf.id (F := [pbc0]) : Kf Φ _ _).st fr1 (ap1.q 0 rfl)
 refine WM.one 4 (by kernel_rfl) (me rfl (fun _ v Φx D w1 hq hw => Kn.of (kf1.se hq.1) aN hw) (e_lit (vs := [(0, .agg [iV x1.1.K, .string x1.1.S, iV x1.1.V.K, iV x1.1.V.N, .string x1.1.V.S].toArray)]) (C := #[iV x1.1.K, .string x1.1.S, iV x1.1.V.K, iV x1.1.V.N, .string x1.1.V.S]) RTArg.lasts Sl_33 Zr_60 rfl rfl rfl rfl (fill_made MC_60_1 (fill_cons (C' := [iV x1.1.K, .string x1.1.S, iV x1.1.V.K, iV x1.1.V.N, .string x1.1.V.S]) rfl rfl rfl rfl rfl (fill_nil))) rfl rc1 rfl (by simpa using Kw.nil)) rfl ?_)
 rintro v2 Φ_2 D1 ⟨fr2, h2⟩
 replace h2 : OSl RTArg 60 5 Φ_2 [] v2 ([x1.1] : List TArg) := by simpa using h2
 replace phc0_0 := phc0_0.f0 fr2
 replace ppc0 := fr2 _ _ (by simp) ppc0
 replace h1 := fr2 _ _ (by simp) h1
 obtain ⟨x2, hx2, h⟩ := bs h
 have kf2 := kf1.se fr2
 refine WM.one 5 (by kernel_rfl) (me rfl (fun _ v Φx D w1 hq hw => Kn.of (kf2.st hq.1.2 (hq.1.1.r (i := 2) rfl)) aN hw) (e_appF RTArg.lasts RTArg.one RTArg.flat Sl_33 Ei_60 rfl rfl rfl rfl rfl (js := [3]) (Rr := [ob v2, [pbt1], [pbc0]]) rfl phc0_0 h2.rsl hx2) rfl ?_)
 rintro v3 Φ_3 D2 ⟨⟨ap2, fr3⟩, h3⟩
 replace ppc0 := fr3 _ _ ((ap2.q 2 rfl) _ (by simp)) ppc0
 replace h1 := fr3 _ _ ((ap2.q 1 rfl) _ (by simp)) h1
 have kf3 := kf2.st fr3 (ap2.q 2 rfl)
 refine mq 6 rfl (by kernel_rfl) (kn kf3 aN) (q_fieldAddr Fld_35_1 rfl) rfl ?_
 refine WM.thw (js := [3]) (R := [ob v3, ob v2, [pbt1]]) rfl ppc0 (fun Φ_4 ap3 fr4 => ?_)
 replace h3 := h3.fr fr4 (ap3.q 0 rfl) dN
 replace h1 := fr4 _ _ ((ap3.q 2 rfl) _ (by simp)) h1
 refine on1 7 (ms1 0 rfl nk Sz_33 rfl h3.one ?_)
 refine WM.nil (by kernel_rfl) ?_
 refine WT.frz (js := [0]) (R := []) rfl (fun Φ_5 fr5 k1 => ?_)
 replace h3 := h3.f0 fr5
 replace h1 := fr5 _ _ (by simp) h1
 refine WT.fin hF resOk.none (fun w1 hw => ?_)
 cases h
 refine postG_of_St (js := [0, 0, 1]) hw rfl ⟨v3, rfl, rfl, h3, k1, rfl, h1⟩
theorem m_i_parser_listOf_parser_pat_c1_ok (w0 : Base Ψ Φ [[pb0], [pbc0], ob pvc0_0].flatten) (p0 : Tparser) (c0 : TPat) (ph0_0 : RSl RTToken 3 Ψ pG0_0 pv0_0 p0.tokens) (pp0 : Φ pb0 = some (.cells #[pv0_0, iV p0.at_, .bool p0.bad] 75 (0, 0))) (phc0_0 : OSl RTArg 60 5 Φ [] pvc0_0 c0.Args) (ppc0 : Φ pbc0 = some (.cells #[.string c0.Kind, pvc0_0, .bool c0.Not] 35 (0, 0))) (ppc1 : Ψ pbc1 = some (.cells #[pQ pb0] 125 (0, 0))) {r : Tparser × TPat} (h : m_i_parser_listOf_parser_pat_c1 N p0 c0 = some r) :
  Calls prog 155 [pQ pb0, .func (.func 156) #[] [pQ pbc0, pQ pbc1].toArray].toArray w0.w (PostG Φ w0.w [[pb0], [pbc0], ob pvc0_0].flatten (fun Φ' Fs v => ∃ (so_1_0 : Value), v = .tuple #[] ∧ Fs = [[pb0], [pbc0], ob so_1_0] ∧ r.1.tokens = p0.tokens ∧ Φ' pb0 = some (.cells #[pv0_0, iV r.1.at_, .bool r.1.bad] 75 (0, 0)) ∧ OSl RTArg 60 5 Φ' [] so_1_0 r.2.Args ∧ Φ' pbc0 = some (.cells #[.string r.2.Kind, so_1_0, .bool r.2.Not] 35 (0, 0)))) := by
 refine eL func155 rfl ntmps155 rfl (L := [[pb0], [pbc0], ob pvc0_0]) w0 (fun hF => ?_)
 unfold m_i_parser_listOf_parser_pat_c1 at h
 refine sr <| la rfl <| kcb [0] h rfl rfl rfl rfl (fun b ap z q => m_i_parser_take_ok N b p0 5 (⟨#[40]⟩ : ByteArray) (ph0_0.y z) pp0 q) ?_
 rintro x1 h v1 Φ_1 F1 ⟨ap1, fr1, rfl, rfl, e1, h1⟩
 replace phc0_0 := phc0_0.fr fr1 (ap1.q 1 rfl) dN
 replace ppc0 := fr1 _ _ ((ap1.q 0 rfl) _ (by simp)) ppc0
 refine arr 5 [] rfl <| kcb [0] h rfl rfl rfl rfl (fun b ap z q => m_i_parser_skip_ok N b (⟨p0.tokens, x1.at_, x1.bad⟩ : Tparser) 5 (⟨#[41]⟩ : ByteArray) (ph0_0.y z) h1 q) ?_
 rintro x2 h v2 Φ_2 F2 ⟨ap2, fr2, rfl, rfl, e2, h2⟩
 replace phc0_0 := phc0_0.fr fr2 (ap2.q 1 rfl) dN
 replace ppc0 := fr2 _ _ ((ap2.q 0 rfl) _ (by simp)) ppc0
 refine en ?_
 refine ch h rfl ?_ ?_ <;> intro h
 ·exact rtg [0, 0, 0] hF resOk.none rfl (by cases h; exact fun w1 hw => ⟨pvc0_0, rfl, rfl, rfl, h2, phc0_0, ppc0⟩)
 refine att 7 [] rfl ?_
 refine lin (σ := Hp × (List TArg) × Value × Bool × Int × Bool × ByteArray × Bool) (fun s => [(0, pQ pb0), (1, .func (.func 156) #[] [pQ pbc0, pQ pbc1].toArray), (4, .bool s.2.2.2.1)]) (fun s => St w0 s.1 [] [[pb0], [pbc0], ob s.2.2.1]) (fun m s => m_i_parser_listOf_parser_pat_c1_l1 N p0 m s.2.1 s.2.2.2.1 s.2.2.2.2.1 s.2.2.2.2.2.1 s.2.2.2.2.2.2.1 s.2.2.2.2.2.2.2 = some r ∧ (OSl RTArg 60 5 s.1 [] s.2.2.1 s.2.1) ∧ (s.1 pb0 = some (.cells #[pv0_0, iV s.2.2.2.2.1, .bool s.2.2.2.2.2.1] 75 (0, 0))) ∧ (s.1 pbc0 = some (.cells #[.string s.2.2.2.2.2.2.1, s.2.2.1, .bool s.2.2.2.2.2.2.2] 35 (0, 0)))) (Φ_2, c0.Args, pvc0_0, true, x2.2.at_, x2.2.bad, c0.Kind, c0.Not) N ⟨h, phc0_0, h2, ppc0⟩ (sx [0, 0, 0] []) (fun n1 ih1 s hm => ?_)
 obtain ⟨Φ_3, s1, u1, s2, s3, s4, s5, s6⟩ := s
 obtain ⟨h, k1, k2, k3⟩ := hm
 dsimp only at h k1 k2 k3 ⊢
 unfold m_i_parser_listOf_parser_pat_c1_l1 at h
 refine atr 5 [] rfl ?_
 obtain ⟨b3, hb_1, h⟩ := bs h
 refine WL.cutN 6 [(16, .bool b3), (0, pQ pb0), (1, .func (.func 156) #[] [pQ pbc0, pQ pbc1].toArray)] ?_ (fun K => ?_)
 rotate_left
 ·refine sp 10 hb_1 rfl (fun hb_1 => ?_) fun hb_1 => ?_
  ·refine ly rfl rfl <| la rfl <| ly rfl rfl <| lq (q_nilCheck rfl) rfl <| ly rfl rfl <| lf Fld_75_2 rfl rfl rfl <| ly rfl rfl <| lgx 2 0 (rg_cells k2) rfl <| arr 2 [] rfl ?_
   cases hb_1
   exact ku K
  ·refine arr 6 [] rfl ?_
   cases hb_1
   exact ku K
 refine en ?_
 refine ch h rfl ?_ ?_ <;> intro h
 ·refine atr 5 [] rfl ?_
  obtain ⟨x3, hx3, h⟩ := bs h
  refine lc (k_callV (js := [1, 1, 0]) (R := []) Fun_156 rfl rfl rfl (fun w1 hw ap hl => m_i_parser_pat_c1_ok N (bx hw ap hl) (⟨s5, s1, s6⟩ : TPat) (⟨p0.tokens, s3, s4⟩ : Tparser) k1 k3 (ph0_0.y (hw.uo ap)) k2 (hw.uo ap _ _ ppc1)  hx3)) rfl ?_
  rintro v3 Φ_4 F3 ⟨ap3, fr3, v4, rfl, rfl, h3, h4, e3, h5⟩
  refine arr 4 [] rfl <| kcb [2] h rfl rfl rfl rfl (fun b ap z q => m_i_parser_skip_ok N b (⟨p0.tokens, x3.2.at_, x3.2.bad⟩ : Tparser) 5 (⟨#[44]⟩ : ByteArray) (ph0_0.y z) h5 q) ?_
  rintro x4 h v5 Φ_5 F4 ⟨ap4, fr4, rfl, rfl, e4, h6⟩
  replace h3 := h3.fr fr4 (ap4.q 1 rfl) dN
  replace h4 := fr4 _ _ ((ap4.q 0 rfl) _ (by simp)) h4
  refine la rfl <| en ?_
  exact lb [0, 0, 0] [] (ih1 (_, _, _, _, _, _, _, _) ⟨h, h3, h6, h4⟩)
 refine atr 3 [] rfl <| kcb [0] h rfl rfl rfl rfl (fun b ap z q => m_i_parser_take_ok N b (⟨p0.tokens, s3, s4⟩ : Tparser) 5 (⟨#[41]⟩ : ByteArray) (ph0_0.y z) k2 q) ?_
 rintro x5 h v6 Φ_6 F5 ⟨ap5, fr5, rfl, rfl, e5, h7⟩
 replace k1 := k1.fr fr5 (ap5.q 1 rfl) dN
 replace k3 := fr5 _ _ ((ap5.q 0 rfl) _ (by simp)) k3
 refine en ?_
 refine WT.fin hF resOk.none (fun w1 hw => ?_)
 cases h
 refine postG_of_St (js := [0, 0, 0]) hw rfl ⟨u1, rfl, rfl, rfl, h7, k1, k3⟩
theorem m_i_parser_pat_ok (w0 : Base Ψ Φ [[pb0]].flatten) (p0 : Tparser) (ph0_0 : RSl RTToken 3 Ψ pG0_0 pv0_0 p0.tokens) (pp0 : Φ pb0 = some (.cells #[pv0_0, iV p0.at_, .bool p0.bad] 75 (0, 0))) {r : TPat × Tparser} (h : m_i_parser_pat N p0 = some r) :
  Calls prog 99 [pQ pb0].toArray w0.w (PostG Φ w0.w [[pb0]].flatten (fun Φ' Fs v => ∃ (sr_0_0 : Value), v = .agg [.string r.1.Kind, sr_0_0, .bool r.1.Not].toArray ∧ Fs = [ob sr_0_0, [pb0]] ∧ OSl RTArg 60 5 Φ' [] sr_0_0 r.1.Args ∧ r.2.tokens = p0.tokens ∧ Φ' pb0 = some (.cells #[pv0_0, iV r.2.at_, .bool r.2.bad] 75 (0, 0)))) := by
 refine eL func99 rfl ntmps99 rfl (L := [[pb0]]) w0 (fun hF => ?_)
 unfold m_i_parser_pat at h
 refine sr ?_
 refine ln (n_box (C := #[pQ pb0]) rfl (rfl)) rfl (fun b_1 => ?_)
 refine lnz Zr_35 rfl fun b_2 => arr 4 [32] rfl <| kcb [0] h rfl rfl rfl rfl (fun b ap z q => m_i_parser_skip_ok N b p0 5 (⟨#[33]⟩ : ByteArray) (ph0_0.y z) pp0 q) ?_
 rintro x1 h v1 Φ_1 F1 ⟨ap1, fr1, rfl, rfl, e1, h1⟩
 refine lq (q_build (vs := [(2, .bool x1.1)]) (C := #[.string (⟨#[]⟩ : ByteArray), .slice none 0 0, .bool x1.1]) Pl_35 Zr_35 rfl (fill_cons (C' := [.string ⟨#[]⟩, .slice none 0 0, .bool x1.1]) rfl rfl rfl rfl rfl (fill_nil))) rfl <| lnz Zr_35 rfl fun b_3 => soN 0 Sz_35 rfl ⟨rfl, rfl, rfl, trivial⟩ rfl ?_
 refine arr 4 [64] rfl <| kcb [0] h rfl rfl rfl rfl (fun b ap z q => m_i_parser_word_ok N b (⟨p0.tokens, x1.2.at_, x1.2.bad⟩ : Tparser) 2 (ph0_0.y z) h1 q) ?_
 rintro x2 h v2 Φ_2 F2 ⟨ap2, fr2, rfl, rfl, e2, h2⟩
 refine lq (q_field1 Fd1_77_2 rfl rfl) rfl <| lf Fld_35_0 rfl rfl rfl <| so1 0 Sz_9 rfl rfl ?_
 refine arr 4 [64] rfl ?_
 refine WL.frz (js := [0]) (R := [(b_2, .cells #[.string (⟨#[]⟩ : ByteArray), .slice none 0 0, .bool false] 35 (0, 0)), (b_1, .cells #[pQ pb0] 125 (0, 0))]) rfl (fun Φ_3 fr3 k1 => ?_)
 replace h2 := fr3 _ _ (by simp) h2
 refine WL.frz (js := [1]) (R := [(b_2, .cells #[.string (⟨#[]⟩ : ByteArray), .slice none 0 0, .bool false] 35 (0, 0))]) rfl (fun Φ_4 fr4 k2 => ?_)
 replace k1 := fr4 _ _ (by simp) k1
 replace h2 := fr4 _ _ (by simp) h2
 refine lq (q_makeFunc rfl) rfl <| wlS ?_
 have k3 := OSl.nil RTArg 60 5 Φ_4
 refine kcb [3, 2, 0] h rfl rfl rfl rfl (fun b ap z q => m_i_parser_listOf_parser_pat_c1_ok N b (⟨p0.tokens, x2.2.at_, x2.2.bad⟩ : Tparser) (⟨x2.1.S, ([] : List TArg), x1.1⟩ : TPat) (ph0_0.y z) h2 k3 k1 (offv k2 (ap.q 0 rfl)) q) ?_
 rintro x3 h v3 Φ_5 F3 ⟨ap3, fr5, v4, rfl, rfl, e3, h3, h4, h5⟩
 refine en <| sr <| lgx 0 3 (rg_cells h5) rfl <| soN 0 Sz_35 rfl ⟨rfl, h4.one, rfl, trivial⟩ rfl ?_
 refine en ?_
 exact rtg [2, 0] hF (resOk.one (rv_cell Tn_35 rfl (fun w1 hw => hw.rgO (i := 0) rfl 0 3 [.string x3.2.Kind, v4, .bool x3.2.Not] rfl) rfl)) rfl (by cases h; exact fun w1 hw => ⟨v4, rfl, rfl, h4, rfl, h3⟩)
theorem m_i_parser_cond_ok (w0 : Base Ψ Φ [[pb0]].flatten) (p0 : Tparser) (ph0_0 : RSl RTToken 3 Ψ pG0_0 pv0_0 p0.tokens) (pp0 : Φ pb0 = some (.cells #[pv0_0, iV p0.at_, .bool p0.bad] 75 (0, 0))) {r : TCond × Tparser} (h : m_i_parser_cond N p0 = some r) :
  Calls prog 100 [pQ pb0].toArray w0.w (PostG Φ w0.w [[pb0]].flatten (fun Φ' Fs v => v = .agg [iV r.1.Op, iV r.1.L.K, .string r.1.L.S, iV r.1.L.V.K, iV r.1.L.V.N, .string r.1.L.V.S, iV r.1.R.K, .string r.1.R.S, iV r.1.R.V.K, iV r.1.R.V.N, .string r.1.R.V.S].toArray ∧ Fs = [[pb0]] ∧ r.2.tokens = p0.tokens ∧ Φ' pb0 = some (.cells #[pv0_0, iV r.2.at_, .bool r.2.bad] 75 (0, 0)))) := by
 refine eL func100 rfl ntmps100 rfl (L := [[pb0]]) w0 (fun hF => ?_)
 unfold m_i_parser_cond at h
 refine sr <| lnz Zr_62 rfl fun b_1 => arr 4 [] rfl <| kcb [0] h rfl rfl rfl rfl (fun b ap z q => m_i_parser_arg_ok N b p0 (ph0_0.y z) pp0 q) ?_
 rintro x1 h v1 Φ_1 F1 ⟨ap1, fr1, rfl, rfl, e1, h1⟩
 refine lq (q_build (vs := [(1, .agg [iV x1.1.K, .string x1.1.S, iV x1.1.V.K, iV x1.1.V.N, .string x1.1.V.S].toArray)]) (C := #[iV 0, iV x1.1.K, .string x1.1.S, iV x1.1.V.K, iV x1.1.V.N, .string x1.1.V.S, iV 0, .string (⟨#[]⟩ : ByteArray), iV 0, iV 0, .string (⟨#[]⟩ : ByteArray)]) Pl_62 Zr_62 rfl (fill_cons (C' := [iV 0, iV x1.1.K, .string x1.1.S, iV x1.1.V.K, iV x1.1.V.N, .string x1.1.V.S, iV 0, .string ⟨#[]⟩, iV 0, iV 0, .string ⟨#[]⟩]) rfl rfl rfl rfl rfl (fill_nil))) rfl ?_
 refine lnz Zr_62 rfl fun b_2 => soN 0 Sz_62 rfl ⟨rfl, rfl, rfl, rfl, rfl, rfl, rfl, rfl, rfl, rfl, rfl, trivial⟩ rfl ?_
 refine arr 6 [] rfl <| kcb [0] h rfl rfl rfl rfl (fun b ap z q => m_i_parser_skip_ok N b (⟨p0.tokens, x1.2.at_, x1.2.bad⟩ : Tparser) 5 (⟨#[61]⟩ : ByteArray) (ph0_0.y z) h1 q) ?_
 rintro x2 h v2 Φ_2 F2 ⟨ap2, fr2, rfl, rfl, e2, h2⟩
 refine la rfl <| en ?_
 refine cut (σ := Hp × Int × Bool × Int) (fun s => [(0, pQ pb0), (2, pQ b_1), (3, pQ b_2)]) (fun s => St w0 s.1 [(b_2, .cells #[iV s.2.2.2, iV x1.1.K, .string x1.1.S, iV x1.1.V.K, iV x1.1.V.N, .string x1.1.V.S, iV 0, .string (⟨#[]⟩ : ByteArray), iV 0, iV 0, .string (⟨#[]⟩ : ByteArray)] 62 (0, 0)), (b_1, .cells #[iV 0, iV 0, .string (⟨#[]⟩ : ByteArray), iV 0, iV 0, .string (⟨#[]⟩ : ByteArray), iV 0, .string (⟨#[]⟩ : ByteArray), iV 0, iV 0, .string (⟨#[]⟩ : ByteArray)] 62 (0, 0))] [[pb0]]) (fun s => m_i_parser_cond_j1 N p0 x1 s.2.1 s.2.2.1 s.2.2.2 = some r ∧ (s.1 pb0 = some (.cells #[pv0_0, iV s.2.1, .bool s.2.2.1] 75 (0, 0)))) (fun s hm => ?_) (fun K => ?_)
 ·clear h
  obtain ⟨Φ_3, s1, s2, s3⟩ := s
  obtain ⟨h, k1⟩ := hm
  dsimp only at h k1 ⊢
  unfold m_i_parser_cond_j1 at h
  refine atr 4 [] rfl <| kcb [0] h rfl rfl rfl rfl (fun b ap z q => m_i_parser_arg_ok N b (⟨p0.tokens, s1, s2⟩ : Tparser) (ph0_0.y z) k1 q) ?_
  rintro x3 h v3 Φ_4 F3 ⟨ap3, fr3, rfl, rfl, e3, h3⟩
  refine lf Fld_62_2 rfl rfl rfl <| soN 0 Sz_60 rfl ⟨rfl, rfl, rfl, rfl, rfl, trivial⟩ rfl ?_
  refine arr 4 [11] rfl <| soN 1 Sz_62 rfl ⟨rfl, rfl, rfl, rfl, rfl, rfl, rfl, rfl, rfl, rfl, rfl, trivial⟩ rfl ?_
  refine en ?_
  exact rtg [0] hF (resOk.one (rv_cell Tn_62 rfl (fun w1 hw => hw.rgO (i := 1) rfl 0 11 [iV s3, iV x1.1.K, .string x1.1.S, iV x1.1.V.K, iV x1.1.V.N, .string x1.1.V.S, iV x3.1.K, .string x3.1.S, iV x3.1.V.K, iV x3.1.V.N, .string x3.1.V.S] rfl) rfl)) rfl (by cases h; exact fun w1 hw => ⟨rfl, rfl, rfl, h3⟩)
 refine ch h rfl ?_ ?_ <;> intro h
 ·refine atr 2 [0] rfl <| so1 0 Sz_3 rfl rfl ?_
  refine en ?_
  exact wo [0] [0, 0] (K (_, _, _, _) ⟨h, h2⟩)
 refine sr <| la rfl <| kcb [0] h rfl rfl rfl rfl (fun b ap z q => m_i_parser_skip_ok N b (⟨p0.tokens, x2.2.at_, x2.2.bad⟩ : Tparser) 5 (⟨#[35]⟩ : ByteArray) (ph0_0.y z) h2 q) ?_
 rintro x4 h v4 Φ_5 F4 ⟨ap4, fr4, rfl, rfl, e4, h4⟩
 refine la rfl <| en ?_
 refine ch h rfl ?_ ?_ <;> intro h
 ·refine atr 2 [0] rfl <| so1 0 Sz_3 rfl rfl ?_
  refine en ?_
  exact wo [0] [0, 0] (K (_, _, _, _) ⟨h, h4⟩)
 refine sr <| la rfl <| kcb [0] h rfl rfl rfl rfl (fun b ap z q => m_i_parser_skip_ok N b (⟨p0.tokens, x4.2.at_, x4.2.bad⟩ : Tparser) 5 (⟨#[60]⟩ : ByteArray) (ph0_0.y z) h4 q) ?_
 rintro x5 h v5 Φ_6 F5 ⟨ap5, fr5, rfl, rfl, e5, h5⟩
 refine la rfl <| en ?_
 refine ch h rfl ?_ ?_ <;> intro h
 ·refine atr 2 [0] rfl <| so1 0 Sz_3 rfl rfl ?_
  refine en ?_
  exact wo [0] [0, 0] (K (_, _, _, _) ⟨h, h5⟩)
 refine atr 2 [] rfl <| lq (q_nilCheck rfl) rfl <| lf Fld_75_2 rfl rfl rfl ?_
 refine WL.thw (js := [0]) (R := []) rfl h5 (fun Φ_7 ap6 fr6 => ?_)
 refine so1 0 Sz_4 rfl rfl ?_
 refine en ?_
 refine WT.frz (js := [0]) (R := [(b_2, .cells #[iV 0, iV x1.1.K, .string x1.1.S, iV x1.1.V.K, iV x1.1.V.N, .string x1.1.V.S, iV 0, .string (⟨#[]⟩ : ByteArray), iV 0, iV 0, .string (⟨#[]⟩ : ByteArray)] 62 (0, 0)), (b_1, .cells #[iV 0, iV 0, .string (⟨#[]⟩ : ByteArray), iV 0, iV 0, .string (⟨#[]⟩ : ByteArray), iV 0, .string (⟨#[]⟩ : ByteArray), iV 0, iV 0, .string (⟨#[]⟩ : ByteArray)] 62 (0, 0))]) rfl (fun Φ_8 fr7 k2 => ?_)
 exact wo [0] [0, 0] (K (_, _, _, _) ⟨h, k2⟩)
theorem m_i_parser_expr_ok (w0 : Base Ψ Φ [[pb0]].flatten) (p0 : Tparser) (ph0_0 : RSl RTToken 3 Ψ pG0_0 pv0_0 p0.tokens) (pp0 : Φ pb0 = some (.cells #[pv0_0, iV p0.at_, .bool p0.bad] 75 (0, 0))) {r : TExpr × Tparser} (h : m_i_parser_expr N p0 = some r) :
  Calls prog 200 [pQ pb0].toArray w0.w (PostG Φ w0.w [[pb0]].flatten (fun Φ' Fs v => v = .agg [.string r.1.Op, iV r.1.L.K, .string r.1.L.S, iV r.1.L.V.K, iV r.1.L.V.N, .string r.1.L.V.S, iV r.1.R.K, .string r.1.R.S, iV r.1.R.V.K, iV r.1.R.V.N, .string r.1.R.V.S].toArray ∧ Fs = [[pb0]] ∧ r.2.tokens = p0.tokens ∧ Φ' pb0 = some (.cells #[pv0_0, iV r.2.at_, .bool r.2.bad] 75 (0, 0)))) := by
 refine eL func200 rfl ntmps200 rfl (L := [[pb0]]) w0 (fun hF => ?_)
 unfold m_i_parser_expr at h
 refine sr <| lnz Zr_116 rfl fun b_1 => arr 4 [] rfl <| kcb [0] h rfl rfl rfl rfl (fun b ap z q => m_i_parser_arg_ok N b p0 (ph0_0.y z) pp0 q) ?_
 rintro x1 h v1 Φ_1 F1 ⟨ap1, fr1, rfl, rfl, e1, h1⟩
 refine lq (q_build (vs := [(1, .agg [iV x1.1.K, .string x1.1.S, iV x1.1.V.K, iV x1.1.V.N, .string x1.1.V.S].toArray)]) (C := #[.string (⟨#[]⟩ : ByteArray), iV x1.1.K, .string x1.1.S, iV x1.1.V.K, iV x1.1.V.N, .string x1.1.V.S, iV 0, .string (⟨#[]⟩ : ByteArray), iV 0, iV 0, .string (⟨#[]⟩ : ByteArray)]) Pl_116 Zr_116 rfl (fill_cons (C' := [.string ⟨#[]⟩, iV x1.1.K, .string x1.1.S, iV x1.1.V.K, iV x1.1.V.N, .string x1.1.V.S, iV 0, .string ⟨#[]⟩, iV 0, iV 0, .string ⟨#[]⟩]) rfl rfl rfl rfl rfl (fill_nil))) rfl ?_
 refine lnz Zr_116 rfl fun b_2 => soN 0 Sz_116 rfl ⟨rfl, rfl, rfl, rfl, rfl, rfl, rfl, rfl, rfl, rfl, rfl, trivial⟩ rfl ?_
 refine arr 4 [] rfl ?_
 have rc1 : RC RS 1 Φ_1 ([[], []] : List (List Nat)) [.string (⟨#[43]⟩ : ByteArray), .string (⟨#[45]⟩ : ByteArray)] ([(⟨#[43]⟩ : ByteArray), (⟨#[45]⟩ : ByteArray)] : List ByteArray) := RC.cons (c := [.string (⟨#[43]⟩ : ByteArray)]) (cells := [.string (⟨#[45]⟩ : ByteArray)]) ⟨rfl, rfl⟩ rfl (RC.cons (c := [.string (⟨#[45]⟩ : ByteArray)]) (cells := []) ⟨rfl, rfl⟩ rfl (RC.nil _ _ _))
 refine le' (e_lit (vs := [(0, .string (⟨#[43]⟩ : ByteArray)), (1, .string (⟨#[45]⟩ : ByteArray))]) (C := #[.string (⟨#[43]⟩ : ByteArray), .string (⟨#[45]⟩ : ByteArray)]) RS.lasts Sl_68 Zr_9 rfl rfl rfl rfl (fill_made MC_9_2 (fill_cons (C' := [.string (⟨#[43]⟩ : ByteArray), .string ⟨#[]⟩]) rfl rfl rfl rfl rfl (fill_cons (C' := [.string (⟨#[43]⟩ : ByteArray), .string (⟨#[45]⟩ : ByteArray)]) rfl rfl rfl rfl rfl (fill_nil)))) rfl rc1 rfl (by simpa using Kw.nil)) rfl ?_
 rintro v2 Φ_2 D1 ⟨fr2, h2⟩
 replace h2 : OSl RS 9 1 Φ_2 [] v2 ([(⟨#[43]⟩ : ByteArray), (⟨#[45]⟩ : ByteArray)] : List ByteArray) := by simpa using h2
 replace h1 := fr2 _ _ (by simp) h1
 refine lno h2 rfl <| art 3 [] rfl ?_
 refine lin (σ := Hp × Int × Int × Bool) (fun s => [(0, pQ pb0), (2, pQ b_1), (3, pQ b_2), (9, v2), (10, iV (([(⟨#[43]⟩ : ByteArray), (⟨#[45]⟩ : ByteArray)] : List ByteArray).length : Int)), (11, iV s.2.1)]) (fun s => St w0 s.1 [(b_2, .cells #[.string (⟨#[]⟩ : ByteArray), iV x1.1.K, .string x1.1.S, iV x1.1.V.K, iV x1.1.V.N, .string x1.1.V.S, iV 0, .string (⟨#[]⟩ : ByteArray), iV 0, iV 0, .string (⟨#[]⟩ : ByteArray)] 116 (0, 0)), (b_1, .cells #[.string (⟨#[]⟩ : ByteArray), iV 0, .string (⟨#[]⟩ : ByteArray), iV 0, iV 0, .string (⟨#[]⟩ : ByteArray), iV 0, .string (⟨#[]⟩ : ByteArray), iV 0, iV 0, .string (⟨#[]⟩ : ByteArray)] 116 (0, 0))] [ob v2, [pb0]]) (fun m s => m_i_parser_expr_l1 N p0 x1 m s.2.1 s.2.2.1 s.2.2.2 = some r ∧ (OSl RS 9 1 s.1 [] v2 ([(⟨#[43]⟩ : ByteArray), (⟨#[45]⟩ : ByteArray)] : List ByteArray)) ∧ (s.1 pb0 = some (.cells #[pv0_0, iV s.2.2.1, .bool s.2.2.2] 75 (0, 0)))) (Φ_2, 0, x1.2.at_, x1.2.bad) N ⟨h, h2, h1⟩ (sx [0, 0] [0, 0]) (fun n1 ih1 s hm => ?_)
 obtain ⟨Φ_3, s1, s2, s3⟩ := s
 obtain ⟨h, h2, k1⟩ := hm
 dsimp only at h h2 k1 ⊢
 unfold m_i_parser_expr_l1 at h
 refine att 5 [] rfl ?_
 refine ch h rfl ?_ ?_ <;> intro h
 ·refine atr 5 [] rfl ?_
  obtain ⟨x2, hx2, h⟩ := bs h
  obtain ⟨cs1, F2, -, g1, hb1, hs1, r1⟩ := h2.elS (idx_some hx2).2.2
  obtain ⟨rfl, -⟩ := r1
  refine lio h2 hx2 rfl <| lgx 0 0 g1 rfl <| arr 6 [] rfl <| kcb [1] h rfl rfl rfl rfl (fun b ap z q => m_i_parser_skip_ok N b (⟨p0.tokens, s2, s3⟩ : Tparser) 5 x2 (ph0_0.y z) k1 q) ?_
  rintro x3 h v3 Φ_4 F3 ⟨ap2, fr3, rfl, rfl, e2, h3⟩
  replace h2 := h2.fr fr3 (ap2.q 0 rfl) dN
  refine en ?_
  refine ch h rfl ?_ ?_ <;> intro h
  ·refine atr 4 [0] rfl <| so1 0 Sz_9 rfl rfl ?_
   refine arr 4 [] rfl <| kcb [0] h rfl rfl rfl rfl (fun b ap z q => m_i_parser_arg_ok N b (⟨p0.tokens, x3.2.at_, x3.2.bad⟩ : Tparser) (ph0_0.y z) h3 q) ?_
   rintro x4 h v4 Φ_5 F4 ⟨ap3, fr4, rfl, rfl, e3, h4⟩
   refine lf Fld_116_2 rfl rfl rfl <| soN 0 Sz_60 rfl ⟨rfl, rfl, rfl, rfl, rfl, trivial⟩ rfl ?_
   refine arr 4 [11] rfl <| soN 1 Sz_116 rfl ⟨rfl, rfl, rfl, rfl, rfl, rfl, rfl, rfl, rfl, rfl, rfl, trivial⟩ rfl ?_
   refine en ?_
   exact rtg [0] hF (resOk.one (rv_cell Tn_116 rfl (fun w1 hw => hw.rgO (i := 1) rfl 0 11 [.string x2, iV x1.1.K, .string x1.1.S, iV x1.1.V.K, iV x1.1.V.N, .string x1.1.V.S, iV x4.1.K, .string x4.1.S, iV x4.1.V.K, iV x4.1.V.N, .string x4.1.V.S] rfl) rfl)) rfl (by cases h; exact fun w1 hw => ⟨rfl, rfl, rfl, h4⟩)
  refine att 6 [] rfl ?_
  exact lb [1, 0] [0, 0] (ih1 (_, _, _, _) ⟨h, h2, h3⟩)
 refine atr 4 [11] rfl <| soN 1 Sz_116 rfl ⟨rfl, rfl, rfl, rfl, rfl, rfl, rfl, rfl, rfl, rfl, rfl, trivial⟩ rfl ?_
 refine en ?_
 exact rtg [1] hF (resOk.one (rv_cell Tn_116 rfl (fun w1 hw => hw.rgO (i := 1) rfl 0 11 [.string (⟨#[]⟩ : ByteArray), iV x1.1.K, .string x1.1.S, iV x1.1.V.K, iV x1.1.V.N, .string x1.1.V.S, iV 0, .string (⟨#[]⟩ : ByteArray), iV 0, iV 0, .string (⟨#[]⟩ : ByteArray)] rfl) rfl)) rfl (by cases h; exact fun w1 hw => ⟨rfl, rfl, rfl, k1⟩)
theorem m_i_parser_call_c1_ok (w0 : Base Ψ Φ [[pbt0], ob pvt0_0, [pbt1]].flatten) (c0 : TAct) (c1 : Tparser) (pht0_0 : OSl RTExpr 116 11 Φ [] pvt0_0 c0.Args) (ppt0 : Φ pbt0 = some (.cells #[iV c0.Kind, .string c0.Name, pvt0_0, iV c0.N, .string c0.Undo] 66 (0, 0))) (ppc0 : Ψ pbc0 = some (.cells #[pQ pbt0] 171 (0, 0))) (pht1_0 : RSl RTToken 3 Ψ pGt1_0 pvt1_0 c1.tokens) (ppt1 : Φ pbt1 = some (.cells #[pvt1_0, iV c1.at_, .bool c1.bad] 75 (0, 0))) (ppc1 : Ψ pbc1 = some (.cells #[pQ pbt1] 125 (0, 0))) {r : TAct × Tparser} (h : m_i_parser_call_c1 N c0 c1 = some r) :
  Calls prog 199 [pQ pbc0, pQ pbc1].toArray w0.w (PostG Φ w0.w [[pbt0], ob pvt0_0, [pbt1]].flatten (fun Φ' Fs v => ∃ (so_0_0 : Value), v = .tuple #[] ∧ Fs = [[pbt0], ob so_0_0, [pbt1]] ∧ OSl RTExpr 116 11 Φ' [] so_0_0 r.1.Args ∧ Φ' pbt0 = some (.cells #[iV r.1.Kind, .string r.1.Name, so_0_0, iV r.1.N, .string r.1.Undo] 66 (0, 0)) ∧ r.2.tokens = c1.tokens ∧ Φ' pbt1 = some (.cells #[pvt1_0, iV r.2.at_, .bool r.2.bad] 75 (0, 0)))) := by
 refine eL func199 rfl ntmps199 rfl (L := [[pbt0], ob pvt0_0, [pbt1]]) w0 (fun hF => ?_)
 unfold m_i_parser_call_c1 at h
 refine WT.mix (Kn w0 Φ [pbt0] []) (fun i => match i with | 11 => false | _ => true) mixed (fun _ h => h.drew) <| mq 0 rfl (by kernel_rfl) (kn Kf.id aN) (q_load1 T1_171 rfl (fun w1 hw => ((rg_cells ppc0).of_eq 0 1 rfl rfl : rg _ _ _ [pQ pbt0]).rangeAt hw.1)) rfl <| mq 1 rfl (by kernel_rfl) (kn Kf.id aN) (q_load1 T1_171 rfl (fun w1 hw => ((rg_cells ppc0).of_eq 0 1 rfl rfl : rg _ _ _ [pQ pbt0]).rangeAt hw.1)) rfl <| mq 2 rfl (by kernel_rfl) (kn Kf.id aN) (q_nilCheck rfl) rfl <| mq 3 rfl (by kernel_rfl) (kn Kf.id aN) (q_fieldAddr Fld_66_2 rfl) rfl ?_
 refine mq 4 rfl (by kernel_rfl) (kn Kf.id aN) (q_load1 T1_64 rfl (fun w1 hw => hw.rg (by simp) ((rg_cells ppt0).of_eq 2 1 rfl rfl : rg _ _ _ [pvt0_0]))) rfl <| mq 5 rfl (by kernel_rfl) (kn Kf.id aN) (q_load1 T1_125 rfl (fun w1 hw => ((rg_cells ppc1).of_eq 0 1 rfl rfl : rg _ _ _ [pQ pbt1]).rangeAt hw.1)) rfl ?_
 obtain ⟨x1, hx1, h⟩ := bs h
 refine WM.one 6 (by kernel_rfl) (mc rfl (fun _ v Φx D w1 hq hw => Kn.of (Kf.id.st hq.2.1 (hq.1.r (i := 0) rfl)) aN hw) (k_call (js := [2]) (R := [[pbt0], ob pvt0_0]) Fun_200 rfl rfl (fun w1 hw ap hl => m_i_parser_expr_ok N (bx hw ap hl) c1 (pht1_0.y (hw.uo ap)) ppt1  hx1)) rfl ?_)
 rintro v1 Φ_1 F1 ⟨ap1, fr1, rfl, rfl, e1, h1⟩
 replace pht0_0 := pht0_0.fr fr1 (ap1.q 1 rfl) dN
 replace ppt0 := fr1 _ _ ((ap1.q 0 rfl) _ (by simp)) ppt0
 have rc1 : RC RTExpr 11 Φ_1 ([[]] : List (List Nat)) [.string x1.1.Op, iV x1.1.L.K, .string x1.1.L.S, iV x1.1.L.V.K, iV x1.1.L.V.N, .string x1.1.L.V.S, iV x1.1.R.K, .string x1.1.R.S, iV x1.1.R.V.K, iV x1.1.R.V.N, .string x1.1.R.V.S] ([x1.1] : List TExpr) := RC.cons (c := [.string x1.1.Op, iV x1.1.L.K, .string x1.1.L.S, iV x1.1.L.V.K, iV x1.1.L.V.N, .string x1.1.L.V.S, iV x1.1.R.K, .string x1.1.R.S, iV x1.1.R.V.K, iV x1.1.R.V.N, .string x1.1.R.V.S]) (cells := []) ⟨rfl, rfl⟩ rfl (RC.nil _ _ _)
 have kf1 := (Kf.id (F := [pbt0]) : Kf Φ _ _).st fr1 (ap1.q 0 rfl)
 refine WM.one 7 (by kernel_rfl) (me rfl (fun _ v Φx D w1 hq hw => Kn.of (kf1.se hq.1) aN hw) (e_lit (vs := [(0, .agg [.string x1.1.Op, iV x1.1.L.K, .string x1.1.L.S, iV x1.1.L.V.K, iV x1.1.L.V.N, .string x1.1.L.V.S, iV x1.1.R.K, .string x1.1.R.S, iV x1.1.R.V.K, iV x1.1.R.V.N, .string x1.1.R.V.S].toArray)]) (C := #[.string x1.1.Op, iV x1.1.L.K, .string x1.1.L.S, iV x1.1.L.V.K, iV x1.1.L.V.N, .string x1.1.L.V.S, iV x1.1.R.K, .string x1.1.R.S, iV x1.1.R.V.K, iV x1.1.R.V.N, .string x1.1.R.V.S]) RTExpr.lasts Sl_64 Zr_116 rfl rfl rfl rfl (fill_made MC_116_1 (fill_cons (C' := [.string x1.1.Op, iV x1.1.L.K, .string x1.1.L.S, iV x1.1.L.V.K, iV x1.1.L.V.N, .string x1.1.L.V.S, iV x1.1.R.K, .string x1.1.R.S, iV x1.1.R.V.K, iV x1.1.R.V.N, .string x1.1.R.V.S]) rfl rfl rfl rfl rfl (fill_nil))) rfl rc1 rfl (by simpa using Kw.nil)) rfl ?_)
 rintro v2 Φ_2 D1 ⟨fr2, h2⟩
 replace h2 : OSl RTExpr 116 11 Φ_2 [] v2 ([x1.1] : List TExpr) := by simpa using h2
 replace pht0_0 := pht0_0.f0 fr2
 replace ppt0 := fr2 _ _ (by simp) ppt0
 replace h1 := fr2 _ _ (by simp) h1
 obtain ⟨x2, hx2, h⟩ := bs h
 have kf2 := kf1.se fr2
 refine WM.one 8 (by kernel_rfl) (me rfl (fun _ v Φx D w1 hq hw => Kn.of (kf2.st hq.1.2 (hq.1.1.r (i := 2) rfl)) aN hw) (e_appF RTExpr.lasts RTExpr.one RTExpr.flat Sl_64 Ei_116 rfl rfl rfl rfl rfl (js := [3]) (Rr := [ob v2, [pbt1], [pbt0]]) rfl pht0_0 h2.rsl hx2) rfl ?_)
 rintro v3 Φ_3 D2 ⟨⟨ap2, fr3⟩, h3⟩
 replace ppt0 := fr3 _ _ ((ap2.q 2 rfl) _ (by simp)) ppt0
 replace h1 := fr3 _ _ ((ap2.q 1 rfl) _ (by simp)) h1
 have kf3 := kf2.st fr3 (ap2.q 2 rfl)
 refine mqT 9 [10, 11] rfl (by kernel_rfl) (kn kf3 aN) (q_nilCheck rfl) rfl <| mq 10 rfl (by kernel_rfl) (kn kf3 aN) (q_fieldAddr Fld_66_2 rfl) rfl ?_
 refine WM.thw (js := [3]) (R := [ob v3, ob v2, [pbt1]]) rfl ppt0 (fun Φ_4 ap3 fr4 => ?_)
 replace h3 := h3.fr fr4 (ap3.q 0 rfl) dN
 replace h1 := fr4 _ _ ((ap3.q 2 rfl) _ (by simp)) h1
 refine on1 11 (ms1 0 rfl nk Sz_64 rfl h3.one ?_)
 refine WM.nil (by kernel_rfl) ?_
 refine WT.frz (js := [0]) (R := []) rfl (fun Φ_5 fr5 k1 => ?_)
 replace h3 := h3.f0 fr5
 replace h1 := fr5 _ _ (by simp) h1
 refine WT.fin hF resOk.none (fun w1 hw => ?_)
 cases h
 refine postG_of_St (js := [0, 0, 1]) hw rfl ⟨v3, rfl, rfl, h3, k1, rfl, h1⟩
theorem m_i_parser_listOf_parser_call_c1_ok (w0 : Base Ψ Φ [[pb0], [pbt0], ob pvt0_0].flatten) (p0 : Tparser) (c0 : TAct) (ph0_0 : RSl RTToken 3 Ψ pG0_0 pv0_0 p0.tokens) (pp0 : Φ pb0 = some (.cells #[pv0_0, iV p0.at_, .bool p0.bad] 75 (0, 0))) (pht0_0 : OSl RTExpr 116 11 Φ [] pvt0_0 c0.Args) (ppt0 : Φ pbt0 = some (.cells #[iV c0.Kind, .string c0.Name, pvt0_0, iV c0.N, .string c0.Undo] 66 (0, 0))) (ppc0 : Ψ pbc0 = some (.cells #[pQ pbt0] 171 (0, 0))) (ppc1 : Ψ pbc1 = some (.cells #[pQ pb0] 125 (0, 0))) {r : Tparser × TAct} (h : m_i_parser_listOf_parser_call_c1 N p0 c0 = some r) :
  Calls prog 155 [pQ pb0, .func (.func 199) #[] [pQ pbc0, pQ pbc1].toArray].toArray w0.w (PostG Φ w0.w [[pb0], [pbt0], ob pvt0_0].flatten (fun Φ' Fs v => ∃ (so_1_0 : Value), v = .tuple #[] ∧ Fs = [[pb0], [pbt0], ob so_1_0] ∧ r.1.tokens = p0.tokens ∧ Φ' pb0 = some (.cells #[pv0_0, iV r.1.at_, .bool r.1.bad] 75 (0, 0)) ∧ OSl RTExpr 116 11 Φ' [] so_1_0 r.2.Args ∧ Φ' pbt0 = some (.cells #[iV r.2.Kind, .string r.2.Name, so_1_0, iV r.2.N, .string r.2.Undo] 66 (0, 0)))) := by
 refine eL func155 rfl ntmps155 rfl (L := [[pb0], [pbt0], ob pvt0_0]) w0 (fun hF => ?_)
 unfold m_i_parser_listOf_parser_call_c1 at h
 refine sr <| la rfl <| kcb [0] h rfl rfl rfl rfl (fun b ap z q => m_i_parser_take_ok N b p0 5 (⟨#[40]⟩ : ByteArray) (ph0_0.y z) pp0 q) ?_
 rintro x1 h v1 Φ_1 F1 ⟨ap1, fr1, rfl, rfl, e1, h1⟩
 replace pht0_0 := pht0_0.fr fr1 (ap1.q 1 rfl) dN
 replace ppt0 := fr1 _ _ ((ap1.q 0 rfl) _ (by simp)) ppt0
 refine arr 5 [] rfl <| kcb [0] h rfl rfl rfl rfl (fun b ap z q => m_i_parser_skip_ok N b (⟨p0.tokens, x1.at_, x1.bad⟩ : Tparser) 5 (⟨#[41]⟩ : ByteArray) (ph0_0.y z) h1 q) ?_
 rintro x2 h v2 Φ_2 F2 ⟨ap2, fr2, rfl, rfl, e2, h2⟩
 replace pht0_0 := pht0_0.fr fr2 (ap2.q 1 rfl) dN
 replace ppt0 := fr2 _ _ ((ap2.q 0 rfl) _ (by simp)) ppt0
 refine en ?_
 refine ch h rfl ?_ ?_ <;> intro h
 ·exact rtg [0, 0, 0] hF resOk.none rfl (by cases h; exact fun w1 hw => ⟨pvt0_0, rfl, rfl, rfl, h2, pht0_0, ppt0⟩)
 refine att 7 [] rfl ?_
 refine lin (σ := Hp × (List TExpr) × Value × Bool × Int × Bool × Int × ByteArray × Int × ByteArray) (fun s => [(0, pQ pb0), (1, .func (.func 199) #[] [pQ pbc0, pQ pbc1].toArray), (4, .bool s.2.2.2.1)]) (fun s => St w0 s.1 [] [[pb0], [pbt0], ob s.2.2.1]) (fun m s => m_i_parser_listOf_parser_call_c1_l1 N p0 m s.2.1 s.2.2.2.1 s.2.2.2.2.1 s.2.2.2.2.2.1 s.2.2.2.2.2.2.1 s.2.2.2.2.2.2.2.1 s.2.2.2.2.2.2.2.2.1 s.2.2.2.2.2.2.2.2.2 = some r ∧ (OSl RTExpr 116 11 s.1 [] s.2.2.1 s.2.1) ∧ (s.1 pb0 = some (.cells #[pv0_0, iV s.2.2.2.2.1, .bool s.2.2.2.2.2.1] 75 (0, 0))) ∧ (s.1 pbt0 = some (.cells #[iV s.2.2.2.2.2.2.1, .string s.2.2.2.2.2.2.2.1, s.2.2.1, iV s.2.2.2.2.2.2.2.2.1, .string s.2.2.2.2.2.2.2.2.2] 66 (0, 0)))) (Φ_2, c0.Args, pvt0_0, true, x2.2.at_, x2.2.bad, c0.Kind, c0.Name, c0.N, c0.Undo) N ⟨h, pht0_0, h2, ppt0⟩ (sx [0, 0, 0] []) (fun n1 ih1 s hm => ?_)
 obtain ⟨Φ_3, s1, u1, s2, s3, s4, s5, s6, s7, s8⟩ := s
 obtain ⟨h, k1, k2, k3⟩ := hm
 dsimp only at h k1 k2 k3 ⊢
 unfold m_i_parser_listOf_parser_call_c1_l1 at h
 refine atr 5 [] rfl ?_
 obtain ⟨b3, hb_1, h⟩ := bs h
 refine WL.cutN 6 [(16, .bool b3), (0, pQ pb0), (1, .func (.func 199) #[] [pQ pbc0, pQ pbc1].toArray)] ?_ (fun K => ?_)
 rotate_left
 ·refine sp 10 hb_1 rfl (fun hb_1 => ?_) fun hb_1 => ?_
  ·refine ly rfl rfl <| la rfl <| ly rfl rfl <| lq (q_nilCheck rfl) rfl <| ly rfl rfl <| lf Fld_75_2 rfl rfl rfl <| ly rfl rfl <| lgx 2 0 (rg_cells k2) rfl <| arr 2 [] rfl ?_
   cases hb_1
   exact ku K
  ·refine arr 6 [] rfl ?_
   cases hb_1
   exact ku K
 refine en ?_
 refine ch h rfl ?_ ?_ <;> intro h
 ·refine atr 5 [] rfl ?_
  obtain ⟨x3, hx3, h⟩ := bs h
  refine lc (k_callV (js := [1, 1, 0]) (R := []) Fun_199 rfl rfl rfl (fun w1 hw ap hl => m_i_parser_call_c1_ok N (bx hw ap hl) (⟨s5, s6, s1, s7, s8⟩ : TAct) (⟨p0.tokens, s3, s4⟩ : Tparser) k1 k3 (hw.uo ap _ _ ppc0) (ph0_0.y (hw.uo ap)) k2 (hw.uo ap _ _ ppc1)  hx3)) rfl ?_
  rintro v3 Φ_4 F3 ⟨ap3, fr3, v4, rfl, rfl, h3, h4, e3, h5⟩
  refine arr 4 [] rfl <| kcb [2] h rfl rfl rfl rfl (fun b ap z q => m_i_parser_skip_ok N b (⟨p0.tokens, x3.2.at_, x3.2.bad⟩ : Tparser) 5 (⟨#[44]⟩ : ByteArray) (ph0_0.y z) h5 q) ?_
  rintro x4 h v5 Φ_5 F4 ⟨ap4, fr4, rfl, rfl, e4, h6⟩
  replace h3 := h3.fr fr4 (ap4.q 1 rfl) dN
  replace h4 := fr4 _ _ ((ap4.q 0 rfl) _ (by simp)) h4
  refine la rfl <| en ?_
  exact lb [0, 0, 0] [] (ih1 (_, _, _, _, _, _, _, _, _, _) ⟨h, h3, h6, h4⟩)
 refine atr 3 [] rfl <| kcb [0] h rfl rfl rfl rfl (fun b ap z q => m_i_parser_take_ok N b (⟨p0.tokens, s3, s4⟩ : Tparser) 5 (⟨#[41]⟩ : ByteArray) (ph0_0.y z) k2 q) ?_
 rintro x5 h v6 Φ_6 F5 ⟨ap5, fr5, rfl, rfl, e5, h7⟩
 replace k1 := k1.fr fr5 (ap5.q 1 rfl) dN
 replace k3 := fr5 _ _ ((ap5.q 0 rfl) _ (by simp)) k3
 refine en ?_
 refine WT.fin hF resOk.none (fun w1 hw => ?_)
 cases h
 refine postG_of_St (js := [0, 0, 0]) hw rfl ⟨u1, rfl, rfl, rfl, h7, k1, k3⟩
theorem m_i_parser_call_ok (w0 : Base Ψ Φ [[pb0], [pb1], ob pv1_0].flatten) (p0 : Tparser) (p1 : TAct) (ph0_0 : RSl RTToken 3 Ψ pG0_0 pv0_0 p0.tokens) (pp0 : Φ pb0 = some (.cells #[pv0_0, iV p0.at_, .bool p0.bad] 75 (0, 0))) (ph1_0 : OSl RTExpr 116 11 Φ [] pv1_0 p1.Args) (pp1 : Φ pb1 = some (.cells #[iV p1.Kind, .string p1.Name, pv1_0, iV p1.N, .string p1.Undo] 66 (0, 0))) {r : Tparser × TAct} (h : m_i_parser_call N p0 p1 = some r) :
  Calls prog 158 [pQ pb0, pQ pb1].toArray w0.w (PostG Φ w0.w [[pb0], [pb1], ob pv1_0].flatten (fun Φ' Fs v => ∃ (so_1_0 : Value), v = .tuple #[] ∧ Fs = [[pb0], [pb1], ob so_1_0] ∧ r.1.tokens = p0.tokens ∧ Φ' pb0 = some (.cells #[pv0_0, iV r.1.at_, .bool r.1.bad] 75 (0, 0)) ∧ OSl RTExpr 116 11 Φ' [] so_1_0 r.2.Args ∧ Φ' pb1 = some (.cells #[iV r.2.Kind, .string r.2.Name, so_1_0, iV r.2.N, .string r.2.Undo] 66 (0, 0)))) := by
 refine eL func158 rfl ntmps158 rfl (L := [[pb0], [pb1], ob pv1_0]) w0 (fun hF => ?_)
 unfold m_i_parser_call at h
 refine sr ?_
 refine ln (n_box (C := #[pQ pb0]) rfl (rfl)) rfl (fun b_1 => ?_)
 refine ln (n_box (C := #[pQ pb1]) rfl (rfl)) rfl (fun b_2 => ?_)
 refine en <| sq <| wm [0, 1] [6] rfl <| amm 2 [0, 0, 1, 32] [0, 1] rfl rfl ?_
 obtain ⟨x1, hx1, h⟩ := bs h
 refine WM.one 2 (by kernel_rfl) (mc rfl (fun _ v Φx D w1 hq hw => Kn.of Kf.nil (ai2 0 1 rfl rfl) hw) (k_call (js := [0]) (R := [[pb1], ob pv1_0]) Fun_47 rfl rfl (fun w1 hw ap hl => m_i_parser_word_ok N (bx hw ap hl) p0 2 (ph0_0.y (hw.uo ap)) pp0  hx1)) rfl ?_)
 rintro v1 Φ_1 F1 ⟨ap1, fr1, rfl, rfl, e1, h1⟩
 replace ph1_0 := ph1_0.fr fr1 (ap1.q 1 rfl) dN
 replace pp1 := fr1 _ _ ((ap1.q 0 rfl) _ (by simp)) pp1
 refine mq 3 rfl (by kernel_rfl) (kN [0, 1]) (q_field1 Fd1_77_2 rfl rfl) rfl <| mqT 4 [5, 6] rfl (by kernel_rfl) (kN [0, 1]) (q_nilCheck rfl) rfl <| amm 1 [5, 1] [0, 1] rfl rfl ?_
 refine WM.thw (js := [1]) (R := [[pb0], ob pv1_0]) rfl pp1 (fun Φ_2 ap2 fr2 => ?_)
 replace ph1_0 := ph1_0.fr fr2 (ap2.q 1 rfl) dN
 replace h1 := fr2 _ _ ((ap2.q 0 rfl) _ (by simp)) h1
 refine on1 6 (ms1 0 rfl nk Sz_9 rfl rfl ?_)
 refine WM.nil (by kernel_rfl) <| atr 2 [64] rfl ?_
 refine WL.frz (js := [1]) (R := [(pb1, .cells #[iV p1.Kind, .string x1.1.S, pv1_0, iV p1.N, .string p1.Undo] 66 (0, 0)), (b_1, .cells #[pQ pb0] 125 (0, 0))]) rfl (fun Φ_3 fr3 k1 => ?_)
 replace ph1_0 := ph1_0.f0 fr3
 replace h1 := fr3 _ _ (by simp) h1
 refine WL.frz (js := [1]) (R := [(pb1, .cells #[iV p1.Kind, .string x1.1.S, pv1_0, iV p1.N, .string p1.Undo] 66 (0, 0))]) rfl (fun Φ_4 fr4 k2 => ?_)
 replace ph1_0 := ph1_0.f0 fr4
 replace k1 := fr4 _ _ (by simp) k1
 replace h1 := fr4 _ _ (by simp) h1
 refine lq (q_makeFunc rfl) rfl ?_
 refine WL.frz (js := [0]) (R := []) rfl (fun Φ_5 fr5 k3 => ?_)
 replace ph1_0 := ph1_0.f0 fr5
 replace k2 := fr5 _ _ (by simp) k2
 replace k1 := fr5 _ _ (by simp) k1
 replace h1 := fr5 _ _ (by simp) h1
 refine kcb [3, 0, 2] h rfl rfl rfl rfl (fun b ap z q => m_i_parser_listOf_parser_call_c1_ok N b (⟨p0.tokens, x1.2.at_, x1.2.bad⟩ : Tparser) (⟨p1.Kind, x1.1.S, p1.Args, p1.N, p1.Undo⟩ : TAct) (ph0_0.y z) h1 ph1_0 k3 (offv k1 (ap.q 1 rfl)) (offv k2 (ap.q 0 rfl)) q) ?_
 rintro x2 h v2 Φ_6 F2 ⟨ap3, fr6, v3, rfl, rfl, e2, h2, h3, h4⟩
 refine en ?_
 refine WT.fin hF resOk.none (fun w1 hw => ?_)
 cases h
 refine postG_of_St (js := [0, 0, 0]) hw rfl ⟨v3, rfl, rfl, rfl, h2, h3, h4⟩
theorem m_i_parser_act_ok (w0 : Base Ψ Φ [[pb0]].flatten) (p0 : Tparser) (ph0_0 : RSl RTToken 3 Ψ pG0_0 pv0_0 p0.tokens) (pp0 : Φ pb0 = some (.cells #[pv0_0, iV p0.at_, .bool p0.bad] 75 (0, 0))) {r : TAct × Tparser} (h : m_i_parser_act N p0 = some r) :
  Calls prog 101 [pQ pb0].toArray w0.w (PostG Φ w0.w [[pb0]].flatten (fun Φ' Fs v => ∃ (sr_0_0 : Value), v = .agg [iV r.1.Kind, .string r.1.Name, sr_0_0, iV r.1.N, .string r.1.Undo].toArray ∧ Fs = [ob sr_0_0, [pb0]] ∧ OSl RTExpr 116 11 Φ' [] sr_0_0 r.1.Args ∧ r.2.tokens = p0.tokens ∧ Φ' pb0 = some (.cells #[pv0_0, iV r.2.at_, .bool r.2.bad] 75 (0, 0)))) := by
 refine eL func101 rfl ntmps101 rfl (L := [[pb0]]) w0 (fun hF => ?_)
 unfold m_i_parser_act at h
 refine sr <| lnz Zr_66 rfl fun b_1 => en <| sr <| lnz Zr_66 rfl fun b_2 => arr 5 [] rfl <| kcb [0] h rfl rfl rfl rfl (fun b ap z q => m_i_parser_word_ok N b p0 2 (ph0_0.y z) pp0 q) ?_
 rintro x1 h v1 Φ_1 F1 ⟨ap1, fr1, rfl, rfl, e1, h1⟩
 refine lq (q_field1 Fd1_77_2 rfl rfl) rfl <| art 7 [] rfl <| wtS ?_
 have k1 := OSl.nil RTExpr 116 11 Φ_1
 refine cut (σ := Hp × (List TExpr) × Value × Int × Bool × Int × ByteArray × Int × ByteArray) (fun s => [(2, pQ b_1), (3, pQ b_2)]) (fun s => St w0 s.1 [(b_2, .cells #[iV s.2.2.2.2.2.1, .string s.2.2.2.2.2.2.1, s.2.2.1, iV s.2.2.2.2.2.2.2.1, .string s.2.2.2.2.2.2.2.2] 66 (0, 0)), (b_1, .cells #[iV 0, .string (⟨#[]⟩ : ByteArray), .slice none 0 0, iV 0, .string (⟨#[]⟩ : ByteArray)] 66 (0, 0))] [ob s.2.2.1, [pb0]]) (fun s => m_i_parser_act_j1 N p0 s.2.1 s.2.2.2.1 s.2.2.2.2.1 s.2.2.2.2.2.1 s.2.2.2.2.2.2.1 s.2.2.2.2.2.2.2.1 s.2.2.2.2.2.2.2.2 = some r ∧ (OSl RTExpr 116 11 s.1 [] s.2.2.1 s.2.1) ∧ (s.1 pb0 = some (.cells #[pv0_0, iV s.2.2.2.1, .bool s.2.2.2.2.1] 75 (0, 0)))) (fun s hm => ?_) (fun K => ?_)
 ·clear h
  obtain ⟨Φ_2, s1, u1, s2, s3, s4, s5, s6, s7⟩ := s
  obtain ⟨h, k2, k3⟩ := hm
  dsimp only at h k2 k3 ⊢
  unfold m_i_parser_act_j1 at h
  refine atr 4 [5] rfl <| soN 1 Sz_66 rfl ⟨rfl, rfl, k2.one, rfl, rfl, trivial⟩ rfl ?_
  refine en ?_
  exact rtg [0, 0] hF (resOk.one (rv_cell Tn_66 rfl (fun w1 hw => hw.rgO (i := 1) rfl 0 5 [iV s4, .string s5, u1, iV s6, .string s7] rfl) rfl)) rfl (by cases h; exact fun w1 hw => ⟨u1, rfl, rfl, k2, rfl, k3⟩)
 refine ch h rfl ?_ ?_ <;> intro h
 ·refine atr 3 [0] rfl <| so1 0 Sz_3 rfl rfl ?_
  refine arr 3 [] rfl ?_
  refine WL.frz (js := [0]) (R := [(b_1, .cells #[iV 0, .string (⟨#[]⟩ : ByteArray), .slice none 0 0, iV 0, .string (⟨#[]⟩ : ByteArray)] 66 (0, 0))]) rfl (fun Φ_3 fr2 k4 => ?_)
  replace k1 := k1.f0 fr2
  replace h1 := fr2 _ _ (by simp) h1
  refine kcb [2, 0, 0] h rfl rfl rfl rfl (fun b ap z q => m_i_parser_call_ok N b (⟨p0.tokens, x1.2.at_, x1.2.bad⟩ : Tparser) (⟨1, (⟨#[]⟩ : ByteArray), ([] : List TExpr), 0, (⟨#[]⟩ : ByteArray)⟩ : TAct) (ph0_0.y z) h1 k1 k4 q) ?_
  rintro x2 h v2 Φ_4 F2 ⟨ap2, fr3, v3, rfl, rfl, e2, h2, h3, h4⟩
  refine en ?_
  refine WT.thw (js := [1]) (R := [[pb0], ob v3]) rfl h4 (fun Φ_5 ap3 fr4 => ?_)
  replace h3 := h3.fr fr4 (ap3.q 1 rfl) dN
  replace h2 := fr4 _ _ ((ap3.q 0 rfl) _ (by simp)) h2
  exact wo [1, 0] [0, 0] (K (_, _, _, _, _, _, _, _, _) ⟨h, h3, h2⟩)
 refine att 5 [] rfl ?_
 refine ch h rfl ?_ ?_ <;> intro h
 ·refine atr 3 [0] rfl <| so1 0 Sz_3 rfl rfl ?_
  refine arr 3 [] rfl <| kcb [1] h rfl rfl rfl rfl (fun b ap z q => m_i_parser_word_ok N b (⟨p0.tokens, x1.2.at_, x1.2.bad⟩ : Tparser) 1 (ph0_0.y z) h1 q) ?_
  rintro x3 h v4 Φ_6 F3 ⟨ap4, fr5, rfl, rfl, e3, h5⟩
  replace k1 := k1.fr fr5 (ap4.q 0 rfl) dN
  refine lq (q_field1 Fd1_77_1 rfl rfl) rfl <| lf Fld_66_3 rfl rfl rfl <| so1 0 Sz_3 rfl rfl ?_
  refine en ?_
  exact wo [1, 0] [0, 0] (K (_, _, _, _, _, _, _, _, _) ⟨h, k1, h5⟩)
 refine att 5 [] rfl ?_
 refine ch h rfl ?_ ?_ <;> intro h
 ·refine atr 3 [0] rfl <| so1 0 Sz_3 rfl rfl ?_
  refine arr 4 [] rfl ?_
  refine WL.frz (js := [0]) (R := [(b_1, .cells #[iV 0, .string (⟨#[]⟩ : ByteArray), .slice none 0 0, iV 0, .string (⟨#[]⟩ : ByteArray)] 66 (0, 0))]) rfl (fun Φ_7 fr6 k5 => ?_)
  replace k1 := k1.f0 fr6
  replace h1 := fr6 _ _ (by simp) h1
  refine kcb [2, 0, 0] h rfl rfl rfl rfl (fun b ap z q => m_i_parser_call_ok N b (⟨p0.tokens, x1.2.at_, x1.2.bad⟩ : Tparser) (⟨3, (⟨#[]⟩ : ByteArray), ([] : List TExpr), 0, (⟨#[]⟩ : ByteArray)⟩ : TAct) (ph0_0.y z) h1 k1 k5 q) ?_
  rintro x4 h v5 Φ_8 F4 ⟨ap5, fr7, v6, rfl, rfl, e4, h6, h7, h8⟩
  refine arr 4 [] rfl <| kcb [0] h rfl rfl rfl rfl (fun b ap z q => m_i_parser_skip_ok N b (⟨p0.tokens, x4.1.at_, x4.1.bad⟩ : Tparser) 2 (⟨#[117, 110, 100, 111]⟩ : ByteArray) (ph0_0.y z) h6 q) ?_
  rintro x5 h v7 Φ_9 F5 ⟨ap6, fr8, rfl, rfl, e5, h9⟩
  replace h7 := h7.fr fr8 (ap6.q 1 rfl) dN
  replace h8 := fr8 _ _ ((ap6.q 0 rfl) _ (by simp)) h8
  refine en ?_
  refine ch h rfl ?_ ?_ <;> intro h
  ·refine atr 2 [] rfl <| kcb [0] h rfl rfl rfl rfl (fun b ap z q => m_i_parser_word_ok N b (⟨p0.tokens, x5.2.at_, x5.2.bad⟩ : Tparser) 2 (ph0_0.y z) h9 q) ?_
   rintro x6 h v8 Φ_10 F6 ⟨ap7, fr9, rfl, rfl, e6, h10⟩
   replace h7 := h7.fr fr9 (ap7.q 1 rfl) dN
   replace h8 := fr9 _ _ ((ap7.q 0 rfl) _ (by simp)) h8
   refine lq (q_field1 Fd1_77_2 rfl rfl) rfl <| lf Fld_66_4 rfl rfl rfl ?_
   refine WL.thw (js := [1]) (R := [[pb0], ob v6]) rfl h8 (fun Φ_11 ap8 fr10 => ?_)
   replace h7 := h7.fr fr10 (ap8.q 1 rfl) dN
   replace h10 := fr10 _ _ ((ap8.q 0 rfl) _ (by simp)) h10
   refine so1 0 Sz_9 rfl rfl ?_
   refine en ?_
   exact wo [1, 0] [0, 0] (K (_, _, _, _, _, _, _, _, _) ⟨h, h7, h10⟩)
  refine WT.skip ?_
  refine WT.thw (js := [1]) (R := [[pb0], ob v6]) rfl h8 (fun Φ_12 ap9 fr11 => ?_)
  replace h7 := h7.fr fr11 (ap9.q 1 rfl) dN
  replace h9 := fr11 _ _ ((ap9.q 0 rfl) _ (by simp)) h9
  exact wo [1, 0] [0, 0] (K (_, _, _, _, _, _, _, _, _) ⟨h, h7, h9⟩)
 refine att 5 [] rfl ?_
 refine ch h rfl ?_ ?_ <;> intro h
 ·refine atr 3 [0] rfl <| so1 0 Sz_3 rfl rfl ?_
  refine arr 4 [] rfl <| kcb [1] h rfl rfl rfl rfl (fun b ap z q => m_i_parser_word_ok N b (⟨p0.tokens, x1.2.at_, x1.2.bad⟩ : Tparser) 1 (ph0_0.y z) h1 q) ?_
  rintro x7 h v9 Φ_13 F7 ⟨ap10, fr12, rfl, rfl, e7, h11⟩
  replace k1 := k1.fr fr12 (ap10.q 0 rfl) dN
  refine lq (q_field1 Fd1_77_1 rfl rfl) rfl <| lf Fld_66_3 rfl rfl rfl <| so1 0 Sz_3 rfl rfl ?_
  refine arr 3 [] rfl ?_
  refine WL.frz (js := [0]) (R := [(b_1, .cells #[iV 0, .string (⟨#[]⟩ : ByteArray), .slice none 0 0, iV 0, .string (⟨#[]⟩ : ByteArray)] 66 (0, 0))]) rfl (fun Φ_14 fr13 k6 => ?_)
  replace k1 := k1.f0 fr13
  replace h11 := fr13 _ _ (by simp) h11
  refine kcb [1, 0, 0] h rfl rfl rfl rfl (fun b ap z q => m_i_parser_call_ok N b (⟨p0.tokens, x7.2.at_, x7.2.bad⟩ : Tparser) (⟨4, (⟨#[]⟩ : ByteArray), ([] : List TExpr), x7.1.N, (⟨#[]⟩ : ByteArray)⟩ : TAct) (ph0_0.y z) h11 k1 k6 q) ?_
  rintro x8 h v10 Φ_15 F8 ⟨ap11, fr14, v11, rfl, rfl, e8, h12, h13, h14⟩
  refine en ?_
  refine WT.thw (js := [1]) (R := [[pb0], ob v11]) rfl h14 (fun Φ_16 ap12 fr15 => ?_)
  replace h13 := h13.fr fr15 (ap12.q 1 rfl) dN
  replace h12 := fr15 _ _ ((ap12.q 0 rfl) _ (by simp)) h12
  exact wo [1, 0] [0, 0] (K (_, _, _, _, _, _, _, _, _) ⟨h, h13, h12⟩)
 refine att 5 [] rfl ?_
 refine ch h rfl ?_ ?_ <;> intro h
 ·refine atr 2 [0] rfl <| so1 0 Sz_3 rfl rfl ?_
  refine en ?_
  exact wo [0, 0] [0, 0] (K (_, _, _, _, _, _, _, _, _) ⟨h, k1, h1⟩)
 refine att 5 [] rfl ?_
 refine ch h rfl ?_ ?_ <;> intro h
 ·refine atr 2 [0] rfl <| so1 0 Sz_3 rfl rfl ?_
  refine en ?_
  exact wo [0, 0] [0, 0] (K (_, _, _, _, _, _, _, _, _) ⟨h, k1, h1⟩)
 refine atr 2 [] rfl <| lq (q_nilCheck rfl) rfl <| lf Fld_75_2 rfl rfl rfl ?_
 refine WL.thw (js := [1]) (R := [ob (.slice none 0 0)]) rfl h1 (fun Φ_17 ap13 fr16 => ?_)
 replace k1 := k1.fr fr16 (ap13.q 0 rfl) dN
 refine so1 0 Sz_4 rfl rfl ?_
 refine en ?_
 refine WT.frz (js := [0]) (R := [(b_2, .cells #[iV 0, .string (⟨#[]⟩ : ByteArray), (.slice none 0 0), iV 0, .string (⟨#[]⟩ : ByteArray)] 66 (0, 0)), (b_1, .cells #[iV 0, .string (⟨#[]⟩ : ByteArray), .slice none 0 0, iV 0, .string (⟨#[]⟩ : ByteArray)] 66 (0, 0))]) rfl (fun Φ_18 fr17 k7 => ?_)
 replace k1 := k1.f0 fr17
 exact wo [1, 0] [0, 0] (K (_, _, _, _, _, _, _, _, _) ⟨h, k1, k7⟩)
theorem m_i_parser_rule_ok (w0 : Base Ψ Φ [[pb0]].flatten) (p0 : Tparser) (ph0_0 : RSl RTToken 3 Ψ pG0_0 pv0_0 p0.tokens) (pp0 : Φ pb0 = some (.cells #[pv0_0, iV p0.at_, .bool p0.bad] 75 (0, 0))) {r : TRule × Tparser} (h : m_i_parser_rule N p0 = some r) :
  Calls prog 48 [pQ pb0].toArray w0.w (PostG Φ w0.w [[pb0]].flatten (fun Φ' Fs v => ∃ (sr_0_0 : Value) (Dr_0_0 : List Nat) (sr_0_1 : Value) (sr_0_2 : Value) (Dr_0_2 : List Nat), v = .agg [.string r.1.Name, iV r.1.Sal, sr_0_0, sr_0_1, sr_0_2].toArray ∧ Fs = [ob sr_0_0, Dr_0_0, ob sr_0_1, ob sr_0_2, Dr_0_2, [pb0]] ∧ OSl OTPat 35 3 Φ' Dr_0_0 sr_0_0 r.1.Pats ∧ OSl RTCond 62 11 Φ' [] sr_0_1 r.1.Conds ∧ OSl OTAct 66 5 Φ' Dr_0_2 sr_0_2 r.1.Acts ∧ r.2.tokens = p0.tokens ∧ Φ' pb0 = some (.cells #[pv0_0, iV r.2.at_, .bool r.2.bad] 75 (0, 0)))) := by
 refine eL func48 rfl ntmps48 rfl (L := [[pb0]]) w0 (fun hF => ?_)
 unfold m_i_parser_rule at h
 refine sr <| lnz Zr_28 rfl fun b_1 => arr 4 [] rfl <| kcb [0] h rfl rfl rfl rfl (fun b ap z q => m_i_parser_take_ok N b p0 2 (⟨#[114, 117, 108, 101]⟩ : ByteArray) (ph0_0.y z) pp0 q) ?_
 rintro x1 h v1 Φ_1 F1 ⟨ap1, fr1, rfl, rfl, e1, h1⟩
 refine arr 4 [] rfl <| kcb [0] h rfl rfl rfl rfl (fun b ap z q => m_i_parser_word_ok N b (⟨p0.tokens, x1.at_, x1.bad⟩ : Tparser) 2 (ph0_0.y z) h1 q) ?_
 rintro x2 h v2 Φ_2 F2 ⟨ap2, fr2, rfl, rfl, e2, h2⟩
 refine lq (q_field1 Fd1_77_2 rfl rfl) rfl <| lq (q_build (vs := [(0, .string x2.1.S)]) (C := #[.string x2.1.S, iV 0, .slice none 0 0, .slice none 0 0, .slice none 0 0]) Pl_28 Zr_28 rfl (fill_cons (C' := [.string x2.1.S, iV 0, .slice none 0 0, .slice none 0 0, .slice none 0 0]) rfl rfl rfl rfl rfl (fill_nil))) rfl <| lnz Zr_28 rfl fun b_2 => soN 0 Sz_28 rfl ⟨rfl, rfl, rfl, rfl, rfl, trivial⟩ rfl ?_
 refine arr 4 [] rfl <| kcb [0] h rfl rfl rfl rfl (fun b ap z q => m_i_parser_number_ok N b (⟨p0.tokens, x2.2.at_, x2.2.bad⟩ : Tparser) (ph0_0.y z) h2 q) ?_
 rintro x3 h v3 Φ_3 F3 ⟨ap3, fr3, rfl, rfl, e3, h3⟩
 refine lf Fld_28_1 rfl rfl rfl <| so1 0 Sz_3 rfl rfl ?_
 refine arr 4 [] rfl <| kcb [0] h rfl rfl rfl rfl (fun b ap z q => m_i_parser_take_ok N b (⟨p0.tokens, x3.2.at_, x3.2.bad⟩ : Tparser) 5 (⟨#[58]⟩ : ByteArray) (ph0_0.y z) h3 q) ?_
 rintro x4 h v4 Φ_4 F4 ⟨ap4, fr4, rfl, rfl, e4, h4⟩
 refine art 7 [] rfl <| wtS <| wt0 ?_
 have k1 := OSl.nil OTPat 35 3 Φ_4
 refine lin (σ := Hp × (List TPat) × Value × List Nat × Bool × Int × Bool) (fun s => [(0, pQ pb0), (2, pQ b_1), (3, pQ b_2), (4, .bool s.2.2.2.2.1)]) (fun s => St w0 s.1 [(b_2, .cells #[.string x2.1.S, iV x3.1, s.2.2.1, .slice none 0 0, .slice none 0 0] 28 (0, 0)), (b_1, .cells #[.string (⟨#[]⟩ : ByteArray), iV 0, .slice none 0 0, .slice none 0 0, .slice none 0 0] 28 (0, 0))] [s.2.2.2.1, ob s.2.2.1, [pb0]]) (fun m s => m_i_parser_rule_l1 N p0 x2 x3 m s.2.1 s.2.2.2.2.1 s.2.2.2.2.2.1 s.2.2.2.2.2.2 = some r ∧ (OSl OTPat 35 3 s.1 s.2.2.2.1 s.2.2.1 s.2.1) ∧ (s.1 pb0 = some (.cells #[pv0_0, iV s.2.2.2.2.2.1, .bool s.2.2.2.2.2.2] 75 (0, 0)))) (Φ_4, ([] : List TPat), (.slice none 0 0), [], true, x4.at_, x4.bad) N ⟨h, k1, h4⟩ (sx [0, 0, 0] [0, 0]) (fun n1 ih1 s hm => ?_)
 obtain ⟨Φ_5, s1, u1, D1, s2, s3, s4⟩ := s
 obtain ⟨h, k2, k3⟩ := hm
 dsimp only at h k2 k3 ⊢
 unfold m_i_parser_rule_l1 at h
 refine atr 5 [] rfl ?_
 obtain ⟨b5, hb_1, h⟩ := bs h
 refine WL.cutN 6 [(25, .bool b5), (0, pQ pb0), (2, pQ b_1), (3, pQ b_2)] ?_ (fun K => ?_)
 rotate_left
 ·refine sp 19 hb_1 rfl (fun hb_1 => ?_) fun hb_1 => ?_
  ·refine ly rfl rfl <| la rfl <| ly rfl rfl <| lq (q_nilCheck rfl) rfl <| ly rfl rfl <| lf Fld_75_2 rfl rfl rfl <| ly rfl rfl <| lgx 2 0 (rg_cells k3) rfl <| arr 2 [] rfl ?_
   cases hb_1
   exact ku K
  ·refine arr 6 [] rfl ?_
   cases hb_1
   exact ku K
 refine en ?_
 refine ch h rfl ?_ ?_ <;> intro h
 ·refine att 3 [] rfl <| wm [0, 1] [7] rfl <| amm 3 [0, 2, 1, 0, 2] [0, 1] rfl rfl ?_
  obtain ⟨x5, hx5, h⟩ := bs h
  refine WM.one 3 (by kernel_rfl) (mc rfl (fun _ v Φx D w1 hq hw => Kn.of Kf.nil (ai2 0 1 rfl rfl) hw) (k_call (js := [2]) (R := [D1, ob u1]) Fun_99 rfl rfl (fun w1 hw ap hl => m_i_parser_pat_ok N (bx hw ap hl) (⟨p0.tokens, s3, s4⟩ : Tparser) (ph0_0.y (hw.uo ap)) k3  hx5)) rfl ?_)
  rintro v5 Φ_6 F5 ⟨ap5, fr5, v6, rfl, rfl, h5, e5, h6⟩
  replace k2 := k2.fr fr5 (ap5.q 1 rfl) (ap5.q 0 rfl)
  have rc1 : RC OTPat 3 Φ_6 ([(ob v6 ++ [])] : List (List Nat)) [.string x5.1.Kind, v6, .bool x5.1.Not] ([x5.1] : List TPat) := RC.cons (c := [.string x5.1.Kind, v6, .bool x5.1.Not]) (cells := []) ⟨v6, rfl, rfl, h5⟩ rfl (RC.nil _ _ _)
  refine WM.one 4 (by kernel_rfl) (me rfl (fun _ v Φx D w1 hq hw => Kn.of Kf.nil (ai2 0 1 rfl rfl) hw) (e_lit (vs := [(0, .agg [.string x5.1.Kind, v6, .bool x5.1.Not].toArray)]) (C := #[.string x5.1.Kind, v6, .bool x5.1.Not]) OTPat.lasts Sl_24 Zr_35 rfl rfl rfl rfl (fill_made MC_35_1 (fill_cons (C' := [.string x5.1.Kind, v6, .bool x5.1.Not]) rfl rfl rfl rfl rfl (fill_nil))) rfl rc1 rfl (RC.kn OTPat.knows rc1)) rfl ?_)
  rintro v7 Φ_7 D2 ⟨fr6, h7⟩
  replace h7 : OSl OTPat 35 3 Φ_7 ((ob v6 ++ [])) v7 ([x5.1] : List TPat) := by simpa [List.append_assoc] using h7
  replace k2 := k2.f0 fr6
  replace h6 := fr6 _ _ (by simp) h6
  refine WM.conv (S' := St w0 Φ_7 [(b_2, .cells #[.string x2.1.S, iV x3.1, u1, .slice none 0 0, .slice none 0 0] 28 (0, 0)), (b_1, .cells #[.string (⟨#[]⟩ : ByteArray), iV 0, .slice none 0 0, .slice none 0 0, .slice none 0 0] 28 (0, 0))] [((ob v6 ++ [])), ob v7, [pb0], D1, ob u1]) (fun w1 hw => hw.merge (js := [1]) rfl (SP.eq (by simp [List.append_assoc, ob_nil]))) ?_
  obtain ⟨x6, hx6, h⟩ := bs h
  refine WM.one 5 (by kernel_rfl) (me rfl (fun _ v Φx D w1 hq hw => Kn.of Kf.nil (ai2 0 1 rfl rfl) hw) (e_appO OTPat.lasts OTPat.one Sl_24 Ei_35 rfl rfl rfl rfl rfl (js := [4]) (Rr := [((ob v6 ++ [])), ob v7, [pb0], D1]) rfl k2 h7 (fun ap => ap.q 3 rfl) (fun ap => ap.q 0 rfl) hx6) rfl ?_)
  rintro v8 Φ_8 D3 ⟨⟨ap6, fr7⟩, h8⟩
  replace h6 := fr7 _ _ ((ap6.q 2 rfl) _ (by simp)) h6
  refine WM.conv (S' := St w0 Φ_8 [(b_2, .cells #[.string x2.1.S, iV x3.1, u1, .slice none 0 0, .slice none 0 0] 28 (0, 0)), (b_1, .cells #[.string (⟨#[]⟩ : ByteArray), iV 0, .slice none 0 0, .slice none 0 0, .slice none 0 0] 28 (0, 0))] [(D1 ++ ((ob v6 ++ []))), ob v8, ob v7, [pb0]]) (fun w1 hw => hw.merge (js := [4, 1]) rfl (SP.eq (by simp))) <| amm 1 [6, 2] [0, 1] rfl rfl ?_
  refine on1 7 (ms1 0 rfl nk Sz_24 rfl h8.one ?_)
  refine WM.nil (by kernel_rfl) <| atr 3 [] rfl <| kcb [3] h rfl rfl rfl rfl (fun b ap z q => m_i_parser_skip_ok N b (⟨p0.tokens, x5.2.at_, x5.2.bad⟩ : Tparser) 5 (⟨#[44]⟩ : ByteArray) (ph0_0.y z) h6 q) ?_
  rintro x7 h v9 Φ_9 F6 ⟨ap7, fr8, rfl, rfl, e6, h9⟩
  replace h8 := h8.fr fr8 (ap7.q 1 rfl) (ap7.q 0 rfl)
  refine la rfl <| en ?_
  exact lb [1, 1, 0] [0, 0] (ih1 (_, _, _, _, _, _, _) ⟨h, h8, h9⟩)
 refine atr 5 [] rfl <| kcb [2] h rfl rfl rfl rfl (fun b ap z q => m_i_parser_skip_ok N b (⟨p0.tokens, s3, s4⟩ : Tparser) 5 (⟨#[43]⟩ : ByteArray) (ph0_0.y z) k3 q) ?_
 rintro x8 h v10 Φ_10 F7 ⟨ap8, fr9, rfl, rfl, e7, h10⟩
 replace k2 := k2.fr fr9 (ap8.q 1 rfl) (ap8.q 0 rfl)
 refine en <| wtS ?_
 have k4 := OSl.nil RTCond 62 11 Φ_10
 refine cut (σ := Hp × (List TCond) × Value × Int × Bool) (fun s => [(0, pQ pb0), (2, pQ b_1), (3, pQ b_2)]) (fun s => St w0 s.1 [(b_2, .cells #[.string x2.1.S, iV x3.1, u1, s.2.2.1, .slice none 0 0] 28 (0, 0)), (b_1, .cells #[.string (⟨#[]⟩ : ByteArray), iV 0, .slice none 0 0, .slice none 0 0, .slice none 0 0] 28 (0, 0))] [ob s.2.2.1, [pb0], D1, ob u1]) (fun s => m_i_parser_rule_j2 N p0 x2 x3 s1 s.2.1 s.2.2.2.1 s.2.2.2.2 = some r ∧ (OSl OTPat 35 3 s.1 D1 u1 s1) ∧ (OSl RTCond 62 11 s.1 [] s.2.2.1 s.2.1) ∧ (s.1 pb0 = some (.cells #[pv0_0, iV s.2.2.2.1, .bool s.2.2.2.2] 75 (0, 0)))) (fun s hm => ?_) (fun K => ?_)
 ·clear h
  obtain ⟨Φ_11, s5, u2, s6, s7⟩ := s
  obtain ⟨h, k2, k5, k6⟩ := hm
  dsimp only at h k2 k5 k6 ⊢
  unfold m_i_parser_rule_j2 at h
  refine sr <| la rfl <| kcb [1] h rfl rfl rfl rfl (fun b ap z q => m_i_parser_take_ok N b (⟨p0.tokens, s6, s7⟩ : Tparser) 5 (⟨#[45, 62]⟩ : ByteArray) (ph0_0.y z) k6 q) ?_
  rintro x9 h v11 Φ_12 F8 ⟨ap9, fr10, rfl, rfl, e8, h11⟩
  replace k2 := k2.fr fr10 (ap9.q 2 rfl) (ap9.q 1 rfl)
  replace k5 := k5.fr fr10 (ap9.q 0 rfl) dN
  refine art 7 [] rfl <| wtS <| wt0 ?_
  have k7 := OSl.nil OTAct 66 5 Φ_12
  refine lin (σ := Hp × (List TAct) × Value × List Nat × Bool × Int × Bool) (fun s => [(0, pQ pb0), (2, pQ b_1), (3, pQ b_2), (6, .bool s.2.2.2.2.1)]) (fun s => St w0 s.1 [(b_2, .cells #[.string x2.1.S, iV x3.1, u1, u2, s.2.2.1] 28 (0, 0)), (b_1, .cells #[.string (⟨#[]⟩ : ByteArray), iV 0, .slice none 0 0, .slice none 0 0, .slice none 0 0] 28 (0, 0))] [s.2.2.2.1, ob s.2.2.1, [pb0], ob u2, D1, ob u1]) (fun m s => m_i_parser_rule_l3 N p0 x2 x3 s1 s5 m s.2.1 s.2.2.2.2.1 s.2.2.2.2.2.1 s.2.2.2.2.2.2 = some r ∧ (OSl OTPat 35 3 s.1 D1 u1 s1) ∧ (OSl RTCond 62 11 s.1 [] u2 s5) ∧ (OSl OTAct 66 5 s.1 s.2.2.2.1 s.2.2.1 s.2.1) ∧ (s.1 pb0 = some (.cells #[pv0_0, iV s.2.2.2.2.2.1, .bool s.2.2.2.2.2.2] 75 (0, 0)))) (Φ_12, ([] : List TAct), (.slice none 0 0), [], true, x9.at_, x9.bad) N ⟨h, k2, k5, k7, h11⟩ (sx [0, 0, 0, 0, 0, 0] [0, 0]) (fun n3 ih3 s hm => ?_)
  obtain ⟨Φ_13, s8, u3, D4, s9, s10, s11⟩ := s
  obtain ⟨h, k2, k5, k8, k9⟩ := hm
  dsimp only at h k2 k5 k8 k9 ⊢
  unfold m_i_parser_rule_l3 at h
  refine atr 5 [] rfl ?_
  obtain ⟨b10, hb_2, h⟩ := bs h
  refine WL.cutN 6 [(63, .bool b10), (0, pQ pb0), (2, pQ b_1), (3, pQ b_2)] ?_ (fun K => ?_)
  rotate_left
  ·refine sp 57 hb_2 rfl (fun hb_2 => ?_) fun hb_2 => ?_
   ·refine ly rfl rfl <| la rfl <| ly rfl rfl <| lq (q_nilCheck rfl) rfl <| ly rfl rfl <| lf Fld_75_2 rfl rfl rfl <| ly rfl rfl <| lgx 2 0 (rg_cells k9) rfl <| arr 2 [] rfl ?_
    cases hb_2
    exact ku K
   ·refine arr 6 [] rfl ?_
    cases hb_2
    exact ku K
  refine en ?_
  refine ch h rfl ?_ ?_ <;> intro h
  ·refine att 3 [] rfl <| wm [0, 1] [7] rfl <| amm 3 [0, 4, 1, 0, 2] [0, 1] rfl rfl ?_
   obtain ⟨x10, hx10, h⟩ := bs h
   refine WM.one 3 (by kernel_rfl) (mc rfl (fun _ v Φx D w1 hq hw => Kn.of Kf.nil (ai2 0 1 rfl rfl) hw) (k_call (js := [2]) (R := [D4, ob u3, ob u2, D1, ob u1]) Fun_101 rfl rfl (fun w1 hw ap hl => m_i_parser_act_ok N (bx hw ap hl) (⟨p0.tokens, s10, s11⟩ : Tparser) (ph0_0.y (hw.uo ap)) k9  hx10)) rfl ?_)
   rintro v12 Φ_14 F9 ⟨ap10, fr11, v13, rfl, rfl, h12, e9, h13⟩
   replace k2 := k2.fr fr11 (ap10.q 4 rfl) (ap10.q 3 rfl)
   replace k5 := k5.fr fr11 (ap10.q 2 rfl) dN
   replace k8 := k8.fr fr11 (ap10.q 1 rfl) (ap10.q 0 rfl)
   have rc2 : RC OTAct 5 Φ_14 ([(ob v13 ++ [])] : List (List Nat)) [iV x10.1.Kind, .string x10.1.Name, v13, iV x10.1.N, .string x10.1.Undo] ([x10.1] : List TAct) := RC.cons (c := [iV x10.1.Kind, .string x10.1.Name, v13, iV x10.1.N, .string x10.1.Undo]) (cells := []) ⟨v13, rfl, rfl, h12⟩ rfl (RC.nil _ _ _)
   refine WM.one 4 (by kernel_rfl) (me rfl (fun _ v Φx D w1 hq hw => Kn.of Kf.nil (ai2 0 1 rfl rfl) hw) (e_lit (vs := [(0, .agg [iV x10.1.Kind, .string x10.1.Name, v13, iV x10.1.N, .string x10.1.Undo].toArray)]) (C := #[iV x10.1.Kind, .string x10.1.Name, v13, iV x10.1.N, .string x10.1.Undo]) OTAct.lasts Sl_26 Zr_66 rfl rfl rfl rfl (fill_made MC_66_1 (fill_cons (C' := [iV x10.1.Kind, .string x10.1.Name, v13, iV x10.1.N, .string x10.1.Undo]) rfl rfl rfl rfl rfl (fill_nil))) rfl rc2 rfl (RC.kn OTAct.knows rc2)) rfl ?_)
   rintro v14 Φ_15 D5 ⟨fr12, h14⟩
   replace h14 : OSl OTAct 66 5 Φ_15 ((ob v13 ++ [])) v14 ([x10.1] : List TAct) := by simpa [List.append_assoc] using h14
   replace k2 := k2.f0 fr12
   replace k5 := k5.f0 fr12
   replace k8 := k8.f0 fr12
   replace h13 := fr12 _ _ (by simp) h13
   refine WM.conv (S' := St w0 Φ_15 [(b_2, .cells #[.string x2.1.S, iV x3.1, u1, u2, u3] 28 (0, 0)), (b_1, .cells #[.string (⟨#[]⟩ : ByteArray), iV 0, .slice none 0 0, .slice none 0 0, .slice none 0 0] 28 (0, 0))] [((ob v13 ++ [])), ob v14, [pb0], D4, ob u3, ob u2, D1, ob u1]) (fun w1 hw => hw.merge (js := [1]) rfl (SP.eq (by simp [List.append_assoc, ob_nil]))) ?_
   obtain ⟨x11, hx11, h⟩ := bs h
   refine WM.one 5 (by kernel_rfl) (me rfl (fun _ v Φx D w1 hq hw => Kn.of Kf.nil (ai2 0 1 rfl rfl) hw) (e_appO OTAct.lasts OTAct.one Sl_26 Ei_66 rfl rfl rfl rfl rfl (js := [4]) (Rr := [((ob v13 ++ [])), ob v14, [pb0], D4, ob u2, D1, ob u1]) rfl k8 h14 (fun ap => ap.q 3 rfl) (fun ap => ap.q 0 rfl) hx11) rfl ?_)
   rintro v15 Φ_16 D6 ⟨⟨ap11, fr13⟩, h15⟩
   replace k2 := k2.fr fr13 (ap11.q 6 rfl) (ap11.q 5 rfl)
   replace k5 := k5.fr fr13 (ap11.q 4 rfl) dN
   replace h13 := fr13 _ _ ((ap11.q 2 rfl) _ (by simp)) h13
   refine WM.conv (S' := St w0 Φ_16 [(b_2, .cells #[.string x2.1.S, iV x3.1, u1, u2, u3] 28 (0, 0)), (b_1, .cells #[.string (⟨#[]⟩ : ByteArray), iV 0, .slice none 0 0, .slice none 0 0, .slice none 0 0] 28 (0, 0))] [(D4 ++ ((ob v13 ++ []))), ob v15, ob v14, [pb0], ob u2, D1, ob u1]) (fun w1 hw => hw.merge (js := [4, 1]) rfl (SP.eq (by simp))) <| amm 1 [6, 4] [0, 1] rfl rfl ?_
   refine on1 7 (ms1 0 rfl nk Sz_26 rfl h15.one ?_)
   refine WM.nil (by kernel_rfl) <| atr 3 [] rfl <| kcb [3] h rfl rfl rfl rfl (fun b ap z q => m_i_parser_skip_ok N b (⟨p0.tokens, x10.2.at_, x10.2.bad⟩ : Tparser) 5 (⟨#[44]⟩ : ByteArray) (ph0_0.y z) h13 q) ?_
   rintro x12 h v16 Φ_17 F10 ⟨ap12, fr14, rfl, rfl, e10, h16⟩
   replace k2 := k2.fr fr14 (ap12.q 5 rfl) (ap12.q 4 rfl)
   replace k5 := k5.fr fr14 (ap12.q 3 rfl) dN
   replace h15 := h15.fr fr14 (ap12.q 1 rfl) (ap12.q 0 rfl)
   refine la rfl <| en ?_
   exact lb [1, 1, 0, 1, 1, 1] [0, 0] (ih3 (_, _, _, _, _, _, _) ⟨h, k2, k5, h15, h16⟩)
  refine atr 4 [] rfl <| kcb [2] h rfl rfl rfl rfl (fun b ap z q => m_i_parser_take_ok N b (⟨p0.tokens, s10, s11⟩ : Tparser) 5 (⟨#[46]⟩ : ByteArray) (ph0_0.y z) k9 q) ?_
  rintro x13 h v17 Φ_18 F11 ⟨ap13, fr15, rfl, rfl, e11, h17⟩
  replace k2 := k2.fr fr15 (ap13.q 4 rfl) (ap13.q 3 rfl)
  replace k5 := k5.fr fr15 (ap13.q 2 rfl) dN
  replace k8 := k8.fr fr15 (ap13.q 1 rfl) (ap13.q 0 rfl)
  refine arr 4 [5] rfl <| soN 1 Sz_28 rfl ⟨rfl, rfl, k2.one, k5.one, k8.one, trivial⟩ rfl ?_
  refine en ?_
  exact rtg [5, 4, 3, 2, 1, 0] hF (resOk.one (rv_cell Tn_28 rfl (fun w1 hw => hw.rgO (i := 1) rfl 0 5 [.string x2.1.S, iV x3.1, u1, u2, u3] rfl) rfl)) rfl (by cases h; exact fun w1 hw => ⟨u1, D1, u2, u3, D4, rfl, rfl, k2, k5, k8, rfl, h17⟩)
 refine ch h rfl ?_ ?_ <;> intro h
 ·refine att 5 [] rfl ?_
  refine lin (σ := Hp × (List TCond) × Value × Bool × Int × Bool) (fun s => [(0, pQ pb0), (2, pQ b_1), (3, pQ b_2), (5, .bool s.2.2.2.1)]) (fun s => St w0 s.1 [(b_2, .cells #[.string x2.1.S, iV x3.1, u1, s.2.2.1, .slice none 0 0] 28 (0, 0)), (b_1, .cells #[.string (⟨#[]⟩ : ByteArray), iV 0, .slice none 0 0, .slice none 0 0, .slice none 0 0] 28 (0, 0))] [ob s.2.2.1, [pb0], D1, ob u1]) (fun m s => m_i_parser_rule_l4 N p0 x2 x3 s1 m s.2.1 s.2.2.2.1 s.2.2.2.2.1 s.2.2.2.2.2 = some r ∧ (OSl OTPat 35 3 s.1 D1 u1 s1) ∧ (OSl RTCond 62 11 s.1 [] s.2.2.1 s.2.1) ∧ (s.1 pb0 = some (.cells #[pv0_0, iV s.2.2.2.2.1, .bool s.2.2.2.2.2] 75 (0, 0)))) (Φ_10, ([] : List TCond), (.slice none 0 0), true, x8.2.at_, x8.2.bad) N ⟨h, k2, k4, h10⟩ (sx [0, 0, 0, 0] [0, 0]) (fun n4 ih4 s hm => ?_)
  obtain ⟨Φ_19, s12, u4, s13, s14, s15⟩ := s
  obtain ⟨h, k2, k10, k11⟩ := hm
  dsimp only at h k2 k10 k11 ⊢
  unfold m_i_parser_rule_l4 at h
  refine atr 5 [] rfl ?_
  obtain ⟨b14, hb_3, h⟩ := bs h
  refine WL.cutN 6 [(44, .bool b14), (0, pQ pb0), (2, pQ b_1), (3, pQ b_2)] ?_ (fun K => ?_)
  rotate_left
  ·refine sp 38 hb_3 rfl (fun hb_3 => ?_) fun hb_3 => ?_
   ·refine ly rfl rfl <| la rfl <| ly rfl rfl <| lq (q_nilCheck rfl) rfl <| ly rfl rfl <| lf Fld_75_2 rfl rfl rfl <| ly rfl rfl <| lgx 2 0 (rg_cells k11) rfl <| arr 2 [] rfl ?_
    cases hb_3
    exact ku K
   ·refine arr 6 [] rfl ?_
    cases hb_3
    exact ku K
  refine en ?_
  refine ch h rfl ?_ ?_ <;> intro h
  ·refine att 3 [] rfl <| wm [0, 1] [7] rfl <| amm 3 [0, 3, 1, 0, 2] [0, 1] rfl rfl ?_
   obtain ⟨x14, hx14, h⟩ := bs h
   refine WM.one 3 (by kernel_rfl) (mc rfl (fun _ v Φx D w1 hq hw => Kn.of Kf.nil (ai2 0 1 rfl rfl) hw) (k_call (js := [1]) (R := [ob u4, D1, ob u1]) Fun_100 rfl rfl (fun w1 hw ap hl => m_i_parser_cond_ok N (bx hw ap hl) (⟨p0.tokens, s14, s15⟩ : Tparser) (ph0_0.y (hw.uo ap)) k11  hx14)) rfl ?_)
   rintro v18 Φ_20 F12 ⟨ap14, fr16, rfl, rfl, e12, h18⟩
   replace k2 := k2.fr fr16 (ap14.q 2 rfl) (ap14.q 1 rfl)
   replace k10 := k10.fr fr16 (ap14.q 0 rfl) dN
   have rc3 : RC RTCond 11 Φ_20 ([[]] : List (List Nat)) [iV x14.1.Op, iV x14.1.L.K, .string x14.1.L.S, iV x14.1.L.V.K, iV x14.1.L.V.N, .string x14.1.L.V.S, iV x14.1.R.K, .string x14.1.R.S, iV x14.1.R.V.K, iV x14.1.R.V.N, .string x14.1.R.V.S] ([x14.1] : List TCond) := RC.cons (c := [iV x14.1.Op, iV x14.1.L.K, .string x14.1.L.S, iV x14.1.L.V.K, iV x14.1.L.V.N, .string x14.1.L.V.S, iV x14.1.R.K, .string x14.1.R.S, iV x14.1.R.V.K, iV x14.1.R.V.N, .string x14.1.R.V.S]) (cells := []) ⟨rfl, rfl⟩ rfl (RC.nil _ _ _)
   refine WM.one 4 (by kernel_rfl) (me rfl (fun _ v Φx D w1 hq hw => Kn.of Kf.nil (ai2 0 1 rfl rfl) hw) (e_lit (vs := [(0, .agg [iV x14.1.Op, iV x14.1.L.K, .string x14.1.L.S, iV x14.1.L.V.K, iV x14.1.L.V.N, .string x14.1.L.V.S, iV x14.1.R.K, .string x14.1.R.S, iV x14.1.R.V.K, iV x14.1.R.V.N, .string x14.1.R.V.S].toArray)]) (C := #[iV x14.1.Op, iV x14.1.L.K, .string x14.1.L.S, iV x14.1.L.V.K, iV x14.1.L.V.N, .string x14.1.L.V.S, iV x14.1.R.K, .string x14.1.R.S, iV x14.1.R.V.K, iV x14.1.R.V.N, .string x14.1.R.V.S]) RTCond.lasts Sl_25 Zr_62 rfl rfl rfl rfl (fill_made MC_62_1 (fill_cons (C' := [iV x14.1.Op, iV x14.1.L.K, .string x14.1.L.S, iV x14.1.L.V.K, iV x14.1.L.V.N, .string x14.1.L.V.S, iV x14.1.R.K, .string x14.1.R.S, iV x14.1.R.V.K, iV x14.1.R.V.N, .string x14.1.R.V.S]) rfl rfl rfl rfl rfl (fill_nil))) rfl rc3 rfl (by simpa using Kw.nil)) rfl ?_)
   rintro v19 Φ_21 D7 ⟨fr17, h19⟩
   replace h19 : OSl RTCond 62 11 Φ_21 [] v19 ([x14.1] : List TCond) := by simpa using h19
   replace k2 := k2.f0 fr17
   replace k10 := k10.f0 fr17
   replace h18 := fr17 _ _ (by simp) h18
   obtain ⟨x15, hx15, h⟩ := bs h
   refine WM.one 5 (by kernel_rfl) (me rfl (fun _ v Φx D w1 hq hw => Kn.of Kf.nil (ai2 0 1 rfl rfl) hw) (e_appF RTCond.lasts RTCond.one RTCond.flat Sl_25 Ei_62 rfl rfl rfl rfl rfl (js := [2]) (Rr := [ob v19, [pb0], D1, ob u1]) rfl k10 h19.rsl hx15) rfl ?_)
   rintro v20 Φ_22 D8 ⟨⟨ap15, fr18⟩, h20⟩
   replace k2 := k2.fr fr18 (ap15.q 3 rfl) (ap15.q 2 rfl)
   replace h18 := fr18 _ _ ((ap15.q 1 rfl) _ (by simp)) h18
   refine amm 1 [6, 3] [0, 1] rfl rfl ?_
   refine on1 7 (ms1 0 rfl nk Sz_25 rfl h20.one ?_)
   refine WM.nil (by kernel_rfl) <| atr 3 [] rfl <| kcb [2] h rfl rfl rfl rfl (fun b ap z q => m_i_parser_skip_ok N b (⟨p0.tokens, x14.2.at_, x14.2.bad⟩ : Tparser) 5 (⟨#[44]⟩ : ByteArray) (ph0_0.y z) h18 q) ?_
   rintro x16 h v21 Φ_23 F13 ⟨ap16, fr19, rfl, rfl, e13, h21⟩
   replace k2 := k2.fr fr19 (ap16.q 3 rfl) (ap16.q 2 rfl)
   replace h20 := h20.fr fr19 (ap16.q 0 rfl) dN
   refine la rfl <| en ?_
   exact lb [1, 0, 1, 1] [0, 0] (ih4 (_, _, _, _, _, _) ⟨h, k2, h20, h21⟩)
  refine xt rfl ?_
  exact wo [0, 0, 0, 0] [0, 0] (K (_, _, _, _, _) ⟨h, k2, k10, k11⟩)
 refine WT.skip ?_
 exact wo [0, 0, 0, 0] [0, 0] (K (_, _, _, _, _) ⟨h, k2, k4, h10⟩)
theorem m_sl_Equal_Si_Token_i_Token_ok (w0 : Base Ψ Φ []) (p0 : (List TToken)) (p1 : (List TToken)) (ph0 : RSl RTToken 3 Ψ pG0 pv0 p0) (ph1 : RSl RTToken 3 Ψ pG1 pv1 p1) {r : Bool} (h : m_sl_Equal_Si_Token_i_Token N p0 p1 = some r) :
  CB w0 prog 49 [pv0, pv1] (.bool r) := by
 refine eN func49 rfl ntmps49 rfl w0 fun hF => ?_
 unfold m_sl_Equal_Si_Token_i_Token at h
 refine atr 8 [] rfl <| lnr ph0 rfl <| la rfl <| lnr ph1 rfl <| la rfl <| en ?_
 refine ch h rfl ?_ ?_ <;> intro h
 ·refine att 4 [] rfl ?_
  exact rt hF h
 refine atr 5 [] rfl <| lnr ph0 rfl <| art 3 [] rfl ?_
 refine lin (σ := Int) (fun s => [(0, pv0), (1, pv1), (12, iV (p0.length : Int)), (13, iV s)]) (fun s => St w0 Φ [] []) (fun m s => m_sl_Equal_Si_Token_i_Token_l1 N p0 p1 m s = some r) (0) N h (sx [] []) (fun n1 ih1 s hm => ?_)
 revert hm; revert s; intro s1 hm
 have h : m_sl_Equal_Si_Token_i_Token_l1 N p0 p1 (n1 + 1) s1 = some r := hm
 show WT _ _ [(0, pv0), (1, pv1), (12, iV (p0.length : Int)), (13, iV s1)] (St w0 Φ [] [])
 unfold m_sl_Equal_Si_Token_i_Token_l1 at h
 refine att 5 [] rfl ?_
 refine ch h rfl ?_ ?_ <;> intro h
 ·refine att 9 [] rfl <| WT.draw mixed (by kernel_rfl) (fun _ h => h.drew) <| aqq 2 [] rfl ?_
  obtain ⟨x1, hx1, h⟩ := bs h
  obtain ⟨cs1, F1, -, g1, hb1, hs1, r1⟩ := ph0.el (idx_some hx1).2.2
  obtain ⟨rfl, -⟩ := r1
  refine qq (q_indexAddr Sl_44 rfl rfl ph0 hx1) rfl <| qq (q_loadN Tn_77 rfl (fun w1 hw => (g1.of_eq 0 3 rfl rfl : rg _ _ _ [iV x1.K, iV x1.N, .string x1.S]).rangeAt hw.in0) rfl) rfl <| aqq 2 [] rfl ?_
  obtain ⟨x2, hx2, h⟩ := bs h
  obtain ⟨cs2, F2, -, g2, hb2, hs2, r2⟩ := ph1.el (idx_some hx2).2.2
  obtain ⟨rfl, -⟩ := r2
  refine qq (q_indexAddr Sl_44 rfl rfl ph1 hx2) rfl <| qq (q_loadN Tn_77 rfl (fun w1 hw => (g2.of_eq 0 3 rfl rfl : rg _ _ _ [iV x2.K, iV x2.N, .string x2.S]).rangeAt hw.in0) rfl) rfl <| qq (q_neA EqT_77 rfl rfl rfl (r := eqT_TToken x1 x2) rfl) rfl <| WQ.nil ?_
  refine ch h rfl ?_ ?_ <;> intro h
  ·refine att 4 [] rfl ?_
   exact rt hF h
  refine att 6 [] rfl ?_
  exact lb [] [] (ih1 _ h)
 refine att 5 [] rfl ?_
 exact rt hF h
theorem m_i_ParseDef_ok  (w0 : Base Ψ Φ []) (p0 : ByteArray) (hT : Tab Ψ) {r : TDef × Bool} (h : m_i_ParseDef N p0 = some r) :
  Calls prog 13 [.string p0].toArray w0.w (PostG Φ w0.w [] (fun Φ' Fs v => ∃ (sr_0_0 : Value) (Dr_0_0 : List Nat), v = .tuple #[.agg [.string r.1.Name, sr_0_0].toArray, .bool r.2] ∧ Fs = [ob sr_0_0, Dr_0_0] ∧ OSl OTRule 28 5 Φ' Dr_0_0 sr_0_0 r.1.Rules)) := by
 refine eN func13 rfl ntmps13 rfl w0 fun hF => ?_
 unfold m_i_ParseDef at h
 refine sr <| lnz Zr_38 rfl fun b_1 => arr 5 [] rfl <| kab h rfl rfl rfl (fun b z q => m_i_Lex_ok N b p0 (hT.y z) q) ?_
 rintro x1 h v1 Φ_1 F1 ⟨ap1, fr1, v2, rfl, rfl, h1⟩
 refine art 12 [] rfl ?_
 refine ch h rfl ?_ ?_ <;> intro h
 ·refine sr <| lq (q_build (vs := []) (C := #[.string (⟨#[]⟩ : ByteArray), .slice none 0 0]) Pl_38 Zr_38 rfl (fill_nil)) rfl <| soN 0 Sz_38 rfl ⟨rfl, rfl, trivial⟩ rfl ?_
  refine la rfl <| en ?_
  refine WT.ret hF (resOk.two (rv_cell Tn_38 rfl (fun w1 hw => hw.rgO (i := 0) rfl 0 2 [.string (⟨#[]⟩ : ByteArray), .slice none 0 0] rfl) rfl) rfl) (fun w1 hw => ?_)
  cases h
  replace hw := hw.addNil
  replace hw := hw.addNil
  refine postG_of_St (js := [1, 0]) hw rfl ⟨.slice none 0 0, [], rfl, rfl, OSl.nil _ _ _ _⟩
 refine atr 4 [] rfl <| lq (q_build (vs := [(0, v2)]) (C := #[v2, iV 0, .bool false]) Pl_75 Zr_75 rfl (fill_cons (C' := [v2, iV 0, .bool false]) rfl (one_cells h1.one) rfl rfl rfl (fill_nil))) rfl <| lnz Zr_75 rfl fun b_2 => soN 0 Sz_75 rfl ⟨h1.one, rfl, rfl, trivial⟩ rfl ?_
 refine en <| sr ?_
 refine WL.frz (js := [0]) (R := [(b_1, .cells #[.string (⟨#[]⟩ : ByteArray), .slice none 0 0] 38 (0, 0))]) rfl (fun Φ_2 fr2 k1 => ?_)
 replace h1 := h1.f0 fr2
 refine kcb [0] h rfl rfl rfl rfl (fun b ap z q => m_i_parser_take_ok N b (⟨x1.1, 0, false⟩ : Tparser) 2 (⟨#[100, 101, 102]⟩ : ByteArray) (h1.rsl.x (Dj.app (ap.q 0 rfl) dN)) k1 q) ?_
 rintro x2 h v3 Φ_3 F2 ⟨ap2, fr3, rfl, rfl, e1, h2⟩
 replace h1 := h1.fr fr3 (ap2.q 0 rfl) dN
 refine en <| sr <| kcb [0] h rfl rfl rfl rfl (fun b ap z q => m_i_parser_word_ok N b (⟨x1.1, x2.at_, x2.bad⟩ : Tparser) 2 (h1.rsl.x (Dj.app (ap.q 0 rfl) dN)) h2 q) ?_
 rintro x3 h v4 Φ_4 F3 ⟨ap3, fr4, rfl, rfl, e2, h3⟩
 replace h1 := h1.fr fr4 (ap3.q 0 rfl) dN
 refine lq (q_field1 Fd1_77_2 rfl rfl) rfl <| lq (q_build (vs := [(0, .string x3.1.S)]) (C := #[.string x3.1.S, .slice none 0 0]) Pl_38 Zr_38 rfl (fill_cons (C' := [.string x3.1.S, .slice none 0 0]) rfl rfl rfl rfl rfl (fill_nil))) rfl <| lnz Zr_38 rfl fun b_3 => soN 0 Sz_38 rfl ⟨rfl, rfl, trivial⟩ rfl ?_
 refine en <| sr <| kcb [0] h rfl rfl rfl rfl (fun b ap z q => m_i_parser_take_ok N b (⟨x1.1, x3.2.at_, x3.2.bad⟩ : Tparser) 5 (⟨#[46]⟩ : ByteArray) (h1.rsl.x (Dj.app (ap.q 0 rfl) dN)) h3 q) ?_
 rintro x4 h v5 Φ_5 F4 ⟨ap4, fr5, rfl, rfl, e3, h4⟩
 replace h1 := h1.fr fr5 (ap4.q 0 rfl) dN
 refine art 3 [] rfl <| wtS <| wt0 ?_
 have k2 := OSl.nil OTRule 28 5 Φ_5
 refine lin (σ := Hp × (List TRule) × Value × List Nat × Int × Bool) (fun s => [(2, pQ b_1), (4, v2), (6, pQ b_2), (7, pQ b_3)]) (fun s => St w0 s.1 [(b_3, .cells #[.string x3.1.S, s.2.2.1] 38 (0, 0)), (b_1, .cells #[.string (⟨#[]⟩ : ByteArray), .slice none 0 0] 38 (0, 0))] [s.2.2.2.1, ob s.2.2.1, [b_2], ob v2]) (fun m s => m_i_ParseDef_l1 N x1 x3 m s.2.1 s.2.2.2.2.1 s.2.2.2.2.2 = some r ∧ (OSl RTToken 77 3 s.1 [] v2 x1.1) ∧ (OSl OTRule 28 5 s.1 s.2.2.2.1 s.2.2.1 s.2.1) ∧ (s.1 b_2 = some (.cells #[v2, iV s.2.2.2.2.1, .bool s.2.2.2.2.2] 75 (0, 0)))) (Φ_5, ([] : List TRule), (.slice none 0 0), [], x4.at_, x4.bad) N ⟨h, h1, k2, h4⟩ (sx [0, 0, 0, 0] [0, 0]) (fun n1 ih1 s hm => ?_)
 obtain ⟨Φ_6, s1, u1, D1, s2, s3⟩ := s
 obtain ⟨h, h1, k3, k4⟩ := hm
 dsimp only at h h1 k3 k4 ⊢
 unfold m_i_ParseDef_l1 at h
 refine atr 4 [2] rfl <| lgx 2 0 (rg_cells k4) rfl <| arr 2 [] rfl ?_
 obtain ⟨b5, hb_1, h⟩ := bs h
 refine WL.cutN 6 [(34, .bool b5), (2, pQ b_1), (4, v2), (6, pQ b_2), (7, pQ b_3)] ?_ (fun K => ?_)
 rotate_left
 ·refine sp 28 hb_1 rfl (fun hb_1 => ?_) fun hb_1 => ?_
  ·refine ly rfl rfl <| lf Fld_75_1 rfl rfl rfl <| ly rfl rfl <| lgx 1 0 (rg_cells k4) rfl <| ly rfl rfl <| la rfl <| ly rfl rfl <| lno h1 rfl <| arr 2 [] rfl ?_
   cases hb_1
   exact ku K
  ·refine arr 6 [] rfl ?_
   cases hb_1
   exact ku K
 refine en ?_
 refine ch h rfl ?_ ?_ <;> intro h
 ·refine att 2 [] rfl <| wm [0, 1] [6] rfl <| amm 2 [0, 1, 1, 0] [0, 1] rfl rfl ?_
  obtain ⟨x5, hx5, h⟩ := bs h
  refine WM.one 2 (by kernel_rfl) (mc rfl (fun _ v Φx D w1 hq hw => Kn.of Kf.nil (ai2 0 1 rfl rfl) hw) (k_call (js := [2]) (R := [D1, ob u1, ob v2]) Fun_48 rfl rfl (fun w1 hw ap hl => m_i_parser_rule_ok N (bx hw ap hl) (⟨x1.1, s2, s3⟩ : Tparser) (h1.rsl.x (Dj.app (ap.q 2 rfl) dN)) k4  hx5)) rfl ?_)
  rintro v6 Φ_7 F5 ⟨ap5, fr6, v7, D2, v8, v9, D3, rfl, rfl, h5, h6, h7, e4, h8⟩
  replace h1 := h1.fr fr6 (ap5.q 2 rfl) dN
  replace k3 := k3.fr fr6 (ap5.q 1 rfl) (ap5.q 0 rfl)
  have rc1 : RC OTRule 5 Φ_7 ([(ob v7 ++ D2) ++ ((ob v8 ++ []) ++ ((ob v9 ++ D3)))] : List (List Nat)) [.string x5.1.Name, iV x5.1.Sal, v7, v8, v9] ([x5.1] : List TRule) := RC.cons (c := [.string x5.1.Name, iV x5.1.Sal, v7, v8, v9]) (cells := []) ⟨v7, D2, v8, v9, D3, rfl, rfl, h5, h6, h7⟩ rfl (RC.nil _ _ _)
  refine WM.one 3 (by kernel_rfl) (me rfl (fun _ v Φx D w1 hq hw => Kn.of Kf.nil (ai2 0 1 rfl rfl) hw) (e_lit (vs := [(0, .agg [.string x5.1.Name, iV x5.1.Sal, v7, v8, v9].toArray)]) (C := #[.string x5.1.Name, iV x5.1.Sal, v7, v8, v9]) OTRule.lasts Sl_36 Zr_28 rfl rfl rfl rfl (fill_made MC_28_1 (fill_cons (C' := [.string x5.1.Name, iV x5.1.Sal, v7, v8, v9]) rfl rfl rfl rfl rfl (fill_nil))) rfl rc1 rfl (RC.kn OTRule.knows rc1)) rfl ?_)
  rintro v10 Φ_8 D4 ⟨fr7, h9⟩
  replace h9 : OSl OTRule 28 5 Φ_8 ((ob v7 ++ D2) ++ ((ob v8 ++ []) ++ ((ob v9 ++ D3)))) v10 ([x5.1] : List TRule) := by simpa [List.append_assoc] using h9
  replace h1 := h1.f0 fr7
  replace k3 := k3.f0 fr7
  replace h8 := fr7 _ _ (by simp) h8
  refine WM.conv (S' := St w0 Φ_8 [(b_3, .cells #[.string x3.1.S, u1] 38 (0, 0)), (b_1, .cells #[.string (⟨#[]⟩ : ByteArray), .slice none 0 0] 38 (0, 0))] [((ob v7 ++ D2) ++ ((ob v8 ++ []) ++ ((ob v9 ++ D3)))), ob v10, [b_2], D1, ob u1, ob v2]) (fun w1 hw => hw.merge (js := [1, 1, 1, 1, 1]) rfl (SP.eq (by simp [List.append_assoc, ob_nil]))) ?_
  obtain ⟨x6, hx6, h⟩ := bs h
  refine WM.one 4 (by kernel_rfl) (me rfl (fun _ v Φx D w1 hq hw => Kn.of Kf.nil (ai2 0 1 rfl rfl) hw) (e_appO OTRule.lasts OTRule.one Sl_36 Ei_28 rfl rfl rfl rfl rfl (js := [4]) (Rr := [((ob v7 ++ D2) ++ ((ob v8 ++ []) ++ ((ob v9 ++ D3)))), ob v10, [b_2], D1, ob v2]) rfl k3 h9 (fun ap => ap.q 3 rfl) (fun ap => ap.q 0 rfl) hx6) rfl ?_)
  rintro v11 Φ_9 D5 ⟨⟨ap6, fr8⟩, h10⟩
  replace h1 := h1.fr fr8 (ap6.q 4 rfl) dN
  replace h8 := fr8 _ _ ((ap6.q 2 rfl) _ (by simp)) h8
  refine WM.conv (S' := St w0 Φ_9 [(b_3, .cells #[.string x3.1.S, u1] 38 (0, 0)), (b_1, .cells #[.string (⟨#[]⟩ : ByteArray), .slice none 0 0] 38 (0, 0))] [(D1 ++ ((ob v7 ++ D2) ++ ((ob v8 ++ []) ++ ((ob v9 ++ D3))))), ob v11, ob v10, [b_2], ob v2]) (fun w1 hw => hw.merge (js := [4, 1]) rfl (SP.eq (by simp))) <| amm 1 [5, 1] [0, 1] rfl rfl ?_
  refine on1 6 (ms1 0 rfl nk Sz_36 rfl h10.one ?_)
  refine WM.nil (by kernel_rfl) <| ib ?_
  exact lb [0, 0, 1, 1] [0, 0] (ih1 (_, _, _, _, _, _) ⟨h, h1, h10, h8⟩)
 refine atr 5 [2] rfl <| lgx 2 0 (rg_cells k4) rfl <| la rfl ?_
 obtain ⟨b7, hb_2, h⟩ := bs h
 refine WL.cutN 4 [(47, .bool b7), (2, pQ b_1), (4, v2), (7, pQ b_3)] ?_ (fun K => ?_)
 rotate_left
 ·refine sp 43 hb_2 rfl (fun hb_2 => ?_) fun hb_2 => ?_
  ·refine arr 4 [] rfl ?_
   cases hb_2
   exact ku K
  ·refine ly rfl rfl <| ld2 Tn_38 0 rfl <| ly rfl rfl <| qc hb_2 (m_i_DefOk_ok N · (⟨x3.1.S, s1⟩ : TDef) (k3.rslG OTRule.gives) ·) rfl rfl rfl fun x7 hb_2 => arr 2 [] rfl ?_
   cases hb_2
   exact ku K
 refine en ?_
 refine ch h rfl ?_ ?_ <;> intro h
 ·refine sr <| lq (q_build (vs := []) (C := #[.string (⟨#[]⟩ : ByteArray), .slice none 0 0]) Pl_38 Zr_38 rfl (fill_nil)) rfl <| soN 1 Sz_38 rfl ⟨rfl, rfl, trivial⟩ rfl ?_
  refine la rfl <| en ?_
  refine WT.ret hF (resOk.two (rv_cell Tn_38 rfl (fun w1 hw => hw.rgO (i := 1) rfl 0 2 [.string (⟨#[]⟩ : ByteArray), .slice none 0 0] rfl) rfl) rfl) (fun w1 hw => ?_)
  cases h
  replace hw := hw.addNil
  replace hw := hw.addNil
  refine postG_of_St (js := [1, 0]) hw rfl ⟨.slice none 0 0, [], rfl, rfl, OSl.nil _ _ _ _⟩
 refine atr 4 [2] rfl <| qz h (fun b z q => m_i_DefText_ok N b (⟨x3.1.S, s1⟩ : TDef) (hT.y z) (k3.rslG OTRule.gives) q) rfl rfl rfl fun x8 h => kab h rfl rfl rfl (fun b z q => m_i_Lex_ok N b x8 (hT.y z) q) ?_
 rintro x9 h v12 Φ_10 F6 ⟨ap7, fr9, v13, rfl, rfl, h11⟩
 replace h1 := h1.fr fr9 (ap7.q 3 rfl) dN
 replace k3 := k3.fr fr9 (ap7.q 1 rfl) (ap7.q 0 rfl)
 refine arr 11 [] rfl <| qc h (m_sl_Equal_Si_Token_i_Token_ok N · x9.1 x1.1 h11.rsl h1.rsl ·) rfl rfl rfl fun x10 h => la rfl <| en ?_
 refine ch h rfl ?_ ?_ <;> intro h
 ·refine sr <| lq (q_build (vs := []) (C := #[.string (⟨#[]⟩ : ByteArray), .slice none 0 0]) Pl_38 Zr_38 rfl (fill_nil)) rfl <| soN 1 Sz_38 rfl ⟨rfl, rfl, trivial⟩ rfl ?_
  refine la rfl <| en ?_
  refine WT.ret hF (resOk.two (rv_cell Tn_38 rfl (fun w1 hw => hw.rgO (i := 1) rfl 0 2 [.string (⟨#[]⟩ : ByteArray), .slice none 0 0] rfl) rfl) rfl) (fun w1 hw => ?_)
  cases h
  replace hw := hw.addNil
  replace hw := hw.addNil
  refine postG_of_St (js := [1, 0]) hw rfl ⟨.slice none 0 0, [], rfl, rfl, OSl.nil _ _ _ _⟩
 refine atr 4 [2] rfl <| soN 1 Sz_38 rfl ⟨rfl, k3.one, trivial⟩ rfl ?_
 refine la rfl <| en ?_
 exact rtg [2, 1] hF (resOk.two (rv_cell Tn_38 rfl (fun w1 hw => hw.rgO (i := 1) rfl 0 2 [.string x3.1.S, u1] rfl) rfl) rfl) rfl (by cases h; exact fun w1 hw => ⟨u1, D1, rfl, rfl, k3⟩)
theorem m_l_FnRules_ok (w0 : Base Ψ Φ []) (p0 : (List Int)) (hT : Tab Ψ) (ph0 : RSl (RI .u8) 1 Ψ pG0 pv0 p0) {r : Bool} (h : m_l_FnRules N p0 = some r) :
  CB w0 prog 3 [pv0] (.bool r) := by
 refine eN func3 rfl ntmps3 rfl w0 fun hF => ?_
 unfold m_l_FnRules at h
 refine atr 8 [] rfl <| qd h (m_l_big_ok N · p0 ph0 ·) rfl rfl rfl fun x1 h => en ?_
 refine ch h rfl ?_ ?_ <;> intro h
 ·refine att 4 [] rfl ?_
  exact rt hF h
 refine atr 4 [] rfl <| kab h rfl rfl rfl (fun b z q => m_s_DrawRuleOk_ok N b p0 (ph0.y z) q) ?_
 rintro x2 h v1 Φ_1 F1 ⟨ap1, fr1, v2, D1, v3, G1, v4, G2, X1, rfl, rfl, h1, i1, h2, i2, h3, i3⟩
 refine lnz Zr_28 rfl fun b_1 => soN 0 Sz_28 rfl ⟨rfl, rfl, h1.one, h2.one, h3.one, trivial⟩ rfl ?_
 refine arr 4 [5] rfl <| qc h (m_i_RuleOk_ok N · x2 h1.rsl h2 h3 ·) rfl rfl rfl fun x4 h => arr 5 [5] rfl <| qz h (fun b z q => m_i_RuleText_ok N b x2 (hT.y z) h1.rsl h2 h3 q) rfl rfl rfl fun x5 h => arr 7 [5] rfl <| qc h (m_s_RuleOk_ok N · x2 h1.rsl h2 h3 ·) rfl rfl rfl fun x6 h => lq (q_bne Bo_4 rfl rfl) rfl <| la rfl ?_
 obtain ⟨b1, hb_1, h⟩ := bs h
 refine WL.cutN 5 [(27, .bool b1), (3, pQ b_1), (4, .bool x4), (5, .string x5)] ?_ (fun K => ?_)
 rotate_left
 ·refine sp 22 hb_1 rfl (fun hb_1 => ?_) fun hb_1 => ?_
  ·refine arr 5 [] rfl ?_
   cases hb_1
   exact ku K
  ·refine arr 3 [] rfl <| ly rfl rfl <| lq (q_bne Bo_4 rfl rfl) rfl <| la rfl ?_
   cases hb_1
   exact ku K
 refine en ?_
 refine ch h rfl ?_ ?_ <;> intro h
 ·refine att 4 [] rfl ?_
  exact rt hF h
 refine atr 4 [5] rfl <| qc h (m_i_PosCount_ok N · x2 h1.rsl h2 h3 ·) rfl rfl rfl fun x7 h => art 8 [] rfl ?_
 refine lin (σ := Int) (fun s => [(3, pQ b_1), (4, .bool x4), (5, .string x5), (6, iV x7), (7, iV s)]) (fun s => St w0 Φ_1 [(b_1, .cells #[.string x2.Name, iV x2.Sal, v2, v3, v4] 28 (0, 0))] [ob v2, X1]) (fun m s => m_l_FnRules_l1 N x2 x4 x5 x7 m s = some r) (0) N h (sx [0, 0] [0]) (fun n1 ih1 s hm => ?_)
 revert hm; revert s; intro s1 hm
 have h : m_l_FnRules_l1 N x2 x4 x5 x7 (n1 + 1) s1 = some r := hm
 show WT _ _ [(3, pQ b_1), (4, .bool x4), (5, .string x5), (6, iV x7), (7, iV s1)] (St w0 Φ_1 [(b_1, .cells #[.string x2.Name, iV x2.Sal, v2, v3, v4] 28 (0, 0))] [ob v2, X1])
 unfold m_l_FnRules_l1 at h
 refine atr 6 [2, 0] rfl <| lno h1 rfl <| arr 2 [] rfl ?_
 obtain ⟨b2, hb_2, h⟩ := bs h
 refine WL.cutN 2 [(37, .bool b2), (3, pQ b_1), (4, .bool x4), (5, .string x5), (6, iV x7), (7, iV s1)] ?_ (fun K => ?_)
 rotate_left
 ·refine sp 35 hb_2 rfl (fun hb_2 => ?_) fun hb_2 => ?_
  ·refine arr 2 [] rfl ?_
   cases hb_2
   exact ku K
  ·refine arr 2 [] rfl ?_
   cases hb_2
   exact ku K
 refine en ?_
 refine ch h rfl ?_ ?_ <;> intro h
 ·refine atr 8 [2, 0] rfl ?_
  obtain ⟨x8, hx7, h⟩ := bs h
  obtain ⟨cs1, F2, -, g1, hb1, hs1, r1⟩ := h1.elS (idx_some hx7).2.2
  obtain ⟨v5, G3, rfl, hq1, h4⟩ := r1
  obtain rfl := hq1.symm
  refine lio h1 hx7 rfl <| lf Fld_35_2 rfl rfl rfl <| lgx 2 0 g1 rfl <| arr 3 [] rfl <| lq (q_bne Bo_4 rfl rfl) rfl <| en ?_
  refine ch h rfl ?_ ?_ <;> intro h
  ·refine att 4 [] rfl ?_
   exact rt hF h
  refine att 7 [] rfl ?_
  exact lb [0, 0] [0] (ih1 _ h)
 refine atr 4 [] rfl ?_
 obtain ⟨z1, hz1, h⟩ := bs h
 refine lq (q_cat rfl rfl hz1) rfl <| kab h rfl rfl rfl (fun b z q => m_i_ParseDef_ok N b z1 (hT.y z) q) ?_
 rintro x9 h v6 Φ_2 F3 ⟨ap2, fr2, v7, D2, rfl, rfl, h5⟩
 refine arr 3 [] rfl <| lnz Zr_38 rfl fun b_2 => soN 0 Sz_38 rfl ⟨rfl, h5.one, trivial⟩ rfl ?_
 refine arr 7 [] rfl ?_
 obtain ⟨b3, hb_3, h⟩ := bs h
 refine WL.cutN 25 [(83, .bool b3)] ?_ (fun K => ?_)
 rotate_left
 ·refine sp 58 hb_3 rfl (fun hb_3 => ?_) fun hb_3 => ?_
  ·refine arr 25 [] rfl ?_
   cases hb_3
   exact ku K
  ·refine arr 2 [] rfl ?_
   obtain ⟨b4, hb_4, hb_3⟩ := bs hb_3
   refine WL.cutN 5 [(65, .bool b4), (5, .string x5), (6, iV x7), (8, pQ b_2), (58, .bool false)] ?_ (fun K => ?_)
   rotate_left
   ·refine sp 60 hb_4 rfl (fun hb_4 => ?_) fun hb_4 => ?_
    ·refine arr 2 [1, 0] rfl <| ly rfl rfl <| lno h5 rfl <| arr 2 [] rfl ?_
     cases hb_4
     exact ku K
    ·refine arr 5 [] rfl ?_
     cases hb_4
     exact ku K
   refine ly rfl rfl <| la rfl ?_
   obtain ⟨b5, hb_5, hb_3⟩ := bs hb_3
   refine WL.cutN 8 [(74, .bool b5), (6, iV x7), (58, .bool false)] ?_ (fun K => ?_)
   rotate_left
   ·refine sp 66 hb_5 rfl (fun hb_5 => ?_) fun hb_5 => ?_
    ·refine arr 2 [1, 0] rfl <| ly rfl rfl ?_
     obtain ⟨x10, hx9, hb_5⟩ := bs hb_5
     obtain ⟨cs2, F4, -, g2, hb2, hs2, r2⟩ := h5.elS (idx_some hx9).2.2
     obtain ⟨v8, D3, v9, v10, D4, rfl, rfl, h6, h7, h8⟩ := r2
     have h9 := h6.rslG OTPat.gives
     have h10 := h7.rsl
     have h11 := h8.rslG OTAct.gives
     refine lio h5 hx9 rfl <| ly rfl rfl <| lgx 0 5 g2 rfl <| ly rfl rfl <| qz hb_5 (fun b z q => m_i_RuleText_ok N b x10 (hT.y z) h9 h10 h11 q) rfl rfl rfl fun x11 hb_5 => arr 3 [] rfl ?_
     cases hb_5
     exact ku K
    ·refine arr 8 [] rfl ?_
     cases hb_5
     exact ku K
   refine ly rfl rfl <| la rfl ?_
   obtain ⟨b6, hb_6, hb_3⟩ := bs hb_3
   refine WL.cutN 3 [(78, .bool b6), (6, iV x7), (58, .bool false)] ?_ (fun K => ?_)
   rotate_left
   ·refine sp 75 hb_6 rfl (fun hb_6 => ?_) fun hb_6 => ?_
    ·refine arr 3 [] rfl ?_
     cases hb_6
     exact ku K
    ·refine arr 3 [] rfl ?_
     cases hb_6
     exact ku K
   refine ly rfl rfl <| la rfl ?_
   obtain ⟨b7, hb_7, hb_3⟩ := bs hb_3
   refine WL.cutN 3 [(82, .bool b7), (58, .bool false)] ?_ (fun K => ?_)
   rotate_left
   ·refine sp 79 hb_7 rfl (fun hb_7 => ?_) fun hb_7 => ?_
    ·refine arr 3 [] rfl ?_
     cases hb_7
     exact ku K
    ·refine arr 3 [] rfl ?_
     cases hb_7
     exact ku K
   refine la rfl ?_
   cases hb_3
   exact ku K
 refine la rfl <| en ?_
 exact rt hF h
end Go.Proofs.YteipbimepilcfaaGreatDoor
