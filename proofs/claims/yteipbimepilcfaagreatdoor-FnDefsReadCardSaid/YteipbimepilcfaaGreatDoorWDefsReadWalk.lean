/- Printed by a program of ours: each Go function computes its Lean function. -/
import Derived.Test.YteipbimepilcfaaGreatDoorProg
import Derived.Test.YteipbimepilcfaaGreatDoorWDefsReadWalk5
namespace Go.Proofs.YteipbimepilcfaaGreatDoor
open Eng Tryz
open Go.RowKit (Below)
set_option linter.unusedVariables false
set_option linter.unusedSimpArgs false

set_option maxRecDepth 100000
set_option maxHeartbeats 1000000
variable {Ψ Φ : Hp} {pv0_0 pv1_0 pv0 pv1 : Value} {pG0_0 pG0 pG1 : List Nat} {pb0 pb1 : Nat} (N : Nat)
theorem m_s_TokenOk_ok  (w0 : Base Ψ Φ []) (p0 : TToken)  {r : Bool} (h : m_s_TokenOk N p0 = some r) :
  CB w0 prog 123 [.agg [iV p0.K, iV p0.N, .string p0.S].toArray] (.bool r) := by
 refine eN func123 rfl ntmps123 rfl w0 fun hF => ?_
 unfold m_s_TokenOk at h
 refine sr <| lbx rfl fun b_1 => art 14 [0, 0] rfl ?_
 refine ch h rfl ?_ ?_ <;> intro h
 ·refine atr 4 [1, 0] rfl <| qc h (m_s_l1In_ok N · p0.N 0 1000000000 ·) rfl rfl rfl fun x1 h => la rfl ?_
  obtain ⟨b1, hb_1, h⟩ := bs h
  refine WL.cutN 4 [(14, .bool b1), (2, .bool false)] ?_ (fun K => ?_)
  rotate_left
  ·refine sp 10 hb_1 rfl (fun hb_1 => ?_) fun hb_1 => ?_
   ·refine arr 4 [2, 0] rfl ?_
    cases hb_1
    exact ku K
   ·refine arr 4 [] rfl ?_
    cases hb_1
    exact ku K
  refine la rfl <| en ?_
  exact rt hF h
 refine att 5 [] rfl ?_
 refine ch h rfl ?_ ?_ <;> intro h
 ·refine atr 4 [2, 0] rfl <| qc h (m_s_NameOk_ok N · p0.S ·) rfl rfl rfl fun x2 h => la rfl ?_
  obtain ⟨b2, hb_2, h⟩ := bs h
  refine WL.cutN 4 [(24, .bool b2), (2, .bool false)] ?_ (fun K => ?_)
  rotate_left
  ·refine sp 20 hb_2 rfl (fun hb_2 => ?_) fun hb_2 => ?_
   ·refine arr 4 [1, 0] rfl ?_
    cases hb_2
    exact ku K
   ·refine arr 4 [] rfl ?_
    cases hb_2
    exact ku K
  refine la rfl <| en ?_
  exact rt hF h
 refine att 5 [] rfl ?_
 refine ch h rfl ?_ ?_ <;> intro h
 ·refine atr 4 [2, 0] rfl <| qc h (m_s_l5VarOk_ok N · p0.S ·) rfl rfl rfl fun x3 h => la rfl ?_
  obtain ⟨b3, hb_3, h⟩ := bs h
  refine WL.cutN 4 [(34, .bool b3), (2, .bool false)] ?_ (fun K => ?_)
  rotate_left
  ·refine sp 30 hb_3 rfl (fun hb_3 => ?_) fun hb_3 => ?_
   ·refine arr 4 [1, 0] rfl ?_
    cases hb_3
    exact ku K
   ·refine arr 4 [] rfl ?_
    cases hb_3
    exact ku K
  refine la rfl <| en ?_
  exact rt hF h
 refine att 5 [] rfl ?_
 refine ch h rfl ?_ ?_ <;> intro h
 ·refine atr 4 [2, 0] rfl <| qc h (m_s_l2Plain_ok N · p0.S ·) rfl rfl rfl fun x4 h => la rfl ?_
  obtain ⟨b4, hb_4, h⟩ := bs h
  refine WL.cutN 4 [(44, .bool b4), (2, .bool false)] ?_ (fun K => ?_)
  rotate_left
  ·refine sp 40 hb_4 rfl (fun hb_4 => ?_) fun hb_4 => ?_
   ·refine arr 4 [1, 0] rfl ?_
    cases hb_4
    exact ku K
   ·refine arr 4 [] rfl ?_
    cases hb_4
    exact ku K
  refine la rfl <| en ?_
  exact rt hF h
 refine att 5 [] rfl ?_
 refine ch h rfl ?_ ?_ <;> intro h
 ·refine atr 4 [2, 0] rfl <| qc h (m_s_l5MarkOk_ok N · p0.S ·) rfl rfl rfl fun x5 h => la rfl ?_
  obtain ⟨b5, hb_5, h⟩ := bs h
  refine WL.cutN 4 [(54, .bool b5), (2, .bool false)] ?_ (fun K => ?_)
  rotate_left
  ·refine sp 50 hb_5 rfl (fun hb_5 => ?_) fun hb_5 => ?_
   ·refine arr 4 [1, 0] rfl ?_
    cases hb_5
    exact ku K
   ·refine arr 4 [] rfl ?_
    cases hb_5
    exact ku K
  refine la rfl <| en ?_
  exact rt hF h
 refine att 6 [] rfl ?_
 exact rt hF h
theorem m_s_Lex_ok  (w0 : Base Ψ Φ []) (p0 : ByteArray)  {r : (List TToken) × Int} (h : m_s_Lex N p0 = some r) :
  Calls prog 65 [.string p0].toArray w0.w (PostG Φ w0.w [] (fun Φ' Fs v => ∃ (sr_0_0 : Value), v = .tuple #[sr_0_0, iV r.2] ∧ Fs = [ob sr_0_0] ∧ OSl RTToken 77 3 Φ' [] sr_0_0 r.1)) := by
 refine eN func65 rfl ntmps65 rfl w0 fun hF => ?_
 unfold m_s_Lex at h
 refine atr 7 [] rfl <| le' (e_lit0 RTToken.lasts Sl_44 Zr_77 rfl rfl) rfl ?_
 rintro v1 Φ_1 D1 ⟨fr1, h1⟩
 refine arr 5 [] rfl <| qc h (m_s_l5Pass_ok N · p0 0 ·) rfl rfl rfl fun x1 h => art 4 [] rfl ?_
 refine lin (σ := Hp × (List TToken) × Value × Int) (fun s => [(0, .string p0), (4, s.2.2.1), (5, iV s.2.2.2)]) (fun s => St w0 s.1 [] [ob s.2.2.1]) (fun m s => m_s_Lex_l1 N p0 m s.2.1 s.2.2.2 = some r ∧ (OSl RTToken 77 3 s.1 [] s.2.2.1 s.2.1)) (Φ_1, ([] : List TToken), v1, x1) N ⟨h, h1⟩ (sx [0] []) (fun n1 ih1 s hm => ?_)
 obtain ⟨Φ_2, s1, u1, s2⟩ := s
 obtain ⟨h, k1⟩ := hm
 dsimp only at h k1 ⊢
 unfold m_s_Lex_l1 at h
 refine atr 5 [] rfl <| lq (q_lenS Str_9 rfl rfl) rfl <| la rfl <| en ?_
 refine ch h rfl ?_ ?_ <;> intro h
 ·refine atr 6 [] rfl <| qc h (m_s_l5One_ok N · p0 s2 ·) rfl rfl rfl fun x2 h => arr 3 [] rfl <| lnz Zr_77 rfl fun b_1 => soN 0 Sz_77 rfl ⟨rfl, rfl, rfl, trivial⟩ rfl ?_
  refine arr 6 [3] rfl <| qc h (m_s_TokenOk_ok N · x2.1 ·) rfl rfl rfl fun x3 h => arr 2 [] rfl ?_
  obtain ⟨b1, hb_1, h⟩ := bs h
  refine WL.cutN 4 [(28, .bool b1), (0, .string p0), (4, u1), (5, iV s2), (6, pQ b_1), (7, iV x2.2)] ?_ (fun K => ?_)
  rotate_left
  ·refine sp 24 hb_1 rfl (fun hb_1 => ?_) fun hb_1 => ?_
   ·refine arr 4 [] rfl ?_
    cases hb_1
    exact ku K
   ·refine ly rfl rfl <| la rfl <| ly rfl rfl <| lno k1 rfl <| arr 2 [] rfl ?_
    cases hb_1
    exact ku K
  refine en ?_
  refine ch h rfl ?_ ?_ <;> intro h
  ·refine sr <| le' (e_lit0 RTToken.lasts Sl_44 Zr_77 rfl rfl) rfl ?_
   rintro v2 Φ_3 D2 ⟨fr2, h2⟩
   refine art 4 [] rfl ?_
   exact rtg [0] hF (resOk.two rfl rfl) rfl (by cases h; exact fun w1 hw => ⟨v2, rfl, rfl, h2⟩)
  refine atr 5 [3] rfl ?_
  have rc3 : RC RTToken 3 Φ_2 ([[]] : List (List Nat)) [iV x2.1.K, iV x2.1.N, .string x2.1.S] ([x2.1] : List TToken) := RC.cons (c := [iV x2.1.K, iV x2.1.N, .string x2.1.S]) (cells := []) ⟨rfl, rfl⟩ rfl (RC.nil _ _ _)
  refine le' (e_lit (vs := [(0, .agg [iV x2.1.K, iV x2.1.N, .string x2.1.S].toArray)]) (C := #[iV x2.1.K, iV x2.1.N, .string x2.1.S]) RTToken.lasts Sl_44 Zr_77 rfl rfl rfl rfl (fill_made MC_77_1 (fill_cons (C' := [iV x2.1.K, iV x2.1.N, .string x2.1.S]) rfl rfl rfl rfl rfl (fill_nil))) rfl rc3 rfl (by simpa using Kw.nil)) rfl ?_
  rintro v3 Φ_4 D3 ⟨fr3, h3⟩
  replace h3 : OSl RTToken 77 3 Φ_4 [] v3 ([x2.1] : List TToken) := by simpa using h3
  replace k1 := k1.f0 fr3
  obtain ⟨x4, hx4, h⟩ := bs h
  refine le' (e_appF RTToken.lasts RTToken.one RTToken.flat Sl_44 Ei_77 rfl rfl rfl rfl rfl (js := [1]) (Rr := [ob v3]) rfl k1 h3.rsl hx4) rfl ?_
  rintro v4 Φ_5 D4 ⟨⟨ap1, fr4⟩, h4⟩
  refine arr 5 [] rfl <| qc h (m_s_l5Pass_ok N · p0 x2.2 ·) rfl rfl rfl fun x5 h => art 3 [] rfl ?_
  exact lb [0] [] (ih1 (_, _, _, _) ⟨h, h4⟩)
 refine att 7 [] rfl ?_
 exact rtg [0] hF (resOk.two rfl rfl) rfl (by cases h; exact fun w1 hw => ⟨u1, rfl, rfl, k1⟩)
theorem m_s_l10Is_ok (w0 : Base Ψ Φ [[pb0]].flatten) (p0 : Tl10Reader) (p1 : Int) (p2 : ByteArray) (ph0_0 : RSl RTToken 3 Ψ pG0_0 pv0_0 p0.l) (pp0 : Φ pb0 = some (.cells #[pv0_0, iV p0.at_, .bool p0.bad] 100 (0, 0))) {r : Bool × Tl10Reader} (h : m_s_l10Is N p0 p1 p2 = some r) :
  Calls prog 124 [pQ pb0, iV p1, .string p2].toArray w0.w (PostG Φ w0.w [[pb0]].flatten (fun Φ' Fs v => v = .bool r.1 ∧ Fs = [[pb0]] ∧ r.2.l = p0.l ∧ Φ' pb0 = some (.cells #[pv0_0, iV r.2.at_, .bool r.2.bad] 100 (0, 0)))) := by
 refine eL func124 rfl ntmps124 rfl (L := [[pb0]]) w0 (fun hF => ?_)
 unfold m_s_l10Is at h
 refine att 6 [] rfl <| WT.draw mixed (by kernel_rfl) (fun _ h => h.drew) <| qq (q_move rfl) rfl <| qq (q_nilCheck rfl) rfl <| qq (q_fieldAddr Fld_100_2 rfl) rfl <| qq (q_load1 T1_4 rfl (fun w1 hw => ((rg_cells pp0).of_eq 2 1 rfl rfl : rg _ _ _ [.bool p0.bad]).rangeAt hw.fro)) rfl <| qq (q_move rfl) rfl ?_
 obtain ⟨b1, hb_1, h⟩ := bs h
 refine WQ.cutN 11 [(22, .bool b1), (0, pQ pb0), (1, iV p1), (2, .string p2)] ?_ (fun K => ?_)
 rotate_left
 ·refine WQ.split (d := 11) rfl (fun c1 => ?_) (fun c1 => ?_)
  ·replace hb_1 := ite_t hb_1 c1
   refine aqq 11 [] rfl ?_
   cases hb_1
   exact kq K
  ·replace hb_1 := ite_f hb_1 c1
   refine WQ.yes rfl rfl <| qq (q_move rfl) rfl <| WQ.yes rfl rfl <| qq (q_nilCheck rfl) rfl <| WQ.yes rfl rfl <| qq (q_fieldAddr Fld_100_1 rfl) rfl <| WQ.yes rfl rfl <| qq (q_load1 T1_3 rfl (fun w1 hw => ((rg_cells pp0).of_eq 1 1 rfl rfl : rg _ _ _ [iV p0.at_]).rangeAt hw.fro)) rfl <| WQ.yes rfl rfl <| qq (q_move rfl) rfl <| WQ.yes rfl rfl <| qq (q_nilCheck rfl) rfl <| WQ.yes rfl rfl <| qq (q_fieldAddr Fld_100_0 rfl) rfl <| WQ.yes rfl rfl <| qq (q_load1 T1_44 rfl (fun w1 hw => ((rg_cells pp0).of_eq 0 1 rfl rfl : rg _ _ _ [pv0_0]).rangeAt hw.fro)) rfl <| WQ.yes rfl rfl ?_
   refine qq (q_lenR Sl_44 rfl rfl ph0_0) rfl <| aqq 2 [] rfl ?_
   cases hb_1
   exact kq K
 refine qq (q_move rfl) rfl ?_
 obtain ⟨b2, hb_2, h⟩ := bs h
 refine WQ.cutN 14 [(37, .bool b2), (0, pQ pb0), (2, .string p2)] ?_ (fun K => ?_)
 rotate_left
 ·refine WQ.split (d := 23) rfl (fun c2 => ?_) (fun c2 => ?_)
  ·replace hb_2 := ite_t hb_2 c2
   refine aqq 14 [] rfl ?_
   cases hb_2
   exact kq K
  ·replace hb_2 := ite_f hb_2 c2
   refine WQ.yes rfl rfl <| qq (q_move rfl) rfl <| WQ.yes rfl rfl <| qq (q_nilCheck rfl) rfl <| WQ.yes rfl rfl <| qq (q_fieldAddr Fld_100_0 rfl) rfl <| WQ.yes rfl rfl <| qq (q_load1 T1_44 rfl (fun w1 hw => ((rg_cells pp0).of_eq 0 1 rfl rfl : rg _ _ _ [pv0_0]).rangeAt hw.fro)) rfl <| WQ.yes rfl rfl <| qq (q_move rfl) rfl <| WQ.yes rfl rfl <| qq (q_nilCheck rfl) rfl <| WQ.yes rfl rfl <| qq (q_fieldAddr Fld_100_1 rfl) rfl <| WQ.yes rfl rfl <| qq (q_load1 T1_3 rfl (fun w1 hw => ((rg_cells pp0).of_eq 1 1 rfl rfl : rg _ _ _ [iV p0.at_]).rangeAt hw.fro)) rfl <| WQ.yes rfl rfl ?_
   obtain ⟨x1, hx1, hb_2⟩ := bs hb_2
   obtain ⟨cs1, F1, -, g1, hb1, hs1, r1⟩ := ph0_0.el (idx_some hx1).2.2
   obtain ⟨rfl, -⟩ := r1
   refine qq (q_indexAddr Sl_44 rfl rfl ph0_0 hx1) rfl <| WQ.yes rfl rfl <| qq (q_fieldAddr Fld_77_0 rfl) rfl <| WQ.yes rfl rfl <| qq (q_load1 T1_3 rfl (fun w1 hw => (g1.of_eq 0 1 rfl rfl : rg _ _ _ [iV x1.K]).rangeAt hw.in0)) rfl <| aqq 3 [] rfl ?_
   cases hb_2
   exact kq K
 refine qq (q_move rfl) rfl ?_
 obtain ⟨b3, hb_3, h⟩ := bs h
 refine WQ.cutN 14 [(52, .bool b3), (0, pQ pb0)] ?_ (fun K => ?_)
 rotate_left
 ·refine WQ.split (d := 38) rfl (fun c3 => ?_) (fun c3 => ?_)
  ·replace hb_3 := ite_t hb_3 c3
   refine aqq 14 [] rfl ?_
   cases hb_3
   exact kq K
  ·replace hb_3 := ite_f hb_3 c3
   refine WQ.yes rfl rfl <| qq (q_move rfl) rfl <| WQ.yes rfl rfl <| qq (q_nilCheck rfl) rfl <| WQ.yes rfl rfl <| qq (q_fieldAddr Fld_100_0 rfl) rfl <| WQ.yes rfl rfl <| qq (q_load1 T1_44 rfl (fun w1 hw => ((rg_cells pp0).of_eq 0 1 rfl rfl : rg _ _ _ [pv0_0]).rangeAt hw.fro)) rfl <| WQ.yes rfl rfl <| qq (q_move rfl) rfl <| WQ.yes rfl rfl <| qq (q_nilCheck rfl) rfl <| WQ.yes rfl rfl <| qq (q_fieldAddr Fld_100_1 rfl) rfl <| WQ.yes rfl rfl <| qq (q_load1 T1_3 rfl (fun w1 hw => ((rg_cells pp0).of_eq 1 1 rfl rfl : rg _ _ _ [iV p0.at_]).rangeAt hw.fro)) rfl <| WQ.yes rfl rfl ?_
   obtain ⟨x2, hx2, hb_3⟩ := bs hb_3
   obtain ⟨cs2, F2, -, g2, hb2, hs2, r2⟩ := ph0_0.el (idx_some hx2).2.2
   obtain ⟨rfl, -⟩ := r2
   refine qq (q_indexAddr Sl_44 rfl rfl ph0_0 hx2) rfl <| WQ.yes rfl rfl <| qq (q_fieldAddr Fld_77_2 rfl) rfl <| WQ.yes rfl rfl <| qq (q_load1 T1_9 rfl (fun w1 hw => (g2.of_eq 2 1 rfl rfl : rg _ _ _ [.string x2.S]).rangeAt hw.in0)) rfl <| aqq 3 [] rfl ?_
   cases hb_3
   exact kq K
 refine WQ.nil ?_
 refine ch h rfl ?_ ?_ <;> intro h
 ·refine att 4 [] rfl ?_
  exact rtg [0] hF (resOk.one rfl) rfl (by cases h; exact fun w1 hw => ⟨rfl, rfl, rfl, pp0⟩)
 refine atr 4 [] rfl <| lq (q_nilCheck rfl) rfl <| lf Fld_100_1 rfl rfl rfl <| lgx 1 0 (rg_cells pp0) rfl <| la rfl <| lq (q_nilCheck rfl) rfl <| lf Fld_100_1 rfl rfl rfl ?_
 refine WL.thw (js := [0]) (R := []) rfl pp0 (fun Φ_1 ap1 fr1 => ?_)
 refine so1 0 Sz_3 rfl rfl ?_
 refine art 5 [] rfl ?_
 refine WT.frz (js := [0]) (R := []) rfl (fun Φ_2 fr2 k1 => ?_)
 exact rtg [0] hF (resOk.one rfl) rfl (by cases h; exact fun w1 hw => ⟨rfl, rfl, rfl, k1⟩)
theorem m_s_l10Word_ok (w0 : Base Ψ Φ [[pb0]].flatten) (p0 : Tl10Reader) (p1 : ByteArray) (ph0_0 : RSl RTToken 3 Ψ pG0_0 pv0_0 p0.l) (pp0 : Φ pb0 = some (.cells #[pv0_0, iV p0.at_, .bool p0.bad] 100 (0, 0))) {r : Tl10Reader} (h : m_s_l10Word N p0 p1 = some r) :
  Calls prog 66 [pQ pb0, .string p1].toArray w0.w (PostG Φ w0.w [[pb0]].flatten (fun Φ' Fs v => v = .tuple #[] ∧ Fs = [[pb0]] ∧ r.l = p0.l ∧ Φ' pb0 = some (.cells #[pv0_0, iV r.at_, .bool r.bad] 100 (0, 0)))) := by
 refine eL func66 rfl ntmps66 rfl (L := [[pb0]]) w0 (fun hF => ?_)
 unfold m_s_l10Word at h
 refine atr 4 [] rfl <| kcb [0] h rfl rfl rfl rfl (fun b ap z q => m_s_l10Is_ok N b p0 2 p1 (ph0_0.y z) pp0 q) ?_
 rintro x1 h v1 Φ_1 F1 ⟨ap1, fr1, rfl, rfl, e1, h1⟩
 refine la rfl <| en ?_
 refine ch h rfl ?_ ?_ <;> intro h
 ·refine atr 2 [] rfl <| lq (q_nilCheck rfl) rfl <| lf Fld_100_2 rfl rfl rfl ?_
  refine WL.thw (js := [0]) (R := []) rfl h1 (fun Φ_2 ap2 fr2 => ?_)
  refine so1 0 Sz_4 rfl rfl ?_
  refine en ?_
  refine WT.frz (js := [0]) (R := []) rfl (fun Φ_3 fr3 k1 => ?_)
  refine WT.fin hF resOk.none (fun w1 hw => ?_)
  cases h
  refine postG_of_St (js := [0]) hw rfl ⟨rfl, rfl, rfl, k1⟩
 refine WT.skip ?_
 refine WT.fin hF resOk.none (fun w1 hw => ?_)
 cases h
 refine postG_of_St (js := [0]) hw rfl ⟨rfl, rfl, rfl, h1⟩
theorem m_s_l10Next_ok (w0 : Base Ψ Φ [[pb0]].flatten) (p0 : Tl10Reader) (p1 : Int) (ph0_0 : RSl RTToken 3 Ψ pG0_0 pv0_0 p0.l) (pp0 : Φ pb0 = some (.cells #[pv0_0, iV p0.at_, .bool p0.bad] 100 (0, 0))) {r : TToken × Tl10Reader} (h : m_s_l10Next N p0 p1 = some r) :
  Calls prog 67 [pQ pb0, iV p1].toArray w0.w (PostG Φ w0.w [[pb0]].flatten (fun Φ' Fs v => v = .agg [iV r.1.K, iV r.1.N, .string r.1.S].toArray ∧ Fs = [[pb0]] ∧ r.2.l = p0.l ∧ Φ' pb0 = some (.cells #[pv0_0, iV r.2.at_, .bool r.2.bad] 100 (0, 0)))) := by
 refine eL func67 rfl ntmps67 rfl (L := [[pb0]]) w0 (fun hF => ?_)
 unfold m_s_l10Next at h
 refine sr <| lnz Zr_77 rfl fun b_1 => art 3 [] rfl <| WT.draw mixed (by kernel_rfl) (fun _ h => h.drew) <| qq (q_move rfl) rfl <| qq (q_nilCheck rfl) rfl <| qq (q_fieldAddr Fld_100_2 rfl) rfl <| qq (q_load1 T1_4 rfl (fun w1 hw => ((rg_cells pp0).of_eq 2 1 rfl rfl : rg _ _ _ [.bool p0.bad]).rangeAt hw.fro)) rfl <| qq (q_move rfl) rfl ?_
 obtain ⟨b1, hb_1, h⟩ := bs h
 refine WQ.cutN 11 [(20, .bool b1), (0, pQ pb0), (1, iV p1), (4, pQ b_1)] ?_ (fun K => ?_)
 rotate_left
 ·refine WQ.split (d := 9) rfl (fun c1 => ?_) (fun c1 => ?_)
  ·replace hb_1 := ite_t hb_1 c1
   refine aqq 11 [] rfl ?_
   cases hb_1
   exact kq K
  ·replace hb_1 := ite_f hb_1 c1
   refine WQ.yes rfl rfl <| qq (q_move rfl) rfl <| WQ.yes rfl rfl <| qq (q_nilCheck rfl) rfl <| WQ.yes rfl rfl <| qq (q_fieldAddr Fld_100_1 rfl) rfl <| WQ.yes rfl rfl <| qq (q_load1 T1_3 rfl (fun w1 hw => ((rg_cells pp0).of_eq 1 1 rfl rfl : rg _ _ _ [iV p0.at_]).rangeAt hw.fro)) rfl <| WQ.yes rfl rfl <| qq (q_move rfl) rfl <| WQ.yes rfl rfl <| qq (q_nilCheck rfl) rfl <| WQ.yes rfl rfl <| qq (q_fieldAddr Fld_100_0 rfl) rfl <| WQ.yes rfl rfl <| qq (q_load1 T1_44 rfl (fun w1 hw => ((rg_cells pp0).of_eq 0 1 rfl rfl : rg _ _ _ [pv0_0]).rangeAt hw.fro)) rfl <| WQ.yes rfl rfl ?_
   refine qq (q_lenR Sl_44 rfl rfl ph0_0) rfl <| aqq 2 [] rfl ?_
   cases hb_1
   exact kq K
 refine qq (q_move rfl) rfl ?_
 obtain ⟨b2, hb_2, h⟩ := bs h
 refine WQ.cutN 14 [(35, .bool b2), (0, pQ pb0), (4, pQ b_1)] ?_ (fun K => ?_)
 rotate_left
 ·refine WQ.split (d := 21) rfl (fun c2 => ?_) (fun c2 => ?_)
  ·replace hb_2 := ite_t hb_2 c2
   refine aqq 14 [] rfl ?_
   cases hb_2
   exact kq K
  ·replace hb_2 := ite_f hb_2 c2
   refine WQ.yes rfl rfl <| qq (q_move rfl) rfl <| WQ.yes rfl rfl <| qq (q_nilCheck rfl) rfl <| WQ.yes rfl rfl <| qq (q_fieldAddr Fld_100_0 rfl) rfl <| WQ.yes rfl rfl <| qq (q_load1 T1_44 rfl (fun w1 hw => ((rg_cells pp0).of_eq 0 1 rfl rfl : rg _ _ _ [pv0_0]).rangeAt hw.fro)) rfl <| WQ.yes rfl rfl <| qq (q_move rfl) rfl <| WQ.yes rfl rfl <| qq (q_nilCheck rfl) rfl <| WQ.yes rfl rfl <| qq (q_fieldAddr Fld_100_1 rfl) rfl <| WQ.yes rfl rfl <| qq (q_load1 T1_3 rfl (fun w1 hw => ((rg_cells pp0).of_eq 1 1 rfl rfl : rg _ _ _ [iV p0.at_]).rangeAt hw.fro)) rfl <| WQ.yes rfl rfl ?_
   obtain ⟨x1, hx1, hb_2⟩ := bs hb_2
   obtain ⟨cs1, F1, -, g1, hb1, hs1, r1⟩ := ph0_0.el (idx_some hx1).2.2
   obtain ⟨rfl, -⟩ := r1
   refine qq (q_indexAddr Sl_44 rfl rfl ph0_0 hx1) rfl <| WQ.yes rfl rfl <| qq (q_fieldAddr Fld_77_0 rfl) rfl <| WQ.yes rfl rfl <| qq (q_load1 T1_3 rfl (fun w1 hw => (g1.of_eq 0 1 rfl rfl : rg _ _ _ [iV x1.K]).rangeAt hw.in0)) rfl <| aqq 3 [] rfl ?_
   cases hb_2
   exact kq K
 refine WQ.nil ?_
 refine ch h rfl ?_ ?_ <;> intro h
 ·refine sr <| la rfl <| lq (q_nilCheck rfl) rfl <| lf Fld_100_2 rfl rfl rfl ?_
  refine WL.thw (js := [0]) (R := []) rfl pp0 (fun Φ_1 ap1 fr1 => ?_)
  refine so1 0 Sz_4 rfl rfl ?_
  refine en <| sr <| lq (q_build (vs := []) (C := #[iV 0, iV 0, .string (⟨#[]⟩ : ByteArray)]) Pl_77 Zr_77 rfl (fill_nil)) rfl <| soN 1 Sz_77 rfl ⟨rfl, rfl, rfl, trivial⟩ rfl ?_
  refine en ?_
  refine WT.frz (js := [0]) (R := [(b_1, .cells #[iV 0, iV 0, .string (⟨#[]⟩ : ByteArray)] 77 (0, 0))]) rfl (fun Φ_2 fr2 k1 => ?_)
  exact rtg [0] hF (resOk.one (rv_cell Tn_77 rfl (fun w1 hw => hw.rgO (i := 0) rfl 0 3 [iV 0, iV 0, .string (⟨#[]⟩ : ByteArray)] rfl) rfl)) rfl (by cases h; exact fun w1 hw => ⟨rfl, rfl, rfl, k1⟩)
 refine atr 4 [] rfl <| lq (q_nilCheck rfl) rfl <| lf Fld_100_1 rfl rfl rfl <| lgx 1 0 (rg_cells pp0) rfl <| la rfl <| lq (q_nilCheck rfl) rfl <| lf Fld_100_1 rfl rfl rfl ?_
 refine WL.thw (js := [0]) (R := []) rfl pp0 (fun Φ_3 ap2 fr3 => ?_)
 refine so1 0 Sz_3 rfl rfl ?_
 refine en <| sq <| wm [0, 1] [11] rfl <| amm 1 [0] [0, 1] rfl rfl <| mq 1 rfl (by kernel_rfl) (kN [0, 1]) (q_nilCheck rfl) rfl <| amm 3 [2, 0, 3, 0, 4] [0, 1] rfl rfl <| mq 5 rfl (by kernel_rfl) (kN [0, 1]) (q_nilCheck rfl) rfl <| amm 3 [6, 1, 7, 0, 8] [0, 1] rfl rfl ?_
 obtain ⟨x2, hx2, h⟩ := bs h
 obtain ⟨cs2, F2, -, g2, hb2, hs2, r2⟩ := ph0_0.el (idx_some hx2).2.2
 obtain ⟨rfl, -⟩ := r2
 refine mq 9 rfl (by kernel_rfl) (kN [0, 1]) (q_indexAddr Sl_44 rfl rfl ph0_0 hx2) rfl <| mq 10 rfl (by kernel_rfl) (kN [0, 1]) (q_loadN Tn_77 rfl (fun w1 hw => (g2.of_eq 0 3 rfl rfl : rg _ _ _ [iV x2.K, iV x2.N, .string x2.S]).rangeAt hw.1) rfl) rfl ?_
 refine on1 11 (msN 1 rfl nk Sz_77 rfl ⟨rfl, rfl, rfl, trivial⟩ rfl rfl ?_)
 refine WM.nil (by kernel_rfl) ?_
 refine WT.frz (js := [0]) (R := [(b_1, .cells #[iV x2.K, iV x2.N, .string x2.S] 77 (0, 0))]) rfl (fun Φ_4 fr4 k2 => ?_)
 exact rtg [0] hF (resOk.one (rv_cell Tn_77 rfl (fun w1 hw => hw.rgO (i := 0) rfl 0 3 [iV x2.K, iV x2.N, .string x2.S] rfl) rfl)) rfl (by cases h; exact fun w1 hw => ⟨rfl, rfl, rfl, k2⟩)
theorem m_s_l10Mark_ok (w0 : Base Ψ Φ [[pb0]].flatten) (p0 : Tl10Reader) (p1 : ByteArray) (ph0_0 : RSl RTToken 3 Ψ pG0_0 pv0_0 p0.l) (pp0 : Φ pb0 = some (.cells #[pv0_0, iV p0.at_, .bool p0.bad] 100 (0, 0))) {r : Tl10Reader} (h : m_s_l10Mark N p0 p1 = some r) :
  Calls prog 68 [pQ pb0, .string p1].toArray w0.w (PostG Φ w0.w [[pb0]].flatten (fun Φ' Fs v => v = .tuple #[] ∧ Fs = [[pb0]] ∧ r.l = p0.l ∧ Φ' pb0 = some (.cells #[pv0_0, iV r.at_, .bool r.bad] 100 (0, 0)))) := by
 refine eL func68 rfl ntmps68 rfl (L := [[pb0]]) w0 (fun hF => ?_)
 unfold m_s_l10Mark at h
 refine atr 4 [] rfl <| kcb [0] h rfl rfl rfl rfl (fun b ap z q => m_s_l10Is_ok N b p0 5 p1 (ph0_0.y z) pp0 q) ?_
 rintro x1 h v1 Φ_1 F1 ⟨ap1, fr1, rfl, rfl, e1, h1⟩
 refine la rfl <| en ?_
 refine ch h rfl ?_ ?_ <;> intro h
 ·refine atr 2 [] rfl <| lq (q_nilCheck rfl) rfl <| lf Fld_100_2 rfl rfl rfl ?_
  refine WL.thw (js := [0]) (R := []) rfl h1 (fun Φ_2 ap2 fr2 => ?_)
  refine so1 0 Sz_4 rfl rfl ?_
  refine en ?_
  refine WT.frz (js := [0]) (R := []) rfl (fun Φ_3 fr3 k1 => ?_)
  refine WT.fin hF resOk.none (fun w1 hw => ?_)
  cases h
  refine postG_of_St (js := [0]) hw rfl ⟨rfl, rfl, rfl, k1⟩
 refine WT.skip ?_
 refine WT.fin hF resOk.none (fun w1 hw => ?_)
 cases h
 refine postG_of_St (js := [0]) hw rfl ⟨rfl, rfl, rfl, h1⟩
theorem m_s_l10Num_ok (w0 : Base Ψ Φ [[pb0]].flatten) (p0 : Tl10Reader) (ph0_0 : RSl RTToken 3 Ψ pG0_0 pv0_0 p0.l) (pp0 : Φ pb0 = some (.cells #[pv0_0, iV p0.at_, .bool p0.bad] 100 (0, 0))) {r : Int × Tl10Reader} (h : m_s_l10Num N p0 = some r) :
  Calls prog 125 [pQ pb0].toArray w0.w (PostG Φ w0.w [[pb0]].flatten (fun Φ' Fs v => v = iV r.1 ∧ Fs = [[pb0]] ∧ r.2.l = p0.l ∧ Φ' pb0 = some (.cells #[pv0_0, iV r.2.at_, .bool r.2.bad] 100 (0, 0)))) := by
 refine eL func125 rfl ntmps125 rfl (L := [[pb0]]) w0 (fun hF => ?_)
 unfold m_s_l10Num at h
 refine atr 7 [] rfl <| kcb [0] h rfl rfl rfl rfl (fun b ap z q => m_s_l10Is_ok N b p0 5 (⟨#[45]⟩ : ByteArray) (ph0_0.y z) pp0 q) ?_
 rintro x1 h v1 Φ_1 F1 ⟨ap1, fr1, rfl, rfl, e1, h1⟩
 refine arr 5 [] rfl <| kcb [0] h rfl rfl rfl rfl (fun b ap z q => m_s_l10Next_ok N b (⟨p0.l, x1.2.at_, x1.2.bad⟩ : Tl10Reader) 1 (ph0_0.y z) h1 q) ?_
 rintro x2 h v2 Φ_2 F2 ⟨ap2, fr2, rfl, rfl, e2, h2⟩
 refine lq (q_field1 Fd1_77_1 rfl rfl) rfl <| arr 7 [] rfl ?_
 obtain ⟨b3, hb_1, h⟩ := bs h
 refine WL.cutN 3 [(14, .bool b3), (0, pQ pb0), (3, .bool x1.1), (4, iV x2.1.N)] ?_ (fun K => ?_)
 rotate_left
 ·refine sp 11 hb_1 rfl (fun hb_1 => ?_) fun hb_1 => ?_
  ·refine arr 3 [] rfl ?_
   cases hb_1
   exact ku K
  ·refine arr 3 [] rfl ?_
   cases hb_1
   exact ku K
 refine en ?_
 refine cut (σ := Hp × Bool) (fun s => [(3, .bool x1.1), (4, iV x2.1.N)]) (fun s => St w0 s.1 [] [[pb0]]) (fun s => m_s_l10Num_j1 N p0 x1 x2 s.2 = some r ∧ (s.1 pb0 = some (.cells #[pv0_0, iV x2.2.at_, .bool s.2] 100 (0, 0)))) (fun s hm => ?_) (fun K => ?_)
 ·clear h
  obtain ⟨Φ_3, s1⟩ := s
  obtain ⟨h, k1⟩ := hm
  dsimp only at h k1 ⊢
  unfold m_s_l10Num_j1 at h
  refine att 5 [] rfl ?_
  refine ch h rfl ?_ ?_ <;> intro h
  ·refine sr <| la rfl <| lq (q_neg rfl) rfl <| la rfl <| en ?_
   exact rtg [0] hF (resOk.one rfl) rfl (by cases h; exact fun w1 hw => ⟨rfl, rfl, rfl, k1⟩)
  refine att 6 [] rfl ?_
  exact rtg [0] hF (resOk.one rfl) rfl (by cases h; exact fun w1 hw => ⟨rfl, rfl, rfl, k1⟩)
 refine ch h rfl ?_ ?_ <;> intro h
 ·refine atr 2 [] rfl <| lq (q_nilCheck rfl) rfl <| lf Fld_100_2 rfl rfl rfl ?_
  refine WL.thw (js := [0]) (R := []) rfl h2 (fun Φ_4 ap3 fr3 => ?_)
  refine so1 0 Sz_4 rfl rfl ?_
  refine en ?_
  refine WT.frz (js := [0]) (R := []) rfl (fun Φ_5 fr4 k2 => ?_)
  exact wo [0] [] (K (_, _) ⟨h, k2⟩)
 refine WT.skip ?_
 exact wo [0] [] (K (_, _) ⟨h, h2⟩)
theorem m_s_l10Arg_ok (w0 : Base Ψ Φ [[pb0]].flatten) (p0 : Tl10Reader) (ph0_0 : RSl RTToken 3 Ψ pG0_0 pv0_0 p0.l) (pp0 : Φ pb0 = some (.cells #[pv0_0, iV p0.at_, .bool p0.bad] 100 (0, 0))) {r : TArg × Tl10Reader} (h : m_s_l10Arg N p0 = some r) :
  Calls prog 178 [pQ pb0].toArray w0.w (PostG Φ w0.w [[pb0]].flatten (fun Φ' Fs v => v = .agg [iV r.1.K, .string r.1.S, iV r.1.V.K, iV r.1.V.N, .string r.1.V.S].toArray ∧ Fs = [[pb0]] ∧ r.2.l = p0.l ∧ Φ' pb0 = some (.cells #[pv0_0, iV r.2.at_, .bool r.2.bad] 100 (0, 0)))) := by
 refine eL func178 rfl ntmps178 rfl (L := [[pb0]]) w0 (fun hF => ?_)
 unfold m_s_l10Arg at h
 refine sr <| lnz Zr_60 rfl fun b_1 => arr 5 [] rfl <| kcb [0] h rfl rfl rfl rfl (fun b ap z q => m_s_l10Is_ok N b p0 5 (⟨#[95]⟩ : ByteArray) (ph0_0.y z) pp0 q) ?_
 rintro x1 h v1 Φ_1 F1 ⟨ap1, fr1, rfl, rfl, e1, h1⟩
 refine en ?_
 refine ch h rfl ?_ ?_ <;> intro h
 ·refine sr <| lq (q_build (vs := [(0, iV 3)]) (C := #[iV 3, .string (⟨#[]⟩ : ByteArray), iV 0, iV 0, .string (⟨#[]⟩ : ByteArray)]) Pl_60 Zr_60 rfl (fill_cons (C' := [iV 3, .string ⟨#[]⟩, iV 0, iV 0, .string ⟨#[]⟩]) rfl rfl rfl rfl rfl (fill_nil))) rfl <| soN 0 Sz_60 rfl ⟨rfl, rfl, rfl, rfl, rfl, trivial⟩ rfl ?_
  refine en ?_
  exact rtg [0] hF (resOk.one (rv_cell Tn_60 rfl (fun w1 hw => hw.rgO (i := 0) rfl 0 5 [iV 3, .string (⟨#[]⟩ : ByteArray), iV 0, iV 0, .string (⟨#[]⟩ : ByteArray)] rfl) rfl)) rfl (by cases h; exact fun w1 hw => ⟨rfl, rfl, rfl, h1⟩)
 refine att 3 [] rfl <| WT.draw mixed (by kernel_rfl) (fun _ h => h.drew) <| qq (q_move rfl) rfl <| qq (q_nilCheck rfl) rfl <| qq (q_fieldAddr Fld_100_2 rfl) rfl <| qq (q_load1 T1_4 rfl (fun w1 hw => ((rg_cells h1).of_eq 2 1 rfl rfl : rg _ _ _ [.bool x1.2.bad]).rangeAt hw.fro)) rfl <| qq (q_move rfl) rfl ?_
 obtain ⟨b2, hb_1, h⟩ := bs h
 refine WQ.cutN 11 [(21, .bool b2), (0, pQ pb0), (2, pQ b_1)] ?_ (fun K => ?_)
 rotate_left
 ·refine WQ.split (d := 10) rfl (fun c2 => ?_) (fun c2 => ?_)
  ·replace hb_1 := ite_t hb_1 c2
   refine aqq 11 [] rfl ?_
   cases hb_1
   exact kq K
  ·replace hb_1 := ite_f hb_1 c2
   refine WQ.yes rfl rfl <| qq (q_move rfl) rfl <| WQ.yes rfl rfl <| qq (q_nilCheck rfl) rfl <| WQ.yes rfl rfl <| qq (q_fieldAddr Fld_100_1 rfl) rfl <| WQ.yes rfl rfl <| qq (q_load1 T1_3 rfl (fun w1 hw => ((rg_cells h1).of_eq 1 1 rfl rfl : rg _ _ _ [iV x1.2.at_]).rangeAt hw.fro)) rfl <| WQ.yes rfl rfl <| qq (q_move rfl) rfl <| WQ.yes rfl rfl <| qq (q_nilCheck rfl) rfl <| WQ.yes rfl rfl <| qq (q_fieldAddr Fld_100_0 rfl) rfl <| WQ.yes rfl rfl <| qq (q_load1 T1_44 rfl (fun w1 hw => ((rg_cells h1).of_eq 0 1 rfl rfl : rg _ _ _ [pv0_0]).rangeAt hw.fro)) rfl <| WQ.yes rfl rfl ?_
   refine qq (q_lenR Sl_44 rfl rfl ph0_0) rfl <| aqq 2 [] rfl ?_
   cases hb_1
   exact kq K
 refine WQ.nil ?_
 refine ch h rfl ?_ ?_ <;> intro h
 ·refine sr <| la rfl <| lq (q_nilCheck rfl) rfl <| lf Fld_100_2 rfl rfl rfl ?_
  refine WL.thw (js := [0]) (R := []) rfl h1 (fun Φ_2 ap2 fr2 => ?_)
  refine so1 0 Sz_4 rfl rfl ?_
  refine en <| sr <| lq (q_build (vs := []) (C := #[iV 0, .string (⟨#[]⟩ : ByteArray), iV 0, iV 0, .string (⟨#[]⟩ : ByteArray)]) Pl_60 Zr_60 rfl (fill_nil)) rfl <| soN 1 Sz_60 rfl ⟨rfl, rfl, rfl, rfl, rfl, trivial⟩ rfl ?_
  refine en ?_
  refine WT.frz (js := [0]) (R := [(b_1, .cells #[iV 0, .string (⟨#[]⟩ : ByteArray), iV 0, iV 0, .string (⟨#[]⟩ : ByteArray)] 60 (0, 0))]) rfl (fun Φ_3 fr3 k1 => ?_)
  exact rtg [0] hF (resOk.one (rv_cell Tn_60 rfl (fun w1 hw => hw.rgO (i := 0) rfl 0 5 [iV 0, .string (⟨#[]⟩ : ByteArray), iV 0, iV 0, .string (⟨#[]⟩ : ByteArray)] rfl) rfl)) rfl (by cases h; exact fun w1 hw => ⟨rfl, rfl, rfl, k1⟩)
 refine att 3 [] rfl <| WT.draw mixed (by kernel_rfl) (fun _ h => h.drew) <| qq (q_move rfl) rfl <| qq (q_nilCheck rfl) rfl <| qq (q_fieldAddr Fld_100_0 rfl) rfl <| qq (q_load1 T1_44 rfl (fun w1 hw => ((rg_cells h1).of_eq 0 1 rfl rfl : rg _ _ _ [pv0_0]).rangeAt hw.fro)) rfl <| qq (q_move rfl) rfl <| qq (q_nilCheck rfl) rfl <| qq (q_fieldAddr Fld_100_1 rfl) rfl <| qq (q_load1 T1_3 rfl (fun w1 hw => ((rg_cells h1).of_eq 1 1 rfl rfl : rg _ _ _ [iV x1.2.at_]).rangeAt hw.fro)) rfl ?_
 obtain ⟨x2, hx2, h⟩ := bs h
 obtain ⟨cs1, F2, -, g1, hb1, hs1, r1⟩ := ph0_0.el (idx_some hx2).2.2
 obtain ⟨rfl, -⟩ := r1
 refine qq (q_indexAddr Sl_44 rfl rfl ph0_0 hx2) rfl <| qq (q_fieldAddr Fld_77_0 rfl) rfl <| qq (q_load1 T1_3 rfl (fun w1 hw => (g1.of_eq 0 1 rfl rfl : rg _ _ _ [iV x2.K]).rangeAt hw.in0)) rfl <| aqt 7 [] rfl ?_
 refine ch h rfl ?_ ?_ <;> intro h
 ·refine sr <| la rfl <| kcb [0] h rfl rfl rfl rfl (fun b ap z q => m_s_l10Next_ok N b (⟨p0.l, x1.2.at_, x1.2.bad⟩ : Tl10Reader) 3 (ph0_0.y z) h1 q) ?_
  rintro x3 h v2 Φ_4 F3 ⟨ap3, fr4, rfl, rfl, e2, h2⟩
  refine lq (q_field1 Fd1_77_2 rfl rfl) rfl <| qc h (m_s_l6Var_ok N · x3.1.S ·) rfl rfl rfl fun x4 h => soN 0 Sz_60 rfl ⟨rfl, rfl, rfl, rfl, rfl, trivial⟩ rfl ?_
  refine en ?_
  exact rtg [0] hF (resOk.one (rv_cell Tn_60 rfl (fun w1 hw => hw.rgO (i := 0) rfl 0 5 [iV x4.K, .string x4.S, iV x4.V.K, iV x4.V.N, .string x4.V.S] rfl) rfl)) rfl (by cases h; exact fun w1 hw => ⟨rfl, rfl, rfl, h2⟩)
 refine att 5 [] rfl ?_
 refine ch h rfl ?_ ?_ <;> intro h
 ·refine sr <| la rfl <| kcb [0] h rfl rfl rfl rfl (fun b ap z q => m_s_l10Next_ok N b (⟨p0.l, x1.2.at_, x1.2.bad⟩ : Tl10Reader) 4 (ph0_0.y z) h1 q) ?_
  rintro x5 h v3 Φ_5 F4 ⟨ap4, fr5, rfl, rfl, e3, h3⟩
  refine lq (q_field1 Fd1_77_2 rfl rfl) rfl <| lq (q_build (vs := [(0, iV 2), (2, .string x5.1.S)]) (C := #[iV 2, iV 0, .string x5.1.S]) Pl_58 Zr_58 rfl (fill_cons (C' := [iV 2, iV 0, .string ⟨#[]⟩]) rfl rfl rfl rfl rfl (fill_cons (C' := [iV 2, iV 0, .string x5.1.S]) rfl rfl rfl rfl rfl (fill_nil)))) rfl <| qc h (m_s_l6Val_ok N · (⟨2, 0, x5.1.S⟩ : TVal) ·) rfl rfl rfl fun x6 h => soN 0 Sz_60 rfl ⟨rfl, rfl, rfl, rfl, rfl, trivial⟩ rfl ?_
  refine en ?_
  exact rtg [0] hF (resOk.one (rv_cell Tn_60 rfl (fun w1 hw => hw.rgO (i := 0) rfl 0 5 [iV x6.K, .string x6.S, iV x6.V.K, iV x6.V.N, .string x6.V.S] rfl) rfl)) rfl (by cases h; exact fun w1 hw => ⟨rfl, rfl, rfl, h3⟩)
 refine atr 5 [] rfl <| kcb [0] h rfl rfl rfl rfl (fun b ap z q => m_s_l10Num_ok N b (⟨p0.l, x1.2.at_, x1.2.bad⟩ : Tl10Reader) (ph0_0.y z) h1 q) ?_
 rintro x7 h v4 Φ_6 F5 ⟨ap5, fr6, rfl, rfl, e4, h4⟩
 refine lq (q_build (vs := [(0, iV 1), (1, iV x7.1)]) (C := #[iV 1, iV x7.1, .string (⟨#[]⟩ : ByteArray)]) Pl_58 Zr_58 rfl (fill_cons (C' := [iV 1, iV 0, .string ⟨#[]⟩]) rfl rfl rfl rfl rfl (fill_cons (C' := [iV 1, iV x7.1, .string ⟨#[]⟩]) rfl rfl rfl rfl rfl (fill_nil)))) rfl <| qc h (m_s_l6Val_ok N · (⟨1, x7.1, (⟨#[]⟩ : ByteArray)⟩ : TVal) ·) rfl rfl rfl fun x8 h => soN 0 Sz_60 rfl ⟨rfl, rfl, rfl, rfl, rfl, trivial⟩ rfl ?_
 refine en ?_
 exact rtg [0] hF (resOk.one (rv_cell Tn_60 rfl (fun w1 hw => hw.rgO (i := 0) rfl 0 5 [iV x8.K, .string x8.S, iV x8.V.K, iV x8.V.N, .string x8.V.S] rfl) rfl)) rfl (by cases h; exact fun w1 hw => ⟨rfl, rfl, rfl, h4⟩)
theorem m_s_l10Pat_ok (w0 : Base Ψ Φ [[pb0]].flatten) (p0 : Tl10Reader) (ph0_0 : RSl RTToken 3 Ψ pG0_0 pv0_0 p0.l) (pp0 : Φ pb0 = some (.cells #[pv0_0, iV p0.at_, .bool p0.bad] 100 (0, 0))) {r : TPat × Tl10Reader} (h : m_s_l10Pat N p0 = some r) :
  Calls prog 126 [pQ pb0].toArray w0.w (PostG Φ w0.w [[pb0]].flatten (fun Φ' Fs v => ∃ (sr_0_0 : Value), v = .agg [.string r.1.Kind, sr_0_0, .bool r.1.Not].toArray ∧ Fs = [ob sr_0_0, [pb0]] ∧ OSl RTArg 60 5 Φ' [] sr_0_0 r.1.Args ∧ r.2.l = p0.l ∧ Φ' pb0 = some (.cells #[pv0_0, iV r.2.at_, .bool r.2.bad] 100 (0, 0)))) := by
 refine eL func126 rfl ntmps126 rfl (L := [[pb0]]) w0 (fun hF => ?_)
 unfold m_s_l10Pat at h
 refine sr <| lnz Zr_35 rfl fun b_1 => arr 4 [] rfl <| kcb [0] h rfl rfl rfl rfl (fun b ap z q => m_s_l10Is_ok N b p0 5 (⟨#[33]⟩ : ByteArray) (ph0_0.y z) pp0 q) ?_
 rintro x1 h v1 Φ_1 F1 ⟨ap1, fr1, rfl, rfl, e1, h1⟩
 refine lq (q_build (vs := [(2, .bool x1.1)]) (C := #[.string (⟨#[]⟩ : ByteArray), .slice none 0 0, .bool x1.1]) Pl_35 Zr_35 rfl (fill_cons (C' := [.string ⟨#[]⟩, .slice none 0 0, .bool x1.1]) rfl rfl rfl rfl rfl (fill_nil))) rfl <| lnz Zr_35 rfl fun b_2 => soN 0 Sz_35 rfl ⟨rfl, rfl, rfl, trivial⟩ rfl ?_
 refine arr 4 [] rfl <| kcb [0] h rfl rfl rfl rfl (fun b ap z q => m_s_l10Next_ok N b (⟨p0.l, x1.2.at_, x1.2.bad⟩ : Tl10Reader) 2 (ph0_0.y z) h1 q) ?_
 rintro x2 h v2 Φ_2 F2 ⟨ap2, fr2, rfl, rfl, e2, h2⟩
 refine lq (q_field1 Fd1_77_2 rfl rfl) rfl <| lf Fld_35_0 rfl rfl rfl <| so1 0 Sz_9 rfl rfl ?_
 refine arr 4 [] rfl <| kcb [0] h rfl rfl rfl rfl (fun b ap z q => m_s_l10Mark_ok N b (⟨p0.l, x2.2.at_, x2.2.bad⟩ : Tl10Reader) (⟨#[40]⟩ : ByteArray) (ph0_0.y z) h2 q) ?_
 rintro x3 h v3 Φ_3 F3 ⟨ap3, fr3, rfl, rfl, e3, h3⟩
 refine arr 5 [] rfl <| kcb [0] h rfl rfl rfl rfl (fun b ap z q => m_s_l10Is_ok N b (⟨p0.l, x3.at_, x3.bad⟩ : Tl10Reader) 5 (⟨#[41]⟩ : ByteArray) (ph0_0.y z) h3 q) ?_
 rintro x4 h v4 Φ_4 F4 ⟨ap4, fr4, rfl, rfl, e4, h4⟩
 refine en ?_
 refine ch h rfl ?_ ?_ <;> intro h
 ·refine atr 3 [3] rfl <| soN 1 Sz_35 rfl ⟨rfl, rfl, rfl, trivial⟩ rfl ?_
  refine en ?_
  refine WT.ret hF (resOk.one (rv_cell Tn_35 rfl (fun w1 hw => hw.rgO (i := 1) rfl 0 3 [.string x2.1.S, .slice none 0 0, .bool x1.1] rfl) rfl)) (fun w1 hw => ?_)
  cases h
  replace hw := hw.addNil
  refine postG_of_St (js := [0, 0]) hw rfl ⟨.slice none 0 0, rfl, rfl, OSl.nil _ _ _ _, rfl, h4⟩
 refine att 7 [] rfl <| wtS ?_
 have k1 := OSl.nil RTArg 60 5 Φ_4
 refine lin (σ := Hp × (List TArg) × Value × Bool × Int × Bool) (fun s => [(0, pQ pb0), (2, pQ b_1), (3, pQ b_2), (4, .bool s.2.2.2.1)]) (fun s => St w0 s.1 [(b_2, .cells #[.string x2.1.S, s.2.2.1, .bool x1.1] 35 (0, 0)), (b_1, .cells #[.string (⟨#[]⟩ : ByteArray), .slice none 0 0, .bool false] 35 (0, 0))] [ob s.2.2.1, [pb0]]) (fun m s => m_s_l10Pat_l1 N p0 x1 x2 m s.2.1 s.2.2.2.1 s.2.2.2.2.1 s.2.2.2.2.2 = some r ∧ (OSl RTArg 60 5 s.1 [] s.2.2.1 s.2.1) ∧ (s.1 pb0 = some (.cells #[pv0_0, iV s.2.2.2.2.1, .bool s.2.2.2.2.2] 100 (0, 0)))) (Φ_4, ([] : List TArg), (.slice none 0 0), true, x4.2.at_, x4.2.bad) N ⟨h, k1, h4⟩ (sx [0, 0] [0, 0]) (fun n1 ih1 s hm => ?_)
 obtain ⟨Φ_5, s1, u1, s2, s3, s4⟩ := s
 obtain ⟨h, k2, k3⟩ := hm
 dsimp only at h k2 k3 ⊢
 unfold m_s_l10Pat_l1 at h
 refine atr 5 [] rfl ?_
 obtain ⟨b5, hb_1, h⟩ := bs h
 refine WL.cutN 6 [(24, .bool b5), (0, pQ pb0), (2, pQ b_1), (3, pQ b_2)] ?_ (fun K => ?_)
 rotate_left
 ·refine sp 18 hb_1 rfl (fun hb_1 => ?_) fun hb_1 => ?_
  ·refine ly rfl rfl <| la rfl <| ly rfl rfl <| lq (q_nilCheck rfl) rfl <| ly rfl rfl <| lf Fld_100_2 rfl rfl rfl <| ly rfl rfl <| lgx 2 0 (rg_cells k3) rfl <| arr 2 [] rfl ?_
   cases hb_1
   exact ku K
  ·refine arr 6 [] rfl ?_
   cases hb_1
   exact ku K
 refine en ?_
 refine ch h rfl ?_ ?_ <;> intro h
 ·refine att 3 [] rfl <| wm [0, 1] [7] rfl <| amm 3 [0, 1, 1, 0, 2] [0, 1] rfl rfl ?_
  obtain ⟨x5, hx5, h⟩ := bs h
  refine WM.one 3 (by kernel_rfl) (mc rfl (fun _ v Φx D w1 hq hw => Kn.of Kf.nil (ai2 0 1 rfl rfl) hw) (k_call (js := [1]) (R := [ob u1]) Fun_178 rfl rfl (fun w1 hw ap hl => m_s_l10Arg_ok N (bx hw ap hl) (⟨p0.l, s3, s4⟩ : Tl10Reader) (ph0_0.y (hw.uo ap)) k3  hx5)) rfl ?_)
  rintro v5 Φ_6 F5 ⟨ap5, fr5, rfl, rfl, e5, h5⟩
  replace k2 := k2.fr fr5 (ap5.q 0 rfl) dN
  have rc1 : RC RTArg 5 Φ_6 ([[]] : List (List Nat)) [iV x5.1.K, .string x5.1.S, iV x5.1.V.K, iV x5.1.V.N, .string x5.1.V.S] ([x5.1] : List TArg) := RC.cons (c := [iV x5.1.K, .string x5.1.S, iV x5.1.V.K, iV x5.1.V.N, .string x5.1.V.S]) (cells := []) ⟨rfl, rfl⟩ rfl (RC.nil _ _ _)
  refine WM.one 4 (by kernel_rfl) (me rfl (fun _ v Φx D w1 hq hw => Kn.of Kf.nil (ai2 0 1 rfl rfl) hw) (e_lit (vs := [(0, .agg [iV x5.1.K, .string x5.1.S, iV x5.1.V.K, iV x5.1.V.N, .string x5.1.V.S].toArray)]) (C := #[iV x5.1.K, .string x5.1.S, iV x5.1.V.K, iV x5.1.V.N, .string x5.1.V.S]) RTArg.lasts Sl_33 Zr_60 rfl rfl rfl rfl (fill_made MC_60_1 (fill_cons (C' := [iV x5.1.K, .string x5.1.S, iV x5.1.V.K, iV x5.1.V.N, .string x5.1.V.S]) rfl rfl rfl rfl rfl (fill_nil))) rfl rc1 rfl (by simpa using Kw.nil)) rfl ?_)
  rintro v6 Φ_7 D1 ⟨fr6, h6⟩
  replace h6 : OSl RTArg 60 5 Φ_7 [] v6 ([x5.1] : List TArg) := by simpa using h6
  replace k2 := k2.f0 fr6
  replace h5 := fr6 _ _ (by simp) h5
  obtain ⟨x6, hx6, h⟩ := bs h
  refine WM.one 5 (by kernel_rfl) (me rfl (fun _ v Φx D w1 hq hw => Kn.of Kf.nil (ai2 0 1 rfl rfl) hw) (e_appF RTArg.lasts RTArg.one RTArg.flat Sl_33 Ei_60 rfl rfl rfl rfl rfl (js := [2]) (Rr := [ob v6, [pb0]]) rfl k2 h6.rsl hx6) rfl ?_)
  rintro v7 Φ_8 D2 ⟨⟨ap6, fr7⟩, h7⟩
  replace h5 := fr7 _ _ ((ap6.q 1 rfl) _ (by simp)) h5
  refine amm 1 [6, 1] [0, 1] rfl rfl ?_
  refine on1 7 (ms1 0 rfl nk Sz_33 rfl h7.one ?_)
  refine WM.nil (by kernel_rfl) <| atr 2 [] rfl <| kcb [2] h rfl rfl rfl rfl (fun b ap z q => m_s_l10Is_ok N b (⟨p0.l, x5.2.at_, x5.2.bad⟩ : Tl10Reader) 5 (⟨#[44]⟩ : ByteArray) (ph0_0.y z) h5 q) ?_
  rintro x7 h v8 Φ_9 F6 ⟨ap7, fr8, rfl, rfl, e6, h8⟩
  replace h7 := h7.fr fr8 (ap7.q 0 rfl) dN
  refine art 3 [] rfl ?_
  exact lb [1, 0] [0, 0] (ih1 (_, _, _, _, _, _) ⟨h, h7, h8⟩)
 refine atr 4 [] rfl <| kcb [1] h rfl rfl rfl rfl (fun b ap z q => m_s_l10Mark_ok N b (⟨p0.l, s3, s4⟩ : Tl10Reader) (⟨#[41]⟩ : ByteArray) (ph0_0.y z) k3 q) ?_
 rintro x8 h v9 Φ_10 F7 ⟨ap8, fr9, rfl, rfl, e7, h9⟩
 replace k2 := k2.fr fr9 (ap8.q 0 rfl) dN
 refine arr 4 [3] rfl <| soN 1 Sz_35 rfl ⟨rfl, k2.one, rfl, trivial⟩ rfl ?_
 refine en ?_
 exact rtg [1, 0] hF (resOk.one (rv_cell Tn_35 rfl (fun w1 hw => hw.rgO (i := 1) rfl 0 3 [.string x2.1.S, u1, .bool x1.1] rfl) rfl)) rfl (by cases h; exact fun w1 hw => ⟨u1, rfl, rfl, k2, rfl, h9⟩)
theorem m_s_l10Cond_ok (w0 : Base Ψ Φ [[pb0]].flatten) (p0 : Tl10Reader) (ph0_0 : RSl RTToken 3 Ψ pG0_0 pv0_0 p0.l) (pp0 : Φ pb0 = some (.cells #[pv0_0, iV p0.at_, .bool p0.bad] 100 (0, 0))) {r : TCond × Tl10Reader} (h : m_s_l10Cond N p0 = some r) :
  Calls prog 127 [pQ pb0].toArray w0.w (PostG Φ w0.w [[pb0]].flatten (fun Φ' Fs v => v = .agg [iV r.1.Op, iV r.1.L.K, .string r.1.L.S, iV r.1.L.V.K, iV r.1.L.V.N, .string r.1.L.V.S, iV r.1.R.K, .string r.1.R.S, iV r.1.R.V.K, iV r.1.R.V.N, .string r.1.R.V.S].toArray ∧ Fs = [[pb0]] ∧ r.2.l = p0.l ∧ Φ' pb0 = some (.cells #[pv0_0, iV r.2.at_, .bool r.2.bad] 100 (0, 0)))) := by
 refine eL func127 rfl ntmps127 rfl (L := [[pb0]]) w0 (fun hF => ?_)
 unfold m_s_l10Cond at h
 refine sr <| lnz Zr_62 rfl fun b_1 => arr 4 [] rfl <| kcb [0] h rfl rfl rfl rfl (fun b ap z q => m_s_l10Arg_ok N b p0 (ph0_0.y z) pp0 q) ?_
 rintro x1 h v1 Φ_1 F1 ⟨ap1, fr1, rfl, rfl, e1, h1⟩
 refine lq (q_build (vs := [(1, .agg [iV x1.1.K, .string x1.1.S, iV x1.1.V.K, iV x1.1.V.N, .string x1.1.V.S].toArray)]) (C := #[iV 0, iV x1.1.K, .string x1.1.S, iV x1.1.V.K, iV x1.1.V.N, .string x1.1.V.S, iV 0, .string (⟨#[]⟩ : ByteArray), iV 0, iV 0, .string (⟨#[]⟩ : ByteArray)]) Pl_62 Zr_62 rfl (fill_cons (C' := [iV 0, iV x1.1.K, .string x1.1.S, iV x1.1.V.K, iV x1.1.V.N, .string x1.1.V.S, iV 0, .string ⟨#[]⟩, iV 0, iV 0, .string ⟨#[]⟩]) rfl rfl rfl rfl rfl (fill_nil))) rfl ?_
 refine lnz Zr_62 rfl fun b_2 => soN 0 Sz_62 rfl ⟨rfl, rfl, rfl, rfl, rfl, rfl, rfl, rfl, rfl, rfl, rfl, trivial⟩ rfl ?_
 refine arr 6 [] rfl <| kcb [0] h rfl rfl rfl rfl (fun b ap z q => m_s_l10Is_ok N b (⟨p0.l, x1.2.at_, x1.2.bad⟩ : Tl10Reader) 5 (⟨#[61]⟩ : ByteArray) (ph0_0.y z) h1 q) ?_
 rintro x2 h v2 Φ_2 F2 ⟨ap2, fr2, rfl, rfl, e2, h2⟩
 refine la rfl <| en ?_
 refine cut (σ := Hp × Int × Bool × Int) (fun s => [(0, pQ pb0), (2, pQ b_1), (3, pQ b_2)]) (fun s => St w0 s.1 [(b_2, .cells #[iV s.2.2.2, iV x1.1.K, .string x1.1.S, iV x1.1.V.K, iV x1.1.V.N, .string x1.1.V.S, iV 0, .string (⟨#[]⟩ : ByteArray), iV 0, iV 0, .string (⟨#[]⟩ : ByteArray)] 62 (0, 0)), (b_1, .cells #[iV 0, iV 0, .string (⟨#[]⟩ : ByteArray), iV 0, iV 0, .string (⟨#[]⟩ : ByteArray), iV 0, .string (⟨#[]⟩ : ByteArray), iV 0, iV 0, .string (⟨#[]⟩ : ByteArray)] 62 (0, 0))] [[pb0]]) (fun s => m_s_l10Cond_j1 N p0 x1 s.2.1 s.2.2.1 s.2.2.2 = some r ∧ (s.1 pb0 = some (.cells #[pv0_0, iV s.2.1, .bool s.2.2.1] 100 (0, 0)))) (fun s hm => ?_) (fun K => ?_)
 ·clear h
  obtain ⟨Φ_3, s1, s2, s3⟩ := s
  obtain ⟨h, k1⟩ := hm
  dsimp only at h k1 ⊢
  unfold m_s_l10Cond_j1 at h
  refine atr 4 [] rfl <| kcb [0] h rfl rfl rfl rfl (fun b ap z q => m_s_l10Arg_ok N b (⟨p0.l, s1, s2⟩ : Tl10Reader) (ph0_0.y z) k1 q) ?_
  rintro x3 h v3 Φ_4 F3 ⟨ap3, fr3, rfl, rfl, e3, h3⟩
  refine lf Fld_62_2 rfl rfl rfl <| soN 0 Sz_60 rfl ⟨rfl, rfl, rfl, rfl, rfl, trivial⟩ rfl ?_
  refine arr 4 [11] rfl <| soN 1 Sz_62 rfl ⟨rfl, rfl, rfl, rfl, rfl, rfl, rfl, rfl, rfl, rfl, rfl, trivial⟩ rfl ?_
  refine en ?_
  exact rtg [0] hF (resOk.one (rv_cell Tn_62 rfl (fun w1 hw => hw.rgO (i := 1) rfl 0 11 [iV s3, iV x1.1.K, .string x1.1.S, iV x1.1.V.K, iV x1.1.V.N, .string x1.1.V.S, iV x3.1.K, .string x3.1.S, iV x3.1.V.K, iV x3.1.V.N, .string x3.1.V.S] rfl) rfl)) rfl (by cases h; exact fun w1 hw => ⟨rfl, rfl, rfl, h3⟩)
 refine ch h rfl ?_ ?_ <;> intro h
 ·refine atr 2 [0] rfl <| so1 0 Sz_3 rfl rfl ?_
  refine en ?_
  exact wo [0] [0, 0] (K (_, _, _, _) ⟨h, h2⟩)
 refine sr <| la rfl <| kcb [0] h rfl rfl rfl rfl (fun b ap z q => m_s_l10Is_ok N b (⟨p0.l, x2.2.at_, x2.2.bad⟩ : Tl10Reader) 5 (⟨#[35]⟩ : ByteArray) (ph0_0.y z) h2 q) ?_
 rintro x4 h v4 Φ_5 F4 ⟨ap4, fr4, rfl, rfl, e4, h4⟩
 refine la rfl <| en ?_
 refine ch h rfl ?_ ?_ <;> intro h
 ·refine atr 2 [0] rfl <| so1 0 Sz_3 rfl rfl ?_
  refine en ?_
  exact wo [0] [0, 0] (K (_, _, _, _) ⟨h, h4⟩)
 refine sr <| la rfl <| kcb [0] h rfl rfl rfl rfl (fun b ap z q => m_s_l10Mark_ok N b (⟨p0.l, x4.2.at_, x4.2.bad⟩ : Tl10Reader) (⟨#[60]⟩ : ByteArray) (ph0_0.y z) h4 q) ?_
 rintro x5 h v5 Φ_6 F5 ⟨ap5, fr5, rfl, rfl, e5, h5⟩
 refine arr 3 [0] rfl <| so1 0 Sz_3 rfl rfl ?_
 refine en ?_
 exact wo [0] [0, 0] (K (_, _, _, _) ⟨h, h5⟩)
theorem m_s_l10Expr_ok (w0 : Base Ψ Φ [[pb0]].flatten) (p0 : Tl10Reader) (ph0_0 : RSl RTToken 3 Ψ pG0_0 pv0_0 p0.l) (pp0 : Φ pb0 = some (.cells #[pv0_0, iV p0.at_, .bool p0.bad] 100 (0, 0))) {r : TExpr × Tl10Reader} (h : m_s_l10Expr N p0 = some r) :
  Calls prog 207 [pQ pb0].toArray w0.w (PostG Φ w0.w [[pb0]].flatten (fun Φ' Fs v => v = .agg [.string r.1.Op, iV r.1.L.K, .string r.1.L.S, iV r.1.L.V.K, iV r.1.L.V.N, .string r.1.L.V.S, iV r.1.R.K, .string r.1.R.S, iV r.1.R.V.K, iV r.1.R.V.N, .string r.1.R.V.S].toArray ∧ Fs = [[pb0]] ∧ r.2.l = p0.l ∧ Φ' pb0 = some (.cells #[pv0_0, iV r.2.at_, .bool r.2.bad] 100 (0, 0)))) := by
 refine eL func207 rfl ntmps207 rfl (L := [[pb0]]) w0 (fun hF => ?_)
 unfold m_s_l10Expr at h
 refine sr <| lnz Zr_116 rfl fun b_1 => arr 4 [] rfl <| kcb [0] h rfl rfl rfl rfl (fun b ap z q => m_s_l10Arg_ok N b p0 (ph0_0.y z) pp0 q) ?_
 rintro x1 h v1 Φ_1 F1 ⟨ap1, fr1, rfl, rfl, e1, h1⟩
 refine lq (q_build (vs := [(1, .agg [iV x1.1.K, .string x1.1.S, iV x1.1.V.K, iV x1.1.V.N, .string x1.1.V.S].toArray)]) (C := #[.string (⟨#[]⟩ : ByteArray), iV x1.1.K, .string x1.1.S, iV x1.1.V.K, iV x1.1.V.N, .string x1.1.V.S, iV 0, .string (⟨#[]⟩ : ByteArray), iV 0, iV 0, .string (⟨#[]⟩ : ByteArray)]) Pl_116 Zr_116 rfl (fill_cons (C' := [.string ⟨#[]⟩, iV x1.1.K, .string x1.1.S, iV x1.1.V.K, iV x1.1.V.N, .string x1.1.V.S, iV 0, .string ⟨#[]⟩, iV 0, iV 0, .string ⟨#[]⟩]) rfl rfl rfl rfl rfl (fill_nil))) rfl ?_
 refine lnz Zr_116 rfl fun b_2 => soN 0 Sz_116 rfl ⟨rfl, rfl, rfl, rfl, rfl, rfl, rfl, rfl, rfl, rfl, rfl, trivial⟩ rfl ?_
 refine arr 5 [] rfl <| kcb [0] h rfl rfl rfl rfl (fun b ap z q => m_s_l10Is_ok N b (⟨p0.l, x1.2.at_, x1.2.bad⟩ : Tl10Reader) 5 (⟨#[43]⟩ : ByteArray) (ph0_0.y z) h1 q) ?_
 rintro x2 h v2 Φ_2 F2 ⟨ap2, fr2, rfl, rfl, e2, h2⟩
 refine en ?_
 refine cut (σ := Hp × Int × Bool × ByteArray) (fun s => [(0, pQ pb0), (2, pQ b_1), (3, pQ b_2)]) (fun s => St w0 s.1 [(b_2, .cells #[.string s.2.2.2, iV x1.1.K, .string x1.1.S, iV x1.1.V.K, iV x1.1.V.N, .string x1.1.V.S, iV 0, .string (⟨#[]⟩ : ByteArray), iV 0, iV 0, .string (⟨#[]⟩ : ByteArray)] 116 (0, 0)), (b_1, .cells #[.string (⟨#[]⟩ : ByteArray), iV 0, .string (⟨#[]⟩ : ByteArray), iV 0, iV 0, .string (⟨#[]⟩ : ByteArray), iV 0, .string (⟨#[]⟩ : ByteArray), iV 0, iV 0, .string (⟨#[]⟩ : ByteArray)] 116 (0, 0))] [[pb0]]) (fun s => m_s_l10Expr_j1 N p0 x1 s.2.1 s.2.2.1 s.2.2.2 = some r ∧ (s.1 pb0 = some (.cells #[pv0_0, iV s.2.1, .bool s.2.2.1] 100 (0, 0)))) (fun s hm => ?_) (fun K => ?_)
 ·clear h
  obtain ⟨Φ_3, s1, s2, s3⟩ := s
  obtain ⟨h, k1⟩ := hm
  dsimp only at h k1 ⊢
  unfold m_s_l10Expr_j1 at h
  refine att 7 [0, 0] rfl ?_
  refine cut (σ := Hp × Int × Bool × Int × ByteArray × Int × Int × ByteArray) (fun s => [(2, pQ b_1), (3, pQ b_2)]) (fun s => St w0 s.1 [(b_2, .cells #[.string s3, iV x1.1.K, .string x1.1.S, iV x1.1.V.K, iV x1.1.V.N, .string x1.1.V.S, iV s.2.2.2.1, .string s.2.2.2.2.1, iV s.2.2.2.2.2.1, iV s.2.2.2.2.2.2.1, .string s.2.2.2.2.2.2.2] 116 (0, 0)), (b_1, .cells #[.string (⟨#[]⟩ : ByteArray), iV 0, .string (⟨#[]⟩ : ByteArray), iV 0, iV 0, .string (⟨#[]⟩ : ByteArray), iV 0, .string (⟨#[]⟩ : ByteArray), iV 0, iV 0, .string (⟨#[]⟩ : ByteArray)] 116 (0, 0))] [[pb0]]) (fun s => m_s_l10Expr_j2 N p0 x1 s3 s.2.1 s.2.2.1 s.2.2.2.1 s.2.2.2.2.1 s.2.2.2.2.2.1 s.2.2.2.2.2.2.1 s.2.2.2.2.2.2.2 = some r ∧ (s.1 pb0 = some (.cells #[pv0_0, iV s.2.1, .bool s.2.2.1] 100 (0, 0)))) (fun s hm => ?_) (fun K => ?_)
  ·clear h
   obtain ⟨Φ_4, s4, s5, s6, s7, s8, s9, s10⟩ := s
   obtain ⟨h, k2⟩ := hm
   dsimp only at h k2 ⊢
   unfold m_s_l10Expr_j2 at h
   refine atr 3 [11] rfl <| soN 1 Sz_116 rfl ⟨rfl, rfl, rfl, rfl, rfl, rfl, rfl, rfl, rfl, rfl, rfl, trivial⟩ rfl ?_
   refine en ?_
   exact rtg [0] hF (resOk.one (rv_cell Tn_116 rfl (fun w1 hw => hw.rgO (i := 1) rfl 0 11 [.string s3, iV x1.1.K, .string x1.1.S, iV x1.1.V.K, iV x1.1.V.N, .string x1.1.V.S, iV s6, .string s7, iV s8, iV s9, .string s10] rfl) rfl)) rfl (by cases h; exact fun w1 hw => ⟨rfl, rfl, rfl, k2⟩)
  refine ch h rfl ?_ ?_ <;> intro h
  ·refine atr 2 [] rfl <| kcb [0] h rfl rfl rfl rfl (fun b ap z q => m_s_l10Arg_ok N b (⟨p0.l, s1, s2⟩ : Tl10Reader) (ph0_0.y z) k1 q) ?_
   rintro x3 h v3 Φ_5 F3 ⟨ap3, fr3, rfl, rfl, e3, h3⟩
   refine lf Fld_116_2 rfl rfl rfl <| soN 0 Sz_60 rfl ⟨rfl, rfl, rfl, rfl, rfl, trivial⟩ rfl ?_
   refine en ?_
   exact wo [0] [0, 0] (K (_, _, _, _, _, _, _, _) ⟨h, h3⟩)
  refine WT.skip ?_
  exact wo [0] [0, 0] (K (_, _, _, _, _, _, _, _) ⟨h, k1⟩)
 refine ch h rfl ?_ ?_ <;> intro h
 ·refine atr 2 [0] rfl <| so1 0 Sz_9 rfl rfl ?_
  refine en ?_
  exact wo [0] [0, 0] (K (_, _, _, _) ⟨h, h2⟩)
 refine sr <| la rfl <| kcb [0] h rfl rfl rfl rfl (fun b ap z q => m_s_l10Is_ok N b (⟨p0.l, x2.2.at_, x2.2.bad⟩ : Tl10Reader) 5 (⟨#[45]⟩ : ByteArray) (ph0_0.y z) h2 q) ?_
 rintro x4 h v4 Φ_6 F4 ⟨ap4, fr4, rfl, rfl, e4, h4⟩
 refine en ?_
 refine ch h rfl ?_ ?_ <;> intro h
 ·refine atr 2 [0] rfl <| so1 0 Sz_9 rfl rfl ?_
  refine en ?_
  exact wo [0] [0, 0] (K (_, _, _, _) ⟨h, h4⟩)
 refine WT.skip ?_
 exact wo [0] [0, 0] (K (_, _, _, _) ⟨h, h4⟩)
theorem m_s_l10Args_ok (w0 : Base Ψ Φ [[pb0], [pb1], ob pv1_0].flatten) (p0 : Tl10Reader) (p1 : TAct) (ph0_0 : RSl RTToken 3 Ψ pG0_0 pv0_0 p0.l) (pp0 : Φ pb0 = some (.cells #[pv0_0, iV p0.at_, .bool p0.bad] 100 (0, 0))) (ph1_0 : OSl RTExpr 116 11 Φ [] pv1_0 p1.Args) (pp1 : Φ pb1 = some (.cells #[iV p1.Kind, .string p1.Name, pv1_0, iV p1.N, .string p1.Undo] 66 (0, 0))) {r : Tl10Reader × TAct} (h : m_s_l10Args N p0 p1 = some r) :
  Calls prog 179 [pQ pb0, pQ pb1].toArray w0.w (PostG Φ w0.w [[pb0], [pb1], ob pv1_0].flatten (fun Φ' Fs v => ∃ (so_1_0 : Value), v = .tuple #[] ∧ Fs = [[pb0], [pb1], ob so_1_0] ∧ r.1.l = p0.l ∧ Φ' pb0 = some (.cells #[pv0_0, iV r.1.at_, .bool r.1.bad] 100 (0, 0)) ∧ OSl RTExpr 116 11 Φ' [] so_1_0 r.2.Args ∧ Φ' pb1 = some (.cells #[iV r.2.Kind, .string r.2.Name, so_1_0, iV r.2.N, .string r.2.Undo] 66 (0, 0)))) := by
 refine eL func179 rfl ntmps179 rfl (L := [[pb0], [pb1], ob pv1_0]) w0 (fun hF => ?_)
 unfold m_s_l10Args at h
 refine atr 4 [] rfl <| kcb [0] h rfl rfl rfl rfl (fun b ap z q => m_s_l10Next_ok N b p0 2 (ph0_0.y z) pp0 q) ?_
 rintro x1 h v1 Φ_1 F1 ⟨ap1, fr1, rfl, rfl, e1, h1⟩
 replace ph1_0 := ph1_0.fr fr1 (ap1.q 1 rfl) dN
 replace pp1 := fr1 _ _ ((ap1.q 0 rfl) _ (by simp)) pp1
 refine lq (q_field1 Fd1_77_2 rfl rfl) rfl <| lq (q_nilCheck rfl) rfl <| lf Fld_66_1 rfl rfl rfl ?_
 refine WL.thw (js := [1]) (R := [[pb0], ob pv1_0]) rfl pp1 (fun Φ_2 ap2 fr2 => ?_)
 replace ph1_0 := ph1_0.fr fr2 (ap2.q 1 rfl) dN
 replace h1 := fr2 _ _ ((ap2.q 0 rfl) _ (by simp)) h1
 refine so1 0 Sz_9 rfl rfl ?_
 refine arr 4 [] rfl <| kcb [0] h rfl rfl rfl rfl (fun b ap z q => m_s_l10Mark_ok N b (⟨p0.l, x1.2.at_, x1.2.bad⟩ : Tl10Reader) (⟨#[40]⟩ : ByteArray) (ph0_0.y z) h1 q) ?_
 rintro x2 h v2 Φ_3 F2 ⟨ap3, fr3, rfl, rfl, e2, h2⟩
 replace ph1_0 := ph1_0.fr fr3 (ap3.q 0 rfl) dN
 refine arr 5 [] rfl <| kcb [0] h rfl rfl rfl rfl (fun b ap z q => m_s_l10Is_ok N b (⟨p0.l, x2.at_, x2.bad⟩ : Tl10Reader) 5 (⟨#[41]⟩ : ByteArray) (ph0_0.y z) h2 q) ?_
 rintro x3 h v3 Φ_4 F3 ⟨ap4, fr4, rfl, rfl, e3, h3⟩
 replace ph1_0 := ph1_0.fr fr4 (ap4.q 0 rfl) dN
 refine en ?_
 refine ch h rfl ?_ ?_ <;> intro h
 ·refine WT.frz (js := [0]) (R := []) rfl (fun Φ_5 fr5 k1 => ?_)
  replace ph1_0 := ph1_0.f0 fr5
  replace h3 := fr5 _ _ (by simp) h3
  exact rtg [1, 0, 0] hF resOk.none rfl (by cases h; exact fun w1 hw => ⟨pv1_0, rfl, rfl, rfl, h3, ph1_0, k1⟩)
 refine att 7 [] rfl ?_
 refine lin (σ := Hp × (List TExpr) × Value × Bool × Int × Bool) (fun s => [(0, pQ pb0), (1, pQ pb1), (4, .bool s.2.2.2.1)]) (fun s => St w0 s.1 [(pb1, .cells #[iV p1.Kind, .string x1.1.S, s.2.2.1, iV p1.N, .string p1.Undo] 66 (0, 0))] [[pb0], ob s.2.2.1]) (fun m s => m_s_l10Args_l1 N p0 p1 x1 m s.2.1 s.2.2.2.1 s.2.2.2.2.1 s.2.2.2.2.2 = some r ∧ (OSl RTExpr 116 11 s.1 [] s.2.2.1 s.2.1) ∧ (s.1 pb0 = some (.cells #[pv0_0, iV s.2.2.2.2.1, .bool s.2.2.2.2.2] 100 (0, 0)))) (Φ_4, p1.Args, pv1_0, true, x3.2.at_, x3.2.bad) N ⟨h, ph1_0, h3⟩ (sx [0, 0] [0]) (fun n1 ih1 s hm => ?_)
 obtain ⟨Φ_6, s1, u1, s2, s3, s4⟩ := s
 obtain ⟨h, k2, k3⟩ := hm
 dsimp only at h k2 k3 ⊢
 unfold m_s_l10Args_l1 at h
 refine atr 5 [] rfl ?_
 obtain ⟨b5, hb_1, h⟩ := bs h
 refine WL.cutN 6 [(22, .bool b5), (0, pQ pb0), (1, pQ pb1)] ?_ (fun K => ?_)
 rotate_left
 ·refine sp 16 hb_1 rfl (fun hb_1 => ?_) fun hb_1 => ?_
  ·refine ly rfl rfl <| la rfl <| ly rfl rfl <| lq (q_nilCheck rfl) rfl <| ly rfl rfl <| lf Fld_100_2 rfl rfl rfl <| ly rfl rfl <| lgx 2 0 (rg_cells k3) rfl <| arr 2 [] rfl ?_
   cases hb_1
   exact ku K
  ·refine arr 6 [] rfl ?_
   cases hb_1
   exact ku K
 refine en ?_
 refine ch h rfl ?_ ?_ <;> intro h
 ·refine att 3 [] rfl <| wm [0] [11] rfl <| amm 2 [0, 1] [0] rfl rfl <| mq 2 rfl (by kernel_rfl) (kN [0]) (q_nilCheck rfl) rfl <| amm 3 [3, 2, 4, 0, 5] [0] rfl rfl ?_
  obtain ⟨x4, hx4, h⟩ := bs h
  refine WM.one 6 (by kernel_rfl) (mc rfl (fun _ v Φx D w1 hq hw => Kn.of Kf.nil (am [0] rfl) hw) (k_call (js := [0]) (R := [ob u1]) Fun_207 rfl rfl (fun w1 hw ap hl => m_s_l10Expr_ok N (bx hw ap hl) (⟨p0.l, s3, s4⟩ : Tl10Reader) (ph0_0.y (hw.uo ap)) k3  hx4)) rfl ?_)
  rintro v4 Φ_7 F4 ⟨ap5, fr6, rfl, rfl, e4, h4⟩
  replace k2 := k2.fr fr6 (ap5.q 0 rfl) dN
  have rc1 : RC RTExpr 11 Φ_7 ([[]] : List (List Nat)) [.string x4.1.Op, iV x4.1.L.K, .string x4.1.L.S, iV x4.1.L.V.K, iV x4.1.L.V.N, .string x4.1.L.V.S, iV x4.1.R.K, .string x4.1.R.S, iV x4.1.R.V.K, iV x4.1.R.V.N, .string x4.1.R.V.S] ([x4.1] : List TExpr) := RC.cons (c := [.string x4.1.Op, iV x4.1.L.K, .string x4.1.L.S, iV x4.1.L.V.K, iV x4.1.L.V.N, .string x4.1.L.V.S, iV x4.1.R.K, .string x4.1.R.S, iV x4.1.R.V.K, iV x4.1.R.V.N, .string x4.1.R.V.S]) (cells := []) ⟨rfl, rfl⟩ rfl (RC.nil _ _ _)
  refine WM.one 7 (by kernel_rfl) (me rfl (fun _ v Φx D w1 hq hw => Kn.of Kf.nil (am [0] rfl) hw) (e_lit (vs := [(0, .agg [.string x4.1.Op, iV x4.1.L.K, .string x4.1.L.S, iV x4.1.L.V.K, iV x4.1.L.V.N, .string x4.1.L.V.S, iV x4.1.R.K, .string x4.1.R.S, iV x4.1.R.V.K, iV x4.1.R.V.N, .string x4.1.R.V.S].toArray)]) (C := #[.string x4.1.Op, iV x4.1.L.K, .string x4.1.L.S, iV x4.1.L.V.K, iV x4.1.L.V.N, .string x4.1.L.V.S, iV x4.1.R.K, .string x4.1.R.S, iV x4.1.R.V.K, iV x4.1.R.V.N, .string x4.1.R.V.S]) RTExpr.lasts Sl_64 Zr_116 rfl rfl rfl rfl (fill_made MC_116_1 (fill_cons (C' := [.string x4.1.Op, iV x4.1.L.K, .string x4.1.L.S, iV x4.1.L.V.K, iV x4.1.L.V.N, .string x4.1.L.V.S, iV x4.1.R.K, .string x4.1.R.S, iV x4.1.R.V.K, iV x4.1.R.V.N, .string x4.1.R.V.S]) rfl rfl rfl rfl rfl (fill_nil))) rfl rc1 rfl (by simpa using Kw.nil)) rfl ?_)
  rintro v5 Φ_8 D1 ⟨fr7, h5⟩
  replace h5 : OSl RTExpr 116 11 Φ_8 [] v5 ([x4.1] : List TExpr) := by simpa using h5
  replace k2 := k2.f0 fr7
  replace h4 := fr7 _ _ (by simp) h4
  obtain ⟨x5, hx5, h⟩ := bs h
  refine WM.one 8 (by kernel_rfl) (me rfl (fun _ v Φx D w1 hq hw => Kn.of Kf.nil (am [0] rfl) hw) (e_appF RTExpr.lasts RTExpr.one RTExpr.flat Sl_64 Ei_116 rfl rfl rfl rfl rfl (js := [2]) (Rr := [ob v5, [pb0]]) rfl k2 h5.rsl hx5) rfl ?_)
  rintro v6 Φ_9 D2 ⟨⟨ap6, fr8⟩, h6⟩
  replace h4 := fr8 _ _ ((ap6.q 1 rfl) _ (by simp)) h4
  refine mqT 9 [10, 11] rfl (by kernel_rfl) (kN [0]) (q_nilCheck rfl) rfl <| amm 1 [10, 2] [0] rfl rfl ?_
  refine on1 11 (ms1 0 rfl nk Sz_64 rfl h6.one ?_)
  refine WM.nil (by kernel_rfl) <| atr 2 [] rfl <| kcb [2] h rfl rfl rfl rfl (fun b ap z q => m_s_l10Is_ok N b (⟨p0.l, x4.2.at_, x4.2.bad⟩ : Tl10Reader) 5 (⟨#[44]⟩ : ByteArray) (ph0_0.y z) h4 q) ?_
  rintro x6 h v7 Φ_10 F5 ⟨ap7, fr9, rfl, rfl, e5, h7⟩
  replace h6 := h6.fr fr9 (ap7.q 0 rfl) dN
  refine art 3 [] rfl ?_
  exact lb [0, 0] [0] (ih1 (_, _, _, _, _, _) ⟨h, h6, h7⟩)
 refine atr 3 [] rfl <| kcb [0] h rfl rfl rfl rfl (fun b ap z q => m_s_l10Mark_ok N b (⟨p0.l, s3, s4⟩ : Tl10Reader) (⟨#[41]⟩ : ByteArray) (ph0_0.y z) k3 q) ?_
 rintro x7 h v8 Φ_11 F6 ⟨ap8, fr10, rfl, rfl, e6, h8⟩
 replace k2 := k2.fr fr10 (ap8.q 0 rfl) dN
 refine en ?_
 refine WT.frz (js := [0]) (R := []) rfl (fun Φ_12 fr11 k4 => ?_)
 replace k2 := k2.f0 fr11
 replace h8 := fr11 _ _ (by simp) h8
 refine WT.fin hF resOk.none (fun w1 hw => ?_)
 cases h
 refine postG_of_St (js := [1, 0, 0]) hw rfl ⟨u1, rfl, rfl, rfl, h8, k2, k4⟩
theorem m_s_l10Act_ok (w0 : Base Ψ Φ [[pb0]].flatten) (p0 : Tl10Reader) (ph0_0 : RSl RTToken 3 Ψ pG0_0 pv0_0 p0.l) (pp0 : Φ pb0 = some (.cells #[pv0_0, iV p0.at_, .bool p0.bad] 100 (0, 0))) {r : TAct × Tl10Reader} (h : m_s_l10Act N p0 = some r) :
  Calls prog 128 [pQ pb0].toArray w0.w (PostG Φ w0.w [[pb0]].flatten (fun Φ' Fs v => ∃ (sr_0_0 : Value), v = .agg [iV r.1.Kind, .string r.1.Name, sr_0_0, iV r.1.N, .string r.1.Undo].toArray ∧ Fs = [ob sr_0_0, [pb0]] ∧ OSl RTExpr 116 11 Φ' [] sr_0_0 r.1.Args ∧ r.2.l = p0.l ∧ Φ' pb0 = some (.cells #[pv0_0, iV r.2.at_, .bool r.2.bad] 100 (0, 0)))) := by
 refine eL func128 rfl ntmps128 rfl (L := [[pb0]]) w0 (fun hF => ?_)
 unfold m_s_l10Act at h
 refine sr <| lnz Zr_66 rfl fun b_1 => en <| sr <| lq (q_build (vs := []) (C := #[iV 0, .string (⟨#[]⟩ : ByteArray), .slice none 0 0, iV 0, .string (⟨#[]⟩ : ByteArray)]) Pl_66 Zr_66 rfl (fill_nil)) rfl <| lnz Zr_66 rfl fun b_2 => soN 0 Sz_66 rfl ⟨rfl, rfl, rfl, rfl, rfl, trivial⟩ rfl ?_
 refine arr 5 [] rfl <| kcb [0] h rfl rfl rfl rfl (fun b ap z q => m_s_l10Next_ok N b p0 2 (ph0_0.y z) pp0 q) ?_
 rintro x1 h v1 Φ_1 F1 ⟨ap1, fr1, rfl, rfl, e1, h1⟩
 refine lq (q_field1 Fd1_77_2 rfl rfl) rfl <| art 7 [] rfl <| wtS ?_
 have k1 := OSl.nil RTExpr 116 11 Φ_1
 refine cut (σ := Hp × (List TExpr) × Value × Int × Bool × Int × ByteArray × Int × ByteArray) (fun s => [(2, pQ b_1), (3, pQ b_2)]) (fun s => St w0 s.1 [(b_2, .cells #[iV s.2.2.2.2.2.1, .string s.2.2.2.2.2.2.1, s.2.2.1, iV s.2.2.2.2.2.2.2.1, .string s.2.2.2.2.2.2.2.2] 66 (0, 0)), (b_1, .cells #[iV 0, .string (⟨#[]⟩ : ByteArray), .slice none 0 0, iV 0, .string (⟨#[]⟩ : ByteArray)] 66 (0, 0))] [ob s.2.2.1, [pb0]]) (fun s => m_s_l10Act_j1 N p0 s.2.1 s.2.2.2.1 s.2.2.2.2.1 s.2.2.2.2.2.1 s.2.2.2.2.2.2.1 s.2.2.2.2.2.2.2.1 s.2.2.2.2.2.2.2.2 = some r ∧ (OSl RTExpr 116 11 s.1 [] s.2.2.1 s.2.1) ∧ (s.1 pb0 = some (.cells #[pv0_0, iV s.2.2.2.1, .bool s.2.2.2.2.1] 100 (0, 0)))) (fun s hm => ?_) (fun K => ?_)
 ·clear h
  obtain ⟨Φ_2, s1, u1, s2, s3, s4, s5, s6, s7⟩ := s
  obtain ⟨h, k2, k3⟩ := hm
  dsimp only at h k2 k3 ⊢
  unfold m_s_l10Act_j1 at h
  refine atr 4 [5] rfl <| soN 1 Sz_66 rfl ⟨rfl, rfl, k2.one, rfl, rfl, trivial⟩ rfl ?_
  refine en ?_
  exact rtg [0, 0] hF (resOk.one (rv_cell Tn_66 rfl (fun w1 hw => hw.rgO (i := 1) rfl 0 5 [iV s4, .string s5, u1, iV s6, .string s7] rfl) rfl)) rfl (by cases h; exact fun w1 hw => ⟨u1, rfl, rfl, k2, rfl, k3⟩)
 refine ch h rfl ?_ ?_ <;> intro h
 ·refine atr 3 [0] rfl <| so1 0 Sz_3 rfl rfl ?_
  refine arr 3 [] rfl ?_
  refine WL.frz (js := [0]) (R := [(b_1, .cells #[iV 0, .string (⟨#[]⟩ : ByteArray), .slice none 0 0, iV 0, .string (⟨#[]⟩ : ByteArray)] 66 (0, 0))]) rfl (fun Φ_3 fr2 k4 => ?_)
  replace k1 := k1.f0 fr2
  replace h1 := fr2 _ _ (by simp) h1
  refine kcb [2, 0, 0] h rfl rfl rfl rfl (fun b ap z q => m_s_l10Args_ok N b (⟨p0.l, x1.2.at_, x1.2.bad⟩ : Tl10Reader) (⟨1, (⟨#[]⟩ : ByteArray), ([] : List TExpr), 0, (⟨#[]⟩ : ByteArray)⟩ : TAct) (ph0_0.y z) h1 k1 k4 q) ?_
  rintro x2 h v2 Φ_4 F2 ⟨ap2, fr3, v3, rfl, rfl, e2, h2, h3, h4⟩
  refine en ?_
  refine WT.thw (js := [1]) (R := [[pb0], ob v3]) rfl h4 (fun Φ_5 ap3 fr4 => ?_)
  replace h3 := h3.fr fr4 (ap3.q 1 rfl) dN
  replace h2 := fr4 _ _ ((ap3.q 0 rfl) _ (by simp)) h2
  exact wo [1, 0] [0, 0] (K (_, _, _, _, _, _, _, _, _) ⟨h, h3, h2⟩)
 refine att 5 [] rfl ?_
 refine ch h rfl ?_ ?_ <;> intro h
 ·refine atr 3 [0] rfl <| so1 0 Sz_3 rfl rfl ?_
  refine arr 3 [] rfl <| kcb [1] h rfl rfl rfl rfl (fun b ap z q => m_s_l10Next_ok N b (⟨p0.l, x1.2.at_, x1.2.bad⟩ : Tl10Reader) 1 (ph0_0.y z) h1 q) ?_
  rintro x3 h v4 Φ_6 F3 ⟨ap4, fr5, rfl, rfl, e3, h5⟩
  replace k1 := k1.fr fr5 (ap4.q 0 rfl) dN
  refine lq (q_field1 Fd1_77_1 rfl rfl) rfl <| lf Fld_66_3 rfl rfl rfl <| so1 0 Sz_3 rfl rfl ?_
  refine en ?_
  exact wo [1, 0] [0, 0] (K (_, _, _, _, _, _, _, _, _) ⟨h, k1, h5⟩)
 refine att 5 [] rfl ?_
 refine ch h rfl ?_ ?_ <;> intro h
 ·refine atr 3 [0] rfl <| so1 0 Sz_3 rfl rfl ?_
  refine arr 4 [] rfl ?_
  refine WL.frz (js := [0]) (R := [(b_1, .cells #[iV 0, .string (⟨#[]⟩ : ByteArray), .slice none 0 0, iV 0, .string (⟨#[]⟩ : ByteArray)] 66 (0, 0))]) rfl (fun Φ_7 fr6 k5 => ?_)
  replace k1 := k1.f0 fr6
  replace h1 := fr6 _ _ (by simp) h1
  refine kcb [2, 0, 0] h rfl rfl rfl rfl (fun b ap z q => m_s_l10Args_ok N b (⟨p0.l, x1.2.at_, x1.2.bad⟩ : Tl10Reader) (⟨3, (⟨#[]⟩ : ByteArray), ([] : List TExpr), 0, (⟨#[]⟩ : ByteArray)⟩ : TAct) (ph0_0.y z) h1 k1 k5 q) ?_
  rintro x4 h v5 Φ_8 F4 ⟨ap5, fr7, v6, rfl, rfl, e4, h6, h7, h8⟩
  refine arr 4 [] rfl <| kcb [0] h rfl rfl rfl rfl (fun b ap z q => m_s_l10Is_ok N b (⟨p0.l, x4.1.at_, x4.1.bad⟩ : Tl10Reader) 2 (⟨#[117, 110, 100, 111]⟩ : ByteArray) (ph0_0.y z) h6 q) ?_
  rintro x5 h v7 Φ_9 F5 ⟨ap6, fr8, rfl, rfl, e5, h9⟩
  replace h7 := h7.fr fr8 (ap6.q 1 rfl) dN
  replace h8 := fr8 _ _ ((ap6.q 0 rfl) _ (by simp)) h8
  refine en ?_
  refine ch h rfl ?_ ?_ <;> intro h
  ·refine atr 2 [] rfl <| kcb [0] h rfl rfl rfl rfl (fun b ap z q => m_s_l10Next_ok N b (⟨p0.l, x5.2.at_, x5.2.bad⟩ : Tl10Reader) 2 (ph0_0.y z) h9 q) ?_
   rintro x6 h v8 Φ_10 F6 ⟨ap7, fr9, rfl, rfl, e6, h10⟩
   replace h7 := h7.fr fr9 (ap7.q 1 rfl) dN
   replace h8 := fr9 _ _ ((ap7.q 0 rfl) _ (by simp)) h8
   refine lq (q_field1 Fd1_77_2 rfl rfl) rfl <| lf Fld_66_4 rfl rfl rfl ?_
   refine WL.thw (js := [1]) (R := [[pb0], ob v6]) rfl h8 (fun Φ_11 ap8 fr10 => ?_)
   replace h7 := h7.fr fr10 (ap8.q 1 rfl) dN
   replace h10 := fr10 _ _ ((ap8.q 0 rfl) _ (by simp)) h10
   refine so1 0 Sz_9 rfl rfl ?_
   refine en ?_
   exact wo [1, 0] [0, 0] (K (_, _, _, _, _, _, _, _, _) ⟨h, h7, h10⟩)
  refine WT.skip ?_
  refine WT.thw (js := [1]) (R := [[pb0], ob v6]) rfl h8 (fun Φ_12 ap9 fr11 => ?_)
  replace h7 := h7.fr fr11 (ap9.q 1 rfl) dN
  replace h9 := fr11 _ _ ((ap9.q 0 rfl) _ (by simp)) h9
  exact wo [1, 0] [0, 0] (K (_, _, _, _, _, _, _, _, _) ⟨h, h7, h9⟩)
 refine att 5 [] rfl ?_
 refine ch h rfl ?_ ?_ <;> intro h
 ·refine atr 3 [0] rfl <| so1 0 Sz_3 rfl rfl ?_
  refine arr 4 [] rfl <| kcb [1] h rfl rfl rfl rfl (fun b ap z q => m_s_l10Next_ok N b (⟨p0.l, x1.2.at_, x1.2.bad⟩ : Tl10Reader) 1 (ph0_0.y z) h1 q) ?_
  rintro x7 h v9 Φ_13 F7 ⟨ap10, fr12, rfl, rfl, e7, h11⟩
  replace k1 := k1.fr fr12 (ap10.q 0 rfl) dN
  refine lq (q_field1 Fd1_77_1 rfl rfl) rfl <| lf Fld_66_3 rfl rfl rfl <| so1 0 Sz_3 rfl rfl ?_
  refine arr 3 [] rfl ?_
  refine WL.frz (js := [0]) (R := [(b_1, .cells #[iV 0, .string (⟨#[]⟩ : ByteArray), .slice none 0 0, iV 0, .string (⟨#[]⟩ : ByteArray)] 66 (0, 0))]) rfl (fun Φ_14 fr13 k6 => ?_)
  replace k1 := k1.f0 fr13
  replace h11 := fr13 _ _ (by simp) h11
  refine kcb [1, 0, 0] h rfl rfl rfl rfl (fun b ap z q => m_s_l10Args_ok N b (⟨p0.l, x7.2.at_, x7.2.bad⟩ : Tl10Reader) (⟨4, (⟨#[]⟩ : ByteArray), ([] : List TExpr), x7.1.N, (⟨#[]⟩ : ByteArray)⟩ : TAct) (ph0_0.y z) h11 k1 k6 q) ?_
  rintro x8 h v10 Φ_15 F8 ⟨ap11, fr14, v11, rfl, rfl, e8, h12, h13, h14⟩
  refine en ?_
  refine WT.thw (js := [1]) (R := [[pb0], ob v11]) rfl h14 (fun Φ_16 ap12 fr15 => ?_)
  replace h13 := h13.fr fr15 (ap12.q 1 rfl) dN
  replace h12 := fr15 _ _ ((ap12.q 0 rfl) _ (by simp)) h12
  exact wo [1, 0] [0, 0] (K (_, _, _, _, _, _, _, _, _) ⟨h, h13, h12⟩)
 refine att 5 [] rfl ?_
 refine ch h rfl ?_ ?_ <;> intro h
 ·refine atr 2 [0] rfl <| so1 0 Sz_3 rfl rfl ?_
  refine en ?_
  exact wo [0, 0] [0, 0] (K (_, _, _, _, _, _, _, _, _) ⟨h, k1, h1⟩)
 refine att 5 [] rfl ?_
 refine ch h rfl ?_ ?_ <;> intro h
 ·refine atr 2 [0] rfl <| so1 0 Sz_3 rfl rfl ?_
  refine en ?_
  exact wo [0, 0] [0, 0] (K (_, _, _, _, _, _, _, _, _) ⟨h, k1, h1⟩)
 refine atr 2 [] rfl <| lq (q_nilCheck rfl) rfl <| lf Fld_100_2 rfl rfl rfl ?_
 refine WL.thw (js := [1]) (R := [ob (.slice none 0 0)]) rfl h1 (fun Φ_17 ap13 fr16 => ?_)
 replace k1 := k1.fr fr16 (ap13.q 0 rfl) dN
 refine so1 0 Sz_4 rfl rfl ?_
 refine en ?_
 refine WT.frz (js := [0]) (R := [(b_2, .cells #[iV 0, .string (⟨#[]⟩ : ByteArray), (.slice none 0 0), iV 0, .string (⟨#[]⟩ : ByteArray)] 66 (0, 0)), (b_1, .cells #[iV 0, .string (⟨#[]⟩ : ByteArray), .slice none 0 0, iV 0, .string (⟨#[]⟩ : ByteArray)] 66 (0, 0))]) rfl (fun Φ_18 fr17 k7 => ?_)
 replace k1 := k1.f0 fr17
 exact wo [1, 0] [0, 0] (K (_, _, _, _, _, _, _, _, _) ⟨h, k1, k7⟩)
theorem m_s_l10Rule_ok (w0 : Base Ψ Φ [[pb0]].flatten) (p0 : Tl10Reader) (ph0_0 : RSl RTToken 3 Ψ pG0_0 pv0_0 p0.l) (pp0 : Φ pb0 = some (.cells #[pv0_0, iV p0.at_, .bool p0.bad] 100 (0, 0))) {r : TRule × Tl10Reader} (h : m_s_l10Rule N p0 = some r) :
  Calls prog 69 [pQ pb0].toArray w0.w (PostG Φ w0.w [[pb0]].flatten (fun Φ' Fs v => ∃ (sr_0_0 : Value) (Dr_0_0 : List Nat) (sr_0_1 : Value) (sr_0_2 : Value) (Dr_0_2 : List Nat), v = .agg [.string r.1.Name, iV r.1.Sal, sr_0_0, sr_0_1, sr_0_2].toArray ∧ Fs = [ob sr_0_0, Dr_0_0, ob sr_0_1, ob sr_0_2, Dr_0_2, [pb0]] ∧ OSl OTPat 35 3 Φ' Dr_0_0 sr_0_0 r.1.Pats ∧ OSl RTCond 62 11 Φ' [] sr_0_1 r.1.Conds ∧ OSl OTAct 66 5 Φ' Dr_0_2 sr_0_2 r.1.Acts ∧ r.2.l = p0.l ∧ Φ' pb0 = some (.cells #[pv0_0, iV r.2.at_, .bool r.2.bad] 100 (0, 0)))) := by
 refine eL func69 rfl ntmps69 rfl (L := [[pb0]]) w0 (fun hF => ?_)
 unfold m_s_l10Rule at h
 refine sr <| lnz Zr_28 rfl fun b_1 => arr 4 [] rfl <| kcb [0] h rfl rfl rfl rfl (fun b ap z q => m_s_l10Word_ok N b p0 (⟨#[114, 117, 108, 101]⟩ : ByteArray) (ph0_0.y z) pp0 q) ?_
 rintro x1 h v1 Φ_1 F1 ⟨ap1, fr1, rfl, rfl, e1, h1⟩
 refine arr 4 [] rfl <| kcb [0] h rfl rfl rfl rfl (fun b ap z q => m_s_l10Next_ok N b (⟨p0.l, x1.at_, x1.bad⟩ : Tl10Reader) 2 (ph0_0.y z) h1 q) ?_
 rintro x2 h v2 Φ_2 F2 ⟨ap2, fr2, rfl, rfl, e2, h2⟩
 refine lq (q_field1 Fd1_77_2 rfl rfl) rfl <| lq (q_build (vs := [(0, .string x2.1.S)]) (C := #[.string x2.1.S, iV 0, .slice none 0 0, .slice none 0 0, .slice none 0 0]) Pl_28 Zr_28 rfl (fill_cons (C' := [.string x2.1.S, iV 0, .slice none 0 0, .slice none 0 0, .slice none 0 0]) rfl rfl rfl rfl rfl (fill_nil))) rfl <| lnz Zr_28 rfl fun b_2 => soN 0 Sz_28 rfl ⟨rfl, rfl, rfl, rfl, rfl, trivial⟩ rfl ?_
 refine arr 4 [] rfl <| kcb [0] h rfl rfl rfl rfl (fun b ap z q => m_s_l10Num_ok N b (⟨p0.l, x2.2.at_, x2.2.bad⟩ : Tl10Reader) (ph0_0.y z) h2 q) ?_
 rintro x3 h v3 Φ_3 F3 ⟨ap3, fr3, rfl, rfl, e3, h3⟩
 refine lf Fld_28_1 rfl rfl rfl <| so1 0 Sz_3 rfl rfl ?_
 refine arr 4 [] rfl <| kcb [0] h rfl rfl rfl rfl (fun b ap z q => m_s_l10Mark_ok N b (⟨p0.l, x3.2.at_, x3.2.bad⟩ : Tl10Reader) (⟨#[58]⟩ : ByteArray) (ph0_0.y z) h3 q) ?_
 rintro x4 h v4 Φ_4 F4 ⟨ap4, fr4, rfl, rfl, e4, h4⟩
 refine art 7 [] rfl <| wtS <| wt0 ?_
 have k1 := OSl.nil OTPat 35 3 Φ_4
 refine lin (σ := Hp × (List TPat) × Value × List Nat × Bool × Int × Bool) (fun s => [(0, pQ pb0), (2, pQ b_1), (3, pQ b_2), (4, .bool s.2.2.2.2.1)]) (fun s => St w0 s.1 [(b_2, .cells #[.string x2.1.S, iV x3.1, s.2.2.1, .slice none 0 0, .slice none 0 0] 28 (0, 0)), (b_1, .cells #[.string (⟨#[]⟩ : ByteArray), iV 0, .slice none 0 0, .slice none 0 0, .slice none 0 0] 28 (0, 0))] [s.2.2.2.1, ob s.2.2.1, [pb0]]) (fun m s => m_s_l10Rule_l1 N p0 x2 x3 m s.2.1 s.2.2.2.2.1 s.2.2.2.2.2.1 s.2.2.2.2.2.2 = some r ∧ (OSl OTPat 35 3 s.1 s.2.2.2.1 s.2.2.1 s.2.1) ∧ (s.1 pb0 = some (.cells #[pv0_0, iV s.2.2.2.2.2.1, .bool s.2.2.2.2.2.2] 100 (0, 0)))) (Φ_4, ([] : List TPat), (.slice none 0 0), [], true, x4.at_, x4.bad) N ⟨h, k1, h4⟩ (sx [0, 0, 0] [0, 0]) (fun n1 ih1 s hm => ?_)
 obtain ⟨Φ_5, s1, u1, D1, s2, s3, s4⟩ := s
 obtain ⟨h, k2, k3⟩ := hm
 dsimp only at h k2 k3 ⊢
 unfold m_s_l10Rule_l1 at h
 refine atr 5 [] rfl ?_
 obtain ⟨b5, hb_1, h⟩ := bs h
 refine WL.cutN 6 [(25, .bool b5), (0, pQ pb0), (2, pQ b_1), (3, pQ b_2)] ?_ (fun K => ?_)
 rotate_left
 ·refine sp 19 hb_1 rfl (fun hb_1 => ?_) fun hb_1 => ?_
  ·refine ly rfl rfl <| la rfl <| ly rfl rfl <| lq (q_nilCheck rfl) rfl <| ly rfl rfl <| lf Fld_100_2 rfl rfl rfl <| ly rfl rfl <| lgx 2 0 (rg_cells k3) rfl <| arr 2 [] rfl ?_
   cases hb_1
   exact ku K
  ·refine arr 6 [] rfl ?_
   cases hb_1
   exact ku K
 refine en ?_
 refine ch h rfl ?_ ?_ <;> intro h
 ·refine att 3 [] rfl <| wm [0, 1] [7] rfl <| amm 3 [0, 2, 1, 0, 2] [0, 1] rfl rfl ?_
  obtain ⟨x5, hx5, h⟩ := bs h
  refine WM.one 3 (by kernel_rfl) (mc rfl (fun _ v Φx D w1 hq hw => Kn.of Kf.nil (ai2 0 1 rfl rfl) hw) (k_call (js := [2]) (R := [D1, ob u1]) Fun_126 rfl rfl (fun w1 hw ap hl => m_s_l10Pat_ok N (bx hw ap hl) (⟨p0.l, s3, s4⟩ : Tl10Reader) (ph0_0.y (hw.uo ap)) k3  hx5)) rfl ?_)
  rintro v5 Φ_6 F5 ⟨ap5, fr5, v6, rfl, rfl, h5, e5, h6⟩
  replace k2 := k2.fr fr5 (ap5.q 1 rfl) (ap5.q 0 rfl)
  have rc1 : RC OTPat 3 Φ_6 ([(ob v6 ++ [])] : List (List Nat)) [.string x5.1.Kind, v6, .bool x5.1.Not] ([x5.1] : List TPat) := RC.cons (c := [.string x5.1.Kind, v6, .bool x5.1.Not]) (cells := []) ⟨v6, rfl, rfl, h5⟩ rfl (RC.nil _ _ _)
  refine WM.one 4 (by kernel_rfl) (me rfl (fun _ v Φx D w1 hq hw => Kn.of Kf.nil (ai2 0 1 rfl rfl) hw) (e_lit (vs := [(0, .agg [.string x5.1.Kind, v6, .bool x5.1.Not].toArray)]) (C := #[.string x5.1.Kind, v6, .bool x5.1.Not]) OTPat.lasts Sl_24 Zr_35 rfl rfl rfl rfl (fill_made MC_35_1 (fill_cons (C' := [.string x5.1.Kind, v6, .bool x5.1.Not]) rfl rfl rfl rfl rfl (fill_nil))) rfl rc1 rfl (RC.kn OTPat.knows rc1)) rfl ?_)
  rintro v7 Φ_7 D2 ⟨fr6, h7⟩
  replace h7 : OSl OTPat 35 3 Φ_7 ((ob v6 ++ [])) v7 ([x5.1] : List TPat) := by simpa [List.append_assoc] using h7
  replace k2 := k2.f0 fr6
  replace h6 := fr6 _ _ (by simp) h6
  refine WM.conv (S' := St w0 Φ_7 [(b_2, .cells #[.string x2.1.S, iV x3.1, u1, .slice none 0 0, .slice none 0 0] 28 (0, 0)), (b_1, .cells #[.string (⟨#[]⟩ : ByteArray), iV 0, .slice none 0 0, .slice none 0 0, .slice none 0 0] 28 (0, 0))] [((ob v6 ++ [])), ob v7, [pb0], D1, ob u1]) (fun w1 hw => hw.merge (js := [1]) rfl (SP.eq (by simp [List.append_assoc, ob_nil]))) ?_
  obtain ⟨x6, hx6, h⟩ := bs h
  refine WM.one 5 (by kernel_rfl) (me rfl (fun _ v Φx D w1 hq hw => Kn.of Kf.nil (ai2 0 1 rfl rfl) hw) (e_appO OTPat.lasts OTPat.one Sl_24 Ei_35 rfl rfl rfl rfl rfl (js := [4]) (Rr := [((ob v6 ++ [])), ob v7, [pb0], D1]) rfl k2 h7 (fun ap => ap.q 3 rfl) (fun ap => ap.q 0 rfl) hx6) rfl ?_)
  rintro v8 Φ_8 D3 ⟨⟨ap6, fr7⟩, h8⟩
  replace h6 := fr7 _ _ ((ap6.q 2 rfl) _ (by simp)) h6
  refine WM.conv (S' := St w0 Φ_8 [(b_2, .cells #[.string x2.1.S, iV x3.1, u1, .slice none 0 0, .slice none 0 0] 28 (0, 0)), (b_1, .cells #[.string (⟨#[]⟩ : ByteArray), iV 0, .slice none 0 0, .slice none 0 0, .slice none 0 0] 28 (0, 0))] [(D1 ++ ((ob v6 ++ []))), ob v8, ob v7, [pb0]]) (fun w1 hw => hw.merge (js := [4, 1]) rfl (SP.eq (by simp))) <| amm 1 [6, 2] [0, 1] rfl rfl ?_
  refine on1 7 (ms1 0 rfl nk Sz_24 rfl h8.one ?_)
  refine WM.nil (by kernel_rfl) <| atr 2 [] rfl <| kcb [3] h rfl rfl rfl rfl (fun b ap z q => m_s_l10Is_ok N b (⟨p0.l, x5.2.at_, x5.2.bad⟩ : Tl10Reader) 5 (⟨#[44]⟩ : ByteArray) (ph0_0.y z) h6 q) ?_
  rintro x7 h v9 Φ_9 F6 ⟨ap7, fr8, rfl, rfl, e6, h9⟩
  replace h8 := h8.fr fr8 (ap7.q 1 rfl) (ap7.q 0 rfl)
  refine art 3 [] rfl ?_
  exact lb [1, 1, 0] [0, 0] (ih1 (_, _, _, _, _, _, _) ⟨h, h8, h9⟩)
 refine atr 5 [] rfl <| kcb [2] h rfl rfl rfl rfl (fun b ap z q => m_s_l10Is_ok N b (⟨p0.l, s3, s4⟩ : Tl10Reader) 5 (⟨#[43]⟩ : ByteArray) (ph0_0.y z) k3 q) ?_
 rintro x8 h v10 Φ_10 F7 ⟨ap8, fr9, rfl, rfl, e7, h10⟩
 replace k2 := k2.fr fr9 (ap8.q 1 rfl) (ap8.q 0 rfl)
 refine art 3 [] rfl <| wtS ?_
 have k4 := OSl.nil RTCond 62 11 Φ_10
 refine lin (σ := Hp × (List TCond) × Value × Bool × Int × Bool) (fun s => [(0, pQ pb0), (2, pQ b_1), (3, pQ b_2), (5, .bool s.2.2.2.1)]) (fun s => St w0 s.1 [(b_2, .cells #[.string x2.1.S, iV x3.1, u1, s.2.2.1, .slice none 0 0] 28 (0, 0)), (b_1, .cells #[.string (⟨#[]⟩ : ByteArray), iV 0, .slice none 0 0, .slice none 0 0, .slice none 0 0] 28 (0, 0))] [ob s.2.2.1, [pb0], D1, ob u1]) (fun m s => m_s_l10Rule_l2 N p0 x2 x3 s1 m s.2.1 s.2.2.2.1 s.2.2.2.2.1 s.2.2.2.2.2 = some r ∧ (OSl OTPat 35 3 s.1 D1 u1 s1) ∧ (OSl RTCond 62 11 s.1 [] s.2.2.1 s.2.1) ∧ (s.1 pb0 = some (.cells #[pv0_0, iV s.2.2.2.2.1, .bool s.2.2.2.2.2] 100 (0, 0)))) (Φ_10, ([] : List TCond), (.slice none 0 0), x8.1, x8.2.at_, x8.2.bad) N ⟨h, k2, k4, h10⟩ (sx [0, 0, 0, 0] [0, 0]) (fun n2 ih2 s hm => ?_)
 obtain ⟨Φ_11, s5, u2, s6, s7, s8⟩ := s
 obtain ⟨h, k2, k5, k6⟩ := hm
 dsimp only at h k2 k5 k6 ⊢
 unfold m_s_l10Rule_l2 at h
 refine atr 5 [] rfl ?_
 obtain ⟨b9, hb_2, h⟩ := bs h
 refine WL.cutN 6 [(44, .bool b9), (0, pQ pb0), (2, pQ b_1), (3, pQ b_2)] ?_ (fun K => ?_)
 rotate_left
 ·refine sp 38 hb_2 rfl (fun hb_2 => ?_) fun hb_2 => ?_
  ·refine ly rfl rfl <| la rfl <| ly rfl rfl <| lq (q_nilCheck rfl) rfl <| ly rfl rfl <| lf Fld_100_2 rfl rfl rfl <| ly rfl rfl <| lgx 2 0 (rg_cells k6) rfl <| arr 2 [] rfl ?_
   cases hb_2
   exact ku K
  ·refine arr 6 [] rfl ?_
   cases hb_2
   exact ku K
 refine en ?_
 refine ch h rfl ?_ ?_ <;> intro h
 ·refine att 3 [] rfl <| wm [0, 1] [7] rfl <| amm 3 [0, 3, 1, 0, 2] [0, 1] rfl rfl ?_
  obtain ⟨x9, hx9, h⟩ := bs h
  refine WM.one 3 (by kernel_rfl) (mc rfl (fun _ v Φx D w1 hq hw => Kn.of Kf.nil (ai2 0 1 rfl rfl) hw) (k_call (js := [1]) (R := [ob u2, D1, ob u1]) Fun_127 rfl rfl (fun w1 hw ap hl => m_s_l10Cond_ok N (bx hw ap hl) (⟨p0.l, s7, s8⟩ : Tl10Reader) (ph0_0.y (hw.uo ap)) k6  hx9)) rfl ?_)
  rintro v11 Φ_12 F8 ⟨ap9, fr10, rfl, rfl, e8, h11⟩
  replace k2 := k2.fr fr10 (ap9.q 2 rfl) (ap9.q 1 rfl)
  replace k5 := k5.fr fr10 (ap9.q 0 rfl) dN
  have rc2 : RC RTCond 11 Φ_12 ([[]] : List (List Nat)) [iV x9.1.Op, iV x9.1.L.K, .string x9.1.L.S, iV x9.1.L.V.K, iV x9.1.L.V.N, .string x9.1.L.V.S, iV x9.1.R.K, .string x9.1.R.S, iV x9.1.R.V.K, iV x9.1.R.V.N, .string x9.1.R.V.S] ([x9.1] : List TCond) := RC.cons (c := [iV x9.1.Op, iV x9.1.L.K, .string x9.1.L.S, iV x9.1.L.V.K, iV x9.1.L.V.N, .string x9.1.L.V.S, iV x9.1.R.K, .string x9.1.R.S, iV x9.1.R.V.K, iV x9.1.R.V.N, .string x9.1.R.V.S]) (cells := []) ⟨rfl, rfl⟩ rfl (RC.nil _ _ _)
  refine WM.one 4 (by kernel_rfl) (me rfl (fun _ v Φx D w1 hq hw => Kn.of Kf.nil (ai2 0 1 rfl rfl) hw) (e_lit (vs := [(0, .agg [iV x9.1.Op, iV x9.1.L.K, .string x9.1.L.S, iV x9.1.L.V.K, iV x9.1.L.V.N, .string x9.1.L.V.S, iV x9.1.R.K, .string x9.1.R.S, iV x9.1.R.V.K, iV x9.1.R.V.N, .string x9.1.R.V.S].toArray)]) (C := #[iV x9.1.Op, iV x9.1.L.K, .string x9.1.L.S, iV x9.1.L.V.K, iV x9.1.L.V.N, .string x9.1.L.V.S, iV x9.1.R.K, .string x9.1.R.S, iV x9.1.R.V.K, iV x9.1.R.V.N, .string x9.1.R.V.S]) RTCond.lasts Sl_25 Zr_62 rfl rfl rfl rfl (fill_made MC_62_1 (fill_cons (C' := [iV x9.1.Op, iV x9.1.L.K, .string x9.1.L.S, iV x9.1.L.V.K, iV x9.1.L.V.N, .string x9.1.L.V.S, iV x9.1.R.K, .string x9.1.R.S, iV x9.1.R.V.K, iV x9.1.R.V.N, .string x9.1.R.V.S]) rfl rfl rfl rfl rfl (fill_nil))) rfl rc2 rfl (by simpa using Kw.nil)) rfl ?_)
  rintro v12 Φ_13 D4 ⟨fr11, h12⟩
  replace h12 : OSl RTCond 62 11 Φ_13 [] v12 ([x9.1] : List TCond) := by simpa using h12
  replace k2 := k2.f0 fr11
  replace k5 := k5.f0 fr11
  replace h11 := fr11 _ _ (by simp) h11
  obtain ⟨x10, hx10, h⟩ := bs h
  refine WM.one 5 (by kernel_rfl) (me rfl (fun _ v Φx D w1 hq hw => Kn.of Kf.nil (ai2 0 1 rfl rfl) hw) (e_appF RTCond.lasts RTCond.one RTCond.flat Sl_25 Ei_62 rfl rfl rfl rfl rfl (js := [2]) (Rr := [ob v12, [pb0], D1, ob u1]) rfl k5 h12.rsl hx10) rfl ?_)
  rintro v13 Φ_14 D5 ⟨⟨ap10, fr12⟩, h13⟩
  replace k2 := k2.fr fr12 (ap10.q 3 rfl) (ap10.q 2 rfl)
  replace h11 := fr12 _ _ ((ap10.q 1 rfl) _ (by simp)) h11
  refine amm 1 [6, 3] [0, 1] rfl rfl ?_
  refine on1 7 (ms1 0 rfl nk Sz_25 rfl h13.one ?_)
  refine WM.nil (by kernel_rfl) <| atr 2 [] rfl <| kcb [2] h rfl rfl rfl rfl (fun b ap z q => m_s_l10Is_ok N b (⟨p0.l, x9.2.at_, x9.2.bad⟩ : Tl10Reader) 5 (⟨#[44]⟩ : ByteArray) (ph0_0.y z) h11 q) ?_
  rintro x11 h v14 Φ_15 F9 ⟨ap11, fr13, rfl, rfl, e9, h14⟩
  replace k2 := k2.fr fr13 (ap11.q 3 rfl) (ap11.q 2 rfl)
  replace h13 := h13.fr fr13 (ap11.q 0 rfl) dN
  refine art 3 [] rfl ?_
  exact lb [1, 0, 1, 1] [0, 0] (ih2 (_, _, _, _, _, _) ⟨h, k2, h13, h14⟩)
 refine atr 4 [] rfl <| kcb [1] h rfl rfl rfl rfl (fun b ap z q => m_s_l10Mark_ok N b (⟨p0.l, s7, s8⟩ : Tl10Reader) (⟨#[45, 62]⟩ : ByteArray) (ph0_0.y z) k6 q) ?_
 rintro x12 h v15 Φ_16 F10 ⟨ap12, fr14, rfl, rfl, e10, h15⟩
 replace k2 := k2.fr fr14 (ap12.q 2 rfl) (ap12.q 1 rfl)
 replace k5 := k5.fr fr14 (ap12.q 0 rfl) dN
 refine art 7 [] rfl <| wtS <| wt0 ?_
 have k7 := OSl.nil OTAct 66 5 Φ_16
 refine lin (σ := Hp × (List TAct) × Value × List Nat × Bool × Int × Bool) (fun s => [(0, pQ pb0), (2, pQ b_1), (3, pQ b_2), (6, .bool s.2.2.2.2.1)]) (fun s => St w0 s.1 [(b_2, .cells #[.string x2.1.S, iV x3.1, u1, u2, s.2.2.1] 28 (0, 0)), (b_1, .cells #[.string (⟨#[]⟩ : ByteArray), iV 0, .slice none 0 0, .slice none 0 0, .slice none 0 0] 28 (0, 0))] [s.2.2.2.1, ob s.2.2.1, [pb0], ob u2, D1, ob u1]) (fun m s => m_s_l10Rule_l3 N p0 x2 x3 s1 s5 m s.2.1 s.2.2.2.2.1 s.2.2.2.2.2.1 s.2.2.2.2.2.2 = some r ∧ (OSl OTPat 35 3 s.1 D1 u1 s1) ∧ (OSl RTCond 62 11 s.1 [] u2 s5) ∧ (OSl OTAct 66 5 s.1 s.2.2.2.1 s.2.2.1 s.2.1) ∧ (s.1 pb0 = some (.cells #[pv0_0, iV s.2.2.2.2.2.1, .bool s.2.2.2.2.2.2] 100 (0, 0)))) (Φ_16, ([] : List TAct), (.slice none 0 0), [], true, x12.at_, x12.bad) N ⟨h, k2, k5, k7, h15⟩ (sx [0, 0, 0, 0, 0, 0] [0, 0]) (fun n3 ih3 s hm => ?_)
 obtain ⟨Φ_17, s9, u3, D6, s10, s11, s12⟩ := s
 obtain ⟨h, k2, k5, k8, k9⟩ := hm
 dsimp only at h k2 k5 k8 k9 ⊢
 unfold m_s_l10Rule_l3 at h
 refine atr 5 [] rfl ?_
 obtain ⟨b13, hb_3, h⟩ := bs h
 refine WL.cutN 6 [(63, .bool b13), (0, pQ pb0), (2, pQ b_1), (3, pQ b_2)] ?_ (fun K => ?_)
 rotate_left
 ·refine sp 57 hb_3 rfl (fun hb_3 => ?_) fun hb_3 => ?_
  ·refine ly rfl rfl <| la rfl <| ly rfl rfl <| lq (q_nilCheck rfl) rfl <| ly rfl rfl <| lf Fld_100_2 rfl rfl rfl <| ly rfl rfl <| lgx 2 0 (rg_cells k9) rfl <| arr 2 [] rfl ?_
   cases hb_3
   exact ku K
  ·refine arr 6 [] rfl ?_
   cases hb_3
   exact ku K
 refine en ?_
 refine ch h rfl ?_ ?_ <;> intro h
 ·refine att 3 [] rfl <| wm [0, 1] [7] rfl <| amm 3 [0, 4, 1, 0, 2] [0, 1] rfl rfl ?_
  obtain ⟨x13, hx13, h⟩ := bs h
  refine WM.one 3 (by kernel_rfl) (mc rfl (fun _ v Φx D w1 hq hw => Kn.of Kf.nil (ai2 0 1 rfl rfl) hw) (k_call (js := [2]) (R := [D6, ob u3, ob u2, D1, ob u1]) Fun_128 rfl rfl (fun w1 hw ap hl => m_s_l10Act_ok N (bx hw ap hl) (⟨p0.l, s11, s12⟩ : Tl10Reader) (ph0_0.y (hw.uo ap)) k9  hx13)) rfl ?_)
  rintro v16 Φ_18 F11 ⟨ap13, fr15, v17, rfl, rfl, h16, e11, h17⟩
  replace k2 := k2.fr fr15 (ap13.q 4 rfl) (ap13.q 3 rfl)
  replace k5 := k5.fr fr15 (ap13.q 2 rfl) dN
  replace k8 := k8.fr fr15 (ap13.q 1 rfl) (ap13.q 0 rfl)
  have rc3 : RC OTAct 5 Φ_18 ([(ob v17 ++ [])] : List (List Nat)) [iV x13.1.Kind, .string x13.1.Name, v17, iV x13.1.N, .string x13.1.Undo] ([x13.1] : List TAct) := RC.cons (c := [iV x13.1.Kind, .string x13.1.Name, v17, iV x13.1.N, .string x13.1.Undo]) (cells := []) ⟨v17, rfl, rfl, h16⟩ rfl (RC.nil _ _ _)
  refine WM.one 4 (by kernel_rfl) (me rfl (fun _ v Φx D w1 hq hw => Kn.of Kf.nil (ai2 0 1 rfl rfl) hw) (e_lit (vs := [(0, .agg [iV x13.1.Kind, .string x13.1.Name, v17, iV x13.1.N, .string x13.1.Undo].toArray)]) (C := #[iV x13.1.Kind, .string x13.1.Name, v17, iV x13.1.N, .string x13.1.Undo]) OTAct.lasts Sl_26 Zr_66 rfl rfl rfl rfl (fill_made MC_66_1 (fill_cons (C' := [iV x13.1.Kind, .string x13.1.Name, v17, iV x13.1.N, .string x13.1.Undo]) rfl rfl rfl rfl rfl (fill_nil))) rfl rc3 rfl (RC.kn OTAct.knows rc3)) rfl ?_)
  rintro v18 Φ_19 D7 ⟨fr16, h18⟩
  replace h18 : OSl OTAct 66 5 Φ_19 ((ob v17 ++ [])) v18 ([x13.1] : List TAct) := by simpa [List.append_assoc] using h18
  replace k2 := k2.f0 fr16
  replace k5 := k5.f0 fr16
  replace k8 := k8.f0 fr16
  replace h17 := fr16 _ _ (by simp) h17
  refine WM.conv (S' := St w0 Φ_19 [(b_2, .cells #[.string x2.1.S, iV x3.1, u1, u2, u3] 28 (0, 0)), (b_1, .cells #[.string (⟨#[]⟩ : ByteArray), iV 0, .slice none 0 0, .slice none 0 0, .slice none 0 0] 28 (0, 0))] [((ob v17 ++ [])), ob v18, [pb0], D6, ob u3, ob u2, D1, ob u1]) (fun w1 hw => hw.merge (js := [1]) rfl (SP.eq (by simp [List.append_assoc, ob_nil]))) ?_
  obtain ⟨x14, hx14, h⟩ := bs h
  refine WM.one 5 (by kernel_rfl) (me rfl (fun _ v Φx D w1 hq hw => Kn.of Kf.nil (ai2 0 1 rfl rfl) hw) (e_appO OTAct.lasts OTAct.one Sl_26 Ei_66 rfl rfl rfl rfl rfl (js := [4]) (Rr := [((ob v17 ++ [])), ob v18, [pb0], D6, ob u2, D1, ob u1]) rfl k8 h18 (fun ap => ap.q 3 rfl) (fun ap => ap.q 0 rfl) hx14) rfl ?_)
  rintro v19 Φ_20 D8 ⟨⟨ap14, fr17⟩, h19⟩
  replace k2 := k2.fr fr17 (ap14.q 6 rfl) (ap14.q 5 rfl)
  replace k5 := k5.fr fr17 (ap14.q 4 rfl) dN
  replace h17 := fr17 _ _ ((ap14.q 2 rfl) _ (by simp)) h17
  refine WM.conv (S' := St w0 Φ_20 [(b_2, .cells #[.string x2.1.S, iV x3.1, u1, u2, u3] 28 (0, 0)), (b_1, .cells #[.string (⟨#[]⟩ : ByteArray), iV 0, .slice none 0 0, .slice none 0 0, .slice none 0 0] 28 (0, 0))] [(D6 ++ ((ob v17 ++ []))), ob v19, ob v18, [pb0], ob u2, D1, ob u1]) (fun w1 hw => hw.merge (js := [4, 1]) rfl (SP.eq (by simp))) <| amm 1 [6, 4] [0, 1] rfl rfl ?_
  refine on1 7 (ms1 0 rfl nk Sz_26 rfl h19.one ?_)
  refine WM.nil (by kernel_rfl) <| atr 2 [] rfl <| kcb [3] h rfl rfl rfl rfl (fun b ap z q => m_s_l10Is_ok N b (⟨p0.l, x13.2.at_, x13.2.bad⟩ : Tl10Reader) 5 (⟨#[44]⟩ : ByteArray) (ph0_0.y z) h17 q) ?_
  rintro x15 h v20 Φ_21 F12 ⟨ap15, fr18, rfl, rfl, e12, h20⟩
  replace k2 := k2.fr fr18 (ap15.q 5 rfl) (ap15.q 4 rfl)
  replace k5 := k5.fr fr18 (ap15.q 3 rfl) dN
  replace h19 := h19.fr fr18 (ap15.q 1 rfl) (ap15.q 0 rfl)
  refine art 3 [] rfl ?_
  exact lb [1, 1, 0, 1, 1, 1] [0, 0] (ih3 (_, _, _, _, _, _, _) ⟨h, k2, k5, h19, h20⟩)
 refine atr 4 [] rfl <| kcb [2] h rfl rfl rfl rfl (fun b ap z q => m_s_l10Mark_ok N b (⟨p0.l, s11, s12⟩ : Tl10Reader) (⟨#[46]⟩ : ByteArray) (ph0_0.y z) k9 q) ?_
 rintro x16 h v21 Φ_22 F13 ⟨ap16, fr19, rfl, rfl, e13, h21⟩
 replace k2 := k2.fr fr19 (ap16.q 4 rfl) (ap16.q 3 rfl)
 replace k5 := k5.fr fr19 (ap16.q 2 rfl) dN
 replace k8 := k8.fr fr19 (ap16.q 1 rfl) (ap16.q 0 rfl)
 refine arr 4 [5] rfl <| soN 1 Sz_28 rfl ⟨rfl, rfl, k2.one, k5.one, k8.one, trivial⟩ rfl ?_
 refine en ?_
 exact rtg [5, 4, 3, 2, 1, 0] hF (resOk.one (rv_cell Tn_28 rfl (fun w1 hw => hw.rgO (i := 1) rfl 0 5 [.string x2.1.S, iV x3.1, u1, u2, u3] rfl) rfl)) rfl (by cases h; exact fun w1 hw => ⟨u1, D1, u2, u3, D6, rfl, rfl, k2, k5, k8, rfl, h21⟩)
theorem m_s_ParseDef_ok  (w0 : Base Ψ Φ []) (p0 : ByteArray)  {r : TDef × Bool} (h : m_s_ParseDef N p0 = some r) :
  Calls prog 23 [.string p0].toArray w0.w (PostG Φ w0.w [] (fun Φ' Fs v => ∃ (sr_0_0 : Value) (Dr_0_0 : List Nat), v = .tuple #[.agg [.string r.1.Name, sr_0_0].toArray, .bool r.2] ∧ Fs = [ob sr_0_0, Dr_0_0] ∧ OSl OTRule 28 5 Φ' Dr_0_0 sr_0_0 r.1.Rules)) := by
 refine eN func23 rfl ntmps23 rfl w0 fun hF => ?_
 unfold m_s_ParseDef at h
 refine sr <| lnz Zr_38 rfl fun b_1 => arr 5 [] rfl <| kab h rfl rfl rfl (fun b z q => m_s_Lex_ok N b p0 q) ?_
 rintro x1 h v1 Φ_1 F1 ⟨ap1, fr1, v2, rfl, rfl, h1⟩
 refine arr 11 [] rfl <| lq (q_build (vs := [(0, v2), (2, .bool (!decide (x1.2 = (-1))))]) (C := #[v2, iV 0, .bool (!decide (x1.2 = (-1)))]) Pl_100 Zr_100 rfl (fill_cons (C' := [v2, iV 0, .bool false]) rfl (one_cells h1.one) rfl rfl rfl (fill_cons (C' := [v2, iV 0, .bool (!decide (x1.2 = (-1)))]) rfl rfl rfl rfl rfl (fill_nil)))) rfl <| lbx rfl fun b_2 => arr 5 [] rfl ?_
 refine WL.frz (js := [0]) (R := [(b_1, .cells #[.string (⟨#[]⟩ : ByteArray), .slice none 0 0] 38 (0, 0))]) rfl (fun Φ_2 fr2 k1 => ?_)
 replace h1 := h1.f0 fr2
 refine kcb [0] h rfl rfl rfl rfl (fun b ap z q => m_s_l10Word_ok N b (⟨x1.1, 0, !decide (x1.2 = (-1))⟩ : Tl10Reader) (⟨#[100, 101, 102]⟩ : ByteArray) (h1.rsl.x (Dj.app (ap.q 0 rfl) dN)) k1 q) ?_
 rintro x2 h v3 Φ_3 F2 ⟨ap2, fr3, rfl, rfl, e1, h2⟩
 replace h1 := h1.fr fr3 (ap2.q 0 rfl) dN
 refine arr 4 [] rfl <| kcb [0] h rfl rfl rfl rfl (fun b ap z q => m_s_l10Next_ok N b (⟨x1.1, x2.at_, x2.bad⟩ : Tl10Reader) 2 (h1.rsl.x (Dj.app (ap.q 0 rfl) dN)) h2 q) ?_
 rintro x3 h v4 Φ_4 F3 ⟨ap3, fr4, rfl, rfl, e2, h3⟩
 replace h1 := h1.fr fr4 (ap3.q 0 rfl) dN
 refine lq (q_field1 Fd1_77_2 rfl rfl) rfl <| lq (q_build (vs := [(0, .string x3.1.S)]) (C := #[.string x3.1.S, .slice none 0 0]) Pl_38 Zr_38 rfl (fill_cons (C' := [.string x3.1.S, .slice none 0 0]) rfl rfl rfl rfl rfl (fill_nil))) rfl <| lnz Zr_38 rfl fun b_3 => soN 0 Sz_38 rfl ⟨rfl, rfl, trivial⟩ rfl ?_
 refine arr 4 [] rfl <| kcb [0] h rfl rfl rfl rfl (fun b ap z q => m_s_l10Mark_ok N b (⟨x1.1, x3.2.at_, x3.2.bad⟩ : Tl10Reader) (⟨#[46]⟩ : ByteArray) (h1.rsl.x (Dj.app (ap.q 0 rfl) dN)) h3 q) ?_
 rintro x4 h v5 Φ_5 F4 ⟨ap4, fr5, rfl, rfl, e3, h4⟩
 replace h1 := h1.fr fr5 (ap4.q 0 rfl) dN
 refine art 3 [] rfl <| wtS <| wt0 ?_
 have k2 := OSl.nil OTRule 28 5 Φ_5
 refine lin (σ := Hp × (List TRule) × Value × List Nat × Int × Bool) (fun s => [(2, pQ b_1), (4, v2), (6, pQ b_2), (7, pQ b_3)]) (fun s => St w0 s.1 [(b_3, .cells #[.string x3.1.S, s.2.2.1] 38 (0, 0)), (b_1, .cells #[.string (⟨#[]⟩ : ByteArray), .slice none 0 0] 38 (0, 0))] [s.2.2.2.1, ob s.2.2.1, [b_2], ob v2]) (fun m s => m_s_ParseDef_l1 N x1 x3 m s.2.1 s.2.2.2.2.1 s.2.2.2.2.2 = some r ∧ (OSl RTToken 77 3 s.1 [] v2 x1.1) ∧ (OSl OTRule 28 5 s.1 s.2.2.2.1 s.2.2.1 s.2.1) ∧ (s.1 b_2 = some (.cells #[v2, iV s.2.2.2.2.1, .bool s.2.2.2.2.2] 100 (0, 0)))) (Φ_5, ([] : List TRule), (.slice none 0 0), [], x4.at_, x4.bad) N ⟨h, h1, k2, h4⟩ (sx [0, 0, 0, 0] [0, 0]) (fun n1 ih1 s hm => ?_)
 obtain ⟨Φ_6, s1, u1, D1, s2, s3⟩ := s
 obtain ⟨h, h1, k3, k4⟩ := hm
 dsimp only at h h1 k3 k4 ⊢
 unfold m_s_ParseDef_l1 at h
 refine atr 4 [] rfl <| lq (q_nilCheck rfl) rfl <| lf Fld_100_1 rfl rfl rfl <| lgx 1 0 (rg_cells k4) rfl <| la rfl <| lno h1 rfl <| arr 2 [] rfl ?_
 obtain ⟨b5, hb_1, h⟩ := bs h
 refine WL.cutN 6 [(39, .bool b5), (2, pQ b_1), (4, v2), (6, pQ b_2), (7, pQ b_3)] ?_ (fun K => ?_)
 rotate_left
 ·refine sp 33 hb_1 rfl (fun hb_1 => ?_) fun hb_1 => ?_
  ·refine ly rfl rfl <| la rfl <| ly rfl rfl <| lq (q_nilCheck rfl) rfl <| ly rfl rfl <| lf Fld_100_2 rfl rfl rfl <| ly rfl rfl <| lgx 2 0 (rg_cells k4) rfl <| arr 2 [] rfl ?_
   cases hb_1
   exact ku K
  ·refine arr 6 [] rfl ?_
   cases hb_1
   exact ku K
 refine en ?_
 refine ch h rfl ?_ ?_ <;> intro h
 ·refine att 2 [] rfl <| wm [0, 1] [7] rfl <| amm 3 [0, 1, 1, 0, 2] [0, 1] rfl rfl ?_
  obtain ⟨x5, hx5, h⟩ := bs h
  refine WM.one 3 (by kernel_rfl) (mc rfl (fun _ v Φx D w1 hq hw => Kn.of Kf.nil (ai2 0 1 rfl rfl) hw) (k_call (js := [2]) (R := [D1, ob u1, ob v2]) Fun_69 rfl rfl (fun w1 hw ap hl => m_s_l10Rule_ok N (bx hw ap hl) (⟨x1.1, s2, s3⟩ : Tl10Reader) (h1.rsl.x (Dj.app (ap.q 2 rfl) dN)) k4  hx5)) rfl ?_)
  rintro v6 Φ_7 F5 ⟨ap5, fr6, v7, D2, v8, v9, D3, rfl, rfl, h5, h6, h7, e4, h8⟩
  replace h1 := h1.fr fr6 (ap5.q 2 rfl) dN
  replace k3 := k3.fr fr6 (ap5.q 1 rfl) (ap5.q 0 rfl)
  have rc1 : RC OTRule 5 Φ_7 ([(ob v7 ++ D2) ++ ((ob v8 ++ []) ++ ((ob v9 ++ D3)))] : List (List Nat)) [.string x5.1.Name, iV x5.1.Sal, v7, v8, v9] ([x5.1] : List TRule) := RC.cons (c := [.string x5.1.Name, iV x5.1.Sal, v7, v8, v9]) (cells := []) ⟨v7, D2, v8, v9, D3, rfl, rfl, h5, h6, h7⟩ rfl (RC.nil _ _ _)
  refine WM.one 4 (by kernel_rfl) (me rfl (fun _ v Φx D w1 hq hw => Kn.of Kf.nil (ai2 0 1 rfl rfl) hw) (e_lit (vs := [(0, .agg [.string x5.1.Name, iV x5.1.Sal, v7, v8, v9].toArray)]) (C := #[.string x5.1.Name, iV x5.1.Sal, v7, v8, v9]) OTRule.lasts Sl_36 Zr_28 rfl rfl rfl rfl (fill_made MC_28_1 (fill_cons (C' := [.string x5.1.Name, iV x5.1.Sal, v7, v8, v9]) rfl rfl rfl rfl rfl (fill_nil))) rfl rc1 rfl (RC.kn OTRule.knows rc1)) rfl ?_)
  rintro v10 Φ_8 D4 ⟨fr7, h9⟩
  replace h9 : OSl OTRule 28 5 Φ_8 ((ob v7 ++ D2) ++ ((ob v8 ++ []) ++ ((ob v9 ++ D3)))) v10 ([x5.1] : List TRule) := by simpa [List.append_assoc] using h9
  replace h1 := h1.f0 fr7
  replace k3 := k3.f0 fr7
  replace h8 := fr7 _ _ (by simp) h8
  refine WM.conv (S' := St w0 Φ_8 [(b_3, .cells #[.string x3.1.S, u1] 38 (0, 0)), (b_1, .cells #[.string (⟨#[]⟩ : ByteArray), .slice none 0 0] 38 (0, 0))] [((ob v7 ++ D2) ++ ((ob v8 ++ []) ++ ((ob v9 ++ D3)))), ob v10, [b_2], D1, ob u1, ob v2]) (fun w1 hw => hw.merge (js := [1, 1, 1, 1, 1]) rfl (SP.eq (by simp [List.append_assoc, ob_nil]))) ?_
  obtain ⟨x6, hx6, h⟩ := bs h
  refine WM.one 5 (by kernel_rfl) (me rfl (fun _ v Φx D w1 hq hw => Kn.of Kf.nil (ai2 0 1 rfl rfl) hw) (e_appO OTRule.lasts OTRule.one Sl_36 Ei_28 rfl rfl rfl rfl rfl (js := [4]) (Rr := [((ob v7 ++ D2) ++ ((ob v8 ++ []) ++ ((ob v9 ++ D3)))), ob v10, [b_2], D1, ob v2]) rfl k3 h9 (fun ap => ap.q 3 rfl) (fun ap => ap.q 0 rfl) hx6) rfl ?_)
  rintro v11 Φ_9 D5 ⟨⟨ap6, fr8⟩, h10⟩
  replace h1 := h1.fr fr8 (ap6.q 4 rfl) dN
  replace h8 := fr8 _ _ ((ap6.q 2 rfl) _ (by simp)) h8
  refine WM.conv (S' := St w0 Φ_9 [(b_3, .cells #[.string x3.1.S, u1] 38 (0, 0)), (b_1, .cells #[.string (⟨#[]⟩ : ByteArray), .slice none 0 0] 38 (0, 0))] [(D1 ++ ((ob v7 ++ D2) ++ ((ob v8 ++ []) ++ ((ob v9 ++ D3))))), ob v11, ob v10, [b_2], ob v2]) (fun w1 hw => hw.merge (js := [4, 1]) rfl (SP.eq (by simp))) <| amm 1 [6, 1] [0, 1] rfl rfl ?_
  refine on1 7 (ms1 0 rfl nk Sz_36 rfl h10.one ?_)
  refine WM.nil (by kernel_rfl) <| ib ?_
  exact lb [0, 0, 1, 1] [0, 0] (ih1 (_, _, _, _, _, _) ⟨h, h1, h10, h8⟩)
 refine atr 5 [] rfl <| lq (q_nilCheck rfl) rfl <| lf Fld_100_2 rfl rfl rfl <| lgx 2 0 (rg_cells k4) rfl <| la rfl ?_
 obtain ⟨b7, hb_2, h⟩ := bs h
 refine WL.cutN 4 [(55, .bool b7), (2, pQ b_1), (7, pQ b_3)] ?_ (fun K => ?_)
 rotate_left
 ·refine sp 51 hb_2 rfl (fun hb_2 => ?_) fun hb_2 => ?_
  ·refine arr 4 [] rfl ?_
   cases hb_2
   exact ku K
  ·refine ly rfl rfl <| ld2 Tn_38 0 rfl <| ly rfl rfl <| qc hb_2 (m_s_DefOk_ok N · (⟨x3.1.S, s1⟩ : TDef) (k3.rslG OTRule.gives) ·) rfl rfl rfl fun x7 hb_2 => arr 2 [] rfl ?_
   cases hb_2
   exact ku K
 refine en ?_
 refine ch h rfl ?_ ?_ <;> intro h
 ·refine sr <| lq (q_build (vs := []) (C := #[.string (⟨#[]⟩ : ByteArray), .slice none 0 0]) Pl_38 Zr_38 rfl (fill_nil)) rfl <| soN 1 Sz_38 rfl ⟨rfl, rfl, trivial⟩ rfl ?_
  refine la rfl <| en ?_
  refine WT.ret hF (resOk.two (rv_cell Tn_38 rfl (fun w1 hw => hw.rgO (i := 1) rfl 0 2 [.string (⟨#[]⟩ : ByteArray), .slice none 0 0] rfl) rfl) rfl) (fun w1 hw => ?_)
  cases h
  replace hw := hw.addNil
  replace hw := hw.addNil
  refine postG_of_St (js := [1, 0]) hw rfl ⟨.slice none 0 0, [], rfl, rfl, OSl.nil _ _ _ _⟩
 refine atr 4 [2] rfl <| soN 1 Sz_38 rfl ⟨rfl, k3.one, trivial⟩ rfl ?_
 refine la rfl <| en ?_
 exact rtg [1, 0] hF (resOk.two (rv_cell Tn_38 rfl (fun w1 hw => hw.rgO (i := 1) rfl 0 2 [.string x3.1.S, u1] rfl) rfl) rfl) rfl (by cases h; exact fun w1 hw => ⟨u1, D1, rfl, rfl, k3⟩)
theorem m_l_sameTokens_ok (w0 : Base Ψ Φ []) (p0 : (List TToken)) (p1 : (List TToken)) (ph0 : RSl RTToken 3 Ψ pG0 pv0 p0) (ph1 : RSl RTToken 3 Ψ pG1 pv1 p1) {r : Bool} (h : m_l_sameTokens N p0 p1 = some r) :
  CB w0 prog 24 [pv0, pv1] (.bool r) := by
 refine eN func24 rfl ntmps24 rfl w0 fun hF => ?_
 unfold m_l_sameTokens at h
 refine atr 8 [] rfl <| lnr ph0 rfl <| la rfl <| lnr ph1 rfl <| la rfl <| en ?_
 refine ch h rfl ?_ ?_ <;> intro h
 ·refine att 4 [] rfl ?_
  exact rt hF h
 refine att 7 [] rfl ?_
 refine lin (σ := Int) (fun s => [(0, pv0), (1, pv1), (5, iV s)]) (fun s => St w0 Φ [] []) (fun m s => m_l_sameTokens_l1 N p0 p1 m s = some r) (0) N h (sx [] []) (fun n1 ih1 s hm => ?_)
 revert hm; revert s; intro s1 hm
 have h : m_l_sameTokens_l1 N p0 p1 (n1 + 1) s1 = some r := hm
 show WT _ _ [(0, pv0), (1, pv1), (5, iV s1)] (St w0 Φ [] [])
 unfold m_l_sameTokens_l1 at h
 refine atr 5 [] rfl <| lnr ph0 rfl <| la rfl <| en ?_
 refine ch h rfl ?_ ?_ <;> intro h
 ·refine att 4 [] rfl <| WT.draw mixed (by kernel_rfl) (fun _ h => h.drew) <| aqq 2 [] rfl ?_
  obtain ⟨x1, hx1, h⟩ := bs h
  obtain ⟨cs1, F1, -, g1, hb1, hs1, r1⟩ := ph0.el (idx_some hx1).2.2
  obtain ⟨rfl, -⟩ := r1
  refine qq (q_indexAddr Sl_44 rfl rfl ph0 hx1) rfl <| qq (q_loadN Tn_77 rfl (fun w1 hw => (g1.of_eq 0 3 rfl rfl : rg _ _ _ [iV x1.K, iV x1.N, .string x1.S]).rangeAt hw.in0) rfl) rfl <| aqq 2 [] rfl ?_
  obtain ⟨x2, hx2, h⟩ := bs h
  obtain ⟨cs2, F2, -, g2, hb2, hs2, r2⟩ := ph1.el (idx_some hx2).2.2
  obtain ⟨rfl, -⟩ := r2
  refine qq (q_indexAddr Sl_44 rfl rfl ph1 hx2) rfl <| qq (q_loadN Tn_77 rfl (fun w1 hw => (g2.of_eq 0 3 rfl rfl : rg _ _ _ [iV x2.K, iV x2.N, .string x2.S]).rangeAt hw.in0) rfl) rfl <| qq (q_neA EqT_77 rfl rfl rfl (r := eqT_TToken x1 x2) rfl) rfl <| WQ.nil ?_
  refine ch h rfl ?_ ?_ <;> intro h
  ·refine att 4 [] rfl ?_
   exact rt hF h
  refine att 7 [] rfl ?_
  exact lb [] [] (ih1 _ h)
 refine att 5 [] rfl ?_
 exact rt hF h
theorem m_l_FnDefsRead_ok (w0 : Base Ψ Φ []) (p0 : (List Int)) (hT : Tab Ψ) (ph0 : RSl (RI .u8) 1 Ψ pG0 pv0 p0) {r : Bool} (h : m_l_FnDefsRead N p0 = some r) :
  CB w0 prog 5 [pv0] (.bool r) := by
 refine eN func5 rfl ntmps5 rfl w0 fun hF => ?_
 unfold m_l_FnDefsRead at h
 refine atr 8 [] rfl <| qd h (m_l_big_ok N · p0 ph0 ·) rfl rfl rfl fun x1 h => en ?_
 refine ch h rfl ?_ ?_ <;> intro h
 ·refine att 4 [] rfl ?_
  exact rt hF h
 refine atr 4 [] rfl <| qd h (m_s_DrawParseDef_ok N · p0 ph0 ·) rfl rfl rfl fun x2 h => arr 5 [] rfl <| kab h rfl rfl rfl (fun b z q => m_i_ParseDef_ok N b x2 (hT.y z) q) ?_
 rintro x3 h v1 Φ_1 F1 ⟨ap1, fr1, v2, D1, rfl, rfl, h1⟩
 refine arr 3 [] rfl <| lnz Zr_38 rfl fun b_1 => soN 0 Sz_38 rfl ⟨rfl, h1.one, trivial⟩ rfl ?_
 refine arr 5 [] rfl <| kab h rfl rfl rfl (fun b z q => m_s_ParseDef_ok N b x2 q) ?_
 rintro x4 h v3 Φ_2 F2 ⟨ap2, fr2, v4, D2, rfl, rfl, h2⟩
 replace h1 := h1.fr fr2 (ap2.q 0 rfl) (ap2.q 1 rfl)
 refine arr 3 [] rfl <| lnz Zr_38 rfl fun b_2 => soN 0 Sz_38 rfl ⟨rfl, h2.one, trivial⟩ rfl ?_
 refine arr 7 [] rfl <| lq (q_bne Bo_4 rfl rfl) rfl <| la rfl ?_
 obtain ⟨b1, hb_1, h⟩ := bs h
 refine WL.cutN 3 [(32, .bool b1), (3, .string x2), (4, pQ b_1), (5, .bool x3.2), (7, .bool x4.2)] ?_ (fun K => ?_)
 rotate_left
 ·refine sp 29 hb_1 rfl (fun hb_1 => ?_) fun hb_1 => ?_
  ·refine arr 3 [] rfl ?_
   cases hb_1
   exact ku K
  ·refine arr 3 [] rfl ?_
   cases hb_1
   exact ku K
 refine en ?_
 refine ch h rfl ?_ ?_ <;> intro h
 ·refine atr 4 [] rfl <| lq (q_beq Bo_4 rfl rfl) rfl <| la rfl ?_
  obtain ⟨b2, hb_2, h⟩ := bs h
  refine WL.cutN 5 [(41, .bool b2)] ?_ (fun K => ?_)
  rotate_left
  ·refine sp 36 hb_2 rfl (fun hb_2 => ?_) fun hb_2 => ?_
   ·refine arr 2 [1, 32] rfl <| ly rfl rfl <| lno h1 rfl <| arr 2 [] rfl ?_
    cases hb_2
    exact ku K
   ·refine arr 5 [] rfl ?_
    cases hb_2
    exact ku K
  refine la rfl <| en ?_
  exact rt hF h
 refine atr 4 [] rfl <| kab h rfl rfl rfl (fun b z q => m_i_Lex_ok N b x2 (hT.y z) q) ?_
 rintro x5 h v5 Φ_3 F3 ⟨ap3, fr3, v6, rfl, rfl, h3⟩
 replace h1 := h1.fr fr3 (ap3.q 2 rfl) (ap3.q 3 rfl)
 refine arr 9 [34] rfl <| qz h (fun b z q => m_i_DefText_ok N b x3.1 (hT.y z) (h1.rslG OTRule.gives) q) rfl rfl rfl fun x6 h => kab h rfl rfl rfl (fun b z q => m_i_Lex_ok N b x6 (hT.y z) q) ?_
 rintro x7 h v7 Φ_4 F4 ⟨ap4, fr4, v8, rfl, rfl, h4⟩
 replace h1 := h1.fr fr4 (ap4.q 3 rfl) (ap4.q 4 rfl)
 replace h3 := h3.fr fr4 (ap4.q 0 rfl) dN
 refine arr 9 [34] rfl <| qc h (m_i_DefOk_ok N · x3.1 (h1.rslG OTRule.gives) ·) rfl rfl rfl fun x8 h => la rfl ?_
 obtain ⟨b3, hb_3, h⟩ := bs h
 refine WL.cutN 3 [(58, .bool b3), (8, v6), (10, v8)] ?_ (fun K => ?_)
 rotate_left
 ·refine sp 55 hb_3 rfl (fun hb_3 => ?_) fun hb_3 => ?_
  ·refine arr 3 [] rfl ?_
   cases hb_3
   exact ku K
  ·refine arr 3 [] rfl ?_
   cases hb_3
   exact ku K
 refine la rfl ?_
 obtain ⟨b4, hb_4, h⟩ := bs h
 refine WL.cutN 4 [(63, .bool b4)] ?_ (fun K => ?_)
 rotate_left
 ·refine sp 59 hb_4 rfl (fun hb_4 => ?_) fun hb_4 => ?_
  ·refine arr 2 [] rfl <| ly rfl rfl <| qc hb_4 (m_l_sameTokens_ok N · x5.1 x7.1 h3.rsl h4.rsl ·) rfl rfl rfl fun x9 hb_4 => la rfl ?_
   cases hb_4
   exact ku K
  ·refine arr 4 [] rfl ?_
   cases hb_4
   exact ku K
 refine la rfl <| en ?_
 exact rt hF h
end Go.Proofs.YteipbimepilcfaaGreatDoor
