/- Printed by a program of ours: each Go function computes its Lean function. -/
import Derived.Test.YtdihjeeniojdmaaGreatProg
import Derived.Test.YtdihjeeniojdmaaGreatWExactMemOfWalk4
namespace Go.Proofs.YtdihjeeniojdmaaGreat
open Eng Tryz
open Go.RowKit (Below)
set_option linter.unusedVariables false
set_option linter.unusedSimpArgs false

set_option maxRecDepth 100000
set_option maxHeartbeats 1000000
variable {Ψ Φ : Hp} {pv0_0 pv0_1 pv1_0 pv0 pv0_2 pv1 : Value} {pG0_0 pG0_1 pG1_0 pG0 pG0_2 pG1 : List Nat} (N : Nat)
theorem m_i_netIn_ok (w0 : Base Ψ Φ []) (p0 : TDef) (ph0_0 : RSl RTRule 5 Ψ pG0_0 pv0_0 p0.Rules) {r : TNet} (h : m_i_netIn N p0 = some r) :
  Calls prog 120 [.agg [.string p0.Name, pv0_0].toArray].toArray w0.w (PostG Φ w0.w [] (fun Φ' Fs v => ∃ (sr_0_0 : Value) (Dr_0_0 : List Nat) (sr_0_1 : Value) (Dr_0_1 : List Nat), v = .agg [sr_0_0, sr_0_1].toArray ∧ Fs = [ob sr_0_0, Dr_0_0, ob sr_0_1, Dr_0_1] ∧ OSl OTAlpha 171 4 Φ' Dr_0_0 sr_0_0 r.Alphas ∧ OSl OTChain 175 2 Φ' Dr_0_1 sr_0_1 r.Chains)) := by
 refine eN func120 rfl ntmps120 rfl w0 fun hF => ?_
 unfold m_i_netIn at h
 refine sr <| lbx rfl fun b_1 => lnz Zr_52 rfl fun b_2 => en <| sr <| lnz Zr_52 rfl fun b_3 => arr 6 [1, 64] rfl <| lnr ph0_0 rfl <| art 3 [] rfl <| wtS <| wt0 ?_
 have k1 := OSl.nil OTAlpha 171 4 Φ
 refine wtS <| wt0 ?_
 have k2 := OSl.nil OTChain 175 2 Φ
 refine lin (σ := Hp × (List TAlpha) × Value × List Nat × (List TChain) × Value × List Nat × Int) (fun s => [(2, pQ b_2), (3, pQ b_3), (11, pv0_0), (12, iV (p0.Rules.length : Int)), (13, iV s.2.2.2.2.2.2.2)]) (fun s => St w0 s.1 [(b_3, .cells #[s.2.2.1, s.2.2.2.2.2.1] 52 (0, 0)), (b_2, .cells #[.slice none 0 0, .slice none 0 0] 52 (0, 0))] [s.2.2.2.2.2.2.1, ob s.2.2.2.2.2.1, s.2.2.2.1, ob s.2.2.1]) (fun m s => m_i_netIn_l1 N p0 m s.2.1 s.2.2.2.2.1 s.2.2.2.2.2.2.2 = some r ∧ (OSl OTAlpha 171 4 s.1 s.2.2.2.1 s.2.2.1 s.2.1) ∧ (OSl OTChain 175 2 s.1 s.2.2.2.2.2.2.1 s.2.2.2.2.2.1 s.2.2.2.2.1)) (Φ, ([] : List TAlpha), (.slice none 0 0), [], ([] : List TChain), (.slice none 0 0), [], 0) N ⟨h, k1, k2⟩ (sx [0, 0, 0, 0] [0, 0]) (fun n1 ih1 s hm => ?_)
 obtain ⟨Φ_1, s1, u1, D1, s2, u2, D2, s3⟩ := s
 obtain ⟨h, k3, k4⟩ := hm
 dsimp only at h k3 k4 ⊢
 unfold m_i_netIn_l1 at h
 refine att 5 [] rfl ?_
 refine ch h rfl ?_ ?_ <;> intro h
 ·refine atr 5 [] rfl ?_
  obtain ⟨x1, hx1, h⟩ := bs h
  obtain ⟨cs1, F1, -, g1, hb1, hs1, r1⟩ := ph0_0.el (idx_some hx1).2.2
  obtain ⟨v1, G1, v2, G2, v3, G3, rfl, rfl, h1, h2, h3⟩ := r1
  refine lia ph0_0 hx1 rfl <| lhx 0 5 g1 rfl <| lnz Zr_183 rfl fun b_4 => soN 0 Sz_183 rfl ⟨rfl, rfl, h1.one, h2.one, h3.one, trivial⟩ rfl ?_
  refine en <| sr <| lnz Zr_175 rfl fun b_5 => arr 6 [2, 32] rfl <| lnr h1 rfl <| art 3 [] rfl <| wtS ?_
  have k5 := OSl.nil (RI .i64) 3 1 Φ_1
  refine wtS ?_
  have k6 := OSl.nil (RI .i64) 3 1 Φ_1
  refine lin (σ := Hp × (List TAlpha) × Value × List Nat × (List Int) × Value × (List Int) × Value × Int) (fun s => [(2, pQ b_2), (3, pQ b_3), (6, pQ b_5), (11, pv0_0), (12, iV (p0.Rules.length : Int)), (13, iV s3), (18, v1), (19, iV (x1.Pats.length : Int)), (20, iV s.2.2.2.2.2.2.2.2)]) (fun s => St w0 s.1 [(b_5, .cells #[s.2.2.2.2.2.2.2.1, s.2.2.2.2.2.1] 175 (0, 0)), (b_3, .cells #[s.2.2.1, u2] 52 (0, 0)), (b_2, .cells #[.slice none 0 0, .slice none 0 0] 52 (0, 0))] [ob s.2.2.2.2.2.2.2.1, ob s.2.2.2.2.2.1, D2, ob u2, s.2.2.2.1, ob s.2.2.1]) (fun m s => m_i_netIn_l2 N s2 s3 (m_i_netIn_l1 N p0 n1) x1 m s.2.1 s.2.2.2.2.1 s.2.2.2.2.2.2.1 s.2.2.2.2.2.2.2.2 = some r ∧ (OSl OTAlpha 171 4 s.1 s.2.2.2.1 s.2.2.1 s.2.1) ∧ (OSl OTChain 175 2 s.1 D2 u2 s2) ∧ (OSl (RI .i64) 3 1 s.1 [] s.2.2.2.2.2.1 s.2.2.2.2.1) ∧ (OSl (RI .i64) 3 1 s.1 [] s.2.2.2.2.2.2.2.1 s.2.2.2.2.2.2.1)) (Φ_1, s1, u1, D1, ([] : List Int), (.slice none 0 0), ([] : List Int), (.slice none 0 0), 0) N ⟨h, k3, k4, k5, k6⟩ (sx [0, 0, 0, 0, 0, 0] [0, 1, 1]) (fun n2 ih2 s hm => ?_)
  obtain ⟨Φ_2, s4, u3, D3, s5, u4, s6, u5, s7⟩ := s
  obtain ⟨h, k7, k4, k8, k9⟩ := hm
  dsimp only at h k7 k4 k8 k9 ⊢
  unfold m_i_netIn_l2 at h
  refine att 5 [] rfl ?_
  refine ch h rfl ?_ ?_ <;> intro h
  ·refine atr 5 [] rfl ?_
   obtain ⟨x2, hx2, h⟩ := bs h
   obtain ⟨cs2, F2, -, g2, hb2, hs2, r2⟩ := h1.el (idx_some hx2).2.2
   obtain ⟨v4, G4, rfl, hq1, h4⟩ := r2
   obtain rfl := hq1.symm
   refine lia h1 hx2 rfl <| lhx 0 3 g2 rfl <| lnz Zr_265 rfl fun b_6 => soN 0 Sz_265 rfl ⟨rfl, h4.one, rfl, trivial⟩ rfl ?_
   refine arr 4 [3] rfl ?_
   refine WL.frz (js := [2]) (R := [(b_6, .cells #[.string x2.Kind, v4, .bool x2.Not] 265 (0, 0)), (b_5, .cells #[u5, u4] 175 (0, 0)), (b_2, .cells #[.slice none 0 0, .slice none 0 0] 52 (0, 0))]) rfl (fun Φ_3 fr1 k10 => ?_)
   replace k7 := k7.f0 fr1
   replace k4 := k4.f0 fr1
   replace k8 := k8.f0 fr1
   replace k9 := k9.f0 fr1
   refine kcb [0, 5, 4] h rfl rfl rfl rfl (fun b ap z q => m_i_Net_alphaAt_ok N b (⟨s4, s2⟩ : TNet) x2 k7 ((k4.rslG OTChain.gives).x (Dj.app (ap.q 3 rfl) (ap.q 2 rfl))) k10 (h4.y z) q) ?_
   rintro x3 h v5 Φ_4 F3 ⟨ap1, fr2, v6, D4, rfl, rfl, h5, e1, h6⟩
   replace k4 := k4.fr fr2 (ap1.q 3 rfl) (ap1.q 2 rfl)
   replace k8 := k8.fr fr2 (ap1.q 1 rfl) dN
   replace k9 := k9.fr fr2 (ap1.q 0 rfl) dN
   refine art 7 [2, 0] rfl ?_
   refine ch h rfl ?_ ?_ <;> intro h
   ·refine atr 4 [1, 32] rfl ?_
    have rc1 : RC (RI .i64) 1 Φ_4 ([[]] : List (List Nat)) [iV x3.1] ([x3.1] : List Int) := RC.cons (c := [iV x3.1]) (cells := []) ⟨rfl, rfl⟩ rfl (RC.nil _ _ _)
    refine le' (e_lit (vs := [(0, iV x3.1)]) (C := #[iV x3.1]) RI.lasts Sl_75 Zr_3 rfl rfl rfl rfl (fill_made MC_3_1 (fill_cons (C' := [iV x3.1]) rfl rfl rfl rfl rfl (fill_nil))) rfl rc1 rfl (by simpa using Kw.nil)) rfl ?_
    rintro v7 Φ_5 D5 ⟨fr3, h7⟩
    replace h7 : OSl (RI .i64) 3 1 Φ_5 [] v7 ([x3.1] : List Int) := by simpa using h7
    replace k4 := k4.f0 fr3
    replace k8 := k8.f0 fr3
    replace k9 := k9.f0 fr3
    replace h5 := h5.f0 fr3
    replace h6 := fr3 _ _ (by simp) h6
    obtain ⟨x4, hx4, h⟩ := bs h
    refine le' (e_appF RI.lasts RI.one RI.flat Sl_75 Ei_3 rfl rfl rfl rfl rfl (js := [5]) (Rr := [ob v7, [b_3], ob v6, D4, ob u5, D2, ob u2]) rfl k8 h7.rsl hx4) rfl ?_
    rintro v8 Φ_6 D6 ⟨⟨ap2, fr4⟩, h8⟩
    replace k4 := k4.fr fr4 (ap2.q 6 rfl) (ap2.q 5 rfl)
    replace k9 := k9.fr fr4 (ap2.q 4 rfl) dN
    replace h5 := h5.fr fr4 (ap2.q 2 rfl) (ap2.q 3 rfl)
    replace h6 := fr4 _ _ ((ap2.q 1 rfl) _ (by simp)) h6
    refine lf Fld_175_1 rfl rfl rfl <| so1 1 Sz_75 rfl h8.one ?_
    refine art 6 [] rfl ?_
    refine WT.thw (js := [2]) (R := [ob v8, ob v7, ob v6, D4, ob u5, D2, ob u2]) rfl h6 (fun Φ_7 ap3 fr5 => ?_)
    replace k4 := k4.fr fr5 (ap3.q 6 rfl) (ap3.q 5 rfl)
    replace h8 := h8.fr fr5 (ap3.q 0 rfl) dN
    replace k9 := k9.fr fr5 (ap3.q 4 rfl) dN
    replace h5 := h5.fr fr5 (ap3.q 2 rfl) (ap3.q 3 rfl)
    exact lb [4, 0, 3, 3, 2, 1] [2, 0, 1] (ih2 (_, _, _, _, _, _, _, _, _) ⟨h, h5, k4, h8, k9⟩)
   refine atr 4 [0, 32] rfl ?_
   have rc2 : RC (RI .i64) 1 Φ_4 ([[]] : List (List Nat)) [iV x3.1] ([x3.1] : List Int) := RC.cons (c := [iV x3.1]) (cells := []) ⟨rfl, rfl⟩ rfl (RC.nil _ _ _)
   refine le' (e_lit (vs := [(0, iV x3.1)]) (C := #[iV x3.1]) RI.lasts Sl_75 Zr_3 rfl rfl rfl rfl (fill_made MC_3_1 (fill_cons (C' := [iV x3.1]) rfl rfl rfl rfl rfl (fill_nil))) rfl rc2 rfl (by simpa using Kw.nil)) rfl ?_
   rintro v9 Φ_8 D7 ⟨fr6, h9⟩
   replace h9 : OSl (RI .i64) 3 1 Φ_8 [] v9 ([x3.1] : List Int) := by simpa using h9
   replace k4 := k4.f0 fr6
   replace k8 := k8.f0 fr6
   replace k9 := k9.f0 fr6
   replace h5 := h5.f0 fr6
   replace h6 := fr6 _ _ (by simp) h6
   obtain ⟨x5, hx5, h⟩ := bs h
   refine le' (e_appF RI.lasts RI.one RI.flat Sl_75 Ei_3 rfl rfl rfl rfl rfl (js := [4]) (Rr := [ob v9, [b_3], ob v6, D4, ob u4, D2, ob u2]) rfl k9 h9.rsl hx5) rfl ?_
   rintro v10 Φ_9 D8 ⟨⟨ap4, fr7⟩, h10⟩
   replace k4 := k4.fr fr7 (ap4.q 6 rfl) (ap4.q 5 rfl)
   replace k8 := k8.fr fr7 (ap4.q 4 rfl) dN
   replace h5 := h5.fr fr7 (ap4.q 2 rfl) (ap4.q 3 rfl)
   replace h6 := fr7 _ _ ((ap4.q 1 rfl) _ (by simp)) h6
   refine lf Fld_175_0 rfl rfl rfl <| so1 1 Sz_75 rfl h10.one ?_
   refine art 6 [] rfl ?_
   refine WT.thw (js := [2]) (R := [ob v10, ob v9, ob v6, D4, ob u4, D2, ob u2]) rfl h6 (fun Φ_10 ap5 fr8 => ?_)
   replace k4 := k4.fr fr8 (ap5.q 6 rfl) (ap5.q 5 rfl)
   replace k8 := k8.fr fr8 (ap5.q 4 rfl) dN
   replace h10 := h10.fr fr8 (ap5.q 0 rfl) dN
   replace h5 := h5.fr fr8 (ap5.q 2 rfl) (ap5.q 3 rfl)
   exact lb [0, 3, 3, 3, 2, 1] [2, 0, 1] (ih2 (_, _, _, _, _, _, _, _, _) ⟨h, h5, k4, k8, h10⟩)
  refine atr 5 [1, 32, 2] rfl ?_
  have rc3 : RC OTChain 2 Φ_2 ([(ob u5 ++ []) ++ ((ob u4 ++ []))] : List (List Nat)) [u5, u4] ([(⟨s6, s5⟩ : TChain)] : List TChain) := RC.cons (c := [u5, u4]) (cells := []) ⟨u5, u4, rfl, rfl, k9, k8⟩ rfl (RC.nil _ _ _)
  refine le' (e_lit (vs := [(0, .agg [u5, u4].toArray)]) (C := #[u5, u4]) OTChain.lasts Sl_50 Zr_175 rfl rfl rfl rfl (fill_made MC_175_1 (fill_cons (C' := [u5, u4]) rfl rfl rfl rfl rfl (fill_nil))) rfl rc3 rfl (RC.kn OTChain.knows rc3)) rfl ?_
  rintro v11 Φ_11 D9 ⟨fr9, h11⟩
  replace h11 : OSl OTChain 175 2 Φ_11 ((ob u5 ++ []) ++ ((ob u4 ++ []))) v11 ([(⟨s6, s5⟩ : TChain)] : List TChain) := by simpa [List.append_assoc] using h11
  replace k7 := k7.f0 fr9
  replace k4 := k4.f0 fr9
  refine wlL [((ob u5 ++ []) ++ ((ob u4 ++ []))), ob v11, D2, ob u2, D3, ob u3] (smg [1, 1] rfl (SP.eq (by simp [List.append_assoc, ob_nil]))) ?_
  obtain ⟨x6, hx6, h⟩ := bs h
  refine le' (e_appO OTChain.lasts OTChain.one Sl_50 Ei_175 rfl rfl rfl rfl rfl (js := [3]) (Rr := [((ob u5 ++ []) ++ ((ob u4 ++ []))), ob v11, D2, D3, ob u3]) rfl k4 h11 (fun ap => ap.q 2 rfl) (fun ap => ap.q 0 rfl) hx6) rfl ?_
  rintro v12 Φ_12 D10 ⟨⟨ap6, fr10⟩, h12⟩
  replace k7 := k7.fr fr10 (ap6.q 4 rfl) (ap6.q 3 rfl)
  refine wlL [(D2 ++ ((ob u5 ++ []) ++ ((ob u4 ++ [])))), ob v12, ob v11, D3, ob u3] (smg [3, 1] rfl (SP.eq (by simp))) <| lf Fld_52_1 rfl rfl rfl <| so1 1 Sz_50 rfl h12.one ?_
  refine art 6 [] rfl ?_
  exact lb [0, 0, 1, 1] [1, 1] (ih1 (_, _, _, _, _, _, _, _) ⟨h, k7, h12⟩)
 refine atr 4 [2] rfl <| soN 1 Sz_52 rfl ⟨k3.one, k4.one, trivial⟩ rfl ?_
 refine en ?_
 exact rtg [3, 2, 1, 0] hF (resOk.one (rv_cell Tn_52 rfl (fun w1 hw => hw.rgO (i := 1) rfl 0 2 [u1, u2] rfl) rfl)) rfl (by cases h; exact fun w1 hw => ⟨u1, D1, u2, D2, rfl, rfl, k3, k4⟩)
theorem m_i_MemNew_ok (w0 : Base Ψ Φ []) (p0 : TNet) (ph0_0 : RSl RTAlpha 4 Ψ pG0_0 pv0_0 p0.Alphas) (ph0_1 : RSl RTChain 2 Ψ pG0_1 pv0_1 p0.Chains) {r : TMem} (h : m_i_MemNew N p0 = some r) :
  Calls prog 217 [.agg [pv0_0, pv0_1].toArray].toArray w0.w (PostG Φ w0.w [] (fun Φ' Fs v => ∃ (sr_0_0 : Value) (Dr_0_0 : List Nat) (sr_0_1 : Value) (Dr_0_1 : List Nat), v = .agg [sr_0_0, sr_0_1].toArray ∧ Fs = [ob sr_0_0, Dr_0_0, ob sr_0_1, Dr_0_1] ∧ OSl OTIds 77 1 Φ' Dr_0_0 sr_0_0 r.Alphas ∧ OSl OTRow 152 1 Φ' Dr_0_1 sr_0_1 r.Rules)) := by
 refine eN func217 rfl ntmps217 rfl w0 fun hF => ?_
 unfold m_i_MemNew at h
 refine sr <| lbx rfl fun b_1 => lnz Zr_43 rfl fun b_2 => arr 5 [0, 32] rfl <| lnr ph0_0 rfl ?_
 obtain ⟨x1, hx1, h⟩ := bs h
 refine le' (e_make (R := OTIds) Sl_40 Zr_77 By_77 rfl rfl rfl (fun _ => ⟨.slice none 0 0, rfl, rfl, OSl.nil _ _ _ _⟩) rfl rfl (Int.le_refl _) hx1 (mk_le hx1)) rfl ?_
 rintro v1 Φ_1 D1 ⟨fr1, h1⟩
 refine wl0 <| lq (q_build (vs := [(0, v1)]) (C := #[v1, .slice none 0 0]) Pl_43 Zr_43 rfl (fill_cons (C' := [v1, .slice none 0 0]) rfl (one_cells h1.one) rfl rfl rfl (fill_nil))) rfl <| lnz Zr_43 rfl fun b_3 => soN 0 Sz_43 rfl ⟨h1.one, rfl, trivial⟩ rfl ?_
 refine arr 6 [1, 64] rfl <| lnr ph0_1 rfl <| art 3 [] rfl <| wtS <| wt0 ?_
 have k1 := OSl.nil OTRow 152 1 Φ_1
 refine lin (σ := Hp × (List TRow) × Value × List Nat × Int) (fun s => [(2, pQ b_2), (3, pQ b_3), (12, pv0_1), (13, iV (p0.Chains.length : Int)), (14, iV s.2.2.2.2)]) (fun s => St w0 s.1 [(b_3, .cells #[v1, s.2.2.1] 43 (0, 0)), (b_2, .cells #[.slice none 0 0, .slice none 0 0] 43 (0, 0))] [s.2.2.2.1, ob s.2.2.1, [], ob v1]) (fun m s => m_i_MemNew_l1 N p0 x1 m s.2.1 s.2.2.2.2 = some r ∧ (OSl OTIds 77 1 s.1 [] v1 x1) ∧ (OSl OTRow 152 1 s.1 s.2.2.2.1 s.2.2.1 s.2.1)) (Φ_1, ([] : List TRow), (.slice none 0 0), [], 0) N ⟨h, h1, k1⟩ (sx [0, 0, 0, 0] [0, 0]) (fun n1 ih1 s hm => ?_)
 obtain ⟨Φ_2, s1, u1, D2, s2⟩ := s
 obtain ⟨h, h1, k2⟩ := hm
 dsimp only at h h1 k2 ⊢
 unfold m_i_MemNew_l1 at h
 refine att 5 [] rfl ?_
 refine ch h rfl ?_ ?_ <;> intro h
 ·refine atr 5 [] rfl ?_
  obtain ⟨x2, hx2, h⟩ := bs h
  obtain ⟨cs1, F1, -, g1, hb1, hs1, r1⟩ := ph0_1.el (idx_some hx2).2.2
  obtain ⟨v2, G1, v3, G2, rfl, rfl, h2, h3⟩ := r1
  refine lia ph0_1 hx2 rfl <| lhx 0 2 g1 rfl <| lnz Zr_175 rfl fun b_4 => soN 0 Sz_175 rfl ⟨h2.one, h3.one, trivial⟩ rfl ?_
  refine en <| wm [0, 1, 2] [10] rfl <| amm 4 [0, 1, 1, 32, 2, 0, 3, 0] [0, 1, 2] rfl rfl <| mq 4 rfl (by kernel_rfl) (kN [0, 1, 2]) (q_lenR Sl_75 rfl rfl h2) rfl ?_
  obtain ⟨x3, hx3, h⟩ := bs h
  refine WM.one 5 (by kernel_rfl) (me rfl (fun _ v Φx D w1 hq hw => Kn.of Kf.nil (ai3 0 1 2 rfl rfl rfl) hw) (e_make (R := OTLevel) Sl_150 Zr_156 By_156 rfl rfl rfl (fun _ => ⟨.slice none 0 0, [], rfl, rfl, OSl.nil _ _ _ _⟩) rfl rfl (Int.le_refl _) hx3 (mk_le hx3)) rfl ?_)
  rintro v4 Φ_3 D3 ⟨fr2, h4⟩
  replace h1 := h1.f0 fr2
  replace k2 := k2.f0 fr2
  refine WM.conv (S' := St w0 Φ_3 [(b_4, .cells #[v2, v3] 175 (0, 0)), (b_3, .cells #[v1, u1] 43 (0, 0)), (b_2, .cells #[.slice none 0 0, .slice none 0 0] 43 (0, 0))] ([] :: [ob v4, D2, ob u1, [], ob v1])) (fun w1 hw => hw.addNil) <| mq 6 rfl (by kernel_rfl) (kN [0, 1, 2]) (q_build (vs := [(0, v4)]) (C := #[v4]) Pl_152 Zr_152 rfl (fill_cons (C' := [v4]) rfl (one_cells h4.one) rfl rfl rfl (fill_nil))) rfl ?_
  have rc1 : RC OTRow 1 Φ_3 ([(ob v4 ++ [])] : List (List Nat)) [v4] ([(⟨x3⟩ : TRow)] : List TRow) := RC.cons (c := [v4]) (cells := []) ⟨v4, [], rfl, rfl, h4⟩ rfl (RC.nil _ _ _)
  refine WM.one 7 (by kernel_rfl) (me rfl (fun _ v Φx D w1 hq hw => Kn.of Kf.nil (ai3 0 1 2 rfl rfl rfl) hw) (e_lit (vs := [(0, .agg [v4].toArray)]) (C := #[v4]) OTRow.lasts Sl_41 Zr_152 rfl rfl rfl rfl (fill_made MC_152_1 (fill_cons (C' := [v4]) rfl rfl rfl rfl rfl (fill_nil))) rfl rc1 rfl (RC.kn OTRow.knows rc1)) rfl ?_)
  rintro v5 Φ_4 D4 ⟨fr3, h5⟩
  replace h5 : OSl OTRow 152 1 Φ_4 ((ob v4 ++ [])) v5 ([(⟨x3⟩ : TRow)] : List TRow) := by simpa [List.append_assoc] using h5
  replace h1 := h1.f0 fr3
  replace k2 := k2.f0 fr3
  refine WM.conv (S' := St w0 Φ_4 [(b_4, .cells #[v2, v3] 175 (0, 0)), (b_3, .cells #[v1, u1] 43 (0, 0)), (b_2, .cells #[.slice none 0 0, .slice none 0 0] 43 (0, 0))] [((ob v4 ++ [])), ob v5, D2, ob u1, [], ob v1]) (fun w1 hw => hw.merge (js := [2, 1]) rfl (SP.eq (by simp [List.append_assoc, ob_nil]))) ?_
  obtain ⟨x4, hx4, h⟩ := bs h
  refine WM.one 8 (by kernel_rfl) (me rfl (fun _ v Φx D w1 hq hw => Kn.of Kf.nil (ai3 0 1 2 rfl rfl rfl) hw) (e_appO OTRow.lasts OTRow.one Sl_41 Ei_152 rfl rfl rfl rfl rfl (js := [3]) (Rr := [((ob v4 ++ [])), ob v5, D2, [], ob v1]) rfl k2 h5 (fun ap => ap.q 2 rfl) (fun ap => ap.q 0 rfl) hx4) rfl ?_)
  rintro v6 Φ_5 D5 ⟨⟨ap1, fr4⟩, h6⟩
  replace h1 := h1.fr fr4 (ap1.q 4 rfl) dN
  refine WM.conv (S' := St w0 Φ_5 [(b_4, .cells #[v2, v3] 175 (0, 0)), (b_3, .cells #[v1, u1] 43 (0, 0)), (b_2, .cells #[.slice none 0 0, .slice none 0 0] 43 (0, 0))] [(D2 ++ ((ob v4 ++ []))), ob v6, ob v5, [], ob v1]) (fun w1 hw => hw.merge (js := [3, 1]) rfl (SP.eq (by simp))) <| amm 1 [9, 1] [0, 1, 2] rfl rfl ?_
  refine on1 10 (ms1 1 rfl nk Sz_41 rfl h6.one ?_)
  refine WM.nil (by kernel_rfl) <| att 5 [] rfl ?_
  exact lb [0, 0, 1, 1] [1, 1] (ih1 (_, _, _, _, _) ⟨h, h1, h6⟩)
 refine atr 4 [2] rfl <| soN 1 Sz_43 rfl ⟨h1.one, k2.one, trivial⟩ rfl ?_
 refine en ?_
 exact rtg [3, 2, 1, 0] hF (resOk.one (rv_cell Tn_43 rfl (fun w1 hw => hw.rgO (i := 1) rfl 0 2 [v1, u1] rfl) rfl)) rfl (by cases h; exact fun w1 hw => ⟨v1, [], u1, D2, rfl, rfl, h1, k2⟩)
theorem m_i_memIn_ok (w0 : Base Ψ Φ []) (p0 : TDef) (p1 : TStore) (ph0_0 : RSl RTRule 5 Ψ pG0_0 pv0_0 p0.Rules) (ph1_0 : RSl RTItem 3 Ψ pG1_0 pv1_0 p1.Items) {r : TMem} (h : m_i_memIn N p0 p1 = some r) :
  Calls prog 107 [.agg [.string p0.Name, pv0_0].toArray, .agg [pv1_0, iV p1.Next].toArray].toArray w0.w (PostG Φ w0.w [] (fun Φ' Fs v => ∃ (sr_0_0 : Value) (Dr_0_0 : List Nat) (sr_0_1 : Value) (Dr_0_1 : List Nat), v = .agg [sr_0_0, sr_0_1].toArray ∧ Fs = [ob sr_0_0, Dr_0_0, ob sr_0_1, Dr_0_1] ∧ OSl OTIds 77 1 Φ' Dr_0_0 sr_0_0 r.Alphas ∧ OSl OTRow 152 1 Φ' Dr_0_1 sr_0_1 r.Rules)) := by
 refine eN func107 rfl ntmps107 rfl w0 fun hF => ?_
 unfold m_i_memIn at h
 refine sr <| lbx rfl fun b_1 => lbx rfl fun b_2 => lnz Zr_43 rfl fun b_3 => arr 4 [66] rfl <| kab h rfl rfl rfl (fun b z q => m_i_netIn_ok N b p0 (ph0_0.y z) q) ?_
 rintro x1 h v1 Φ_1 F1 ⟨ap1, fr1, v2, D1, v3, D2, rfl, rfl, h1, h2⟩
 refine lnz Zr_52 rfl fun b_4 => soN 0 Sz_52 rfl ⟨h1.one, h2.one, trivial⟩ rfl ?_
 refine arr 4 [2] rfl <| kab h rfl rfl rfl (fun b z q => m_i_MemNew_ok N b x1 (h1.rslG OTAlpha.gives) (h2.rslG OTChain.gives) q) ?_
 rintro x2 h v4 Φ_2 F2 ⟨ap2, fr2, v5, D3, v6, D4, rfl, rfl, h3, h4⟩
 replace h1 := h1.fr fr2 (ap2.q 0 rfl) (ap2.q 1 rfl)
 replace h2 := h2.fr fr2 (ap2.q 2 rfl) (ap2.q 3 rfl)
 refine lnz Zr_43 rfl fun b_5 => soN 0 Sz_43 rfl ⟨h3.one, h4.one, trivial⟩ rfl ?_
 refine arr 6 [0, 96] rfl <| lnr ph1_0 rfl <| art 3 [] rfl ?_
 refine lin (σ := Hp × (List TIds) × List Nat × (List TRow) × List Nat × Int) (fun s => [(2, pQ b_1), (3, pQ b_2), (4, pQ b_3), (5, pQ b_4), (6, pQ b_5), (14, pv1_0), (15, iV (p1.Items.length : Int)), (16, iV s.2.2.2.2.2)]) (fun s => St w0 s.1 [(b_5, .cells #[v5, v6] 43 (0, 0)), (b_4, .cells #[v2, v3] 52 (0, 0)), (b_3, .cells #[.slice none 0 0, .slice none 0 0] 43 (0, 0)), (b_2, .cells #[pv1_0, iV p1.Next] 57 (0, 0)), (b_1, .cells #[.string p0.Name, pv0_0] 47 (0, 0))] [ob v5, s.2.2.1, ob v6, s.2.2.2.2.1, ob v2, D1, ob v3, D2]) (fun m s => m_i_memIn_l1 N p0 p1 x1 m s.2.1 s.2.2.2.1 s.2.2.2.2.2 = some r ∧ (OSl OTAlpha 171 4 s.1 D1 v2 x1.Alphas) ∧ (OSl OTChain 175 2 s.1 D2 v3 x1.Chains) ∧ (OSl OTIds 77 1 s.1 s.2.2.1 v5 s.2.1) ∧ (OSl OTRow 152 1 s.1 s.2.2.2.2.1 v6 s.2.2.2.1)) (Φ_2, x2.Alphas, D3, x2.Rules, D4, 0) N ⟨h, h1, h2, h3, h4⟩ (sx [0, 0, 0, 0, 0, 0, 0, 0] [0, 0, 0, 0, 0]) (fun n1 ih1 s hm => ?_)
 obtain ⟨Φ_3, s1, D5, s2, D6, s3⟩ := s
 obtain ⟨h, h1, h2, k1, k2⟩ := hm
 dsimp only at h h1 h2 k1 k2 ⊢
 unfold m_i_memIn_l1 at h
 refine att 5 [] rfl ?_
 refine ch h rfl ?_ ?_ <;> intro h
 ·refine atr 6 [] rfl ?_
  obtain ⟨x3, hx3, h⟩ := bs h
  obtain ⟨cs1, F3, -, g1, hb1, hs1, r1⟩ := ph1_0.el (idx_some hx3).2.2
  obtain ⟨v7, G1, rfl, hq1, h5⟩ := r1
  obtain rfl := hq1.symm
  refine lia ph1_0 hx3 rfl <| lhx 0 3 g1 rfl <| lnz Zr_107 rfl fun b_6 => la rfl <| soN 0 Sz_107 rfl ⟨rfl, rfl, h5.one, trivial⟩ rfl ?_
  refine en <| wm [0, 1, 2, 3, 4, 5] [13] rfl <| amm 7 [0, 162, 1, 66, 2, 34, 3, 0, 4, 128, 5, 6] [0, 1, 2, 3, 4, 5] rfl rfl ?_
  obtain ⟨x4, hx4, h⟩ := bs h
  refine mqT 7 [10, 13] rfl (by kernel_rfl) (kN [0, 1, 2, 3, 4, 5]) (q_slH Sl_55 rfl rfl ph1_0 hx4) rfl ?_
  obtain ⟨F4, h6, hs2⟩ := ph1_0.sub hx4
  refine amm 2 [8, 1, 9, 128] [0, 1, 2, 3, 4, 5] rfl rfl <| mq 10 rfl (by kernel_rfl) (kN [0, 1, 2, 3, 4, 5]) (q_build (vs := [(0, (slc pv1_0 (0 : Int).toNat (wz (s3 + 1)).toNat 3)), (1, iV p1.Next)]) (C := #[(slc pv1_0 (0 : Int).toNat (wz (s3 + 1)).toNat 3), iV p1.Next]) Pl_57 Zr_57 rfl (fill_cons (C' := [(slc pv1_0 (0 : Int).toNat (wz (s3 + 1)).toNat 3), iV 0]) rfl (one_cells h6.one) rfl rfl rfl (fill_cons (C' := [(slc pv1_0 (0 : Int).toNat (wz (s3 + 1)).toNat 3), iV p1.Next]) rfl rfl rfl rfl rfl (fill_nil)))) rfl <| amm 2 [11, 0, 12, 0] [0, 1, 2, 3, 4, 5] rfl rfl ?_
  obtain ⟨x5, hx5, h⟩ := bs h
  refine WM.one 13 (by kernel_rfl) (mc rfl (fun hc => by cases hc) (k_call (js := [0, 0, 0, 0]) (R := [ob v2, D1, ob v3, D2]) Fun_109 rfl rfl (fun w1 hw ap hl => m_i_addItem_ok N (bx hw ap hl) p0 x1 (⟨s1, s2⟩ : TMem) (⟨x4, p1.Next⟩ : TStore) x3.Id (ph0_0.y (hw.uo ap)) ((h1.rslG OTAlpha.gives).x (Dj.app (ap.q 0 rfl) (ap.q 1 rfl))) ((h2.rslG OTChain.gives).x (Dj.app (ap.q 2 rfl) (ap.q 3 rfl))) k1 k2 (h6.y (hw.uo ap))  hx5)) rfl ?_)
  rintro v8 Φ_4 F5 ⟨ap3, fr3, D7, D8, rfl, rfl, h7, h8⟩
  replace h1 := h1.fr fr3 (ap3.q 0 rfl) (ap3.q 1 rfl)
  replace h2 := h2.fr fr3 (ap3.q 2 rfl) (ap3.q 3 rfl)
  refine WM.nil (by kernel_rfl) <| att 5 [] rfl ?_
  exact lb [0, 0, 0, 0, 0, 0, 0, 0] [1, 1, 1, 1, 1] (ih1 (_, _, _, _, _, _) ⟨h, h1, h2, h7, h8⟩)
 refine atr 4 [2] rfl <| soN 2 Sz_43 rfl ⟨k1.one, k2.one, trivial⟩ rfl ?_
 refine en ?_
 exact rtg [0, 0, 0, 0] hF (resOk.one (rv_cell Tn_43 rfl (fun w1 hw => hw.rgO (i := 2) rfl 0 2 [v5, v6] rfl) rfl)) rfl (by cases h; exact fun w1 hw => ⟨v5, D5, v6, D6, rfl, rfl, k1, k2⟩)
theorem m_i_MemOf_ok (w0 : Base Ψ Φ []) (p0 : TDef) (p1 : TStore) (ph0_0 : RSl RTRule 5 Ψ pG0_0 pv0_0 p0.Rules) (ph1_0 : RSl RTItem 3 Ψ pG1_0 pv1_0 p1.Items) {r : TMem} (h : m_i_MemOf N p0 p1 = some r) :
  Calls prog 48 [.agg [.string p0.Name, pv0_0].toArray, .agg [pv1_0, iV p1.Next].toArray].toArray w0.w (PostG Φ w0.w [] (fun Φ' Fs v => ∃ (sr_0_0 : Value) (Dr_0_0 : List Nat) (sr_0_1 : Value) (Dr_0_1 : List Nat), v = .agg [sr_0_0, sr_0_1].toArray ∧ Fs = [ob sr_0_0, Dr_0_0, ob sr_0_1, Dr_0_1] ∧ OSl OTIds 77 1 Φ' Dr_0_0 sr_0_0 r.Alphas ∧ OSl OTRow 152 1 Φ' Dr_0_1 sr_0_1 r.Rules)) := by
 refine eN func48 rfl ntmps48 rfl w0 fun hF => ?_
 unfold m_i_MemOf at h
 refine sr <| lbx rfl fun b_1 => lbx rfl fun b_2 => lnz Zr_43 rfl fun b_3 => arr 5 [66] rfl <| qd h (m_i_DefOk_ok N · p0 ph0_0 ·) rfl rfl rfl fun x1 h => arr 2 [] rfl ?_
 obtain ⟨b1, hb_1, h⟩ := bs h
 refine WL.cutN 4 [(12, .bool b1), (2, pQ b_1), (3, pQ b_2), (4, pQ b_3)] ?_ (fun K => ?_)
 rotate_left
 ·refine sp 8 hb_1 rfl (fun hb_1 => ?_) fun hb_1 => ?_
  ·refine arr 4 [] rfl ?_
   cases hb_1
   exact ku K
  ·refine ly rfl rfl <| ld2 Tn_57 1 rfl <| ly rfl rfl <| qd hb_1 (m_i_StoreOk_ok N · p1 ph1_0 ·) rfl rfl rfl fun x2 hb_1 => arr 2 [] rfl ?_
   cases hb_1
   exact ku K
 refine en ?_
 refine ch h rfl ?_ ?_ <;> intro h
 ·refine sr <| lq (q_build (vs := []) (C := #[.slice none 0 0, .slice none 0 0]) Pl_43 Zr_43 rfl (fill_nil)) rfl <| soN 0 Sz_43 rfl ⟨rfl, rfl, trivial⟩ rfl ?_
  refine en ?_
  refine WT.ret hF (resOk.one (rv_cell Tn_43 rfl (fun w1 hw => hw.rgO (i := 0) rfl 0 2 [.slice none 0 0, .slice none 0 0] rfl) rfl)) (fun w1 hw => ?_)
  cases h
  replace hw := hw.addNil
  replace hw := hw.addNil
  replace hw := hw.addNil
  replace hw := hw.addNil
  refine postG_of_St (js := [3, 2, 1, 0]) hw rfl ⟨.slice none 0 0, [], .slice none 0 0, [], rfl, rfl, OSl.nil _ _ _ _, OSl.nil _ _ _ _⟩
 refine atr 5 [66, 34] rfl <| kab h rfl rfl rfl (fun b z q => m_i_memIn_ok N b p0 p1 (ph0_0.y z) (ph1_0.y z) q) ?_
 rintro x3 h v1 Φ_1 F1 ⟨ap1, fr1, v2, D1, v3, D2, rfl, rfl, h1, h2⟩
 refine soN 0 Sz_43 rfl ⟨h1.one, h2.one, trivial⟩ rfl ?_
 refine en ?_
 exact rtg [0, 0, 0, 0] hF (resOk.one (rv_cell Tn_43 rfl (fun w1 hw => hw.rgO (i := 0) rfl 0 2 [v2, v3] rfl) rfl)) rfl (by cases h; exact fun w1 hw => ⟨v2, D1, v3, D2, rfl, rfl, h1, h2⟩)
theorem m_s_l1In_ok  (w0 : Base Ψ Φ []) (p0 : Int) (p1 : Int) (p2 : Int)  {r : Bool} (h : m_s_l1In N p0 p1 p2 = some r) :
  CB w0 prog 148 [iV p0, iV p1, iV p2] (.bool r) := by
 refine eN func148 rfl ntmps148 rfl w0 fun hF => ?_
 unfold m_s_l1In at h
 refine atr 10 [] rfl ?_
 obtain ⟨b1, hb_1, h⟩ := bs h
 refine WL.cutN 4 [(14, .bool b1), (6, .bool false)] ?_ (fun K => ?_)
 rotate_left
 ·refine sp 10 hb_1 rfl (fun hb_1 => ?_) fun hb_1 => ?_
  ·refine arr 4 [] rfl ?_
   cases hb_1
   exact ku K
  ·refine arr 4 [] rfl ?_
   cases hb_1
   exact ku K
 refine la rfl <| en ?_
 exact rt hF h
theorem m_s_l1Letter_ok  (w0 : Base Ψ Φ []) (p0 : Int)  {r : Bool} (h : m_s_l1Letter N p0 = some r) :
  CB w0 prog 254 [.int .u8 p0] (.bool r) := by
 refine eN func254 rfl ntmps254 rfl w0 fun hF => ?_
 unfold m_s_l1Letter at h
 refine atr 7 [] rfl <| lq (q_convI Ik_5 Ik_3 rfl) rfl <| qc h (m_s_l1In_ok N · (wz p0) 97 122 ·) rfl rfl rfl fun x1 h => la rfl ?_
 obtain ⟨b1, hb_1, h⟩ := bs h
 refine WL.cutN 4 [(10, .bool b1), (0, .int .u8 p0), (2, .bool false)] ?_ (fun K => ?_)
 rotate_left
 ·refine sp 6 hb_1 rfl (fun hb_1 => ?_) fun hb_1 => ?_
  ·refine arr 4 [] rfl ?_
   cases hb_1
   exact ku K
  ·refine ly rfl rfl <| la rfl <| ly rfl rfl <| lq (q_convI Ik_5 Ik_3 rfl) rfl <| ly rfl rfl <| qc hb_1 (m_s_l1In_ok N · (wz p0) 48 57 ·) rfl rfl rfl fun x2 hb_1 => la rfl ?_
   cases hb_1
   exact ku K
 refine la rfl ?_
 obtain ⟨b2, hb_2, h⟩ := bs h
 refine WL.cutN 3 [(14, .bool b2), (2, .bool false)] ?_ (fun K => ?_)
 rotate_left
 ·refine sp 11 hb_2 rfl (fun hb_2 => ?_) fun hb_2 => ?_
  ·refine arr 3 [] rfl ?_
   cases hb_2
   exact ku K
  ·refine arr 3 [] rfl ?_
   cases hb_2
   exact ku K
 refine la rfl <| en ?_
 exact rt hF h
theorem m_s_NameOk_ok  (w0 : Base Ψ Φ []) (p0 : ByteArray)  {r : Bool} (h : m_s_NameOk N p0 = some r) :
  CB w0 prog 147 [.string p0] (.bool r) := by
 refine eN func147 rfl ntmps147 rfl w0 fun hF => ?_
 unfold m_s_NameOk at h
 refine att 10 [] rfl ?_
 refine lin (σ := Int) (fun s => [(0, .string p0), (3, iV s)]) (fun s => St w0 Φ [] []) (fun m s => m_s_NameOk_l1 N p0 m s = some r) (0) N h (sx [] []) (fun n1 ih1 s hm => ?_)
 revert hm; revert s; intro s1 hm
 have h : m_s_NameOk_l1 N p0 (n1 + 1) s1 = some r := hm
 show WT _ _ [(0, .string p0), (3, iV s1)] (St w0 Φ [] [])
 unfold m_s_NameOk_l1 at h
 refine atr 5 [] rfl <| lq (q_lenS Str_9 rfl rfl) rfl <| la rfl <| en ?_
 refine ch h rfl ?_ ?_ <;> intro h
 ·refine atr 7 [] rfl ?_
  obtain ⟨y1, hy1, h⟩ := bs h
  refine lq (q_indexS Str_9 rfl rfl hy1) rfl <| qc h (m_s_l1Letter_ok N · (y1.toNat : Int) ·) rfl rfl rfl fun x1 h => arr 2 [] rfl ?_
  obtain ⟨b1, hb_1, h⟩ := bs h
  refine WL.cutN 11 [(26, .bool b1), (0, .string p0), (3, iV s1)] ?_ (fun K => ?_)
  rotate_left
  ·refine sp 15 hb_1 rfl (fun hb_1 => ?_) fun hb_1 => ?_
   ·refine arr 11 [] rfl ?_
    cases hb_1
    exact ku K
   ·refine arr 3 [] rfl ?_
    obtain ⟨b2, hb_2, hb_1⟩ := bs hb_1
    refine WL.cutN 7 [(25, .bool b2), (0, .string p0), (3, iV s1), (15, .bool false)] ?_ (fun K => ?_)
    rotate_left
    ·refine sp 18 hb_2 rfl (fun hb_2 => ?_) fun hb_2 => ?_
     ·refine arr 2 [] rfl <| ly rfl rfl ?_
      obtain ⟨y2, hy2, hb_2⟩ := bs hb_2
      refine lq (q_indexS Str_9 rfl rfl hy2) rfl <| ly rfl rfl <| lq (q_convI Ik_5 Ik_3 rfl) rfl <| ly rfl rfl <| qc hb_2 (m_s_l1In_ok N · (wz (y2.toNat : Int)) 97 122 ·) rfl rfl rfl fun x2 hb_2 => arr 2 [] rfl ?_
      cases hb_2
      exact ku K
     ·refine arr 7 [] rfl ?_
      cases hb_2
      exact ku K
    refine la rfl ?_
    cases hb_1
    exact ku K
  refine en ?_
  refine ch h rfl ?_ ?_ <;> intro h
  ·refine att 4 [] rfl ?_
   exact rt hF h
  refine att 7 [] rfl ?_
  exact lb [] [] (ih1 _ h)
 refine atr 4 [] rfl <| lq (q_lenS Str_9 rfl rfl) rfl <| qc h (m_s_l1In_ok N · (p0.size : Int) 1 12 ·) rfl rfl rfl fun x3 h => la rfl <| en ?_
 exact rt hF h
theorem m_s_l6Has_ok (w0 : Base Ψ Φ []) (p0 : (List ByteArray)) (p1 : ByteArray) (ph0 : RSl RS 1 Ψ pG0 pv0 p0) {r : Bool} (h : m_s_l6Has N p0 p1 = some r) :
  CB w0 prog 333 [pv0, .string p1] (.bool r) := by
 refine eN func333 rfl ntmps333 rfl w0 fun hF => ?_
 unfold m_s_l6Has at h
 refine att 10 [] rfl ?_
 refine lin (σ := Int) (fun s => [(0, pv0), (1, .string p1), (5, iV s)]) (fun s => St w0 Φ [] []) (fun m s => m_s_l6Has_l1 N p0 p1 m s = some r) (0) N h (sx [] []) (fun n1 ih1 s hm => ?_)
 revert hm; revert s; intro s1 hm
 have h : m_s_l6Has_l1 N p0 p1 (n1 + 1) s1 = some r := hm
 show WT _ _ [(0, pv0), (1, .string p1), (5, iV s1)] (St w0 Φ [] [])
 unfold m_s_l6Has_l1 at h
 refine atr 5 [] rfl <| lnr ph0 rfl <| la rfl <| en ?_
 refine ch h rfl ?_ ?_ <;> intro h
 ·refine atr 7 [] rfl ?_
  obtain ⟨x1, hx1, h⟩ := bs h
  obtain ⟨cs1, F1, -, g1, hb1, hs1, r1⟩ := ph0.el (idx_some hx1).2.2
  obtain ⟨rfl, -⟩ := r1
  refine lia ph0 hx1 rfl <| lhx 0 0 g1 rfl <| art 3 [] rfl ?_
  refine ch h rfl ?_ ?_ <;> intro h
  ·refine att 4 [] rfl ?_
   exact rt hF h
  refine att 7 [] rfl ?_
  exact lb [] [] (ih1 _ h)
 refine att 5 [] rfl ?_
 exact rt hF h
theorem m_s_VarsOf_ok (w0 : Base Ψ Φ []) (p0 : TPat) (ph0_0 : RSl RTArg 5 Ψ pG0_0 pv0_0 p0.Args) {r : (List ByteArray)} (h : m_s_VarsOf N p0 = some r) :
  Calls prog 332 [.agg [.string p0.Kind, pv0_0, .bool p0.Not].toArray].toArray w0.w (PostG Φ w0.w [] (fun Φ' Fs v => ∃ (sr_0_0 : Value), v = sr_0_0 ∧ Fs = [ob sr_0_0] ∧ OSl RS 9 1 Φ' [] sr_0_0 r)) := by
 refine eN func332 rfl ntmps332 rfl w0 fun hF => ?_
 unfold m_s_VarsOf at h
 refine sr <| lbx rfl fun b_1 => arr 4 [] rfl <| le' (e_lit0 RS.lasts Sl_284 Zr_9 rfl rfl) rfl ?_
 rintro v1 Φ_1 D1 ⟨fr1, h1⟩
 refine art 8 [] rfl ?_
 refine lin (σ := Hp × (List ByteArray) × Value × Int) (fun s => [(1, pQ b_1), (3, s.2.2.1), (4, iV s.2.2.2)]) (fun s => St w0 s.1 [(b_1, .cells #[.string p0.Kind, pv0_0, .bool p0.Not] 265 (0, 0))] [ob s.2.2.1]) (fun m s => m_s_VarsOf_l1 N p0 m s.2.1 s.2.2.2 = some r ∧ (OSl RS 9 1 s.1 [] s.2.2.1 s.2.1)) (Φ_1, ([] : List ByteArray), v1, 0) N ⟨h, h1⟩ (sx [0] [0]) (fun n1 ih1 s hm => ?_)
 obtain ⟨Φ_2, s1, u1, s2⟩ := s
 obtain ⟨h, k1⟩ := hm
 dsimp only at h k1 ⊢
 unfold m_s_VarsOf_l1 at h
 refine atr 6 [1, 0] rfl <| lnr ph0_0 rfl <| la rfl <| en ?_
 refine ch h rfl ?_ ?_ <;> intro h
 ·refine atr 8 [1, 0] rfl ?_
  obtain ⟨x1, hx1, h⟩ := bs h
  obtain ⟨cs1, F1, -, g1, hb1, hs1, r1⟩ := ph0_0.el (idx_some hx1).2.2
  obtain ⟨rfl, -⟩ := r1
  refine lia ph0_0 hx1 rfl <| lf Fld_294_0 rfl rfl rfl <| lhx 0 0 g1 rfl <| arr 2 [] rfl ?_
  obtain ⟨b1, hb_1, h⟩ := bs h
  refine WL.cutN 10 [(30, .bool b1), (1, pQ b_1), (3, u1), (4, iV s2)] ?_ (fun K => ?_)
  rotate_left
  ·refine sp 20 hb_1 rfl (fun hb_1 => ?_) fun hb_1 => ?_
   ·refine arr 4 [1, 0] rfl <| ly rfl rfl ?_
    obtain ⟨x2, hx2, hb_1⟩ := bs hb_1
    obtain ⟨cs2, F2, -, g2, hb2, hs2, r2⟩ := ph0_0.el (idx_some hx2).2.2
    obtain ⟨rfl, -⟩ := r2
    refine lia ph0_0 hx2 rfl <| ly rfl rfl <| lf Fld_294_1 rfl rfl rfl <| ly rfl rfl <| lhx 1 0 g2 rfl <| ly rfl rfl <| qc hb_1 (m_s_l6Has_ok N · s1 x2.S k1.rsl ·) rfl rfl rfl fun x3 hb_1 => arr 2 [] rfl ?_
    cases hb_1
    exact ku K
   ·refine arr 10 [] rfl ?_
    cases hb_1
    exact ku K
  refine en ?_
  refine ch h rfl ?_ ?_ <;> intro h
  ·refine atr 5 [1, 0] rfl ?_
   obtain ⟨x4, hx4, h⟩ := bs h
   obtain ⟨cs3, F3, -, g3, hb3, hs3, r3⟩ := ph0_0.el (idx_some hx4).2.2
   obtain ⟨rfl, -⟩ := r3
   refine lia ph0_0 hx4 rfl <| lf Fld_294_1 rfl rfl rfl <| lhx 1 0 g3 rfl ?_
   have rc2 : RC RS 1 Φ_2 ([[]] : List (List Nat)) [.string x4.S] ([x4.S] : List ByteArray) := RC.cons (c := [.string x4.S]) (cells := []) ⟨rfl, rfl⟩ rfl (RC.nil _ _ _)
   refine le' (e_lit (vs := [(0, .string x4.S)]) (C := #[.string x4.S]) RS.lasts Sl_284 Zr_9 rfl rfl rfl rfl (fill_made MC_9_1 (fill_cons (C' := [.string x4.S]) rfl rfl rfl rfl rfl (fill_nil))) rfl rc2 rfl (by simpa using Kw.nil)) rfl ?_
   rintro v2 Φ_3 D2 ⟨fr2, h2⟩
   replace h2 : OSl RS 9 1 Φ_3 [] v2 ([x4.S] : List ByteArray) := by simpa using h2
   replace k1 := k1.f0 fr2
   obtain ⟨x5, hx5, h⟩ := bs h
   refine le' (e_appF RS.lasts RS.one RS.flat Sl_284 Ei_9 rfl rfl rfl rfl rfl (js := [1]) (Rr := [ob v2]) rfl k1 h2.rsl hx5) rfl ?_
   rintro v3 Φ_4 D3 ⟨⟨ap1, fr3⟩, h3⟩
   refine art 8 [] rfl ?_
   exact lb [0] [0] (ih1 (_, _, _, _) ⟨h, h3⟩)
  refine att 7 [] rfl ?_
  exact lb [0] [0] (ih1 (_, _, _, _) ⟨h, k1⟩)
 refine att 6 [] rfl ?_
 exact rtg [0] hF (resOk.one rfl) rfl (by cases h; exact fun w1 hw => ⟨u1, rfl, rfl, k1⟩)
theorem m_s_PosVars_ok (w0 : Base Ψ Φ []) (p0 : TRule) (ph0_0 : RSl RTPat 3 Ψ pG0_0 pv0_0 p0.Pats) (ph0_1 : RSl RTCond 11 Ψ pG0_1 pv0_1 p0.Conds) (ph0_2 : RSl RTAct 5 Ψ pG0_2 pv0_2 p0.Acts) {r : (List ByteArray)} (h : m_s_PosVars N p0 = some r) :
  Calls prog 249 [.agg [.string p0.Name, iV p0.Sal, pv0_0, pv0_1, pv0_2].toArray].toArray w0.w (PostG Φ w0.w [] (fun Φ' Fs v => ∃ (sr_0_0 : Value), v = sr_0_0 ∧ Fs = [ob sr_0_0] ∧ OSl RS 9 1 Φ' [] sr_0_0 r)) := by
 refine eN func249 rfl ntmps249 rfl w0 fun hF => ?_
 unfold m_s_PosVars at h
 refine sr <| lbx rfl fun b_1 => arr 4 [] rfl <| le' (e_lit0 RS.lasts Sl_284 Zr_9 rfl rfl) rfl ?_
 rintro v1 Φ_1 D1 ⟨fr1, h1⟩
 refine art 8 [] rfl ?_
 refine lin (σ := Hp × (List ByteArray) × Value × Int) (fun s => [(1, pQ b_1), (3, s.2.2.1), (4, iV s.2.2.2)]) (fun s => St w0 s.1 [(b_1, .cells #[.string p0.Name, iV p0.Sal, pv0_0, pv0_1, pv0_2] 183 (0, 0))] [ob s.2.2.1]) (fun m s => m_s_PosVars_l1 N p0 m s.2.1 s.2.2.2 = some r ∧ (OSl RS 9 1 s.1 [] s.2.2.1 s.2.1)) (Φ_1, ([] : List ByteArray), v1, 0) N ⟨h, h1⟩ (sx [0] [0]) (fun n1 ih1 s hm => ?_)
 obtain ⟨Φ_2, s1, u1, s2⟩ := s
 obtain ⟨h, k1⟩ := hm
 dsimp only at h k1 ⊢
 unfold m_s_PosVars_l1 at h
 refine atr 6 [2, 0] rfl <| lnr ph0_0 rfl <| la rfl <| en ?_
 refine ch h rfl ?_ ?_ <;> intro h
 ·refine atr 8 [2, 0] rfl ?_
  obtain ⟨x1, hx1, h⟩ := bs h
  obtain ⟨cs1, F1, -, g1, hb1, hs1, r1⟩ := ph0_0.el (idx_some hx1).2.2
  obtain ⟨v2, G1, rfl, hq1, h2⟩ := r1
  obtain rfl := hq1.symm
  refine lia ph0_0 hx1 rfl <| lhx 0 3 g1 rfl <| kab h rfl rfl rfl (fun b z q => m_s_VarsOf_ok N b x1 (h2.y z) q) ?_
  rintro x2 h v3 Φ_3 F2 ⟨ap1, fr2, v4, rfl, rfl, h3⟩
  replace k1 := k1.fr fr2 (ap1.q 0 rfl) dN
  refine art 7 [] rfl ?_
  refine lin (σ := Hp × (List ByteArray) × Value × Int) (fun s => [(1, pQ b_1), (3, s.2.2.1), (4, iV s2), (5, v3), (6, iV s.2.2.2)]) (fun s => St w0 s.1 [(b_1, .cells #[.string p0.Name, iV p0.Sal, pv0_0, pv0_1, pv0_2] 183 (0, 0))] [ob v3, ob s.2.2.1]) (fun m s => m_s_PosVars_l2 N p0 s2 (m_s_PosVars_l1 N p0 n1) x2 m s.2.1 s.2.2.2 = some r ∧ (OSl RS 9 1 s.1 [] s.2.2.1 s.2.1) ∧ (OSl RS 9 1 s.1 [] v3 x2)) (Φ_3, s1, u1, 0) N ⟨h, k1, h3⟩ (sx [0, 0] [0]) (fun n2 ih2 s hm => ?_)
  obtain ⟨Φ_4, s3, u2, s4⟩ := s
  obtain ⟨h, k2, h3⟩ := hm
  dsimp only at h k2 h3 ⊢
  unfold m_s_PosVars_l2 at h
  refine atr 5 [] rfl <| lno h3 rfl <| arr 2 [] rfl ?_
  obtain ⟨b1, hb_1, h⟩ := bs h
  refine WL.cutN 8 [(33, .bool b1), (1, pQ b_1), (3, u2), (4, iV s2), (5, v3), (6, iV s4)] ?_ (fun K => ?_)
  rotate_left
  ·refine sp 25 hb_1 rfl (fun hb_1 => ?_) fun hb_1 => ?_
   ·refine arr 3 [2, 0] rfl <| ly rfl rfl ?_
    obtain ⟨x3, hx3, hb_1⟩ := bs hb_1
    obtain ⟨cs2, F3, -, g2, hb2, hs2, r2⟩ := ph0_0.el (idx_some hx3).2.2
    obtain ⟨v5, G2, rfl, hq2, h4⟩ := r2
    obtain rfl := hq2.symm
    refine lia ph0_0 hx3 rfl <| ly rfl rfl <| lf Fld_265_2 rfl rfl rfl <| ly rfl rfl <| lhx 2 0 g2 rfl <| arr 2 [] rfl ?_
    cases hb_1
    exact ku K
   ·refine arr 8 [] rfl ?_
    cases hb_1
    exact ku K
  refine en ?_
  refine ch h rfl ?_ ?_ <;> intro h
  ·refine atr 8 [] rfl ?_
   obtain ⟨x4, hx4, h⟩ := bs h
   obtain ⟨cs3, F4, -, g3, hb3, hs3, r3⟩ := h3.elS (idx_some hx4).2.2
   obtain ⟨rfl, -⟩ := r3
   refine lio h3 hx4 rfl <| lgx 0 0 g3 rfl <| qc h (m_s_l6Has_ok N · s3 x4 k2.rsl ·) rfl rfl rfl fun x5 h => la rfl <| en ?_
   refine ch h rfl ?_ ?_ <;> intro h
   ·refine atr 4 [] rfl ?_
    obtain ⟨x6, hx6, h⟩ := bs h
    obtain ⟨cs4, F5, -, g4, hb4, hs4, r4⟩ := h3.elS (idx_some hx6).2.2
    obtain ⟨rfl, -⟩ := r4
    refine lio h3 hx6 rfl <| lgx 0 0 g4 rfl ?_
    have rc2 : RC RS 1 Φ_4 ([[]] : List (List Nat)) [.string x6] ([x6] : List ByteArray) := RC.cons (c := [.string x6]) (cells := []) ⟨rfl, rfl⟩ rfl (RC.nil _ _ _)
    refine le' (e_lit (vs := [(0, .string x6)]) (C := #[.string x6]) RS.lasts Sl_284 Zr_9 rfl rfl rfl rfl (fill_made MC_9_1 (fill_cons (C' := [.string x6]) rfl rfl rfl rfl rfl (fill_nil))) rfl rc2 rfl (by simpa using Kw.nil)) rfl ?_
    rintro v6 Φ_5 D2 ⟨fr3, h5⟩
    replace h5 : OSl RS 9 1 Φ_5 [] v6 ([x6] : List ByteArray) := by simpa using h5
    replace k2 := k2.f0 fr3
    replace h3 := h3.f0 fr3
    obtain ⟨x7, hx7, h⟩ := bs h
    refine le' (e_appF RS.lasts RS.one RS.flat Sl_284 Ei_9 rfl rfl rfl rfl rfl (js := [2]) (Rr := [ob v6, ob v3]) rfl k2 h5.rsl hx7) rfl ?_
    rintro v7 Φ_6 D3 ⟨⟨ap2, fr4⟩, h6⟩
    replace h3 := h3.fr fr4 (ap2.q 1 rfl) dN
    refine art 8 [] rfl ?_
    exact lb [2, 0] [0] (ih2 (_, _, _, _) ⟨h, h6, h3⟩)
   refine att 7 [] rfl ?_
   exact lb [0, 0] [0] (ih2 (_, _, _, _) ⟨h, k2, h3⟩)
  refine att 7 [] rfl ?_
  exact lb [1] [0] (ih1 (_, _, _, _) ⟨h, k2⟩)
 refine att 6 [] rfl ?_
 exact rtg [0] hF (resOk.one rfl) rfl (by cases h; exact fun w1 hw => ⟨u1, rfl, rfl, k1⟩)
theorem m_s_l2Plain_ok  (w0 : Base Ψ Φ []) (p0 : ByteArray)  {r : Bool} (h : m_s_l2Plain N p0 = some r) :
  CB w0 prog 377 [.string p0] (.bool r) := by
 refine eN func377 rfl ntmps377 rfl w0 fun hF => ?_
 unfold m_s_l2Plain at h
 refine att 10 [] rfl ?_
 refine lin (σ := Int) (fun s => [(0, .string p0), (3, iV s)]) (fun s => St w0 Φ [] []) (fun m s => m_s_l2Plain_l1 N p0 m s = some r) (0) N h (sx [] []) (fun n1 ih1 s hm => ?_)
 revert hm; revert s; intro s1 hm
 have h : m_s_l2Plain_l1 N p0 (n1 + 1) s1 = some r := hm
 show WT _ _ [(0, .string p0), (3, iV s1)] (St w0 Φ [] [])
 unfold m_s_l2Plain_l1 at h
 refine atr 5 [] rfl <| lq (q_lenS Str_9 rfl rfl) rfl <| la rfl <| en ?_
 refine ch h rfl ?_ ?_ <;> intro h
 ·refine atr 7 [] rfl ?_
  obtain ⟨y1, hy1, h⟩ := bs h
  refine lq (q_indexS Str_9 rfl rfl hy1) rfl <| qc h (m_s_l1Letter_ok N · (y1.toNat : Int) ·) rfl rfl rfl fun x1 h => la rfl <| en ?_
  refine ch h rfl ?_ ?_ <;> intro h
  ·refine att 4 [] rfl ?_
   exact rt hF h
  refine att 7 [] rfl ?_
  exact lb [] [] (ih1 _ h)
 refine atr 4 [] rfl <| lq (q_lenS Str_9 rfl rfl) rfl <| art 3 [] rfl ?_
 exact rt hF h
theorem m_s_ValOk_ok  (w0 : Base Ψ Φ []) (p0 : TVal)  {r : Bool} (h : m_s_ValOk N p0 = some r) :
  CB w0 prog 338 [.agg [iV p0.K, iV p0.N, .string p0.S].toArray] (.bool r) := by
 refine eN func338 rfl ntmps338 rfl w0 fun hF => ?_
 unfold m_s_ValOk at h
 refine sr <| lbx rfl fun b_1 => art 14 [0, 0] rfl ?_
 refine ch h rfl ?_ ?_ <;> intro h
 ·refine atr 4 [1, 0] rfl <| qc h (m_s_l1In_ok N · p0.N (-1000000000) 1000000000 ·) rfl rfl rfl fun x1 h => la rfl ?_
  obtain ⟨b1, hb_1, h⟩ := bs h
  refine WL.cutN 4 [(14, .bool b1), (2, .bool false)] ?_ (fun K => ?_)
  rotate_left
  ·refine sp 10 hb_1 rfl (fun hb_1 => ?_) fun hb_1 => ?_
   ·refine arr 4 [2, 0] rfl ?_
    cases hb_1
    exact ku K
   ·refine arr 4 [] rfl ?_
    cases hb_1
    exact ku K
  refine la rfl <| en ?_
  exact rt hF h
 refine att 5 [] rfl ?_
 refine ch h rfl ?_ ?_ <;> intro h
 ·refine atr 4 [2, 0] rfl <| qc h (m_s_l2Plain_ok N · p0.S ·) rfl rfl rfl fun x2 h => la rfl ?_
  obtain ⟨b2, hb_2, h⟩ := bs h
  refine WL.cutN 4 [(24, .bool b2), (2, .bool false)] ?_ (fun K => ?_)
  rotate_left
  ·refine sp 20 hb_2 rfl (fun hb_2 => ?_) fun hb_2 => ?_
   ·refine arr 4 [1, 0] rfl ?_
    cases hb_2
    exact ku K
   ·refine arr 4 [] rfl ?_
    cases hb_2
    exact ku K
  refine la rfl <| en ?_
  exact rt hF h
 refine att 6 [] rfl ?_
 exact rt hF h
theorem m_s_l5Large_ok  (w0 : Base Ψ Φ []) (p0 : Int)  {r : Bool} (h : m_s_l5Large N p0 = some r) :
  CB w0 prog 423 [.int .u8 p0] (.bool r) := by
 refine eN func423 rfl ntmps423 rfl w0 fun hF => ?_
 unfold m_s_l5Large at h
 refine atr 7 [] rfl <| lq (q_convI Ik_5 Ik_3 rfl) rfl <| qc h (m_s_l1In_ok N · (wz p0) 65 90 ·) rfl rfl rfl fun x1 h => la rfl <| en ?_
 exact rt hF h
theorem m_s_l5VarOk_ok  (w0 : Base Ψ Φ []) (p0 : ByteArray)  {r : Bool} (h : m_s_l5VarOk N p0 = some r) :
  CB w0 prog 408 [.string p0] (.bool r) := by
 refine eN func408 rfl ntmps408 rfl w0 fun hF => ?_
 unfold m_s_l5VarOk at h
 refine att 10 [] rfl ?_
 refine lin (σ := Int) (fun s => [(0, .string p0), (3, iV s)]) (fun s => St w0 Φ [] []) (fun m s => m_s_l5VarOk_l1 N p0 m s = some r) (0) N h (sx [] []) (fun n1 ih1 s hm => ?_)
 revert hm; revert s; intro s1 hm
 have h : m_s_l5VarOk_l1 N p0 (n1 + 1) s1 = some r := hm
 show WT _ _ [(0, .string p0), (3, iV s1)] (St w0 Φ [] [])
 unfold m_s_l5VarOk_l1 at h
 refine atr 5 [] rfl <| lq (q_lenS Str_9 rfl rfl) rfl <| la rfl <| en ?_
 refine ch h rfl ?_ ?_ <;> intro h
 ·refine atr 7 [] rfl ?_
  obtain ⟨y1, hy1, h⟩ := bs h
  refine lq (q_indexS Str_9 rfl rfl hy1) rfl <| qc h (m_s_l5Large_ok N · (y1.toNat : Int) ·) rfl rfl rfl fun x1 h => arr 2 [] rfl ?_
  obtain ⟨b1, hb_1, h⟩ := bs h
  refine WL.cutN 10 [(25, .bool b1), (0, .string p0), (3, iV s1)] ?_ (fun K => ?_)
  rotate_left
  ·refine sp 15 hb_1 rfl (fun hb_1 => ?_) fun hb_1 => ?_
   ·refine arr 3 [] rfl ?_
    obtain ⟨b2, hb_2, hb_1⟩ := bs hb_1
    refine WL.cutN 6 [(24, .bool b2), (0, .string p0), (3, iV s1), (15, .bool true)] ?_ (fun K => ?_)
    rotate_left
    ·refine sp 18 hb_2 rfl (fun hb_2 => ?_) fun hb_2 => ?_
     ·refine arr 6 [] rfl ?_
      cases hb_2
      exact ku K
     ·refine arr 2 [] rfl <| ly rfl rfl ?_
      obtain ⟨y2, hy2, hb_2⟩ := bs hb_2
      refine lq (q_indexS Str_9 rfl rfl hy2) rfl <| ly rfl rfl <| qc hb_2 (m_s_l1Letter_ok N · (y2.toNat : Int) ·) rfl rfl rfl fun x2 hb_2 => arr 2 [] rfl ?_
      cases hb_2
      exact ku K
    refine la rfl ?_
    cases hb_1
    exact ku K
   ·refine arr 10 [] rfl ?_
    cases hb_1
    exact ku K
  refine en ?_
  refine ch h rfl ?_ ?_ <;> intro h
  ·refine att 4 [] rfl ?_
   exact rt hF h
  refine att 7 [] rfl ?_
  exact lb [] [] (ih1 _ h)
 refine atr 4 [] rfl <| lq (q_lenS Str_9 rfl rfl) rfl <| qc h (m_s_l1In_ok N · (p0.size : Int) 1 12 ·) rfl rfl rfl fun x3 h => la rfl <| en ?_
 exact rt hF h
theorem m_s_ArgOk_ok  (w0 : Base Ψ Φ []) (p0 : TArg)  {r : Bool} (h : m_s_ArgOk N p0 = some r) :
  CB w0 prog 375 [.agg [iV p0.K, .string p0.S, iV p0.V.K, iV p0.V.N, .string p0.V.S].toArray] (.bool r) := by
 refine eN func375 rfl ntmps375 rfl w0 fun hF => ?_
 unfold m_s_ArgOk at h
 refine sr <| lbx rfl fun b_1 => arr 6 [2, 3] rfl <| lq (q_build (vs := []) (C := #[iV 0, iV 0, .string (⟨#[]⟩ : ByteArray)]) Pl_204 Zr_204 rfl (fill_nil)) rfl <| lq (q_eqA EqT_204 rfl rfl rfl (r := eqT_TVal p0.V (⟨0, 0, (⟨#[]⟩ : ByteArray)⟩ : TVal)) rfl) rfl <| art 14 [0, 0] rfl ?_
 refine ch h rfl ?_ ?_ <;> intro h
 ·refine atr 4 [1, 0] rfl <| qc h (m_s_l5VarOk_ok N · p0.S ·) rfl rfl rfl fun x1 h => la rfl ?_
  obtain ⟨b1, hb_1, h⟩ := bs h
  refine WL.cutN 2 [(17, .bool b1), (2, .bool false)] ?_ (fun K => ?_)
  rotate_left
  ·refine sp 15 hb_1 rfl (fun hb_1 => ?_) fun hb_1 => ?_
   ·refine arr 2 [] rfl ?_
    cases hb_1
    exact ku K
   ·refine arr 2 [] rfl ?_
    cases hb_1
    exact ku K
  refine la rfl <| en ?_
  exact rt hF h
 refine att 5 [] rfl ?_
 refine ch h rfl ?_ ?_ <;> intro h
 ·refine atr 4 [2, 3] rfl <| qc h (m_s_ValOk_ok N · p0.V ·) rfl rfl rfl fun x2 h => la rfl ?_
  obtain ⟨b2, hb_2, h⟩ := bs h
  refine WL.cutN 4 [(27, .bool b2), (2, .bool false)] ?_ (fun K => ?_)
  rotate_left
  ·refine sp 23 hb_2 rfl (fun hb_2 => ?_) fun hb_2 => ?_
   ·refine arr 4 [1, 0] rfl ?_
    cases hb_2
    exact ku K
   ·refine arr 4 [] rfl ?_
    cases hb_2
    exact ku K
  refine la rfl <| en ?_
  exact rt hF h
 refine att 5 [] rfl ?_
 refine ch h rfl ?_ ?_ <;> intro h
 ·refine atr 6 [1, 0] rfl ?_
  obtain ⟨b3, hb_3, h⟩ := bs h
  refine WL.cutN 2 [(35, .bool b3), (2, .bool false)] ?_ (fun K => ?_)
  rotate_left
  ·refine sp 33 hb_3 rfl (fun hb_3 => ?_) fun hb_3 => ?_
   ·refine arr 2 [] rfl ?_
    cases hb_3
    exact ku K
   ·refine arr 2 [] rfl ?_
    cases hb_3
    exact ku K
  refine la rfl <| en ?_
  exact rt hF h
 refine att 6 [] rfl ?_
 exact rt hF h
theorem m_s_PatOk_ok (w0 : Base Ψ Φ []) (p0 : TPat) (ph0_0 : RSl RTArg 5 Ψ pG0_0 pv0_0 p0.Args) {r : Bool} (h : m_s_PatOk N p0 = some r) :
  CB w0 prog 334 [.agg [.string p0.Kind, pv0_0, .bool p0.Not].toArray] (.bool r) := by
 refine eN func334 rfl ntmps334 rfl w0 fun hF => ?_
 unfold m_s_PatOk at h
 refine sr <| lbx rfl fun b_1 => art 8 [] rfl ?_
 refine lin (σ := Int) (fun s => [(1, pQ b_1), (3, iV s)]) (fun s => St w0 Φ [(b_1, .cells #[.string p0.Kind, pv0_0, .bool p0.Not] 265 (0, 0))] []) (fun m s => m_s_PatOk_l1 N p0 m s = some r) (0) N h (sx [] [0]) (fun n1 ih1 s hm => ?_)
 revert hm; revert s; intro s1 hm
 have h : m_s_PatOk_l1 N p0 (n1 + 1) s1 = some r := hm
 show WT _ _ [(1, pQ b_1), (3, iV s1)] (St w0 Φ [(b_1, .cells #[.string p0.Kind, pv0_0, .bool p0.Not] 265 (0, 0))] [])
 unfold m_s_PatOk_l1 at h
 refine atr 6 [1, 0] rfl <| lnr ph0_0 rfl <| la rfl <| en ?_
 refine ch h rfl ?_ ?_ <;> intro h
 ·refine atr 8 [1, 0] rfl ?_
  obtain ⟨x1, hx1, h⟩ := bs h
  obtain ⟨cs1, F1, -, g1, hb1, hs1, r1⟩ := ph0_0.el (idx_some hx1).2.2
  obtain ⟨rfl, -⟩ := r1
  refine lia ph0_0 hx1 rfl <| lhx 0 5 g1 rfl <| qc h (m_s_ArgOk_ok N · x1 ·) rfl rfl rfl fun x2 h => la rfl <| en ?_
  refine ch h rfl ?_ ?_ <;> intro h
  ·refine att 4 [] rfl ?_
   exact rt hF h
  refine att 7 [] rfl ?_
  exact lb [] [0] (ih1 _ h)
 refine atr 5 [0, 0] rfl <| qc h (m_s_NameOk_ok N · p0.Kind ·) rfl rfl rfl fun x3 h => la rfl ?_
 obtain ⟨b1, hb_1, h⟩ := bs h
 refine WL.cutN 5 [(26, .bool b1)] ?_ (fun K => ?_)
 rotate_left
 ·refine sp 21 hb_1 rfl (fun hb_1 => ?_) fun hb_1 => ?_
  ·refine arr 2 [1, 0] rfl <| ly rfl rfl <| lnr ph0_0 rfl <| arr 2 [] rfl ?_
   cases hb_1
   exact ku K
  ·refine arr 5 [] rfl ?_
   cases hb_1
   exact ku K
 refine la rfl <| en ?_
 exact rt hF h
theorem m_s_l9Pats_ok (w0 : Base Ψ Φ []) (p0 : (List TPat)) (ph0 : RSl RTPat 3 Ψ pG0 pv0 p0) {r : Bool} (h : m_s_l9Pats N p0 = some r) :
  CB w0 prog 250 [pv0] (.bool r) := by
 refine eN func250 rfl ntmps250 rfl w0 fun hF => ?_
 unfold m_s_l9Pats at h
 refine att 10 [] rfl ?_
 refine lin (σ := Int) (fun s => [(0, pv0), (3, iV s)]) (fun s => St w0 Φ [] []) (fun m s => m_s_l9Pats_l1 N p0 m s = some r) (0) N h (sx [] []) (fun n1 ih1 s hm => ?_)
 revert hm; revert s; intro s1 hm
 have h : m_s_l9Pats_l1 N p0 (n1 + 1) s1 = some r := hm
 show WT _ _ [(0, pv0), (3, iV s1)] (St w0 Φ [] [])
 unfold m_s_l9Pats_l1 at h
 refine atr 5 [] rfl <| lnr ph0 rfl <| la rfl <| en ?_
 refine ch h rfl ?_ ?_ <;> intro h
 ·refine atr 9 [] rfl ?_
  obtain ⟨b1, hb_1, h⟩ := bs h
  refine WL.cutN 7 [(19, .bool b1), (0, pv0), (3, iV s1)] ?_ (fun K => ?_)
  rotate_left
  ·refine sp 12 hb_1 rfl (fun hb_1 => ?_) fun hb_1 => ?_
   ·refine arr 2 [] rfl <| ly rfl rfl ?_
    obtain ⟨x1, hx1, hb_1⟩ := bs hb_1
    obtain ⟨cs1, F1, -, g1, hb1, hs1, r1⟩ := ph0.el (idx_some hx1).2.2
    obtain ⟨v1, G1, rfl, hq1, h1⟩ := r1
    obtain rfl := hq1.symm
    refine lia ph0 hx1 rfl <| ly rfl rfl <| lf Fld_265_2 rfl rfl rfl <| ly rfl rfl <| lhx 2 0 g1 rfl <| arr 2 [] rfl ?_
    cases hb_1
    exact ku K
   ·refine arr 7 [] rfl ?_
    cases hb_1
    exact ku K
  refine en ?_
  refine ch h rfl ?_ ?_ <;> intro h
  ·refine att 4 [] rfl ?_
   exact rt hF h
  refine atr 5 [] rfl ?_
  obtain ⟨x2, hx2, h⟩ := bs h
  obtain ⟨cs2, F2, -, g2, hb2, hs2, r2⟩ := ph0.el (idx_some hx2).2.2
  obtain ⟨v2, G2, rfl, hq2, h2⟩ := r2
  obtain rfl := hq2.symm
  refine lia ph0 hx2 rfl <| lhx 0 3 g2 rfl <| qd h (m_s_PatOk_ok N · x2 h2 ·) rfl rfl rfl fun x3 h => arr 2 [] rfl ?_
  obtain ⟨b2, hb_2, h⟩ := bs h
  refine WL.cutN 10 [(36, .bool b2), (0, pv0), (3, iV s1)] ?_ (fun K => ?_)
  rotate_left
  ·refine sp 26 hb_2 rfl (fun hb_2 => ?_) fun hb_2 => ?_
   ·refine arr 10 [] rfl ?_
    cases hb_2
    exact ku K
   ·refine arr 3 [] rfl ?_
    obtain ⟨b3, hb_3, hb_2⟩ := bs hb_2
    refine WL.cutN 6 [(35, .bool b3), (0, pv0), (3, iV s1), (26, .bool false)] ?_ (fun K => ?_)
    rotate_left
    ·refine sp 29 hb_3 rfl (fun hb_3 => ?_) fun hb_3 => ?_
     ·refine arr 2 [] rfl <| ly rfl rfl ?_
      obtain ⟨x4, hx4, hb_3⟩ := bs hb_3
      obtain ⟨cs3, F3, -, g3, hb3, hs3, r3⟩ := ph0.el (idx_some hx4).2.2
      obtain ⟨v3, G3, rfl, hq3, h3⟩ := r3
      obtain rfl := hq3.symm
      refine lia ph0 hx4 rfl <| ly rfl rfl <| lf Fld_265_2 rfl rfl rfl <| ly rfl rfl <| lhx 2 0 g3 rfl <| ly rfl rfl <| la rfl ?_
      cases hb_3
      exact ku K
     ·refine arr 6 [] rfl ?_
      cases hb_3
      exact ku K
    refine la rfl ?_
    cases hb_2
    exact ku K
  refine la rfl ?_
  obtain ⟨b4, hb_4, h⟩ := bs h
  refine WL.cutN 19 [(56, .bool b4), (0, pv0), (3, iV s1)] ?_ (fun K => ?_)
  rotate_left
  ·refine sp 37 hb_4 rfl (fun hb_4 => ?_) fun hb_4 => ?_
   ·refine arr 19 [] rfl ?_
    cases hb_4
    exact ku K
   ·refine arr 3 [] rfl ?_
    obtain ⟨b5, hb_5, hb_4⟩ := bs hb_4
    refine WL.cutN 7 [(47, .bool b5), (0, pv0), (3, iV s1), (37, .bool false)] ?_ (fun K => ?_)
    rotate_left
    ·refine sp 40 hb_5 rfl (fun hb_5 => ?_) fun hb_5 => ?_
     ·refine arr 3 [] rfl <| ly rfl rfl ?_
      obtain ⟨x5, hx5, hb_5⟩ := bs hb_5
      obtain ⟨cs4, F4, -, g4, hb4, hs4, r4⟩ := ph0.el (idx_some hx5).2.2
      obtain ⟨v4, G4, rfl, hq4, h4⟩ := r4
      obtain rfl := hq4.symm
      refine lia ph0 hx5 rfl <| ly rfl rfl <| lf Fld_265_2 rfl rfl rfl <| ly rfl rfl <| lhx 2 0 g4 rfl <| ly rfl rfl <| la rfl ?_
      cases hb_5
      exact ku K
     ·refine arr 7 [] rfl ?_
      cases hb_5
      exact ku K
    refine ly rfl rfl <| la rfl ?_
    obtain ⟨b6, hb_6, hb_4⟩ := bs hb_4
    refine WL.cutN 7 [(55, .bool b6), (0, pv0), (3, iV s1), (37, .bool false)] ?_ (fun K => ?_)
    rotate_left
    ·refine sp 48 hb_6 rfl (fun hb_6 => ?_) fun hb_6 => ?_
     ·refine arr 2 [] rfl <| ly rfl rfl ?_
      obtain ⟨x6, hx6, hb_6⟩ := bs hb_6
      obtain ⟨cs5, F5, -, g5, hb5, hs5, r5⟩ := ph0.el (idx_some hx6).2.2
      obtain ⟨v5, G5, rfl, hq5, h5⟩ := r5
      obtain rfl := hq5.symm
      refine lia ph0 hx6 rfl <| ly rfl rfl <| lf Fld_265_2 rfl rfl rfl <| ly rfl rfl <| lhx 2 0 g5 rfl <| arr 2 [] rfl ?_
      cases hb_6
      exact ku K
     ·refine arr 7 [] rfl ?_
      cases hb_6
      exact ku K
    refine la rfl ?_
    cases hb_4
    exact ku K
  refine en ?_
  refine ch h rfl ?_ ?_ <;> intro h
  ·refine att 4 [] rfl ?_
   exact rt hF h
  refine att 7 [] rfl ?_
  exact lb [] [] (ih1 _ h)
 refine atr 4 [] rfl <| lnr ph0 rfl <| qc h (m_s_l1In_ok N · (p0.length : Int) 1 6 ·) rfl rfl rfl fun x7 h => la rfl <| en ?_
 exact rt hF h
theorem m_s_CondOk_ok  (w0 : Base Ψ Φ []) (p0 : TCond)  {r : Bool} (h : m_s_CondOk N p0 = some r) :
  CB w0 prog 335 [.agg [iV p0.Op, iV p0.L.K, .string p0.L.S, iV p0.L.V.K, iV p0.L.V.N, .string p0.L.V.S, iV p0.R.K, .string p0.R.S, iV p0.R.V.K, iV p0.R.V.N, .string p0.R.V.S].toArray] (.bool r) := by
 refine eN func335 rfl ntmps335 rfl w0 fun hF => ?_
 unfold m_s_CondOk at h
 refine sr <| lbx rfl fun b_1 => arr 6 [0, 0] rfl <| qc h (m_s_l1In_ok N · p0.Op 1 3 ·) rfl rfl rfl fun x1 h => la rfl ?_
 obtain ⟨b1, hb_1, h⟩ := bs h
 refine WL.cutN 4 [(10, .bool b1), (1, pQ b_1), (2, .bool false)] ?_ (fun K => ?_)
 rotate_left
 ·refine sp 6 hb_1 rfl (fun hb_1 => ?_) fun hb_1 => ?_
  ·refine arr 2 [1, 5] rfl <| ly rfl rfl <| qc hb_1 (m_s_ArgOk_ok N · p0.L ·) rfl rfl rfl fun x2 hb_1 => la rfl ?_
   cases hb_1
   exact ku K
  ·refine arr 4 [] rfl ?_
   cases hb_1
   exact ku K
 refine la rfl ?_
 obtain ⟨b2, hb_2, h⟩ := bs h
 refine WL.cutN 4 [(15, .bool b2), (1, pQ b_1), (2, .bool false)] ?_ (fun K => ?_)
 rotate_left
 ·refine sp 11 hb_2 rfl (fun hb_2 => ?_) fun hb_2 => ?_
  ·refine arr 2 [6, 5] rfl <| ly rfl rfl <| qc hb_2 (m_s_ArgOk_ok N · p0.R ·) rfl rfl rfl fun x3 hb_2 => la rfl ?_
   cases hb_2
   exact ku K
  ·refine arr 4 [] rfl ?_
   cases hb_2
   exact ku K
 refine la rfl ?_
 obtain ⟨b3, hb_3, h⟩ := bs h
 refine WL.cutN 5 [(21, .bool b3), (1, pQ b_1), (2, .bool false)] ?_ (fun K => ?_)
 rotate_left
 ·refine sp 16 hb_3 rfl (fun hb_3 => ?_) fun hb_3 => ?_
  ·refine arr 5 [1, 0, 0] rfl ?_
   cases hb_3
   exact ku K
  ·refine arr 5 [] rfl ?_
   cases hb_3
   exact ku K
 refine la rfl ?_
 obtain ⟨b4, hb_4, h⟩ := bs h
 refine WL.cutN 5 [(27, .bool b4), (2, .bool false)] ?_ (fun K => ?_)
 rotate_left
 ·refine sp 22 hb_4 rfl (fun hb_4 => ?_) fun hb_4 => ?_
  ·refine arr 5 [6, 0, 0] rfl ?_
   cases hb_4
   exact ku K
  ·refine arr 5 [] rfl ?_
   cases hb_4
   exact ku K
 refine la rfl <| en ?_
 exact rt hF h
theorem m_s_l9Known_ok (w0 : Base Ψ Φ []) (p0 : TArg) (p1 : (List ByteArray)) (ph1 : RSl RS 1 Ψ pG1 pv1 p1) {r : Bool} (h : m_s_l9Known N p0 p1 = some r) :
  CB w0 prog 336 [.agg [iV p0.K, .string p0.S, iV p0.V.K, iV p0.V.N, .string p0.V.S].toArray, pv1] (.bool r) := by
 refine eN func336 rfl ntmps336 rfl w0 fun hF => ?_
 unfold m_s_l9Known at h
 refine sr <| lbx rfl fun b_1 => arr 8 [0, 0] rfl ?_
 obtain ⟨b1, hb_1, h⟩ := bs h
 refine WL.cutN 5 [(13, .bool b1), (4, .bool false)] ?_ (fun K => ?_)
 rotate_left
 ·refine sp 8 hb_1 rfl (fun hb_1 => ?_) fun hb_1 => ?_
  ·refine arr 5 [] rfl ?_
   cases hb_1
   exact ku K
  ·refine arr 3 [1, 0] rfl <| ly rfl rfl <| qd hb_1 (m_s_l6Has_ok N · p1 p0.S ph1 ·) rfl rfl rfl fun x1 hb_1 => la rfl ?_
   cases hb_1
   exact ku K
 refine la rfl <| en ?_
 exact rt hF h
theorem m_s_l9Conds_ok (w0 : Base Ψ Φ []) (p0 : (List TCond)) (p1 : (List ByteArray)) (ph0 : RSl RTCond 11 Ψ pG0 pv0 p0) (ph1 : RSl RS 1 Ψ pG1 pv1 p1) {r : Bool} (h : m_s_l9Conds N p0 p1 = some r) :
  CB w0 prog 251 [pv0, pv1] (.bool r) := by
 refine eN func251 rfl ntmps251 rfl w0 fun hF => ?_
 unfold m_s_l9Conds at h
 refine att 10 [] rfl ?_
 refine lin (σ := Int) (fun s => [(0, pv0), (1, pv1), (5, iV s)]) (fun s => St w0 Φ [] []) (fun m s => m_s_l9Conds_l1 N p0 p1 m s = some r) (0) N h (sx [] []) (fun n1 ih1 s hm => ?_)
 revert hm; revert s; intro s1 hm
 have h : m_s_l9Conds_l1 N p0 p1 (n1 + 1) s1 = some r := hm
 show WT _ _ [(0, pv0), (1, pv1), (5, iV s1)] (St w0 Φ [] [])
 unfold m_s_l9Conds_l1 at h
 refine atr 5 [] rfl <| lnr ph0 rfl <| la rfl <| en ?_
 refine ch h rfl ?_ ?_ <;> intro h
 ·refine atr 7 [] rfl ?_
  obtain ⟨x1, hx1, h⟩ := bs h
  obtain ⟨cs1, F1, -, g1, hb1, hs1, r1⟩ := ph0.el (idx_some hx1).2.2
  obtain ⟨rfl, -⟩ := r1
  refine lia ph0 hx1 rfl <| lhx 0 11 g1 rfl <| qc h (m_s_CondOk_ok N · x1 ·) rfl rfl rfl fun x2 h => arr 2 [] rfl ?_
  obtain ⟨b1, hb_1, h⟩ := bs h
  refine WL.cutN 9 [(27, .bool b1), (0, pv0), (1, pv1), (5, iV s1)] ?_ (fun K => ?_)
  rotate_left
  ·refine sp 18 hb_1 rfl (fun hb_1 => ?_) fun hb_1 => ?_
   ·refine arr 9 [] rfl ?_
    cases hb_1
    exact ku K
   ·refine arr 2 [] rfl <| ly rfl rfl ?_
    obtain ⟨x3, hx3, hb_1⟩ := bs hb_1
    obtain ⟨cs2, F2, -, g2, hb2, hs2, r2⟩ := ph0.el (idx_some hx3).2.2
    obtain ⟨rfl, -⟩ := r2
    refine lia ph0 hx3 rfl <| ly rfl rfl <| lf Fld_296_1 rfl rfl rfl <| ly rfl rfl <| lhx 1 5 g2 rfl <| ly rfl rfl <| la rfl <| ly rfl rfl <| qd hb_1 (m_s_l9Known_ok N · x3.L p1 ph1 ·) rfl rfl rfl fun x4 hb_1 => arr 2 [] rfl ?_
    cases hb_1
    exact ku K
  refine la rfl ?_
  obtain ⟨b2, hb_2, h⟩ := bs h
  refine WL.cutN 9 [(37, .bool b2), (0, pv0), (1, pv1), (5, iV s1)] ?_ (fun K => ?_)
  rotate_left
  ·refine sp 28 hb_2 rfl (fun hb_2 => ?_) fun hb_2 => ?_
   ·refine arr 9 [] rfl ?_
    cases hb_2
    exact ku K
   ·refine arr 2 [] rfl <| ly rfl rfl ?_
    obtain ⟨x5, hx5, hb_2⟩ := bs hb_2
    obtain ⟨cs3, F3, -, g3, hb3, hs3, r3⟩ := ph0.el (idx_some hx5).2.2
    obtain ⟨rfl, -⟩ := r3
    refine lia ph0 hx5 rfl <| ly rfl rfl <| lf Fld_296_2 rfl rfl rfl <| ly rfl rfl <| lhx 6 5 g3 rfl <| ly rfl rfl <| la rfl <| ly rfl rfl <| qd hb_2 (m_s_l9Known_ok N · x5.R p1 ph1 ·) rfl rfl rfl fun x6 hb_2 => arr 2 [] rfl ?_
    cases hb_2
    exact ku K
  refine en ?_
  refine ch h rfl ?_ ?_ <;> intro h
  ·refine att 4 [] rfl ?_
   exact rt hF h
  refine att 7 [] rfl ?_
  exact lb [] [] (ih1 _ h)
 refine atr 4 [] rfl <| lnr ph0 rfl <| art 3 [] rfl ?_
 exact rt hF h
theorem m_s_l8Given_ok  (w0 : Base Ψ Φ []) (p0 : TArg)  {r : Bool} (h : m_s_l8Given N p0 = some r) :
  CB w0 prog 424 [.agg [iV p0.K, .string p0.S, iV p0.V.K, iV p0.V.N, .string p0.V.S].toArray] (.bool r) := by
 refine eN func424 rfl ntmps424 rfl w0 fun hF => ?_
 unfold m_s_l8Given at h
 refine sr <| lbx rfl fun b_1 => arr 5 [5] rfl <| qc h (m_s_ArgOk_ok N · p0 ·) rfl rfl rfl fun x1 h => la rfl ?_
 obtain ⟨b1, hb_1, h⟩ := bs h
 refine WL.cutN 4 [(9, .bool b1), (2, .bool false)] ?_ (fun K => ?_)
 rotate_left
 ·refine sp 5 hb_1 rfl (fun hb_1 => ?_) fun hb_1 => ?_
  ·refine arr 4 [0, 0] rfl ?_
   cases hb_1
   exact ku K
  ·refine arr 4 [] rfl ?_
   cases hb_1
   exact ku K
 refine la rfl <| en ?_
 exact rt hF h
theorem m_s_ExprOk_ok  (w0 : Base Ψ Φ []) (p0 : TExpr)  {r : Bool} (h : m_s_ExprOk N p0 = some r) :
  CB w0 prog 409 [.agg [.string p0.Op, iV p0.L.K, .string p0.L.S, iV p0.L.V.K, iV p0.L.V.N, .string p0.L.V.S, iV p0.R.K, .string p0.R.S, iV p0.R.V.K, iV p0.R.V.N, .string p0.R.V.S].toArray] (.bool r) := by
 refine eN func409 rfl ntmps409 rfl w0 fun hF => ?_
 unfold m_s_ExprOk at h
 refine sr <| lbx rfl fun b_1 => art 14 [0, 0] rfl ?_
 refine ch h rfl ?_ ?_ <;> intro h
 ·refine atr 4 [1, 5] rfl <| qc h (m_s_l8Given_ok N · p0.L ·) rfl rfl rfl fun x1 h => la rfl ?_
  obtain ⟨b1, hb_1, h⟩ := bs h
  refine WL.cutN 5 [(15, .bool b1), (2, .bool false)] ?_ (fun K => ?_)
  rotate_left
  ·refine sp 10 hb_1 rfl (fun hb_1 => ?_) fun hb_1 => ?_
   ·refine arr 2 [6, 5] rfl <| ly rfl rfl <| lq (q_build (vs := []) (C := #[iV 0, .string (⟨#[]⟩ : ByteArray), iV 0, iV 0, .string (⟨#[]⟩ : ByteArray)]) Pl_294 Zr_294 rfl (fill_nil)) rfl <| ly rfl rfl <| lq (q_eqA EqT_294 rfl rfl rfl (r := eqT_TArg p0.R (⟨0, (⟨#[]⟩ : ByteArray), (⟨0, 0, (⟨#[]⟩ : ByteArray)⟩ : TVal)⟩ : TArg)) rfl) rfl <| la rfl ?_
    cases hb_1
    exact ku K
   ·refine arr 5 [] rfl ?_
    cases hb_1
    exact ku K
  refine la rfl <| en ?_
  exact rt hF h
 refine att 6 [] rfl ?_
 refine cut (σ := Bool) (fun s => [(1, pQ b_1), (16, .bool s)]) (fun s => St w0 Φ [(b_1, .cells #[.string p0.Op, iV p0.L.K, .string p0.L.S, iV p0.L.V.K, iV p0.L.V.N, .string p0.L.V.S, iV p0.R.K, .string p0.R.S, iV p0.R.V.K, iV p0.R.V.N, .string p0.R.V.S] 367 (0, 0))] []) (fun s => m_s_ExprOk_j1 N p0 s = some r) (fun s hm => ?_) (fun K => ?_)
 ·clear h
  revert hm; revert s; intro s1 hm
  have h : m_s_ExprOk_j1 N p0 s1 = some r := hm
  show WT _ _ [(1, pQ b_1), (16, .bool s1)] (St w0 Φ [(b_1, .cells #[.string p0.Op, iV p0.L.K, .string p0.L.S, iV p0.L.V.K, iV p0.L.V.N, .string p0.L.V.S, iV p0.R.K, .string p0.R.S, iV p0.R.V.K, iV p0.R.V.N, .string p0.R.V.S] 367 (0, 0))] [])
  unfold m_s_ExprOk_j1 at h
  refine ch h rfl ?_ ?_ <;> intro h
  ·refine atr 4 [1, 5] rfl <| qc h (m_s_l8Given_ok N · p0.L ·) rfl rfl rfl fun x2 h => la rfl ?_
   obtain ⟨b2, hb_2, h⟩ := bs h
   refine WL.cutN 4 [(26, .bool b2)] ?_ (fun K => ?_)
   rotate_left
   ·refine sp 22 hb_2 rfl (fun hb_2 => ?_) fun hb_2 => ?_
    ·refine arr 2 [6, 5] rfl <| ly rfl rfl <| qc hb_2 (m_s_l8Given_ok N · p0.R ·) rfl rfl rfl fun x3 hb_2 => la rfl ?_
     cases hb_2
     exact ku K
    ·refine arr 4 [] rfl ?_
     cases hb_2
     exact ku K
   refine la rfl <| en ?_
   exact rt hF h
  refine att 6 [] rfl ?_
  exact rt hF h
 refine ch h rfl ?_ ?_ <;> intro h
 ·refine WT.skip ?_
  exact wo [] [0] (K _ h)
 refine att 4 [] rfl ?_
 exact wo [] [0] (K _ h)
theorem m_s_l8Args_ok (w0 : Base Ψ Φ []) (p0 : (List TExpr)) (ph0 : RSl RTExpr 11 Ψ pG0 pv0 p0) {r : Bool} (h : m_s_l8Args N p0 = some r) :
  CB w0 prog 376 [pv0] (.bool r) := by
 refine eN func376 rfl ntmps376 rfl w0 fun hF => ?_
 unfold m_s_l8Args at h
 refine att 10 [] rfl ?_
 refine lin (σ := Int) (fun s => [(0, pv0), (3, iV s)]) (fun s => St w0 Φ [] []) (fun m s => m_s_l8Args_l1 N p0 m s = some r) (0) N h (sx [] []) (fun n1 ih1 s hm => ?_)
 revert hm; revert s; intro s1 hm
 have h : m_s_l8Args_l1 N p0 (n1 + 1) s1 = some r := hm
 show WT _ _ [(0, pv0), (3, iV s1)] (St w0 Φ [] [])
 unfold m_s_l8Args_l1 at h
 refine atr 5 [] rfl <| lnr ph0 rfl <| la rfl <| en ?_
 refine ch h rfl ?_ ?_ <;> intro h
 ·refine atr 7 [] rfl ?_
  obtain ⟨x1, hx1, h⟩ := bs h
  obtain ⟨cs1, F1, -, g1, hb1, hs1, r1⟩ := ph0.el (idx_some hx1).2.2
  obtain ⟨rfl, -⟩ := r1
  refine lia ph0 hx1 rfl <| lhx 0 11 g1 rfl <| qc h (m_s_ExprOk_ok N · x1 ·) rfl rfl rfl fun x2 h => la rfl <| en ?_
  refine ch h rfl ?_ ?_ <;> intro h
  ·refine att 4 [] rfl ?_
   exact rt hF h
  refine att 7 [] rfl ?_
  exact lb [] [] (ih1 _ h)
 refine atr 4 [] rfl <| lnr ph0 rfl <| art 3 [] rfl ?_
 exact rt hF h
theorem m_s_ActOk_ok (w0 : Base Ψ Φ []) (p0 : TAct) (ph0_0 : RSl RTExpr 11 Ψ pG0_0 pv0_0 p0.Args) {r : Bool} (h : m_s_ActOk N p0 = some r) :
  CB w0 prog 337 [.agg [iV p0.Kind, .string p0.Name, pv0_0, iV p0.N, .string p0.Undo].toArray] (.bool r) := by
 refine eN func337 rfl ntmps337 rfl w0 fun hF => ?_
 unfold m_s_ActOk at h
 refine sr <| lbx rfl fun b_1 => arr 8 [1, 0] rfl ?_
 obtain ⟨b1, hb_1, h⟩ := bs h
 refine WL.cutN 5 [(12, .bool b1), (1, pQ b_1)] ?_ (fun K => ?_)
 rotate_left
 ·refine sp 7 hb_1 rfl (fun hb_1 => ?_) fun hb_1 => ?_
  ·refine arr 2 [2, 0] rfl <| ly rfl rfl <| lnr ph0_0 rfl <| arr 2 [] rfl ?_
   cases hb_1
   exact ku K
  ·refine arr 5 [] rfl ?_
   cases hb_1
   exact ku K
 refine la rfl ?_
 obtain ⟨b2, hb_2, h⟩ := bs h
 refine WL.cutN 4 [(17, .bool b2), (1, pQ b_1)] ?_ (fun K => ?_)
 rotate_left
 ·refine sp 13 hb_2 rfl (fun hb_2 => ?_) fun hb_2 => ?_
  ·refine arr 4 [4, 0] rfl ?_
   cases hb_2
   exact ku K
  ·refine arr 4 [] rfl ?_
   cases hb_2
   exact ku K
 refine art 14 [0, 0] rfl ?_
 refine ch h rfl ?_ ?_ <;> intro h
 ·refine atr 4 [1, 0] rfl <| qc h (m_s_NameOk_ok N · p0.Name ·) rfl rfl rfl fun x1 h => la rfl ?_
  obtain ⟨b3, hb_3, h⟩ := bs h
  refine WL.cutN 4 [(29, .bool b3), (1, pQ b_1)] ?_ (fun K => ?_)
  rotate_left
  ·refine sp 25 hb_3 rfl (fun hb_3 => ?_) fun hb_3 => ?_
   ·refine arr 2 [2, 0] rfl <| ly rfl rfl <| qd hb_3 (m_s_l8Args_ok N · p0.Args ph0_0 ·) rfl rfl rfl fun x2 hb_3 => la rfl ?_
    cases hb_3
    exact ku K
   ·refine arr 4 [] rfl ?_
    cases hb_3
    exact ku K
  refine la rfl ?_
  obtain ⟨b4, hb_4, h⟩ := bs h
  refine WL.cutN 4 [(34, .bool b4), (1, pQ b_1)] ?_ (fun K => ?_)
  rotate_left
  ·refine sp 30 hb_4 rfl (fun hb_4 => ?_) fun hb_4 => ?_
   ·refine arr 4 [3, 0] rfl ?_
    cases hb_4
    exact ku K
   ·refine arr 4 [] rfl ?_
    cases hb_4
    exact ku K
  refine la rfl ?_
  obtain ⟨b5, hb_5, h⟩ := bs h
  refine WL.cutN 4 [(39, .bool b5)] ?_ (fun K => ?_)
  rotate_left
  ·refine sp 35 hb_5 rfl (fun hb_5 => ?_) fun hb_5 => ?_
   ·refine arr 4 [4, 0] rfl ?_
    cases hb_5
    exact ku K
   ·refine arr 4 [] rfl ?_
    cases hb_5
    exact ku K
  refine la rfl <| en ?_
  exact rt hF h
 refine att 5 [] rfl ?_
 refine ch h rfl ?_ ?_ <;> intro h
 ·refine atr 4 [1, 0] rfl <| qc h (m_s_NameOk_ok N · p0.Name ·) rfl rfl rfl fun x3 h => la rfl ?_
  obtain ⟨b6, hb_6, h⟩ := bs h
  refine WL.cutN 4 [(49, .bool b6), (1, pQ b_1)] ?_ (fun K => ?_)
  rotate_left
  ·refine sp 45 hb_6 rfl (fun hb_6 => ?_) fun hb_6 => ?_
   ·refine arr 2 [2, 0] rfl <| ly rfl rfl <| qd hb_6 (m_s_l8Args_ok N · p0.Args ph0_0 ·) rfl rfl rfl fun x4 hb_6 => la rfl ?_
    cases hb_6
    exact ku K
   ·refine arr 4 [] rfl ?_
    cases hb_6
    exact ku K
  refine la rfl ?_
  obtain ⟨b7, hb_7, h⟩ := bs h
  refine WL.cutN 4 [(54, .bool b7), (1, pQ b_1)] ?_ (fun K => ?_)
  rotate_left
  ·refine sp 50 hb_7 rfl (fun hb_7 => ?_) fun hb_7 => ?_
   ·refine arr 4 [3, 0] rfl ?_
    cases hb_7
    exact ku K
   ·refine arr 4 [] rfl ?_
    cases hb_7
    exact ku K
  refine la rfl ?_
  obtain ⟨b8, hb_8, h⟩ := bs h
  refine WL.cutN 9 [(64, .bool b8)] ?_ (fun K => ?_)
  rotate_left
  ·refine sp 55 hb_8 rfl (fun hb_8 => ?_) fun hb_8 => ?_
   ·refine arr 4 [4, 0] rfl ?_
    obtain ⟨b9, hb_9, hb_8⟩ := bs hb_8
    refine WL.cutN 4 [(63, .bool b9), (55, .bool true)] ?_ (fun K => ?_)
    rotate_left
    ·refine sp 59 hb_9 rfl (fun hb_9 => ?_) fun hb_9 => ?_
     ·refine arr 4 [] rfl ?_
      cases hb_9
      exact ku K
     ·refine arr 2 [4, 0] rfl <| ly rfl rfl <| qc hb_9 (m_s_NameOk_ok N · p0.Undo ·) rfl rfl rfl fun x5 hb_9 => ly rfl rfl <| la rfl ?_
      cases hb_9
      exact ku K
    refine la rfl ?_
    cases hb_8
    exact ku K
   ·refine arr 9 [] rfl ?_
    cases hb_8
    exact ku K
  refine la rfl <| en ?_
  exact rt hF h
 refine att 5 [] rfl ?_
 refine ch h rfl ?_ ?_ <;> intro h
 ·refine atr 4 [1, 0] rfl <| qc h (m_s_NameOk_ok N · p0.Name ·) rfl rfl rfl fun x6 h => la rfl ?_
  obtain ⟨b10, hb_10, h⟩ := bs h
  refine WL.cutN 4 [(74, .bool b10), (1, pQ b_1)] ?_ (fun K => ?_)
  rotate_left
  ·refine sp 70 hb_10 rfl (fun hb_10 => ?_) fun hb_10 => ?_
   ·refine arr 2 [2, 0] rfl <| ly rfl rfl <| qd hb_10 (m_s_l8Args_ok N · p0.Args ph0_0 ·) rfl rfl rfl fun x7 hb_10 => la rfl ?_
    cases hb_10
    exact ku K
   ·refine arr 4 [] rfl ?_
    cases hb_10
    exact ku K
  refine la rfl ?_
  obtain ⟨b11, hb_11, h⟩ := bs h
  refine WL.cutN 4 [(79, .bool b11), (1, pQ b_1)] ?_ (fun K => ?_)
  rotate_left
  ·refine sp 75 hb_11 rfl (fun hb_11 => ?_) fun hb_11 => ?_
   ·refine arr 2 [3, 0] rfl <| ly rfl rfl <| qc hb_11 (m_s_l1In_ok N · p0.N 0 100000 ·) rfl rfl rfl fun x8 hb_11 => la rfl ?_
    cases hb_11
    exact ku K
   ·refine arr 4 [] rfl ?_
    cases hb_11
    exact ku K
  refine la rfl ?_
  obtain ⟨b12, hb_12, h⟩ := bs h
  refine WL.cutN 4 [(84, .bool b12)] ?_ (fun K => ?_)
  rotate_left
  ·refine sp 80 hb_12 rfl (fun hb_12 => ?_) fun hb_12 => ?_
   ·refine arr 4 [4, 0] rfl ?_
    cases hb_12
    exact ku K
   ·refine arr 4 [] rfl ?_
    cases hb_12
    exact ku K
  refine la rfl <| en ?_
  exact rt hF h
 refine att 5 [] rfl ?_
 refine ch h rfl ?_ ?_ <;> intro h
 ·refine atr 4 [] rfl ?_
  obtain ⟨b13, hb_13, h⟩ := bs h
  refine WL.cutN 4 [(92, .bool b13)] ?_ (fun K => ?_)
  rotate_left
  ·refine sp 88 hb_13 rfl (fun hb_13 => ?_) fun hb_13 => ?_
   ·refine arr 2 [3, 0] rfl <| ly rfl rfl <| qc hb_13 (m_s_l1In_ok N · p0.N 0 7 ·) rfl rfl rfl fun x9 hb_13 => la rfl ?_
    cases hb_13
    exact ku K
   ·refine arr 4 [] rfl ?_
    cases hb_13
    exact ku K
  refine la rfl <| en ?_
  exact rt hF h
 refine att 6 [] rfl ?_
 refine cut (σ := Bool) (fun s => [(1, pQ b_1), (3, .bool b2), (93, .bool s)]) (fun s => St w0 Φ [(b_1, .cells #[iV p0.Kind, .string p0.Name, pv0_0, iV p0.N, .string p0.Undo] 339 (0, 0))] []) (fun s => m_s_ActOk_j1 N p0 b2 s = some r) (fun s hm => ?_) (fun K => ?_)
 ·clear h
  revert hm; revert s; intro s1 hm
  have h : m_s_ActOk_j1 N p0 b2 s1 = some r := hm
  show WT _ _ [(1, pQ b_1), (3, .bool b2), (93, .bool s1)] (St w0 Φ [(b_1, .cells #[iV p0.Kind, .string p0.Name, pv0_0, iV p0.N, .string p0.Undo] 339 (0, 0))] [])
  unfold m_s_ActOk_j1 at h
  refine ch h rfl ?_ ?_ <;> intro h
  ·refine atr 4 [] rfl ?_
   obtain ⟨b14, hb_14, h⟩ := bs h
   refine WL.cutN 4 [(101, .bool b14)] ?_ (fun K => ?_)
   rotate_left
   ·refine sp 97 hb_14 rfl (fun hb_14 => ?_) fun hb_14 => ?_
    ·refine arr 4 [3, 0] rfl ?_
     cases hb_14
     exact ku K
    ·refine arr 4 [] rfl ?_
     cases hb_14
     exact ku K
   refine la rfl <| en ?_
   exact rt hF h
  refine att 6 [] rfl ?_
  exact rt hF h
 refine ch h rfl ?_ ?_ <;> intro h
 ·refine WT.skip ?_
  exact wo [] [0] (K _ h)
 refine att 4 [] rfl ?_
 exact wo [] [0] (K _ h)
theorem m_s_l9Acts_ok (w0 : Base Ψ Φ []) (p0 : (List TAct)) (p1 : (List ByteArray)) (p2 : Int) (ph0 : RSl RTAct 5 Ψ pG0 pv0 p0) (ph1 : RSl RS 1 Ψ pG1 pv1 p1) {r : Bool} (h : m_s_l9Acts N p0 p1 p2 = some r) :
  CB w0 prog 252 [pv0, pv1, iV p2] (.bool r) := by
 refine eN func252 rfl ntmps252 rfl w0 fun hF => ?_
 unfold m_s_l9Acts at h
 refine att 10 [] rfl ?_
 refine lin (σ := Int) (fun s => [(0, pv0), (1, pv1), (2, iV p2), (7, iV s)]) (fun s => St w0 Φ [] []) (fun m s => m_s_l9Acts_l1 N p0 p1 p2 m s = some r) (0) N h (sx [] []) (fun n1 ih1 s hm => ?_)
 revert hm; revert s; intro s1 hm
 have h : m_s_l9Acts_l1 N p0 p1 p2 (n1 + 1) s1 = some r := hm
 show WT _ _ [(0, pv0), (1, pv1), (2, iV p2), (7, iV s1)] (St w0 Φ [] [])
 unfold m_s_l9Acts_l1 at h
 refine atr 5 [] rfl <| lnr ph0 rfl <| la rfl <| en ?_
 refine ch h rfl ?_ ?_ <;> intro h
 ·refine atr 8 [] rfl ?_
  obtain ⟨x1, hx1, h⟩ := bs h
  obtain ⟨cs1, F1, -, g1, hb1, hs1, r1⟩ := ph0.el (idx_some hx1).2.2
  obtain ⟨v1, G1, rfl, hq1, h1⟩ := r1
  obtain rfl := hq1.symm
  refine lia ph0 hx1 rfl <| lhx 0 5 g1 rfl <| qd h (m_s_ActOk_ok N · x1 h1 ·) rfl rfl rfl fun x2 h => arr 2 [] rfl ?_
  obtain ⟨b1, hb_1, h⟩ := bs h
  refine WL.cutN 16 [(37, .bool b1), (0, pv0), (1, pv1), (2, iV p2), (7, iV s1)] ?_ (fun K => ?_)
  rotate_left
  ·refine sp 21 hb_1 rfl (fun hb_1 => ?_) fun hb_1 => ?_
   ·refine arr 16 [] rfl ?_
    cases hb_1
    exact ku K
   ·refine arr 2 [] rfl <| ly rfl rfl ?_
    obtain ⟨x3, hx3, hb_1⟩ := bs hb_1
    obtain ⟨cs2, F2, -, g2, hb2, hs2, r2⟩ := ph0.el (idx_some hx3).2.2
    obtain ⟨v2, G2, rfl, hq2, h2⟩ := r2
    obtain rfl := hq2.symm
    refine lia ph0 hx3 rfl <| ly rfl rfl <| lf Fld_339_0 rfl rfl rfl <| ly rfl rfl <| lhx 0 0 g2 rfl <| arr 2 [] rfl ?_
    obtain ⟨b2, hb_2, hb_1⟩ := bs hb_1
    refine WL.cutN 8 [(36, .bool b2), (0, pv0), (1, pv1), (2, iV p2), (7, iV s1), (21, .bool false)] ?_ (fun K => ?_)
    rotate_left
    ·refine sp 28 hb_2 rfl (fun hb_2 => ?_) fun hb_2 => ?_
     ·refine arr 2 [] rfl <| ly rfl rfl ?_
      obtain ⟨x4, hx4, hb_2⟩ := bs hb_2
      obtain ⟨cs3, F3, -, g3, hb3, hs3, r3⟩ := ph0.el (idx_some hx4).2.2
      obtain ⟨v3, G3, rfl, hq3, h3⟩ := r3
      obtain rfl := hq3.symm
      refine lia ph0 hx4 rfl <| ly rfl rfl <| lf Fld_339_3 rfl rfl rfl <| ly rfl rfl <| lhx 3 0 g3 rfl <| arr 3 [] rfl ?_
      cases hb_2
      exact ku K
     ·refine arr 8 [] rfl ?_
      cases hb_2
      exact ku K
    refine la rfl ?_
    cases hb_1
    exact ku K
  refine en ?_
  refine ch h rfl ?_ ?_ <;> intro h
  ·refine att 4 [] rfl ?_
   exact rt hF h
  refine att 6 [] rfl ?_
  refine lin (σ := Int) (fun s => [(0, pv0), (1, pv1), (2, iV p2), (7, iV s1), (8, iV s)]) (fun s => St w0 Φ [] []) (fun m s => m_s_l9Acts_l2 N p0 p1 s1 (m_s_l9Acts_l1 N p0 p1 p2 n1) m s = some r) (0) N h (sx [] []) (fun n2 ih2 s hm => ?_)
  revert hm; revert s; intro s2 hm
  have h : m_s_l9Acts_l2 N p0 p1 s1 (m_s_l9Acts_l1 N p0 p1 p2 n1) (n2 + 1) s2 = some r := hm
  show WT _ _ [(0, pv0), (1, pv1), (2, iV p2), (7, iV s1), (8, iV s2)] (St w0 Φ [] [])
  unfold m_s_l9Acts_l2 at h
  refine atr 6 [] rfl ?_
  obtain ⟨x5, hx5, h⟩ := bs h
  obtain ⟨cs4, F4, -, g4, hb4, hs4, r4⟩ := ph0.el (idx_some hx5).2.2
  obtain ⟨v4, G4, rfl, hq4, h4⟩ := r4
  obtain rfl := hq4.symm
  refine lia ph0 hx5 rfl <| lf Fld_339_2 rfl rfl rfl <| lhx 2 0 g4 rfl <| lnr h4 rfl <| la rfl <| en ?_
  refine ch h rfl ?_ ?_ <;> intro h
  ·refine atr 7 [] rfl ?_
   obtain ⟨x6, hx6, h⟩ := bs h
   obtain ⟨cs5, F5, -, g5, hb5, hs5, r5⟩ := ph0.el (idx_some hx6).2.2
   obtain ⟨v5, G5, rfl, hq5, h5⟩ := r5
   obtain rfl := hq5.symm
   refine lia ph0 hx6 rfl <| lf Fld_339_2 rfl rfl rfl <| lhx 2 0 g5 rfl <| la rfl ?_
   obtain ⟨x7, hx7, h⟩ := bs h
   obtain ⟨cs6, F6, -, g6, hb6, hs6, r6⟩ := h5.el (idx_some hx7).2.2
   obtain ⟨rfl, -⟩ := r6
   refine lia h5 hx7 rfl <| lf Fld_367_1 rfl rfl rfl <| lhx 1 5 g6 rfl <| la rfl <| qd h (m_s_l9Known_ok N · x7.L p1 ph1 ·) rfl rfl rfl fun x8 h => arr 2 [] rfl ?_
   obtain ⟨b3, hb_3, h⟩ := bs h
   refine WL.cutN 13 [(73, .bool b3), (0, pv0), (1, pv1), (2, iV p2), (7, iV s1), (8, iV s2)] ?_ (fun K => ?_)
   rotate_left
   ·refine sp 60 hb_3 rfl (fun hb_3 => ?_) fun hb_3 => ?_
    ·refine arr 13 [] rfl ?_
     cases hb_3
     exact ku K
    ·refine arr 2 [] rfl <| ly rfl rfl ?_
     obtain ⟨x9, hx9, hb_3⟩ := bs hb_3
     obtain ⟨cs7, F7, -, g7, hb7, hs7, r7⟩ := ph0.el (idx_some hx9).2.2
     obtain ⟨v6, G6, rfl, hq6, h6⟩ := r7
     obtain rfl := hq6.symm
     refine lia ph0 hx9 rfl <| ly rfl rfl <| lf Fld_339_2 rfl rfl rfl <| ly rfl rfl <| lhx 2 0 g7 rfl <| ly rfl rfl <| la rfl <| ly rfl rfl ?_
     obtain ⟨x10, hx10, hb_3⟩ := bs hb_3
     obtain ⟨cs8, F8, -, g8, hb8, hs8, r8⟩ := h6.el (idx_some hx10).2.2
     obtain ⟨rfl, -⟩ := r8
     refine lia h6 hx10 rfl <| ly rfl rfl <| lf Fld_367_2 rfl rfl rfl <| ly rfl rfl <| lhx 6 5 g8 rfl <| ly rfl rfl <| la rfl <| ly rfl rfl <| qd hb_3 (m_s_l9Known_ok N · x10.R p1 ph1 ·) rfl rfl rfl fun x11 hb_3 => arr 2 [] rfl ?_
     cases hb_3
     exact ku K
   refine en ?_
   refine ch h rfl ?_ ?_ <;> intro h
   ·refine att 4 [] rfl ?_
    exact rt hF h
   refine att 7 [] rfl ?_
   exact lb [] [] (ih2 _ h)
  refine att 7 [] rfl ?_
  exact lb [] [] (ih1 _ h)
 refine atr 4 [] rfl <| lnr ph0 rfl <| qc h (m_s_l1In_ok N · (p0.length : Int) 1 6 ·) rfl rfl rfl fun x12 h => la rfl <| en ?_
 exact rt hF h
theorem m_s_PosCount_ok (w0 : Base Ψ Φ []) (p0 : TRule) (ph0_0 : RSl RTPat 3 Ψ pG0_0 pv0_0 p0.Pats) (ph0_1 : RSl RTCond 11 Ψ pG0_1 pv0_1 p0.Conds) (ph0_2 : RSl RTAct 5 Ψ pG0_2 pv0_2 p0.Acts) {r : Int} (h : m_s_PosCount N p0 = some r) :
  CB w0 prog 253 [.agg [.string p0.Name, iV p0.Sal, pv0_0, pv0_1, pv0_2].toArray] (iV r) := by
 refine eN func253 rfl ntmps253 rfl w0 fun hF => ?_
 unfold m_s_PosCount at h
 refine sr <| lbx rfl fun b_1 => art 12 [] rfl ?_
 refine lin (σ := Int × Int) (fun s => [(1, pQ b_1), (3, iV s.1), (4, iV s.2)]) (fun s => St w0 Φ [(b_1, .cells #[.string p0.Name, iV p0.Sal, pv0_0, pv0_1, pv0_2] 183 (0, 0))] []) (fun m s => m_s_PosCount_l1 N p0 m s.1 s.2 = some r) (0, 0) N h (sx [] [0]) (fun n1 ih1 s hm => ?_)
 obtain ⟨s1, s2⟩ := s
 have h : m_s_PosCount_l1 N p0 (n1 + 1) s1 s2 = some r := hm
 show WT _ _ [(1, pQ b_1), (3, iV s1), (4, iV s2)] (St w0 Φ [(b_1, .cells #[.string p0.Name, iV p0.Sal, pv0_0, pv0_1, pv0_2] 183 (0, 0))] [])
 unfold m_s_PosCount_l1 at h
 refine atr 6 [2, 0] rfl <| lnr ph0_0 rfl <| la rfl <| en ?_
 refine ch h rfl ?_ ?_ <;> intro h
 ·refine atr 8 [2, 0] rfl ?_
  obtain ⟨x1, hx1, h⟩ := bs h
  obtain ⟨cs1, F1, -, g1, hb1, hs1, r1⟩ := ph0_0.el (idx_some hx1).2.2
  obtain ⟨v1, G1, rfl, hq1, h1⟩ := r1
  obtain rfl := hq1.symm
  refine lia ph0_0 hx1 rfl <| lf Fld_265_2 rfl rfl rfl <| lhx 2 0 g1 rfl <| la rfl <| en ?_
  refine ch h rfl ?_ ?_ <;> intro h
  ·refine att 11 [] rfl ?_
   exact lb [] [0] (ih1 (_, _) h)
  refine att 7 [] rfl ?_
  exact lb [] [0] (ih1 (_, _) h)
 refine att 6 [] rfl ?_
 exact rt hF h
theorem m_s_RuleOk_ok (w0 : Base Ψ Φ []) (p0 : TRule) (ph0_0 : RSl RTPat 3 Ψ pG0_0 pv0_0 p0.Pats) (ph0_1 : RSl RTCond 11 Ψ pG0_1 pv0_1 p0.Conds) (ph0_2 : RSl RTAct 5 Ψ pG0_2 pv0_2 p0.Acts) {r : Bool} (h : m_s_RuleOk N p0 = some r) :
  CB w0 prog 145 [.agg [.string p0.Name, iV p0.Sal, pv0_0, pv0_1, pv0_2].toArray] (.bool r) := by
 refine eN func145 rfl ntmps145 rfl w0 fun hF => ?_
 unfold m_s_RuleOk at h
 refine sr <| lbx rfl fun b_1 => arr 5 [5] rfl <| kab h rfl rfl rfl (fun b z q => m_s_PosVars_ok N b p0 (ph0_0.y z) (ph0_1.y z) (ph0_2.y z) q) ?_
 rintro x1 h v1 Φ_1 F1 ⟨ap1, fr1, v2, rfl, rfl, h1⟩
 refine art 3 [] rfl <| WT.draw mixed (by kernel_rfl) (fun _ h => h.drew) <| aqq 2 [0, 0] rfl ?_
 obtain ⟨x2, hx2, h⟩ := bs h
 refine qp (p_call Fun_147 rfl (fun w1 hw => m_s_NameOk_ok N (ba hw.fro) p0.Name hx2)) rfl <| qq (q_move rfl) rfl ?_
 obtain ⟨b1, hb_1, h⟩ := bs h
 refine WQ.cutN 4 [(13, .bool b1), (1, pQ b_1), (3, v1)] ?_ (fun K => ?_)
 rotate_left
 ·refine WQ.split (d := 9) rfl (fun c1 => ?_) (fun c1 => ?_)
  ·replace hb_1 := ite_t hb_1 c1
   refine aqq 2 [1, 0] rfl <| WQ.yes rfl rfl ?_
   obtain ⟨x3, hx3, hb_1⟩ := bs hb_1
   refine qp (p_call Fun_148 rfl (fun w1 hw => m_s_l1In_ok N (ba hw.fro) p0.Sal (-100) 100 hx3)) rfl <| WQ.q (q_pick1 rfl rfl) rfl rfl rfl ?_
   cases hb_1
   exact kq K
  ·replace hb_1 := ite_f hb_1 c1
   refine aqq 4 [] rfl ?_
   cases hb_1
   exact kq K
 refine qq (q_move rfl) rfl ?_
 obtain ⟨b2, hb_2, h⟩ := bs h
 refine WQ.cutN 4 [(18, .bool b2), (1, pQ b_1), (3, v1)] ?_ (fun K => ?_)
 rotate_left
 ·refine WQ.split (d := 14) rfl (fun c2 => ?_) (fun c2 => ?_)
  ·replace hb_2 := ite_t hb_2 c2
   refine aqq 2 [2, 0] rfl <| WQ.yes rfl rfl ?_
   obtain ⟨x4, hx4, hb_2⟩ := bs hb_2
   refine qp (p_call Fun_250 rfl (fun w1 hw => m_s_l9Pats_ok N (ba hw.in0) p0.Pats ph0_0 hx4)) rfl <| WQ.q (q_pick1 rfl rfl) rfl rfl rfl ?_
   cases hb_2
   exact kq K
  ·replace hb_2 := ite_f hb_2 c2
   refine aqq 4 [] rfl ?_
   cases hb_2
   exact kq K
 refine qq (q_move rfl) rfl ?_
 obtain ⟨b3, hb_3, h⟩ := bs h
 refine WQ.cutN 5 [(24, .bool b3), (1, pQ b_1), (3, v1)] ?_ (fun K => ?_)
 rotate_left
 ·refine WQ.split (d := 19) rfl (fun c3 => ?_) (fun c3 => ?_)
  ·replace hb_3 := ite_t hb_3 c3
   refine aqq 3 [3, 0] rfl <| WQ.yes rfl rfl ?_
   obtain ⟨x5, hx5, hb_3⟩ := bs hb_3
   refine qp (p_call Fun_251 rfl (fun w1 hw => m_s_l9Conds_ok N (ba hw.fro) p0.Conds x1 (ph0_1.y hw.up) h1.rsl hx5)) rfl <| WQ.q (q_pick1 rfl rfl) rfl rfl rfl ?_
   cases hb_3
   exact kq K
  ·replace hb_3 := ite_f hb_3 c3
   refine aqq 5 [] rfl ?_
   cases hb_3
   exact kq K
 refine qq (q_move rfl) rfl ?_
 obtain ⟨b4, hb_4, h⟩ := bs h
 refine WQ.cutN 7 [(32, .bool b4)] ?_ (fun K => ?_)
 rotate_left
 ·refine WQ.split (d := 25) rfl (fun c4 => ?_) (fun c4 => ?_)
  ·replace hb_4 := ite_t hb_4 c4
   refine aqq 4 [4, 0, 5] rfl <| WQ.yes rfl rfl ?_
   obtain ⟨x6, hx6, hb_4⟩ := bs hb_4
   refine qp (p_call Fun_253 rfl (fun w1 hw => m_s_PosCount_ok N (ba hw.in0) p0 ph0_0 ph0_1 ph0_2 hx6)) rfl <| WQ.yes rfl rfl ?_
   obtain ⟨x7, hx7, hb_4⟩ := bs hb_4
   refine qp (p_call Fun_252 rfl (fun w1 hw => m_s_l9Acts_ok N (ba hw.fro) p0.Acts x1 x6 (ph0_2.y hw.up) h1.rsl hx7)) rfl <| WQ.q (q_pick1 rfl rfl) rfl rfl rfl ?_
   cases hb_4
   exact kq K
  ·replace hb_4 := ite_f hb_4 c4
   refine aqq 7 [] rfl ?_
   cases hb_4
   exact kq K
 refine aqt 2 [] rfl ?_
 exact rt hF h
theorem m_s_RuleAt_ok (w0 : Base Ψ Φ []) (p0 : TDef) (p1 : ByteArray) (ph0_0 : RSl RTRule 5 Ψ pG0_0 pv0_0 p0.Rules) {r : Int} (h : m_s_RuleAt N p0 p1 = some r) :
  CB w0 prog 146 [.agg [.string p0.Name, pv0_0].toArray, .string p1] (iV r) := by
 refine eN func146 rfl ntmps146 rfl w0 fun hF => ?_
 unfold m_s_RuleAt at h
 refine sr <| lbx rfl fun b_1 => art 8 [] rfl ?_
 refine lin (σ := Int) (fun s => [(1, .string p1), (2, pQ b_1), (5, iV s)]) (fun s => St w0 Φ [(b_1, .cells #[.string p0.Name, pv0_0] 47 (0, 0))] []) (fun m s => m_s_RuleAt_l1 N p0 p1 m s = some r) (0) N h (sx [] [0]) (fun n1 ih1 s hm => ?_)
 revert hm; revert s; intro s1 hm
 have h : m_s_RuleAt_l1 N p0 p1 (n1 + 1) s1 = some r := hm
 show WT _ _ [(1, .string p1), (2, pQ b_1), (5, iV s1)] (St w0 Φ [(b_1, .cells #[.string p0.Name, pv0_0] 47 (0, 0))] [])
 unfold m_s_RuleAt_l1 at h
 refine atr 6 [1, 0] rfl <| lnr ph0_0 rfl <| la rfl <| en ?_
 refine ch h rfl ?_ ?_ <;> intro h
 ·refine atr 8 [1, 0] rfl ?_
  obtain ⟨x1, hx1, h⟩ := bs h
  obtain ⟨cs1, F1, -, g1, hb1, hs1, r1⟩ := ph0_0.el (idx_some hx1).2.2
  obtain ⟨v1, G1, v2, G2, v3, G3, rfl, rfl, h1, h2, h3⟩ := r1
  refine lia ph0_0 hx1 rfl <| lf Fld_183_0 rfl rfl rfl <| lhx 0 0 g1 rfl <| art 3 [] rfl ?_
  refine ch h rfl ?_ ?_ <;> intro h
  ·refine att 5 [] rfl ?_
   exact rt hF h
  refine att 7 [] rfl ?_
  exact lb [] [0] (ih1 _ h)
 refine att 5 [] rfl ?_
 exact rt hF h
theorem m_s_DefOk_ok (w0 : Base Ψ Φ []) (p0 : TDef) (ph0_0 : RSl RTRule 5 Ψ pG0_0 pv0_0 p0.Rules) {r : Bool} (h : m_s_DefOk N p0 = some r) :
  CB w0 prog 49 [.agg [.string p0.Name, pv0_0].toArray] (.bool r) := by
 refine eN func49 rfl ntmps49 rfl w0 fun hF => ?_
 unfold m_s_DefOk at h
 refine sr <| lbx rfl fun b_1 => art 8 [] rfl ?_
 refine lin (σ := Int) (fun s => [(1, pQ b_1), (3, iV s)]) (fun s => St w0 Φ [(b_1, .cells #[.string p0.Name, pv0_0] 47 (0, 0))] []) (fun m s => m_s_DefOk_l1 N p0 m s = some r) (0) N h (sx [] [0]) (fun n1 ih1 s hm => ?_)
 revert hm; revert s; intro s1 hm
 have h : m_s_DefOk_l1 N p0 (n1 + 1) s1 = some r := hm
 show WT _ _ [(1, pQ b_1), (3, iV s1)] (St w0 Φ [(b_1, .cells #[.string p0.Name, pv0_0] 47 (0, 0))] [])
 unfold m_s_DefOk_l1 at h
 refine atr 6 [1, 0] rfl <| lnr ph0_0 rfl <| la rfl <| en ?_
 refine ch h rfl ?_ ?_ <;> intro h
 ·refine att 4 [] rfl <| WT.draw mixed (by kernel_rfl) (fun _ h => h.drew) <| aqq 3 [1, 0] rfl ?_
  obtain ⟨x1, hx1, h⟩ := bs h
  obtain ⟨cs1, F1, -, g1, hb1, hs1, r1⟩ := ph0_0.el (idx_some hx1).2.2
  obtain ⟨v1, G1, v2, G2, v3, G3, rfl, rfl, h1, h2, h3⟩ := r1
  refine qq (q_indexAddr Sl_45 rfl rfl ph0_0 hx1) rfl <| qq (q_loadN Tn_183 rfl (fun w1 hw => (g1.of_eq 0 5 rfl rfl : rg _ _ _ [.string x1.Name, iV x1.Sal, v1, v2, v3]).rangeAt hw.in0) rfl) rfl ?_
  obtain ⟨x2, hx2, h⟩ := bs h
  refine qp (p_call Fun_145 rfl (fun w1 hw => m_s_RuleOk_ok N (ba hw.in0) x1 h1 h2 h3 hx2)) rfl <| aqq 2 [] rfl ?_
  obtain ⟨b1, hb_1, h⟩ := bs h
  refine WQ.cutN 11 [(29, .bool b1), (1, pQ b_1), (3, iV s1)] ?_ (fun K => ?_)
  rotate_left
  ·refine WQ.split (d := 18) rfl (fun c2 => ?_) (fun c2 => ?_)
   ·replace hb_1 := ite_t hb_1 c2
    refine aqq 11 [] rfl ?_
    cases hb_1
    exact kq K
   ·replace hb_1 := ite_f hb_1 c2
    refine aqq 4 [2, 1, 0] rfl <| WQ.yes rfl rfl ?_
    obtain ⟨x3, hx3, hb_1⟩ := bs hb_1
    obtain ⟨cs2, F2, -, g2, hb2, hs2, r2⟩ := ph0_0.el (idx_some hx3).2.2
    obtain ⟨v4, G4, v5, G5, v6, G6, rfl, rfl, h4, h5, h6⟩ := r2
    refine qq (q_indexAddr Sl_45 rfl rfl ph0_0 hx3) rfl <| WQ.yes rfl rfl <| qq (q_fieldAddr Fld_183_0 rfl) rfl <| WQ.yes rfl rfl <| qq (q_load1 T1_9 rfl (fun w1 hw => (g2.of_eq 0 1 rfl rfl : rg _ _ _ [.string x3.Name]).rangeAt hw.in0)) rfl <| WQ.yes rfl rfl ?_
    obtain ⟨x4, hx4, hb_1⟩ := bs hb_1
    refine qp (p_call Fun_146 rfl (fun w1 hw => m_s_RuleAt_ok N (ba hw.in0) p0 x3.Name ph0_0 hx4)) rfl <| aqq 3 [] rfl ?_
    cases hb_1
    exact kq K
  refine WQ.nil ?_
  refine ch h rfl ?_ ?_ <;> intro h
  ·refine att 4 [] rfl ?_
   exact rt hF h
  refine att 7 [] rfl ?_
  exact lb [] [0] (ih1 _ h)
 refine atr 5 [0, 0] rfl <| qc h (m_s_NameOk_ok N · p0.Name ·) rfl rfl rfl fun x5 h => la rfl ?_
 obtain ⟨b2, hb_2, h⟩ := bs h
 refine WL.cutN 5 [(38, .bool b2)] ?_ (fun K => ?_)
 rotate_left
 ·refine sp 33 hb_2 rfl (fun hb_2 => ?_) fun hb_2 => ?_
  ·refine arr 2 [1, 0] rfl <| ly rfl rfl <| lnr ph0_0 rfl <| ly rfl rfl <| qc hb_2 (m_s_l1In_ok N · (p0.Rules.length : Int) 1 12 ·) rfl rfl rfl fun x6 hb_2 => la rfl ?_
   cases hb_2
   exact ku K
  ·refine arr 5 [] rfl ?_
   cases hb_2
   exact ku K
 refine la rfl <| en ?_
 exact rt hF h
theorem m_s_l3SameVals_ok (w0 : Base Ψ Φ []) (p0 : (List TVal)) (p1 : (List TVal)) (ph0 : RSl RTVal 3 Ψ pG0 pv0 p0) (ph1 : RSl RTVal 3 Ψ pG1 pv1 p1) {r : Bool} (h : m_s_l3SameVals N p0 p1 = some r) :
  CB w0 prog 312 [pv0, pv1] (.bool r) := by
 refine eN func312 rfl ntmps312 rfl w0 fun hF => ?_
 unfold m_s_l3SameVals at h
 refine atr 8 [] rfl <| lnr ph0 rfl <| la rfl <| lnr ph1 rfl <| la rfl <| en ?_
 refine ch h rfl ?_ ?_ <;> intro h
 ·refine att 4 [] rfl ?_
  exact rt hF h
 refine att 7 [] rfl ?_
 refine lin (σ := Int) (fun s => [(0, pv0), (1, pv1), (5, iV s)]) (fun s => St w0 Φ [] []) (fun m s => m_s_l3SameVals_l1 N p0 p1 m s = some r) (0) N h (sx [] []) (fun n1 ih1 s hm => ?_)
 revert hm; revert s; intro s1 hm
 have h : m_s_l3SameVals_l1 N p0 p1 (n1 + 1) s1 = some r := hm
 show WT _ _ [(0, pv0), (1, pv1), (5, iV s1)] (St w0 Φ [] [])
 unfold m_s_l3SameVals_l1 at h
 refine atr 5 [] rfl <| lnr ph0 rfl <| la rfl <| en ?_
 refine ch h rfl ?_ ?_ <;> intro h
 ·refine att 4 [] rfl <| WT.draw mixed (by kernel_rfl) (fun _ h => h.drew) <| aqq 2 [] rfl ?_
  obtain ⟨x1, hx1, h⟩ := bs h
  obtain ⟨cs1, F1, -, g1, hb1, hs1, r1⟩ := ph0.el (idx_some hx1).2.2
  obtain ⟨rfl, -⟩ := r1
  refine qq (q_indexAddr Sl_78 rfl rfl ph0 hx1) rfl <| qq (q_loadN Tn_204 rfl (fun w1 hw => (g1.of_eq 0 3 rfl rfl : rg _ _ _ [iV x1.K, iV x1.N, .string x1.S]).rangeAt hw.in0) rfl) rfl <| aqq 2 [] rfl ?_
  obtain ⟨x2, hx2, h⟩ := bs h
  obtain ⟨cs2, F2, -, g2, hb2, hs2, r2⟩ := ph1.el (idx_some hx2).2.2
  obtain ⟨rfl, -⟩ := r2
  refine qq (q_indexAddr Sl_78 rfl rfl ph1 hx2) rfl <| qq (q_loadN Tn_204 rfl (fun w1 hw => (g2.of_eq 0 3 rfl rfl : rg _ _ _ [iV x2.K, iV x2.N, .string x2.S]).rangeAt hw.in0) rfl) rfl <| qq (q_neA EqT_204 rfl rfl rfl (r := eqT_TVal x1 x2) rfl) rfl <| WQ.nil ?_
  refine ch h rfl ?_ ?_ <;> intro h
  ·refine att 4 [] rfl ?_
   exact rt hF h
  refine att 7 [] rfl ?_
  exact lb [] [] (ih1 _ h)
 refine att 5 [] rfl ?_
 exact rt hF h
theorem m_s_SameFact_ok (w0 : Base Ψ Φ []) (p0 : TFact) (p1 : TFact) (ph0_0 : RSl RTVal 3 Ψ pG0_0 pv0_0 p0.Fields) (ph1_0 : RSl RTVal 3 Ψ pG1_0 pv1_0 p1.Fields) {r : Bool} (h : m_s_SameFact N p0 p1 = some r) :
  CB w0 prog 225 [.agg [.string p0.Kind, pv0_0].toArray, .agg [.string p1.Kind, pv1_0].toArray] (.bool r) := by
 refine eN func225 rfl ntmps225 rfl w0 fun hF => ?_
 unfold m_s_SameFact at h
 refine sr <| lbx rfl fun b_1 => lbx rfl fun b_2 => arr 10 [0, 32, 0, 0] rfl ?_
 obtain ⟨b1, hb_1, h⟩ := bs h
 refine WL.cutN 6 [(16, .bool b1), (4, .bool false)] ?_ (fun K => ?_)
 rotate_left
 ·refine sp 10 hb_1 rfl (fun hb_1 => ?_) fun hb_1 => ?_
  ·refine arr 4 [1, 32, 1, 0] rfl <| ly rfl rfl <| qd hb_1 (m_s_l3SameVals_ok N · p0.Fields p1.Fields ph0_0 ph1_0 ·) rfl rfl rfl fun x1 hb_1 => la rfl ?_
   cases hb_1
   exact ku K
  ·refine arr 6 [] rfl ?_
   cases hb_1
   exact ku K
 refine la rfl <| en ?_
 exact rt hF h
end Go.Proofs.YtdihjeeniojdmaaGreat
